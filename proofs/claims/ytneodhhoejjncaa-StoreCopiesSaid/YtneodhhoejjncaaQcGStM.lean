/- A text of this claim, pruned by a program of the session (prune.py) to what the theorem rests on. -/
import Derived.Test.YtneodhhoejjncaaQcGPut
import Derived.Test.YtneodhhoejjncaaQcPFewx0
import Derived.Test.YtneodhhoejjncaaQcPFewx1
import Derived.Test.YtneodhhoejjncaaQcWMore
namespace Go.Proofs.Ytneodhhoejjncaa
open Go.RowKit Go.Proofs.YtneodhhoejjncaaW.PrintWords Go.Proofs.YtneodhhoejjncaaW.PrintMore Go.Proofs.Ytneodhhoejjncaa.PFew
attribute [local go_sem] max2_int max_two
set_option linter.unusedVariables false
set_option linter.unusedSimpArgs false
theorem own_cells {w : World} {base e size n : Nat} {v : Value} {xs : List Value} (h : w.ownsRow base e size v n xs) (hn : 0 < n) : ∃ g cap, v = .slice (some ⟨g, 0, none⟩) n cap ∧ n ≤ cap ∧ base ≤ g ∧ (∃ cs, w.heap[g]? = some (.cells cs e (0, 0))) ∧ ∀ j u, xs[j]? = some u → w.cell? ⟨g, j, none⟩ = some u := by
  rcases h.2 with ⟨rfl, h0⟩ | ⟨g, cap, cur, rfl, hg, hb, hle, hcap, hc, ht⟩
  · omega
  · refine ⟨g, cap, rfl, hle, hg, ⟨cur, hb⟩, fun j u hj => ?_⟩
    rw [blk_cell hb j, ← Array.getElem?_toList]
    rw [← ht] at hj
    rw [List.getElem?_take] at hj
    split at hj
    · exact hj
    · cases hj
theorem add_none (b off n : Nat) : (⟨b, off, none⟩ : Addr).add n = ⟨b, off + n, none⟩ := by
  unfold Addr.add; split <;> simp_all
theorem C_at {α : Type} {d : Kd α} {w : World} {A : Option Addr} {n : Nat} {xs : List α} (h : Kd.C d w A n xs) (hn : 0 < n) (hs : 0 < d.sz) :
    ∃ b off, A = some ⟨b, off, none⟩ ∧ b < w.heap.size ∧ ∀ j p, xs[j]? = some p → ∃ c, c.length = d.sz ∧ d.K w p c ∧ ∀ i u, c[i]? = some u → w.cell? ⟨b, off + j * d.sz + i, none⟩ = some u := by
  obtain ⟨hl, hm, hr⟩ := h
  obtain ⟨⟨b, off, spot⟩, rfl, hc⟩ := hr hn
  have h0 : ∃ p, xs[0]? = some p := ⟨_, List.getElem?_eq_getElem (by omega)⟩
  obtain ⟨p, hp⟩ := h0
  obtain ⟨c, hcl, hK, hcell⟩ := hc 0 p hp
  have h1 : ∃ u, c[0]? = some u := ⟨_, List.getElem?_eq_getElem (by omega)⟩
  obtain ⟨u, hu⟩ := h1
  have h2 := hcell 0 u hu
  have hsp : spot = none := by
    have : (⟨b, off, spot⟩ : Addr).add (0 * d.sz + 0) = ⟨b, off, spot⟩ := by simp [Addr.add]
    rw [this] at h2
    cases spot with
    | none => rfl
    | some q =>
      simp only [World.cell?] at h2
      split at h2 <;> simp at h2
  subst hsp
  refine ⟨b, off, rfl, ?_, fun j p hp => ?_⟩
  · rw [add_none] at h2
    exact World.block_lt_of_cell? w _ h2
  · obtain ⟨c, hcl, hK, hcell⟩ := hc j p hp
    refine ⟨c, hcl, hK, fun i u hu => ?_⟩
    have := hcell i u hu
    rw [add_none, ← Nat.add_assoc] at this
    exact this
def smpOf (x : S34) : Smp := ⟨x.f0, x.f1, x.f2, x.f3⟩
theorem reads_of {F : Nat → Prop} {w : World} {A : Option Addr} {l : List S34} (h : Kd.C k34 w A l.length l) (hF : ∀ k, k < w.heap.size → ¬ F k) : ReadsS F w A (l.map smpOf) := by
  cases l with
  | nil => exact Or.inl rfl
  | cons x r =>
    obtain ⟨b, off, e, hb, hc⟩ := C_at h (by simp) (show 0 < k34.sz by decide)
    refine Or.inr ⟨b, off, e, hb, hF b hb, fun i y hi j v hv => ?_⟩
    rw [List.getElem?_map, Option.map_eq_some_iff] at hi
    obtain ⟨z, hz, rfl⟩ := hi
    obtain ⟨c, _, hK, hcell⟩ := hc i z hz
    rw [k34_open hK] at hcell
    exact hcell j v hv
theorem st_new (w : World) (m : Int) : StAt ((w.alloc (.map #[] 0)).alloc (.cells #[.int .i64 m, .map (some w.heap.size)] 52)) (w.heap.size + 1) w.heap.size m (fun _ => none) 0 :=
  ⟨by have := blk_new (w.alloc (.map #[] 0)) (.cells #[.int .i64 m, .map (some w.heap.size)] 52); rwa [size_push] at this, ((MapAt.made sK w).alloc _).congr fun _ _ => rfl, (fun s p x _ h => by cases h), (fun s t p x y _ _ h => by cases h)⟩
def NewPost (m : Int) (w : World) (e : Ending) (w' : World) : Prop := ∃ B mb, e = .returned (.pointer (some ⟨B, 0, none⟩)) ∧ w.heap.size ≤ B ∧ w.heap.size ≤ mb ∧ StAt w' B mb m (fun _ => none) 0 ∧ Below w.heap.size w w'
theorem new_calls (most : Int) (w : World) : Calls Try.prog 9 #[.int .i64 most] w (NewPost (if most < 0 then 0 else most) w) := by
  have hmk : ∀ W, (Instr.makeMap 50 none).run Try.prog W = .ok (.map (some W.heap.size)) (W.alloc (.map #[] 0)) := fun W => run_makeMap _ _
  have hb : ∀ o1 o2, Below w.heap.size w ((w.alloc o1).alloc o2) := fun o1 o2 => ((Below.refl _ w).alloc (Nat.le_refl _) o1).alloc (by simp) o2
  have HST := Aside0.mk (st_new w)
  have HB := Aside0.mk hb
  clear hb
  by_cases h : most < 0
  · rw [if_pos h]
    go_enter Try.func9, Try.ntmps9
    go_wp2
    go_ret
    exact ⟨_, _, rfl, Nat.le_succ _, Nat.le_refl _, HST.out 0, HB.out _ _⟩
  · rw [if_neg h]
    go_enter Try.func9, Try.ntmps9
    go_wp2
    go_ret
    exact ⟨_, _, rfl, Nat.le_succ _, Nat.le_refl _, HST.out most, HB.out _ _⟩
theorem len_calls (B mb : Nat) (most : Int) (f : StF) (cnt : Nat) (w : World) (h : StAt w B mb most f cnt) : Calls Try.prog 11 #[.pointer (some ⟨B, 0, none⟩)] w fun e w' => e = .returned (.int .i64 cnt) ∧ w = w' := by
  have c1 : w.cell? ⟨B, 1, none⟩ = some (.map (some mb)) := (blk_cell h.blk 1).trans rfl
  have q := fun ty => h.map.len Try.underlying50 ty
  clear h
  go_enter Try.func11, Try.ntmps11
  go_wp2
  go_ret
  exact ⟨rfl, rfl⟩
theorem knowns_calls (n : Int) (w : World) : Calls Try.prog 23 #[.int .i64 n] w fun e w' => e = .returned (.agg #[.string ⟨#[97]⟩, .int .i64 n, .int .i64 n, .bool false]) ∧ Below w.heap.size w w' := by
  have hb : ∀ o1, Below w.heap.size w (w.alloc o1) := fun o1 => (Below.refl _ w).alloc (Nat.le_refl _) o1
  go_enter Try.func23, Try.ntmps23
  go_wp2
  refine bodyPost_ret (v := .agg #[.string ⟨#[97]⟩, .int .i64 n, .int .i64 n, .bool false]) (by simp [results, Try.results23, go_sem]) rfl ⟨rfl, ?_⟩
  repeat (refine Below.setCell ?_ (Nat.le_refl _) _)
  exact hb _
end Go.Proofs.Ytneodhhoejjncaa
