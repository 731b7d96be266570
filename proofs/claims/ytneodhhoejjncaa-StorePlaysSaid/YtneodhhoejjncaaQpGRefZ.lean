/- A text of this claim, pruned by a program of the session (prune.py) to what the theorem rests on. -/
import Derived.Test.YtneodhhoejjncaaQpGSame
import Derived.Test.YtneodhhoejjncaaQpGStPl
namespace Go.Proofs.Ytneodhhoejjncaa
open Go.RowKit Go.Proofs.YtneodhhoejjncaaW.PrintWords
set_option linter.unusedVariables false
set_option linter.unusedSimpArgs false
theorem rnew_calls (most m : Int) (base : Nat) (hm : ∀ W, (Builtin.max_ #[3, 3] 3 #[.int .i64 most, .int .i64 0]).run Try.prog W = .ok (.int .i64 m) W) (w : World) :
    Calls Try.prog 12 #[.int .i64 most] w fun e w' => ∃ R, e = .returned (.pointer (some ⟨R, 0, none⟩)) ∧ w.heap.size ≤ R ∧ RefAt w' base R m [] (.slice none 0 0) ∧ Below w.heap.size w w' := by
  go_enter Try.func12, Try.ntmps12
  go_wp2_with fail
  go_ret
  exact ⟨w.heap.size, rfl, Nat.le_refl _, ⟨blk_new w _, own_nil _ _ _ _⟩, below_alloc (Below.refl _ _) _⟩
set_option maxRecDepth 100000 in
set_option maxHeartbeats 1000000 in
theorem rsame_seen (b1 b2 : Nat) (Aa Ab : Option Addr) (ca cb n : Nat) (L : List Sn) (w : World) (h1 : w.ownsRow b1 37 7 (.slice Aa n ca) n (snF L)) (h2 : w.ownsRow b2 37 7 (.slice Ab n cb) n (snF L)) (hn : n = L.length) (hl : n ≤ 1099511627776) :
    Calls Try.prog 14 #[.slice Aa n ca, .slice Ab n cb] w fun e w' => e = .returned (.bool true) ∧ Below w.heap.size w w' := by
  have H1 := Aside0.mk h1
  have H2 := Aside0.mk h2
  have HN := Aside0.mk hn
  clear h1 h2 hn
  go_enter Try.func14, Try.ntmps14
  go_wp2_with fail
  go_loopw [5] (fun v wr => ∃ j q : Nat, j ≤ n ∧ v = .int .i64 j ∧ wr = w.drewN q) (fun v _ => n - (intOf v).toNat)
  case atStart => exact ⟨0, 0, Nat.zero_le _, by go_num, rfl⟩
  case round =>
    obtain ⟨j, q, hj, rfl, rfl⟩ := hrel
    by_cases hlt : j < n
    · have hlti : (j : Int) < (n : Int) := by omega
      obtain ⟨ga, cpa, hva, _, _, _, hca⟩ := own_cells H1.out (by omega)
      obtain ⟨gb, cpb, hvb, _, _, _, hcb⟩ := own_cells H2.out (by omega)
      obtain ⟨rfl, rfl⟩ : Aa = some ⟨ga, 0, none⟩ ∧ ca = cpa := by simpa using hva
      obtain ⟨rfl, rfl⟩ : Ab = some ⟨gb, 0, none⟩ ∧ cb = cpb := by simpa using hvb
      have hx : L[j]? = some (L[j]'(by have := HN.out; omega)) := List.getElem?_eq_getElem _
      generalize L[j]'(by have := HN.out; omega) = x at *
      have hA := fun (k : Nat) (u : Value) (hk : k < 7) (hu : (snL x)[k]? = some u) => hca (j * 7 + k) u ((snF_get L j x k hx hk).trans hu)
      have hB := fun (k : Nat) (u : Value) (hk : k < 7) (hu : (snL x)[k]? = some u) => hcb (j * 7 + k) u ((snF_get L j x k hx hk).trans hu)
      have a0 : w.cell? ⟨ga, j * 7, none⟩ = some (.string x.x.nm) := hA 0 _ (by omega) rfl
      have a1 : w.cell? ⟨ga, j * 7 + 1, none⟩ = some (.int .i64 x.x.val) := hA 1 _ (by omega) rfl
      have a2 : w.cell? ⟨ga, j * 7 + 2, none⟩ = some (.int .i64 x.x.time) := hA 2 _ (by omega) rfl
      have a3 : w.cell? ⟨ga, j * 7 + 3, none⟩ = some (.bool x.x.counts) := hA 3 _ (by omega) rfl
      have a4 : w.cell? ⟨ga, j * 7 + 4, none⟩ = some (.int .i64 x.verdict) := hA 4 _ (by omega) rfl
      have a5 : w.cell? ⟨ga, j * 7 + 5, none⟩ = some (.bool x.chain) := hA 5 _ (by omega) rfl
      have a6 : w.cell? ⟨ga, j * 7 + 6, none⟩ = some (.int .i64 x.ahead) := hA 6 _ (by omega) rfl
      have b0 : w.cell? ⟨gb, j * 7, none⟩ = some (.string x.x.nm) := hB 0 _ (by omega) rfl
      have b1 : w.cell? ⟨gb, j * 7 + 1, none⟩ = some (.int .i64 x.x.val) := hB 1 _ (by omega) rfl
      have b2 : w.cell? ⟨gb, j * 7 + 2, none⟩ = some (.int .i64 x.x.time) := hB 2 _ (by omega) rfl
      have b3 : w.cell? ⟨gb, j * 7 + 3, none⟩ = some (.bool x.x.counts) := hB 3 _ (by omega) rfl
      have b4 : w.cell? ⟨gb, j * 7 + 4, none⟩ = some (.int .i64 x.verdict) := hB 4 _ (by omega) rfl
      have b5 : w.cell? ⟨gb, j * 7 + 5, none⟩ = some (.bool x.chain) := hB 5 _ (by omega) rfl
      have b6 : w.cell? ⟨gb, j * 7 + 6, none⟩ = some (.int .i64 x.ahead) := hB 6 _ (by omega) rfl
      clear hA hB hca hcb hx hva hvb
      go_wp2_with fail
      go_quiet (fail)
      go_wp2_with fail
      go_roundw
      case rel => exact ⟨j + 1, _, by omega, by go_num, rfl⟩
      case measure => simp [intOf]; omega
    · have hlti : ¬ (j : Int) < (n : Int) := by omega
      go_wp2_with fail
      go_ret
      exact ⟨rfl, pw_below_drewN (Below.refl _ _) _⟩
theorem rfoot_not {w : World} {B mb base R : Nat} {most most' : Int} {f : StF} {cnt : Nat} {xs : List Sr} {v : Value} (h : StAt w B mb most f cnt) (hr : RefAt w base R most' xs v) {k : Nat} (hk : rfoot R v k) : ¬ foot B mb f k := by
  rcases hk with rfl | hk
  · exact foot_not_cells h hr.blk (by decide) (by decide)
  · obtain ⟨cs, hc⟩ := own_typed hr.row k hk
    exact foot_not_cells h hc (by decide) (by decide)
theorem set_val : ∀ (l : List Smp) (k : Nat) (x : Smp) (n : Int), l[k]? = some x → (smpF l).set (k * 4 + 1) (.int .i64 n) = smpF (l.set k ⟨x.nm, n, x.time, x.counts⟩)
  | [], k, x, n, h => by simp at h
  | y :: r, 0, x, n, h => by
    obtain rfl : y = x := by simpa using h
    simp [smpF, smpL]
  | y :: r, k + 1, x, n, h => by
    show (smpL y ++ smpF r).set _ _ = smpL y ++ smpF (r.set k _)
    rw [List.set_append_right _ _ (by simp [smpL]; omega), show (k + 1) * 4 + 1 - (smpL y).length = k * 4 + 1 by simp [smpL]; omega, set_val r k x n (by simpa using h)]
theorem smpF_len (l : List Smp) : (smpF l).length = l.length * 4 := by
  induction l with
  | nil => rfl
  | cons x r ih => unfold smpF at *; rw [List.flatMap_cons, List.length_append, ih]; simp [smpL]; omega
theorem smpF_one (l : List Smp) : ∀ u ∈ smpF l, u.oneCell' = true := fun u hu => by
  obtain ⟨x, _, hx⟩ := List.mem_flatMap.1 hu
  simp only [smpL, List.mem_cons, List.not_mem_nil, or_false] at hx
  rcases hx with rfl | rfl | rfl | rfl <;> rfl
end Go.Proofs.Ytneodhhoejjncaa
