/- Pruned. -/
import Derived.Test.YtcikjeiebpmmcaaGreatProg
import Derived.Below
import Derived.Deep.Slices
import Derived.Deep.Fields
import Derived.ChangeSame
import Derived.ChangeArms
import Derived.SizedLaws
import Derived.Test.YtcikjeiebpmmcaaGreatQyWords
namespace Go.Proofs.YtcikjeiebpmmcaaGreat
open Go.RowKit Go.Proofs.YtcikjeiebpmmcaaGreatW.PrintWords Go.ChangeShapes Go.WideShapes
set_option linter.unusedVariables false
set_option linter.unusedSimpArgs false
section
variable {H : Type} (enc : TypeId × Value → H) (P : Program) (W : World)
def Opens {α : Type} (t : TypeId) (d : Kd α) (B : α → Prop) : Prop :=
  ∀ (n : Nat) (cs : List Value) (y : DataW H × List MemPlace), DataW.trod enc P W 0 (fun _ => true) true n t cs = some y → (y.1.weights P t).all (· ≤ reachBytes) = true → ∃ x, d.K W x cs ∧ B x
variable {enc P W}
theorem opens_string {t : TypeId} (ht : P.underlying t = some .string) : Opens enc P W t Kd.string (fun s => s.size ≤ 140737488351232) := by
  intro n cs y h hw
  obtain ⟨s, rfl, rfl, _⟩ := DataW.trod_string ht h
  refine ⟨s, rfl, ?_⟩
  have h := of_decide_eq_true (List.all_eq_true.1 hw s.data.toList.length (by simp [DataW.weights]))
  have hr : reachBytes = 140737488351232 := rfl
  rw [hr] at h
  rwa [Array.length_toList] at h
theorem opens_int {t : TypeId} {k : IntKind} (ht : P.underlying t = some (.int k)) : Opens enc P W t (Kd.int k) (fun n => (Lit.int k n).wf = true) := by
  intro n cs y h hw
  obtain ⟨s, rfl, rfl, hwf⟩ := DataW.trod_int ht h
  exact ⟨s, rfl, hwf⟩
theorem C_of_cells {α : Type} (d : Kd α) (B : α → Prop) (a : Addr) (n : Nat) (hn : n ≤ 9223372036854775807) (h : ∀ i, i < n → ∃ x c, c.length = d.sz ∧ d.K W x c ∧ B x ∧ ∀ j u, c[j]? = some u → W.cell? (a.add (i * d.sz + j)) = some u) :
    ∃ l : List α, l.length = n ∧ d.C W (some a) n l ∧ ∀ x ∈ l, B x := by
  have key : ∀ m, m ≤ n → ∃ l : List α, l.length = m ∧ (∀ x ∈ l, B x) ∧ ∀ j p, l[j]? = some p → ∃ c, c.length = d.sz ∧ d.K W p c ∧ ∀ i u, c[i]? = some u → W.cell? (a.add (j * d.sz + i)) = some u := by
    intro m
    induction m with
    | zero => intro _; exact ⟨[], rfl, by simp, by simp⟩
    | succ m ih =>
      intro hm
      obtain ⟨l, hl, hB, hc⟩ := ih (by omega)
      obtain ⟨x, c, h1, h2, h3, h4⟩ := h m (by omega)
      refine ⟨l ++ [x], by simp [hl], ?_, ?_⟩
      · intro z hz
        rcases List.mem_append.1 hz with hz | hz
        · exact hB z hz
        · rw [List.mem_singleton.1 hz]; exact h3
      · intro j p hj
        rcases Nat.lt_or_ge j l.length with hjl | hjl
        · rw [List.getElem?_append_left hjl] at hj
          exact hc j p hj
        · rw [List.getElem?_append_right hjl] at hj
          have h0 : j - l.length = 0 := by
            rcases Nat.eq_zero_or_pos (j - l.length) with h0 | h0
            · exact h0
            · rw [List.getElem?_eq_none (by simp; omega)] at hj; cases hj
          rw [h0] at hj
          obtain rfl : x = p := by simpa using hj
          obtain rfl : j = m := by omega
          exact ⟨c, h1, h2, h4⟩
  obtain ⟨l, hl, hB, hc⟩ := key n (Nat.le_refl _)
  exact ⟨l, hl, ⟨hl, hn, fun _ => ⟨a, rfl, hc⟩⟩, hB⟩
theorem weightsAll_mem {e : TypeId} : ∀ (ds : List (DataW H)) (d : DataW H), d ∈ ds → (DataW.weightsAll P e ds).all (· ≤ reachBytes) = true → (d.weights P e).all (· ≤ reachBytes) = true
  | [], _, h, _ => by simp at h
  | d0 :: r, d, h, hw => by
    rw [DataW.weightsAll, List.all_append, Bool.and_eq_true] at hw
    rcases List.mem_cons.1 h with rfl | h
    · exact hw.1
    · exact weightsAll_mem r d h hw.2
theorem opens_slice {α : Type} {t e : TypeId} {d : Kd α} {B : α → Prop} (ht : P.underlying t = some (.slice e)) (hc : P.cellsOf e = d.sz) {b : Nat} (hb : P.bytesOf e = b) (he : Opens enc P W e d B) :
    Opens enc P W t (Kd.slice e d) (fun l => l.length * b ≤ 140737488351232 ∧ ∀ x ∈ l, B x) := by
  intro n cs y h hw
  rcases Go.Deep.open_slice ht h with ⟨rfl, rfl⟩ | ⟨a, len, cap, m, n', D, Pl, rfl, _, hl, hm, hmm, rfl, hi⟩
  · exact ⟨[], ⟨none, 0, rfl, Nat.le_refl _, rfl, by simp, fun h => absurd h (by simp)⟩, by simp, by simp⟩
  · simp only [DataW.weights, ht, List.all_cons, Bool.and_eq_true, List.all_append, List.length_map, List.length_range, decide_eq_true_eq] at hw
    have hmc : len ≤ m := by rw [hmm]; simpa using hl
    obtain ⟨l, hll, hC, hB⟩ := C_of_cells d B a len (by have := hm; simp [maxLen] at this; omega) (fun i hi' => by
      obtain ⟨cs', h1, h2⟩ := hi i (by omega)
      obtain ⟨_, hcl, hat⟩ := World.cells?_some h1
      have hwd : ((D i).weights P e).all (· ≤ reachBytes) = true := weightsAll_mem _ _ (List.mem_map.2 ⟨i, List.mem_range.2 hi', rfl⟩) hw.2.1
      obtain ⟨x, hK, hBx⟩ := he n' cs' _ h2 hwd
      refine ⟨x, cs', d.K_len hK, hK, hBx, fun j u hj => ?_⟩
      have hjl : j < P.cellsOf e := by
        rcases Nat.lt_or_ge j cs'.length with h | h
        · omega
        · rw [List.getElem?_eq_none h] at hj; cases hj
      rw [← Go.Deep.add_add, ← hc, hat j hjl, hj])
    subst hll
    refine ⟨l, ⟨some a, cap, rfl, hl, hC⟩, ?_, hB⟩
    have h1 := hw.1
    rw [hb] at h1
    have : l.length * b ≤ (l.length + (m - l.length)) * b := Nat.mul_le_mul_right _ (by omega)
    have hr : reachBytes = 140737488351232 := rfl
    omega
variable (enc P W) in
def OpensL {α : Type} (ts : List TypeId) (d : Kd α) (B : α → Prop) : Prop :=
  ∀ (n : Nat) (css : List (List Value)) (ys : List (DataW H × List MemPlace)), css.length = ts.length → ys.length = ts.length →
    (∀ (i : Nat) (t : TypeId) (c : List Value) (y : DataW H × List MemPlace), ts[i]? = some t → css[i]? = some c → ys[i]? = some y → DataW.trod enc P W 0 (fun _ => true) true n t c = some y) → (DataW.weightsEach P ts (ys.map (·.1))).all (· ≤ reachBytes) = true → ∃ x, d.K W x css.flatten ∧ B x
theorem opensL_one {α : Type} {t : TypeId} {d : Kd α} {B : α → Prop} (h : Opens enc P W t d B) : OpensL enc P W [t] d B := by
  intro n css ys h1 h2 h3 h4
  match css, ys, h1, h2 with
  | [c], [y], _, _ =>
    simp only [List.map_cons, List.map_nil, DataW.weightsEach, List.append_nil] at h4
    simpa using h n c y (h3 0 t c y rfl rfl rfl) h4
theorem opensL_cons {α β : Type} {t : TypeId} {ts : List TypeId} {a : Kd α} {b : Kd β} {Ba : α → Prop} {Bb : β → Prop} (ha : Opens enc P W t a Ba) (hb : OpensL enc P W ts b Bb) : OpensL enc P W (t :: ts) (Kd.pair a b) (fun x => Ba x.1 ∧ Bb x.2) := by
  intro n css ys h1 h2 h3 h4
  match css, ys, h1, h2 with
  | c :: cr, y :: yr, h1, h2 =>
    simp only [List.map_cons, DataW.weightsEach, List.all_append, Bool.and_eq_true] at h4
    obtain ⟨x, hx, hBx⟩ := ha n c y (h3 0 t c y rfl rfl rfl) h4.1
    obtain ⟨z, hz, hBz⟩ := hb n cr yr (by simpa using h1) (by simpa using h2) (fun i t c y e1 e2 e3 => h3 (i + 1) t c y (by simpa using e1) (by simpa using e2) (by simpa using e3)) h4.2
    exact ⟨(x, z), ⟨c, cr.flatten, by simp, hx, hz⟩, hBx, hBz⟩
variable (P) in
def contigB (total : Nat) : Nat → List Field → Bool
  | off, [] => off == total
  | off, f :: r => f.offset == off && contigB total (off + P.cellsOf f.type) r
theorem contig_flat (cs : List Value) : ∀ (fs : List Field) (off : Nat), contigB P cs.length off fs = true → (fs.map fun f => (cs.drop f.offset).take (P.cellsOf f.type)).flatten = cs.drop off
  | [], off, h => by
    have : off = cs.length := by simpa [contigB] using h
    subst this
    simp
  | f :: r, off, h => by
    simp only [contigB, Bool.and_eq_true, beq_iff_eq] at h
    rw [List.map_cons, List.flatten_cons, contig_flat cs r _ h.2, h.1, ← List.drop_drop]
    exact List.take_append_drop _ _
theorem opens_struct {α β : Type} {t : TypeId} {fs : Array Field} {d : Kd α} {B : α → Prop} (ht : P.underlying t = some (.struct fs)) (hcon : contigB P (P.cellsOf t) 0 fs.toList = true) (h : OpensL enc P W (fs.toList.map (·.type)) d B) (f : β → α) (g : α → β) (hg : ∀ a, f (g a) = a) :
    Opens enc P W t (Kd.iso d f) (fun x => B (f x)) := by
  intro n cs y hy hw
  obtain ⟨xs, n', _, rfl, hlen, hxl, hf⟩ := DataW.trod_struct ht hy
  simp only [DataW.weights, ht] at hw
  have hflat := contig_flat (P := P) cs fs.toList 0 (by rw [hlen]; exact hcon)
  obtain ⟨x, hx, hBx⟩ := h n' (fs.toList.map fun f => (cs.drop f.offset).take (P.cellsOf f.type)) xs (by simp) (by simpa using hxl) (fun i t c y e1 e2 e3 => by
    rw [List.getElem?_map, Option.map_eq_some_iff] at e1 e2
    obtain ⟨f1, g1, rfl⟩ := e1
    obtain ⟨f2, g2, rfl⟩ := e2
    rw [g1] at g2
    cases g2
    rw [Array.getElem?_toList] at g1
    rw [hf i f1 g1, e3]) hw
  rw [hflat, List.drop_zero] at hx
  exact ⟨g x, by show d.K W (f (g x)) cs; rw [hg]; exact hx, by show B (f (g x)); rw [hg]; exact hBx⟩
theorem opens_arg {α : Type} {t : TypeId} {d : Kd α} {B : α → Prop} (h : Opens enc P W t d B) {v : Value} {x : DataW H} {p : List MemPlace} (hd : DataW.Trod enc P W 0 (fun _ => true) true t v x p)
    {ts : List TypeId} {ds : List (DataW H)} {j : Nat} (hsz : (DataW.weightsEach P ts ds).all (· ≤ reachBytes) = true) (ht : ts[j]? = some t) (hx : ds[j]? = some x) : ∃ z, d.K W z v.cells.toList ∧ B z := by
  obtain ⟨fuel, hf⟩ := hd
  refine h fuel _ _ hf ?_
  rw [List.all_eq_true] at hsz ⊢
  exact fun n hn => hsz n (DataW.weights_mem_each ht hx n hn)
end
end Go.Proofs.YtcikjeiebpmmcaaGreat
