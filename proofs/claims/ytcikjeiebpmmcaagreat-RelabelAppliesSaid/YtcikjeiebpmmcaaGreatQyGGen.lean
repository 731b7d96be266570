/- Pruned. -/
import Derived.Test.YtcikjeiebpmmcaaGreatQyGBase
import Derived.Test.YtcikjeiebpmmcaaGreatQyGCompare
import Derived.Shelf.SlSortCmp.NoneTotal
import Derived.Sort.Walk0
namespace Go.Proofs.YtcikjeiebpmmcaaGreat
open Go.RowKit Go.Proofs.YtcikjeiebpmmcaaGreatW.PrintWords Go.Sort
set_option linter.unusedVariables false
set_option linter.unusedSimpArgs false
section
variable {α : Type} [Inhabited α] {R : α → List Value → Prop} {size : Nat} {enc : α → List Value}
theorem flat_at (xs : List α) (t : Nat) (ht : t < xs.length * size) : (flatK enc size xs.toArray).toList[t]? = some (enc (xs.getD (t / size) default))[t % size]! := by
  rw [Array.getElem?_toList, Array.getElem?_eq_getElem (by simpa using ht)]
  have := get_flatK enc size xs.toArray t (by simpa using ht)
  rw [getElem!_pos _ t (by simpa using ht)] at this
  rw [this]
  simp [List.getD, Array.getElem!_eq_getD, Array.getD]
  split <;> simp_all
theorem reps_flat (hR : ∀ x c, R x c → c = enc x) (hk : ∀ x, (enc x).length = size) {xs : List α} {cs : List Value} (h : Reps R size xs cs) : cs = (flatK enc size xs.toArray).toList := by
  apply List.ext_getElem?
  intro t
  by_cases ht : t < xs.length * size
  · rw [flat_at xs t ht]
    have h0 : 0 < size := by rcases Nat.eq_zero_or_pos size with h | h; · subst h; simp at ht
                             · exact h
    have hj : t / size < xs.length := Nat.div_lt_of_lt_mul (by rwa [Nat.mul_comm] at ht)
    have h1 := hR _ _ (h.2 (t / size) _ (List.getElem?_eq_getElem hj))
    have h2 : t = t / size * size + t % size := by rw [Nat.mul_comm]; exact (Nat.div_add_mod t size).symm
    have hm : t % size < size := Nat.mod_lt _ h0
    have h3 : cs[t]? = ((cs.drop (t / size * size)).take size)[t % size]? := by
      rw [List.getElem?_take_of_lt hm, List.getElem?_drop, ← h2]
    have hg : xs.getD (t / size) default = xs[t / size] := by simp [List.getD, List.getElem?_eq_getElem hj]
    rw [h3, h1, hg, List.getElem?_eq_getElem (by rw [hk]; exact hm), getElem!_pos _ _ (by rw [hk]; exact hm)]
  · rw [List.getElem?_eq_none (by rw [h.1]; omega), List.getElem?_eq_none (by simp; omega)]
theorem flat_reps (hR : ∀ x, R x (enc x)) (hk : ∀ x, (enc x).length = size) (xs : List α) : Reps R size xs (flatK enc size xs.toArray).toList := by
  refine ⟨by simp, fun j p hj => ?_⟩
  have hjl : j < xs.length := by rcases Nat.lt_or_ge j xs.length with h | h; · exact h
                                 · rw [List.getElem?_eq_none h] at hj; cases hj
  have e : (((flatK enc size xs.toArray).toList.drop (j * size)).take size) = enc p := by
    apply List.ext_getElem?
    intro i
    have hle : j * size + size ≤ xs.length * size := by rw [← Nat.succ_mul]; exact Nat.mul_le_mul_right _ hjl
    by_cases hi : i < size
    · rw [List.getElem?_take_of_lt hi, List.getElem?_drop, flat_at xs _ (by omega)]
      have e1 : (j * size + i) / size = j := by rw [Nat.mul_comm, Nat.mul_add_div (by omega), Nat.div_eq_of_lt hi, Nat.add_zero]
      have e2 : (j * size + i) % size = i := by rw [Nat.mul_comm, Nat.mul_add_mod, Nat.mod_eq_of_lt hi]
      rw [e1, e2]
      have hg : xs.getD j default = p := by simp [List.getD, hj]
      rw [hg, List.getElem?_eq_getElem (by rw [hk]; exact hi), getElem!_pos _ _ (by rw [hk]; exact hi)]
    · rw [List.getElem?_eq_none (by simp; omega), List.getElem?_eq_none (by rw [hk]; omega)]
  rw [e]
  exact hR p
end
section
variable {w : World} {base g n m cap size : Nat} {e : TypeId} {F F' : Array Value} {os : Array Obj}
theorem holds_own (h : w.ownsRow base e size (.slice (some ⟨g, 0, none⟩) n cap) n F.toList) : Holds id w g 0 F := by
  rcases h.2 with ⟨h0, _⟩ | ⟨g', cap', cur, hv, hg, hb, hn, hcap, hs, ht⟩
  · cases h0
  cases hv
  have hl := h.1
  intro j hj
  have hj' : j < F.toList.length := by simpa using hj
  refine ⟨?_, by simp [World.frozen?, hb]⟩
  have h1 : (cur.toList.take (n * size))[j]? = F.toList[j]? := by rw [ht]
  rw [List.getElem?_take_of_lt (by omega)] at h1
  simp only [World.cell?, hb, Nat.zero_add]
  simp only [Option.isSome_none, Bool.false_eq_true, if_false]
  rw [← Array.getElem?_toList, h1]
  simp [hj]
theorem grown_put : w.grownBy (grow (putRow id (Sort.ahead w m) g 0 F) os) (some g) := by
  refine ⟨rfl, rfl, rfl, by simp [putRow, mapBlock, Sort.ahead], fun k hk hne => ?_⟩
  rw [heap_grow_old _ _ (by simpa [putRow, mapBlock, Sort.ahead] using hk)]
  have : g ≠ k := fun e => hne (by rw [e])
  simp [putRow, mapBlock, Sort.ahead, Array.getElem?_modify, this]
theorem own_put (hs : F'.size = F.size) (h : w.ownsRow base e size (.slice (some ⟨g, 0, none⟩) n cap) n F.toList) : (grow (putRow id (Sort.ahead w m) g 0 F') os).ownsRow base e size (.slice (some ⟨g, 0, none⟩) n cap) n F'.toList := by
  rcases h.2 with ⟨h0, _⟩ | ⟨g', cap', cur, hv, hg, hb, hn, hcap, hc, ht⟩
  · cases h0
  cases hv
  have hl := h.1
  have hl' : F'.size = n * size := by rw [hs]; simpa using hl
  have hle : n * size ≤ cur.size := by rw [hc]; exact Nat.mul_le_mul_right _ hn
  have hgl : g < w.heap.size := (Array.getElem?_eq_some_iff.1 hb).1
  refine ⟨by simpa using hl', .inr ⟨g, cap, putCells id 0 F' cur, rfl, hg, ?_, hn, hcap, by simp [putCells, hc], ?_⟩⟩
  · rw [heap_grow_old _ _ (by simpa [putRow, mapBlock, Sort.ahead] using hgl)]
    simp [putRow, mapBlock, Sort.ahead, Array.getElem?_modify, hb, onCells]
  · apply List.ext_getElem?
    intro j
    by_cases hj : j < n * size
    · rw [List.getElem?_take_of_lt hj, Array.getElem?_toList]
      simp [putCells, hl', hj, show j < cur.size by omega, getElem!_pos]
    · rw [List.getElem?_eq_none (by simp; omega), List.getElem?_eq_none (by simp [hl']; omega)]
end
section
variable {α : Type} (nm : α → ByteArray)
def ltN (x y : α) : Bool := Op.bytesLess (nm x).toList (nm y).toList
theorem less_irrefl (x : List UInt8) : Op.bytesLess x x = false := by simp [bytesLess_eq]
theorem less_trans {x y z : List UInt8} (h1 : Op.bytesLess x y = true) (h2 : Op.bytesLess y z = true) : Op.bytesLess x z = true := by
  simp only [bytesLess_eq, decide_eq_true_eq] at *
  exact List.lt_trans h1 h2
theorem less_total {x y : List UInt8} (h1 : Op.bytesLess x y = false) (h2 : Op.bytesLess y x = false) : x = y := by
  have h := greater_of x y
  rw [h1, h2] at h
  simpa using h
theorem ltN_swo : SWO (ltN nm) where
  irrefl x := less_irrefl _
  trans x y z h1 h2 := less_trans h1 h2
  ntrans x y z h1 h2 := by
    unfold ltN at *
    cases h : Op.bytesLess (nm x).toList (nm z).toList with
    | false => rfl
    | true =>
      exfalso
      cases h3 : Op.bytesLess (nm y).toList (nm x).toList with
      | true => have := less_trans h3 h; rw [this] at h2; cases h2
      | false =>
        have := less_total h1 h3
        rw [this] at h
        rw [h] at h2
        cases h2
def ins (x : α) : List α → List α
  | [] => [x]
  | y :: r => if ltN nm y x then y :: ins x r else x :: y :: r
def isort (xs : List α) : List α := xs.foldl (fun acc x => ins nm x acc) []
theorem ins_perm (x : α) : ∀ r : List α, (ins nm x r).Perm (x :: r)
  | [] => List.Perm.refl _
  | y :: r => by
    unfold ins
    split
    · exact ((ins_perm x r).cons y).trans (List.Perm.swap x y r)
    · exact List.Perm.refl _
theorem isort_perm_go : ∀ (xs acc : List α), (xs.foldl (fun acc x => ins nm x acc) acc).Perm (xs ++ acc)
  | [], _ => List.Perm.refl _
  | x :: r, acc => by
    rw [List.foldl_cons]
    refine (isort_perm_go r (ins nm x acc)).trans ?_
    refine ((ins_perm nm x acc).append_left r).trans ?_
    exact List.perm_middle
theorem isort_perm (xs : List α) : (isort nm xs).Perm xs := by
  have h := isort_perm_go nm xs []
  rwa [List.append_nil] at h
def Rising (xs : List α) : Prop := xs.Pairwise fun x y => ltN nm y x = false
theorem ins_rising (x : α) : ∀ r : List α, Rising nm r → Rising nm (ins nm x r)
  | [], _ => by simp [ins, Rising]
  | y :: r, h => by
    have h' := List.pairwise_cons.1 h
    unfold ins
    split
    case isTrue hlt =>
      refine List.pairwise_cons.2 ⟨fun z hz => ?_, ins_rising x r h'.2⟩
      rcases List.mem_cons.1 ((ins_perm nm x r).mem_iff.1 hz) with rfl | hz
      · cases h3 : ltN nm z y with
        | false => rfl
        | true => have := less_trans h3 hlt; rw [less_irrefl] at this; cases this
      · exact h'.1 z hz
    case isFalse hlt =>
      refine List.pairwise_cons.2 ⟨fun z hz => ?_, h⟩
      rcases List.mem_cons.1 hz with rfl | hz
      · simpa using hlt
      · exact (ltN_swo nm).ntrans z y x (h'.1 z hz) (by simpa using hlt)
theorem isort_rising_go : ∀ (xs acc : List α), Rising nm acc → Rising nm (xs.foldl (fun acc x => ins nm x acc) acc)
  | [], _, h => h
  | x :: r, acc, h => isort_rising_go r _ (ins_rising nm x acc h)
theorem isort_rising (xs : List α) : Rising nm (isort nm xs) := isort_rising_go nm xs [] List.Pairwise.nil
def twins : List α → Bool
  | x :: y :: r => decide (nm y = nm x) || twins (y :: r)
  | _ => false
theorem toList_inj {a b : ByteArray} (h : a.toList = b.toList) : a = b := by
  rw [ByteArray.toList_eq, ByteArray.toList_eq] at h
  cases a; cases b
  simp only [ByteArray.mk.injEq]
  exact Array.toList_inj.1 h
theorem strict_of : ∀ xs : List α, Rising nm xs → twins nm xs = false → xs.Pairwise fun x y => ltN nm x y = true
  | [], _, _ => List.Pairwise.nil
  | [x], _, _ => by simp
  | x :: y :: r, h, ht => by
    have h' := List.pairwise_cons.1 h
    simp only [twins, Bool.or_eq_false_iff, decide_eq_false_iff_not] at ht
    have ih := strict_of (y :: r) h'.2 ht.2
    have hxy : ltN nm x y = true := by
      cases hh : ltN nm x y with
      | true => rfl
      | false => exact absurd (toList_inj (less_total (h'.1 y (by simp)) hh)) ht.1
    refine List.pairwise_cons.2 ⟨fun z hz => ?_, ih⟩
    rcases List.mem_cons.1 hz with rfl | hz
    · exact hxy
    · exact less_trans hxy ((List.pairwise_cons.1 ih).1 z hz)
theorem nodup_of (xs : List α) (h : xs.Pairwise fun x y => ltN nm x y = true) : (xs.map nm).Nodup := by
  rw [List.Nodup, List.pairwise_map]
  refine h.imp ?_
  intro x y hxy e
  unfold ltN at hxy
  rw [e, less_irrefl] at hxy
  cases hxy
theorem twins_of_not : ∀ xs : List α, (xs.map nm).Nodup → twins nm xs = false
  | [], _ => rfl
  | [_], _ => rfl
  | x :: y :: r, h => by
    simp only [List.map_cons, List.nodup_cons] at h
    simp only [twins, Bool.or_eq_false_iff, decide_eq_false_iff_not]
    exact ⟨fun e => h.1 (by rw [← e]; simp), twins_of_not (y :: r) (by simpa using h.2)⟩
theorem twins_iff (xs : List α) (h : Rising nm xs) : twins nm xs = false ↔ (xs.map nm).Nodup := ⟨fun ht => nodup_of nm xs (strict_of nm xs h ht), twins_of_not nm xs⟩
theorem twins_perm {xs ys : List α} (hp : ys.Perm xs) (hx : Rising nm xs) (hy : Rising nm ys) : twins nm ys = twins nm xs := by
  have hm : (ys.map nm).Nodup ↔ (xs.map nm).Nodup := (hp.map nm).nodup_iff
  have h1 := twins_iff nm xs hx
  have h2 := twins_iff nm ys hy
  cases h3 : twins nm ys <;> cases h4 : twins nm xs <;> simp_all
theorem strict_unique : ∀ {xs ys : List α}, ys.Perm xs → (xs.Pairwise fun x y => ltN nm x y = true) → (ys.Pairwise fun x y => ltN nm x y = true) → ys = xs
  | [], ys, hp, _, _ => List.perm_nil.1 hp
  | x :: r, [], hp, _, _ => by have := hp.length_eq; simp at this
  | x :: r, y :: s, hp, hx, hy => by
    have hx' := List.pairwise_cons.1 hx
    have hy' := List.pairwise_cons.1 hy
    have e : y = x := by
      have h1 : y ∈ x :: r := hp.mem_iff.1 (by simp)
      have h2 : x ∈ y :: s := hp.mem_iff.2 (by simp)
      rcases List.mem_cons.1 h1 with h1 | h1
      · exact h1
      rcases List.mem_cons.1 h2 with h2 | h2
      · exact h2.symm
      have := less_trans (hx'.1 y h1) (hy'.1 x h2)
      rw [less_irrefl] at this
      cases this
    subst e
    rw [strict_unique (List.perm_cons y |>.1 hp) hx'.2 hy'.2]
theorem sorted_unique {xs ys : List α} (hp : ys.Perm xs) (hy : Rising nm ys) (ht : twins nm ys = false) : ys = isort nm xs := by
  have hp' := hp.trans (isort_perm nm xs).symm
  have ht' : twins nm (isort nm xs) = false := (twins_perm nm hp' (isort_rising nm xs) hy).symm.trans ht
  exact strict_unique nm hp' (strict_of nm _ (isort_rising nm xs) ht') (strict_of nm _ hy ht)
end
end Go.Proofs.YtcikjeiebpmmcaaGreat
