import Derived.Test.YtdgmgbcjlmighaaDoorGFBase
/-! fix.Parse, plainly: a text's parts, byte by byte; words; the number. -/
namespace Go.Proofs.YtdgmgbcjlmighaaDoor
open Go.RowKit Go.Proofs.YtdgmgbcjlmighaaDoorW.PrintWords
set_option linter.unusedVariables false
set_option linter.unusedSimpArgs false
/-- Where one is in a text: the sign, the exponent told by the point, the state, the exponent, is it below 0, the digits. -/
structure PS where
  neg : Bool
  e : Int
  at_ : Nat
  exp : Int
  down : Bool
  ds : List UInt8
  deriving DecidableEq
def PS.start : PS := ⟨false, 0, 0, 0, false, []⟩
/-- One byte. -/
def pstep (i : Nat) (c : Nat) (x : PS) : Option PS :=
  if i = 0 ∧ (c = 43 ∨ c = 45) then some { x with neg := c == 45 }
  else if 48 ≤ c ∧ c ≤ 57 then
    if x.at_ = 2 ∨ x.at_ = 3 then some { x with at_ := 3, e := x.e - 1, ds := x.ds ++ [UInt8.ofNat c] }
    else if x.at_ = 0 ∨ x.at_ = 1 then some { x with at_ := 1, ds := x.ds ++ [UInt8.ofNat c] }
    else some { x with at_ := 6, exp := min (10 * x.exp + ((c : Int) - 48)) 1099511627776 }
  else if c = 46 ∧ x.at_ ≤ 1 then some { x with at_ := 2 }
  else if (c = 101 ∨ c = 69) ∧ x.at_ < 4 ∧ 0 < x.ds.length then some { x with at_ := 4 }
  else if (c = 43 ∨ c = 45) ∧ x.at_ = 4 then some { x with at_ := 5, down := c == 45 }
  else none
def prun : List UInt8 → Nat → PS → Option PS
  | [], _, x => some x
  | c :: r, i, x => (pstep i c.toNat x).bind fun y => prun r (i + 1) y
/-- A text's parts: sign, digits, exponent. -/
def partsF (s : List UInt8) : Option (Bool × List UInt8 × Int) :=
  (prun s 0 PS.start).bind fun x => if 0 < x.ds.length ∧ x.at_ ≠ 4 ∧ x.at_ ≠ 5 then some (x.neg, x.ds, x.e + (if x.down then -x.exp else x.exp)) else none
def unsign (l : List UInt8) : List UInt8 := match l with
  | [] => []
  | c :: r => if c = 43 ∨ c = 45 then r else l
def wordL (m : List UInt8) : Bool := m == [110, 97, 110] || m == [105, 110, 102] || m == [105, 110, 102, 105, 110, 105, 116, 121]
def wordF (s : List UInt8) : Bool := wordL (unsign (Lib.toLowerA s))
def natOf (l : List UInt8) : Nat := l.foldl (fun n c => n * 10 + (c.toNat - 48)) 0
def signedF (n : Nat) (neg : Bool) : Int × Int :=
  if neg = true ∧ n ≤ 9223372036854775808 then (-(n : Int), 0) else if neg = false ∧ n ≤ 9223372036854775807 then ((n : Int), 0) else (0, 4)
def shortF (ds : List UInt8) : List UInt8 := Lib.trimRightB (Lib.trimLeftB ds 48) 48
def zerosF (ds : List UInt8) (e : Int) : Int := e + 6 + (((Lib.trimLeftB ds 48).length : Int) - ((shortF ds).length : Int))
def numF (neg : Bool) (ds : List UInt8) (e : Int) : Int × Int :=
  if Lib.trimLeftB ds 48 = [] then (0, 0)
  else if zerosF ds e < 0 ∨ 19 < ((shortF ds).length : Int) + zerosF ds e then (0, 4)
  else signedF (natOf (shortF ds ++ Lib.repeatL [48] (zerosF ds e).toNat)) neg
def parseF (s : List UInt8) : Int × Int :=
  if wordF s = true then (0, 4) else match partsF s with
    | none => (0, 3)
    | some (neg, ds, e) => numF neg ds e
/-! What holds of a text's parts. -/
structure POk (k : Nat) (x : PS) : Prop where
  dig : ∀ c ∈ x.ds, 48 ≤ c.toNat ∧ c.toNat ≤ 57
  len : x.ds.length ≤ k
  e1 : -(k : Int) ≤ x.e
  e2 : x.e ≤ 0
  p1 : 0 ≤ x.exp
  p2 : x.exp ≤ 1099511627776
theorem POk.step {k : Nat} {x y : PS} (h : POk k x) {i c : Nat} (hy : pstep i c x = some y) : POk (k + 1) y := by
  have := h.len; have := h.e1; have := h.e2; have := h.p1; have := h.p2
  have hd : ∀ (h1 : 48 ≤ c ∧ c ≤ 57), ∀ d ∈ x.ds ++ [UInt8.ofNat c], 48 ≤ d.toNat ∧ d.toNat ≤ 57 := by
    intro h1 d hd
    rcases List.mem_append.1 hd with hd | hd
    · exact h.dig d hd
    · obtain rfl := List.mem_singleton.1 hd
      have : (UInt8.ofNat c).toNat = c := by simp; omega
      omega
  unfold pstep at hy
  repeat' split at hy
  all_goals first
    | cases hy; done
    | (obtain rfl := Option.some.inj hy; exact ⟨h.dig, by simp only; omega, by simp only; omega, by simp only; omega, by simp only; omega, by simp only; omega⟩)
    | (obtain rfl := Option.some.inj hy; exact ⟨hd (by assumption), by simp; omega, by simp only; omega, by simp only; omega, by simp only; omega, by simp only; omega⟩)
theorem prun_ok : ∀ (l : List UInt8) (i k : Nat) (x y : PS), POk k x → prun l i x = some y → POk (k + l.length) y
  | [], i, k, x, y, h, hy => by obtain rfl := Option.some.inj hy; exact h
  | c :: r, i, k, x, y, h, hy => by
    unfold prun at hy
    obtain ⟨z, hz, hy⟩ := Option.bind_eq_some_iff.1 hy
    have := prun_ok r (i + 1) (k + 1) z y (h.step hz) hy
    rwa [List.length_cons, show k + (r.length + 1) = k + 1 + r.length by omega]
theorem parts_ok {s : List UInt8} {neg : Bool} {ds : List UInt8} {e : Int} (h : partsF s = some (neg, ds, e)) :
    (∀ c ∈ ds, 48 ≤ c.toNat ∧ c.toNat ≤ 57) ∧ ds.length ≤ s.length ∧ -(s.length : Int) - 1099511627776 ≤ e ∧ e ≤ 1099511627776 := by
  unfold partsF at h
  obtain ⟨x, hx, h⟩ := Option.bind_eq_some_iff.1 h
  split at h
  · have e1 := Option.some.inj h
    obtain ⟨rfl, e2⟩ := Prod.mk.inj e1
    obtain ⟨rfl, rfl⟩ := Prod.mk.inj e2
    have hk := prun_ok s 0 0 PS.start x ⟨by simp [PS.start], by simp [PS.start], by decide, by decide, by decide, by decide⟩ hx
    have := hk.e1; have := hk.e2; have := hk.p1; have := hk.p2; have := hk.len
    refine ⟨hk.dig, by omega, ?_, ?_⟩
    · split <;> omega
    · split <;> omega
  · cases h
/-- A number of at most 19 digits is read. -/
theorem parseUintM_ok : ∀ (l : List UInt8) (n acc : Nat), (∀ c ∈ l, 48 ≤ c.toNat ∧ c.toNat ≤ 57) → acc < 10 ^ n → n + l.length ≤ 19 → Lib.parseUintM 18446744073709551615 acc l = .ok (l.foldl (fun n c => n * 10 + (c.toNat - 48)) acc)
  | [], n, acc, _, _, _ => rfl
  | c :: r, n, acc, hd, ha, hn => by
    have hc := hd c (List.mem_cons_self ..)
    rw [List.length_cons] at hn
    have h18 : (10 : Nat) ^ n ≤ 10 ^ 18 := Nat.pow_le_pow_right (by omega) (by omega)
    have e18 : (10 : Nat) ^ 18 = 1000000000000000000 := by decide
    have es : (10 : Nat) ^ (n + 1) = 10 ^ n * 10 := Nat.pow_succ ..
    unfold Lib.parseUintM
    rw [if_pos hc, if_neg (by omega), if_neg (by omega), parseUintM_ok r (n + 1) _ (fun d hd' => hd d (List.mem_cons_of_mem _ hd')) (by rw [es]; omega) (by omega)]
    rfl
theorem parseUint_ok (l : List UInt8) (hd : ∀ c ∈ l, 48 ≤ c.toNat ∧ c.toNat ≤ 57) (h0 : l ≠ []) (hn : l.length ≤ 19) : Lib.parseUintB 64 l = .ok (natOf l) := by
  unfold Lib.parseUintB
  rw [if_neg h0]
  exact parseUintM_ok l 0 0 hd (by decide) (by omega)
theorem foldl_lt : ∀ (l : List UInt8) (n acc : Nat), (∀ c ∈ l, 48 ≤ c.toNat ∧ c.toNat ≤ 57) → acc < 10 ^ n → l.foldl (fun n c => n * 10 + (c.toNat - 48)) acc < 10 ^ (n + l.length)
  | [], n, acc, _, ha => ha
  | c :: r, n, acc, hd, ha => by
    have hc := hd c (List.mem_cons_self ..)
    have es : (10 : Nat) ^ (n + 1) = 10 ^ n * 10 := Nat.pow_succ ..
    have := foldl_lt r (n + 1) (acc * 10 + (c.toNat - 48)) (fun d hd' => hd d (List.mem_cons_of_mem _ hd')) (by rw [es]; omega)
    rwa [List.length_cons, show n + (r.length + 1) = n + 1 + r.length by omega]
theorem natOf_lt (l : List UInt8) (hn : l.length ≤ 19) (hd : ∀ c ∈ l, 48 ≤ c.toNat ∧ c.toNat ≤ 57) : natOf l < 18446744073709551616 := by
  have h := foldl_lt l 0 0 hd (by decide)
  have h2 : (10 : Nat) ^ (0 + l.length) ≤ 10 ^ 19 := Nat.pow_le_pow_right (by omega) (by omega)
  have e19 : (10 : Nat) ^ 19 = 10000000000000000000 := by decide
  unfold natOf
  omega
end Go.Proofs.YtdgmgbcjlmighaaDoor
