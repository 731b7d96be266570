/- A text of this claim, pruned by a program of the session (prune.py) to what the theorem rests on. -/
import Derived.Test.YtedchpflcemdkaaGreatQmGMap
import Derived.Test.YtedchpflcemdkaaGreatQmGMore
import Derived.Test.YtedchpflcemdkaaGreatQmGBase
import Derived.DeepKeys4
import Derived.WalkKit
import Derived.RegionTactic
import Derived.BigRegion
import Derived.BigQuiet
import Derived.Deep.RegionHeld3
import Derived.Deep.QuietTactic
namespace Go.Proofs.YtedchpflcemdkaaGreat
open Go.RowKit Go.Maps Go.Proofs.YtedchpflcemdkaaGreatW.PrintWords
set_option linter.unusedVariables false
set_option linter.unusedSimpArgs false
theorem who_laidOut : laidOutB Tryz.prog = true := by kernel_rfl
theorem who_row : (42 : TypeId) < Tryz.prog.types.size := of_decide_eq_true (by kernel_rfl)
theorem who_key : Tryz.prog.keyType 42 = true := by kernel_rfl
theorem who_cells : Tryz.prog.cellsOf 42 = 2 := by kernel_rfl
theorem str_cells1 : Tryz.prog.cellsOf 9 = 1 := by kernel_rfl
theorem who_law : WideMaps.KeyLaw Tryz.prog 42 := deep_law_laid who_laidOut (m := 2) (by omega) who_row (by kernel_rfl) (by kernel_rfl)
def whoV (a b : ByteArray) : Value := .agg #[.string a, .string b]
def whoL (a b : ByteArray) : Lit := .string (keyBytes [.string a.data.toList, .string b.data.toList])
theorem who_fuel : ∃ D, Tryz.prog.types.size + 1 = D + 2 := ⟨Tryz.prog.types.size - 1, by have h : (42 : Nat) < Tryz.prog.types.size := who_row; omega⟩
theorem who_lits (D : Nat) (a b : ByteArray) (ha : a.size ≤ maxLen) (hb : b.size ≤ maxLen) : Tryz.prog.keyLits (D + 2) 42 [.string a, .string b] = some [.string a.data.toList, .string b.data.toList] := by
  simp [Program.keyLits, Tryz.underlying42, Tryz.underlying9, who_cells, str_cells1, ha, hb]
theorem who_keyOf (a b : ByteArray) (ha : a.size ≤ maxLen) (hb : b.size ≤ maxLen) : keyOf Tryz.prog 42 (whoV a b) = some (whoL a b) := by
  obtain ⟨D, hD⟩ := who_fuel
  unfold keyOf
  rw [Tryz.underlying42]
  dsimp only
  rw [if_pos (by simp [who_key, whoV, Value.formed, Tryz.underlying42, who_cells]), hD]
  show (Tryz.prog.keyLits (D + 2) 42 [.string a, .string b]).map _ = _
  rw [who_lits D a b ha hb]
  rfl
theorem str_lits {D : Nat} {v : Value} {l : List Lit} (h : Tryz.prog.keyLits (D + 1) 9 [v] = some l) : ∃ s, s.size ≤ maxLen ∧ v = .string s ∧ l = [.string s.data.toList] := by
  cases v <;> simp [Program.keyLits, Tryz.underlying9] at h
  exact ⟨_, h.1, rfl, h.2.symm⟩
set_option maxRecDepth 10000 in
theorem who_open {D : Nat} {cs : List Value} {L : List Lit} (h : Tryz.prog.keyLits (D + 2) 42 cs = some L) : ∃ a b, a.size ≤ maxLen ∧ b.size ≤ maxLen ∧ cs = [.string a, .string b] ∧ L = [.string a.data.toList, .string b.data.toList] := by
  unfold Program.keyLits at h
  rw [Tryz.underlying42] at h
  dsimp only at h
  split at h
  case isFalse => cases h
  case isTrue hc =>
    have hl : cs.length = 2 := hc.1.trans who_cells
    obtain ⟨u, z, rfl⟩ : ∃ u z, cs = [u, z] := by
      rcases cs with _ | ⟨u, _ | ⟨z, _ | ⟨y, r⟩⟩⟩
      · cases hl
      · cases hl
      · exact ⟨u, z, rfl⟩
      · simp at hl
    simp only [str_cells1, List.mapM_cons, List.mapM_nil, List.drop_zero, List.drop_succ_cons, List.take_succ_cons, List.take_zero] at h
    cases e1 : Tryz.prog.keyLits (D + 1) 9 [u] with
    | none => rw [e1] at h; cases h
    | some p =>
      cases e2 : Tryz.prog.keyLits (D + 1) 9 [z] with
      | none => rw [e1, e2] at h; cases h
      | some q =>
        rw [e1, e2] at h
        obtain ⟨a, ha, rfl, rfl⟩ := str_lits e1
        obtain ⟨b, hb, rfl, rfl⟩ := str_lits e2
        exact ⟨a, b, ha, hb, rfl, (Option.some.inj h).symm⟩
theorem who_inv (v : Value) (l : Lit) (h : keyOf Tryz.prog 42 v = some l) : ∃ a b, a.size ≤ maxLen ∧ b.size ≤ maxLen ∧ v = whoV a b ∧ l = whoL a b := by
  obtain ⟨xs, L, rfl, hL, rfl⟩ := keyOf_top (P := Tryz.prog) (k := 42) (by kernel_rfl) h
  obtain ⟨D, hD⟩ := who_fuel
  rw [hD] at hL
  obtain ⟨a, b, ha, hb, hc, rfl⟩ := who_open hL
  exact ⟨a, b, ha, hb, by rw [whoV, ← hc], rfl⟩
abbrev Who := { p : ByteArray × ByteArray // p.1.size ≤ maxLen ∧ p.2.size ≤ maxLen }
set_option maxRecDepth 10000 in
noncomputable def whoKey : KeyT Tryz.prog 42 Who where
  lit x := whoL x.1.1 x.1.2
  val x := whoV x.1.1 x.1.2
  ok _ := True
  keyed := Keyed.of_law who_law
  key x _ := who_keyOf x.1.1 x.1.2 x.2.1 x.2.2
  inv v l h := by
    obtain ⟨a, b, ha, hb, e1, e2⟩ := who_inv v l h
    exact ⟨⟨(a, b), ha, hb⟩, trivial, e1, e2⟩
  inj x y h := by
    have e1 := who_keyOf x.1.1 x.1.2 x.2.1 x.2.2
    have e2 := who_keyOf y.1.1 y.1.2 y.2.1 y.2.2
    have h' : whoL x.1.1 x.1.2 = whoL y.1.1 y.1.2 := h
    rw [h'] at e1
    have e := who_law.inj e1 e2
    obtain ⟨⟨a, b⟩, hx⟩ := x
    obtain ⟨⟨c, d⟩, hy⟩ := y
    have e : whoV a b = whoV c d := e
    unfold whoV at e
    injection e with e
    have e := congrArg Array.toList e
    injection e with e3 e
    injection e with e4 e
    injection e3 with e3
    injection e4 with e4
    subst e3 e4
    rfl
open Classical in
noncomputable def seenF (S : List Who) (x : Who) : Option Value := if x ∈ S then some (.agg #[.bool true]) else none
open Classical in
theorem seenF_upd (S : List Who) (x : Who) : upd (seenF S) x (some (.agg #[.bool true])) = seenF (x :: S) := by
  funext y
  unfold upd seenF
  by_cases h : y = x
  · subst h
    rw [if_pos rfl, if_pos List.mem_cons_self]
  · rw [if_neg h]
    simp only [List.mem_cons, h, false_or]
end Go.Proofs.YtedchpflcemdkaaGreat
