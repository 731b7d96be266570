/- A text of this claim, pruned by a program of the session (prune.py) to what the theorem rests on. -/
import Derived.Test.YtedchpflcemdkaaGreatQmGMy
import Derived.Test.YtedchpflcemdkaaGreatQmGNamed
namespace Go.Proofs.YtedchpflcemdkaaGreat
open Go.RowKit Go.Maps Go.Proofs.YtedchpflcemdkaaGreatW.PrintWords Go.Proofs.YtedchpflcemdkaaGreatW.PrintLast Go.Proofs.YtedchpflcemdkaaGreatW.PrintMore
set_option linter.unusedVariables false
set_option linter.unusedSimpArgs false
def allB (p : Int → Bool) (s : ByteArray) : Nat → Nat → Bool
  | 0, _ => true
  | n + 1, i => p (bt s i) && allB p s n (i + 1)
def hostB (c : Int) : Bool := (decide (97 ≤ c) && decide (c ≤ 122)) || ((decide (65 ≤ c) && decide (c ≤ 90)) || ((decide (48 ≤ c) && decide (c ≤ 57)) || (decide (c = 45) || (decide (c = 46) || (decide (c = 58) || (decide (c = 91) || decide (c = 93)))))))
def pathB (c : Int) : Bool := decide (33 ≤ c) && (decide (c ≤ 126) && !decide (c = 35))
def hostOK (s : ByteArray) : Bool := allB hostB s s.size 0 && (decide (1 ≤ s.size) && decide (s.size ≤ 255))
def pathOK (s : ByteArray) : Bool := allB pathB s s.size 0 && ((decide (0 < s.size) && decide (bt s 0 = 47)) && decide (s.size ≤ 1024))
def mayTB (job host path : ByteArray) (iv tm : Int) : Bool := inB job.size 1 1024 && (hostOK host && (pathOK path && (inB iv 1 1073741824 && inB tm 1 iv)))
section
variable {α : Type} (f0 f1 : α → ByteArray) (may : α → Bool)
def badC : List (ByteArray × ByteArray) → List α → Bool
  | _, [] => false
  | S, x :: l => (S.any (fun p => decide (p = (f0 x, f1 x))) || !may x) || badC ((f0 x, f1 x) :: S) l
end
def rowsC (n : Nat) (bad : Bool) (win late ser wins que con bod bas mos : Int) : Bool :=
  inB n 1 16 && (!bad && ((inB win 1 1073741824 && inB late 0 1073741824) && ((inB ser 1 4096 && inB wins 1 64) && ((inB que 1 64 && inB con n 32) && (inB bod 1 1048576 && (inB bas 1 mos && decide (mos ≤ 1073741824)))))))
def mayR (rows words : Bool) : Int := if rows then (if words then 0 else 5) else 2
theorem anyBad_eq {α : Type} (T : TgK α) : ∀ (l : List α) (S : List Who), (∀ x ∈ l, (T.who x).1 = (T.f0 x, T.f1 x)) → anyBad T S l = badC T.f0 T.f1 T.may (S.map (·.1)) l
  | [], S, _ => rfl
  | x :: l, S, h => by
    have hx := h x List.mem_cons_self
    rw [anyBad, badC, anyBad_eq T l (T.who x :: S) (fun y hy => h y (List.mem_cons_of_mem _ hy)), List.map_cons, hx]
    congr 1
    congr 1
    unfold seenF
    by_cases hm : T.who x ∈ S
    · rw [if_pos hm]
      have : (S.map (·.1)).any (fun p => decide (p = (T.f0 x, T.f1 x))) = true := List.any_eq_true.2 ⟨_, List.mem_map_of_mem hm, decide_eq_true hx⟩
      rw [this]
      rfl
    · rw [if_neg hm]
      have : (S.map (·.1)).any (fun p => decide (p = (T.f0 x, T.f1 x))) = false := by
        rw [Bool.eq_false_iff]
        intro hin
        obtain ⟨q, hq, he⟩ := List.any_eq_true.1 hin
        obtain ⟨y, hy, rfl⟩ := List.mem_map.1 hq
        exact hm ((Subtype.ext ((of_decide_eq_true he).trans hx.symm) : y = T.who x) ▸ hy)
      rw [this]
      rfl
noncomputable def whoOf (a b : ByteArray) : Who := if h : a.size ≤ maxLen ∧ b.size ≤ maxLen then ⟨(a, b), h⟩ else ⟨(ByteArray.empty, ByteArray.empty), by decide, by decide⟩
theorem whoOf_eq {a b : ByteArray} (h : a.size ≤ maxLen ∧ b.size ≤ maxLen) : (whoOf a b).1 = (a, b) := by
  unfold whoOf
  rw [dif_pos h]
theorem may_calls2 {α : Type} (d : Kd α) (f0 f1 f2 : α → ByteArray) (f3 f4 : α → Int) (hz : d.sz = 5) (hK : ∀ {w x cs}, d.K w x cs → cs = [.string (f0 x), .string (f1 x), .string (f2 x), .int .i64 (f3 x), .int .i64 (f4 x)])
    (may : α → Bool) (wordB : ByteArray → Bool) (A1 : Option Addr) (c1 : Nat) (l : List α) (win late : Int) (A2 : Option Addr) (c2 : Nat) (ws : List ByteArray) (ser wins que con bod bas mos : Int) (W : World)
    (hR : d.C W A1 l.length l) (hRw : Kd.string.C W A2 ws.length ws) (hl : l.length ≤ 8796093022208) (hlw : ws.length ≤ 8796093022208) (hs : ∀ x ∈ l, (f0 x).size ≤ maxLen ∧ (f1 x).size ≤ maxLen)
    (hT : ∀ x ∈ l, ∀ W', Calls Tryz.prog 6 #[.agg #[.string (f0 x), .string (f1 x), .string (f2 x), .int .i64 (f3 x), .int .i64 (f4 x)]] W' fun e w' => e = .returned (.bool (may x)) ∧ Below W'.heap.size W' w')
    (hWd : ∀ x ∈ ws, ∀ W', Calls Tryz.prog 28 #[.string x] W' fun e w' => e = .returned (.bool (wordB x)) ∧ Below W'.heap.size W' w') :
    Calls Tryz.prog 8 #[.agg #[.slice A1 l.length c1, .int .i64 win, .int .i64 late, .slice A2 ws.length c2, .int .i64 ser, .int .i64 wins, .int .i64 que, .int .i64 con, .int .i64 bod, .int .i64 bas, .int .i64 mos]] W
      fun e w' => e = .returned (.int .i64 (mayR (rowsC l.length (badC f0 f1 may [] l) win late ser wins que con bod bas mos) (wordsOK wordB (decide (16 < ws.length)) none ws))) ∧ Below W.heap.size W w' := by
  have h := may_calls (⟨d, f0, f1, f2, f3, f4, fun x => whoOf (f0 x) (f1 x), may, hz, hK⟩ : TgK α) wordB ⟨A1, l.length, c1, win, late, A2, ws.length, c2, ser, wins, que, con, bod, bas, mos⟩ l ws rfl rfl W hR hRw
    (fun x hx => ⟨congrArg Prod.fst (whoOf_eq (hs x hx)), congrArg Prod.snd (whoOf_eq (hs x hx)), hT x hx⟩) hl hlw hWd
  refine Calls.mono h ?_
  rintro e w' ⟨he, hb⟩
  refine ⟨?_, hb⟩
  rw [he]
  have hb2 := anyBad_eq (⟨d, f0, f1, f2, f3, f4, fun x => whoOf (f0 x) (f1 x), may, hz, hK⟩ : TgK α) l [] (fun x hx => whoOf_eq (hs x hx))
  have hr : rst (⟨d, f0, f1, f2, f3, f4, fun x => whoOf (f0 x) (f1 x), may, hz, hK⟩ : TgK α) ⟨A1, l.length, c1, win, late, A2, ws.length, c2, ser, wins, que, con, bod, bas, mos⟩ l 0 = rowsC l.length (badC f0 f1 may [] l) win late ser wins que con bod bas mos := by
    simp only [rst, tst, rowsC, hb2, Bool.and_true]
    rfl
  rw [hr]
  rfl
theorem host_last : ∀ n : Fin 256, decide (Lib.indexByte [45, 46, 58, 91, 93] (n.val).toUInt8 ≥ 0) = (decide (n.val = 45) || (decide (n.val = 46) || (decide (n.val = 58) || (decide (n.val = 91) || decide (n.val = 93))))) := by decide +kernel
end Go.Proofs.YtedchpflcemdkaaGreat
