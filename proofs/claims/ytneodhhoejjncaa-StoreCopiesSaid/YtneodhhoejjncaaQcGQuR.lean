/- A text of this claim, pruned by a program of the session (prune.py) to what the theorem rests on. -/
import Derived.Test.YtneodhhoejjncaaProg
import Derived.Sort.QuietIn
namespace Go.Proofs.Ytneodhhoejjncaa
open Go
set_option linter.unusedVariables false
section
variable {F : Fence} {n : Nat} {P : Program} {ops : Array Oper} {C : World → Prop} {md : Region.Mode}
def undeferred (l : List Oper) : Bool := l.all fun o => match o.op with
  | .defer _ => false
  | _ => true
theorem undeferred_at {l : List Oper} (h : undeferred l = true) {o : Oper} (ho : o ∈ l) (c : _) : o.op ≠ .defer c := fun e => by
  have := List.all_eq_true.1 h o ho
  rw [e] at this
  cases this
theorem quietR_op {o : Oper} {a : Act} {K : Act → Prop} {K' : Act → World → Prop} {Q : Exit → Act → World → Prop} {w : World} (hd : ∀ c, o.op ≠ .defer c) (hw : C w) (hK : ∀ a w', C w' → K a → K' a w') (ha : o.askedIn F P a C) (hq : o.quietIn F n P a C K) : o.wpIn F n P a w K' Q := by
  obtain ⟨v, hv, hk⟩ := hq
  refine ⟨ha w hw, ?_⟩
  rw [Oper.semAt_eq _ _ _ hd]
  have hr : Oper.quietUponIn F n P C w v ((execOp a.eval o).run P w) := hv w hw
  revert hr
  cases (execOp a.eval o).run P w with
  | halt x w' => exact fun hr => hr.elim
  | ok x w' =>
    cases x with
    | value u =>
      rintro ⟨rfl, rfl⟩
      exact hK _ _ hw hk
    | skip =>
      rintro ⟨rfl, rfl⟩
      exact hK _ _ hw hk
    | enter f args =>
      rintro ⟨rfl, h1, h2⟩
      exact ⟨h1, h2.mono fun e w'' ⟨he, hc⟩ => by rw [he]; exact hK _ _ hc hk⟩
    | _ => exact fun hr => hr.elim
theorem quietR_any {K : Act → Prop} {Q : Exit → Act → World → Prop} (hd : undeferred ops.toList = true) (hQ : ∀ a w, C w → K a → Q .normal a w) :
    ∀ (fuel : Nat) (listed : Array Bool) (a : Act) (w : World), C w → wpAnyQIn F n P md ops C K fuel listed a → wpAnyIn F n P md ops Q fuel listed a w
  | 0, _, _, _, hw, h => ⟨h.1, hQ _ _ hw h.2⟩
  | fuel + 1, listed, a, w, hw, h => ⟨fun h0 => hQ _ _ hw (h.1 h0), fun i hi => by
      have hq := h.2 i hi
      unfold qOpIn at hq
      unfold wpOpIn
      cases ho : ops[i]? with
      | none =>
        rw [ho] at hq
        exact quietR_any hd hQ fuel _ a w hw hq
      | some o =>
        rw [ho] at hq
        obtain ⟨ha, hq⟩ := hq
        dsimp only at hq ⊢
        by_cases hwt : Region.wanted o (yielded ops a.tmps) = true
        · rw [if_pos hwt] at hq ⊢
          exact quietR_op (undeferred_at hd (Array.mem_toList_iff.2 (Array.mem_of_getElem? ho))) hw (fun a' w' hw' hk => quietR_any hd hQ fuel _ a' w' hw' hk) ha hq
        · rw [if_neg hwt] at hq ⊢
          exact ⟨ha w hw, quietR_any hd hQ fuel _ _ w hw hq⟩⟩
theorem wpIn_quietR {id : Nat} {Q : Exit → Act → World → Prop} {a : Act} {w : World} {l : List Oper} (hd : undeferred l = true) (hm : P.follows .mixedOrders = true) (hB : Region.lexB .any l.toArray = true)
    (h : wpQuietIn F n P l.toArray (fun w' => ∃ n, w' = w.drewN n) (fun a' => ∀ w', (∃ n, w' = w.drewN n) → Q .normal a' w') l a) : (Code.region id l.toArray true).wpIn F n P Q a w := by
  have hb := hB
  simp only [Region.lexB, Bool.and_eq_true] at hb
  have hl := wpAnyQIn_lex (F := F) (n := n) (C := fun w' => ∃ n, w' = w.drewN n) (md := .any) hb.1 l 0 (Array.replicate l.toArray.size false) a (by simp) (by simpa using hb.2) h
  exact wpIn_region_any hm (quietR_any (K := fun a' => ∀ w', (∃ n, w' = w.drewN n) → Q .normal a' w') (by simpa using hd) (fun _ w' hw' hk => hk w' hw') _ _ _ _ ⟨1, rfl⟩ (by simpa using hl))
end
end Go.Proofs.Ytneodhhoejjncaa
