/- A text of this claim, pruned by a program of the session (prune.py) to what the theorem rests on. -/
import Derived.Test.YtedchpflcemdkaaQkGTgt
import Derived.Laws.MakeOwn
import Derived.Laws.OwnMore
import Derived.Lib.SliceRun
namespace Go.Proofs.Ytedchpflcemdkaa
open Go.RowKit Go.Proofs.YtedchpflcemdkaaW.PrintWords Go.Proofs.YtedchpflcemdkaaW.PrintLast Go.Proofs.YtedchpflcemdkaaW.PrintMore
set_option linter.unusedVariables false
set_option linter.unusedSimpArgs false
theorem info_tgt : (Try.prog.info? 23).map (fun i => (i.zero, i.size, i.bytes)) = some (some (.agg #[(.string ⟨#[]⟩), (.string ⟨#[]⟩), (.string ⟨#[]⟩), .int .i64 0, .int .i64 0]), 5, 64) := by kernel_rfl
theorem info_str : (Try.prog.info? 9).map (fun i => (i.zero, i.size, i.bytes)) = some (some (.string ⟨#[]⟩), 1, 16) := by kernel_rfl
theorem cloneT_calls (A : Option Addr) (c : Nat) (l : List Tgt) (w : World) (hr : kT.C w A l.length l) (hl : l.length * 64 ≤ 140737488351232) :
    Calls Try.prog 27 #[.slice A l.length c] w fun e w' => ∃ v, e = .returned v ∧ kT.R 23 w' w.heap.size (fun _ => True) v l ∧ Below w.heap.size w w' ∧ (v.ownBlock = none ↔ A = none) := by
  have q22 : ∀ (w : World) (a : Option Addr) (n c n' c' : Nat), (binOp .eql 35 (.slice a n c) (.slice none n' c')).run Try.prog w = .ok (.bool a.isNone) w := fun w a n c n' c' => Lib.run_eql_slice_nil w _ _ a n c n' c' Try.underlying35
  rcases A with _ | ad
  · have h0 : l.length = 0 := by
      rcases Nat.eq_zero_or_pos l.length with h0 | h0
      · exact h0
      · obtain ⟨ad, h, _⟩ := hr.2.2 h0
        cases h
    obtain rfl : l = [] := List.eq_nil_of_length_eq_zero h0
    go_enter Try.func27, Try.ntmps27
    go_wp2
    go_ret
    exact ⟨_, rfl, Kd.R_nil _ _ _ _ _, Below.refl _ _, by simp [Value.ownBlock]⟩
  · have hO : kT.R 23 (w.alloc (.cells #[] 23)) w.heap.size (fun _ => True) (.slice (some ⟨w.heap.size, 0, none⟩) 0 0) [] :=
      ⟨fun _ _ => trivial, [], World.ownsRow_made w #[] 0 (Nat.le_refl _) (Nat.zero_le _) (by simp), Reps.none _ _⟩
    have hB : Below w.heap.size w (w.alloc (.cells #[] 23)) := (Below.refl _ w).alloc (Nat.le_refl _) _
    have hC : kT.C (w.alloc (.cells #[] 23)) (some ad) l.length l := Kd.C_below hr hB
    go_enter Try.func27, Try.ntmps27
    go_wp2_with (at_builtin; refine Kd.R_append_rows kT (w0 := w) w.heap.size rfl _ _ 35 23 _ 64 rfl Try.underlying35 info_tgt (by rfl) (by decide) (by decide) _ [] l _ _ _ (fun _ => True) (fun _ => False) rfl rfl hO hC (fun x cs h => by rw [kT_K h]; exact kT_M x) (fun _ h => h.elim) (fun _ _ => trivial) hB ?size ?len ?_)
    case size => simp
    case len => simp; omega
    intro v1 w1 hown hb hg hob
    have hne : (v1.ownBlock = none ↔ some ad = none) := by
      rcases hob with h | ⟨b, h, _⟩
      · rw [h]; simp [Value.ownBlock]
      · rw [h]; simp
    go_wp2
    go_ret
    exact ⟨v1, rfl, by simpa using hown, hb, hne⟩
theorem cloneS_calls (A : Option Addr) (c : Nat) (l : List ByteArray) (w : World) (hr : Kd.string.C w A l.length l) (hl : l.length * 16 ≤ 140737488351232) :
    Calls Try.prog 28 #[.slice A l.length c] w fun e w' => ∃ v, e = .returned v ∧ Kd.string.R 9 w' w.heap.size (fun _ => True) v l ∧ Below w.heap.size w w' ∧ (v.ownBlock = none ↔ A = none) := by
  have q22 : ∀ (w : World) (a : Option Addr) (n c n' c' : Nat), (binOp .eql 36 (.slice a n c) (.slice none n' c')).run Try.prog w = .ok (.bool a.isNone) w := fun w a n c n' c' => Lib.run_eql_slice_nil w _ _ a n c n' c' Try.underlying36
  rcases A with _ | ad
  · have h0 : l.length = 0 := by
      rcases Nat.eq_zero_or_pos l.length with h0 | h0
      · exact h0
      · obtain ⟨ad, h, _⟩ := hr.2.2 h0
        cases h
    obtain rfl : l = [] := List.eq_nil_of_length_eq_zero h0
    go_enter Try.func28, Try.ntmps28
    go_wp2
    go_ret
    exact ⟨_, rfl, Kd.R_nil _ _ _ _ _, Below.refl _ _, by simp [Value.ownBlock]⟩
  · have hO : Kd.string.R 9 (w.alloc (.cells #[] 9)) w.heap.size (fun _ => True) (.slice (some ⟨w.heap.size, 0, none⟩) 0 0) [] :=
      ⟨fun _ _ => trivial, [], World.ownsRow_made w #[] 0 (Nat.le_refl _) (Nat.zero_le _) (by simp), Reps.none _ _⟩
    have hB : Below w.heap.size w (w.alloc (.cells #[] 9)) := (Below.refl _ w).alloc (Nat.le_refl _) _
    have hC : Kd.string.C (w.alloc (.cells #[] 9)) (some ad) l.length l := Kd.C_below hr hB
    go_enter Try.func28, Try.ntmps28
    go_wp2_with (at_builtin; refine Kd.R_append_rows Kd.string (w0 := w) w.heap.size rfl _ _ 36 9 _ 16 rfl Try.underlying36 info_str (by rfl) (by decide) (by decide) _ [] l _ _ _ (fun _ => True) (fun _ => False) rfl rfl hO hC (fun x cs h => h) (fun _ h => h.elim) (fun _ _ => trivial) hB ?size ?len ?_)
    case size => simp
    case len => simp; omega
    intro v1 w1 hown hb hg hob
    have hne : (v1.ownBlock = none ↔ some ad = none) := by
      rcases hob with h | ⟨b, h, _⟩
      · rw [h]; simp [Value.ownBlock]
      · rw [h]; simp
    go_wp2
    go_ret
    exact ⟨v1, rfl, by simpa using hown, hb, hne⟩
end Go.Proofs.Ytedchpflcemdkaa
