import Derived.Test.YtapfpnfdpcgpaaaGDel
/-! label.Only, out of the contracts of Parse and Name. -/
namespace Go.Proofs.Ytapfpnfdpcgpaaa
open Go.RowKit Go.Proofs.YtapfpnfdpcgpaaaW.PrintWords Go.Proofs.YtapfpnfdpcgpaaaW.PrintLast Go.Proofs.YtapfpnfdpcgpaaaW.PrintMore Go.Sort Go.Shelf
set_option linter.unusedVariables false
set_option linter.unusedSimpArgs false
theorem only_eg : ∀ args w, (callFunc 47 args).run Try.prog w = .ok (.enter 47 args) w := enters_of Try.func47 (by kernel_rfl) rfl
theorem only_calls {α : Type} (d : Kd α) (nm vl : α → ByteArray) (hz : d.sz = 2) (hK1 : ∀ {w x c}, d.K w x c → c = encL nm vl x) (hM1 : ∀ {w base ok x c}, d.M w base ok x c → c = encL nm vl x) (hM2 : ∀ w base ok x, d.M w base ok x (encL nm vl x))
    (a0 : ByteArray) (A1 : Option Addr) (c1 : Nat) (l1 : List ByteArray) (w : World) (hr1 : Kd.C Kd.string w A1 l1.length l1) (m : ByteArray) (ls : List α) (er : Int) (out : ByteArray) (hls : ls.length ≤ 1099511627776)
    (hP : ∀ W, Below w.heap.size w W → Calls Try.prog 22 #[.string a0] W fun e w' => ∃ v, e = .returned (.tuple #[.string m, v, .int .i64 er]) ∧ d.R 45 w' W.heap.size (fun _ => True) v ls ∧ Below W.heap.size W w')
    (hN : er = 0 → ∀ W A c, d.C W A (ls.filter fun x => Lib.containsS l1 (nm x)).length (ls.filter fun x => Lib.containsS l1 (nm x)) → (ls.filter fun x => Lib.containsS l1 (nm x)).length ≤ c →
      Calls Try.prog 19 #[.string m, .slice A (ls.filter fun x => Lib.containsS l1 (nm x)).length c] W fun e w' => (∃ q, e = .returned (.tuple #[.string out, .int .i64 q])) ∧ Below W.heap.size W w') :
    Calls Try.prog 29 #[.string a0, .slice A1 l1.length c1] w fun e w' => e = .returned (.string (if er = 0 then out else ⟨#[]⟩)) ∧ Below w.heap.size w w' := by
  by_cases h0 : er = 0
  · have hN' := hN h0
    rw [if_pos h0]
    subst h0
    have hb0 : Below w.heap.size w (w.alloc (.cells #[.slice A1 l1.length c1] 46)) := (Below.refl _ w).alloc (Nat.le_refl _) _
    go_enter Try.func29, Try.ntmps29
    go_wp2_with fail
    refine (hP _ hb0).mono ?_
    rintro e w1 ⟨v, rfl, hR, hB1⟩
    have hbl : (w.alloc (.cells #[.slice A1 l1.length c1] 46)).heap[w.heap.size]? = some (.cells #[.slice A1 l1.length c1] 46 (0, 0)) := blk_new w (.cells #[.slice A1 l1.length c1] 46)
    have hsz : (w.alloc (.cells #[.slice A1 l1.length c1] 46)).heap.size = w.heap.size + 1 := by simp
    have hp : ∀ (W : World) (x : α), Below (w.alloc (.cells #[.slice A1 l1.length c1] 46)).heap.size w1 W → Calls Try.prog 47 (#[.agg #[.string (nm x), .string (vl x)]] ++ #[.pointer (some ⟨w.heap.size, 0, none⟩)]) W fun e w' => e = .returned (.bool (!Lib.containsS l1 (nm x))) ∧ Below W.heap.size W w' := by
      intro W x hW
      have h1 : W.heap[w.heap.size]? = some (.cells #[.slice A1 l1.length c1] 46 (0, 0)) := ((hW.block _ (by omega)).trans (hB1.block _ (by omega))).trans hbl
      have hbW : Below w.heap.size w W := (hb0.trans (hB1.mono (by omega))).trans (hW.mono (by omega))
      exact only_cl (nm x) (vl x) w.heap.size A1 c1 l1 W ((blk_cell h1 0).trans rfl) (Kd.C_below hr1 hbW)
    have hdel := delete_calls d nm vl hz hK1 hM1 hM2 47 only_eg (fun x => !Lib.containsS l1 (nm x)) #[.pointer (some ⟨w.heap.size, 0, none⟩)] v ls w1 _ hR hB1.size hls hp
    simp only [Bool.not_not] at hdel
    have HN := Aside0.mk hN'
    have HB1 := Aside0.mk hB1
    have HB0 := Aside0.mk hb0
    have HS := Aside0.mk hsz
    clear hp hbl hr1 hN hN' hP hsz hB1 hb0
    generalize (ls.filter fun x => Lib.containsS l1 (nm x)) = fs at *
    go_wp2_with fail
    refine hdel.mono ?_
    rintro e w2 ⟨v2, rfl, hR2, hB2⟩
    obtain ⟨A2, c2, rfl, hc2, hC2⟩ := Kd.R_reads hR2
    have hN2 := HN.out w2 A2 c2 hC2 hc2
    have HB2 := Aside0.mk hB2
    clear hdel hR hR2 hC2 hB2
    go_wp2_with fail
    refine hN2.mono ?_
    rintro e w3 ⟨⟨q, rfl⟩, hB3⟩
    go_wp2
    go_ret
    have e1 := HS.out
    have e2 := HB1.out.size
    exact ⟨rfl, ((HB0.out.trans (HB1.out.mono (by omega))).trans (HB2.out.mono (by omega))).trans (hB3.mono (by have := HB2.out.size; omega))⟩
  · rw [if_neg h0]
    have hb0 : Below w.heap.size w (w.alloc (.cells #[.slice A1 l1.length c1] 46)) := (Below.refl _ w).alloc (Nat.le_refl _) _
    have hne : (er == 0) = false := by simpa using h0
    go_enter Try.func29, Try.ntmps29
    go_wp2_with fail
    refine (hP _ hb0).mono ?_
    rintro e w1 ⟨v, rfl, hR, hB1⟩
    go_wp2
    go_ret
    exact ⟨rfl, hb0.trans (hB1.mono hb0.size)⟩
end Go.Proofs.Ytapfpnfdpcgpaaa
