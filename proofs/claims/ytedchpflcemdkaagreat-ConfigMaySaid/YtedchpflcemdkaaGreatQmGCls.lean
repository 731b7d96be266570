/- A text of this claim, pruned by a program of the session (prune.py) to what the theorem rests on. -/
import Derived.Test.YtedchpflcemdkaaGreatQmGIdx
namespace Go.Proofs.YtedchpflcemdkaaGreat
open Go.RowKit Go.Maps Go.Proofs.YtedchpflcemdkaaGreatW.PrintWords Go.Proofs.YtedchpflcemdkaaGreatW.PrintLast Go.Proofs.YtedchpflcemdkaaGreatW.PrintMore
set_option linter.unusedVariables false
set_option linter.unusedSimpArgs false
structure CfV where
  A1 : Option Addr
  n1 : Nat
  c1 : Nat
  win : Int
  late : Int
  A2 : Option Addr
  n2 : Nat
  c2 : Nat
  ser : Int
  wins : Int
  que : Int
  con : Int
  bod : Int
  bas : Int
  mos : Int
def CfV.L (v : CfV) : List Value := [.slice v.A1 v.n1 v.c1, .int .i64 v.win, .int .i64 v.late, .slice v.A2 v.n2 v.c2, .int .i64 v.ser, .int .i64 v.wins, .int .i64 v.que, .int .i64 v.con, .int .i64 v.bod, .int .i64 v.bas, .int .i64 v.mos]
def CfV.At (v : CfV) (W : World) (cb : Nat) : Prop := W.heap[cb]? = some (.cells v.L.toArray 25 (0, 0))
theorem CfV.At.cell {v : CfV} {W : World} {cb : Nat} (h : v.At W cb) (i : Nat) (u : Value) (hu : v.L[i]? = some u) : W.cell? ⟨cb, i, none⟩ = some u := by
  rw [blk_cell h i, List.getElem?_toArray]
  exact hu
theorem CfV.At.below {v : CfV} {W W' : World} {cb : Nat} (h : v.At W cb) (hb : Below W.heap.size W W') : v.At W' cb := blk_below h hb
theorem CfV.At.grown {v : CfV} {W W' : World} {cb mb : Nat} (h : v.At W cb) (hb : W.grownBy W' (some mb)) (hne : cb ≠ mb) : v.At W' cb := (hb.block cb (blk_lt h) (fun e => hne (Option.some.inj e))).trans h
def inB (a b c : Int) : Bool := decide (b ≤ a) && decide (a ≤ c)
theorem withinI_calls (a b c : Int) (W : World) : Calls Tryz.prog 13 #[.int .i64 a, .int .i64 b, .int .i64 c] W fun e w' => e = .returned (.bool (inB a b c)) ∧ Below W.heap.size W w' := by
  unfold inB
  by_cases h : b ≤ a
  · rw [decide_eq_true h, Bool.true_and]
    go_enter Tryz.func13, Tryz.ntmps13
    go_wp2_with fail
    go_ret
    exact ⟨rfl, Below.refl _ _⟩
  · rw [decide_eq_false h, Bool.false_and]
    go_enter Tryz.func13, Tryz.ntmps13
    go_wp2_with fail
    go_ret
    exact ⟨rfl, Below.refl _ _⟩
theorem withinL_calls (a b c : Int) (W : World) : Calls Tryz.prog 16 #[.int .i64 a, .int .i64 b, .int .i64 c] W fun e w' => e = .returned (.bool (inB a b c)) ∧ Below W.heap.size W w' := by
  unfold inB
  by_cases h : b ≤ a
  · rw [decide_eq_true h, Bool.true_and]
    go_enter Tryz.func16, Tryz.ntmps16
    go_wp2_with fail
    go_ret
    exact ⟨rfl, Below.refl _ _⟩
  · rw [decide_eq_false h, Bool.false_and]
    go_enter Tryz.func16, Tryz.ntmps16
    go_wp2_with fail
    go_ret
    exact ⟨rfl, Below.refl _ _⟩
set_option maxHeartbeats 1000000 in
theorem cl2 (v : CfV) (cb : Nat) (W : World) (hC : v.At W cb) : Calls Tryz.prog 20 #[.pointer (some ⟨cb, 0, none⟩)] W fun e w' => e = .returned (.bool (inB (v.n1) (1) (16))) ∧ Below W.heap.size W w' := by
  have x0 := hC.cell 0 _ rfl
  have x1 := hC.cell 1 _ rfl
  have x2 := hC.cell 2 _ rfl
  have x3 := hC.cell 3 _ rfl
  have x4 := hC.cell 4 _ rfl
  have x5 := hC.cell 5 _ rfl
  have x6 := hC.cell 6 _ rfl
  have x7 := hC.cell 7 _ rfl
  have x8 := hC.cell 8 _ rfl
  have x9 := hC.cell 9 _ rfl
  have x10 := hC.cell 10 _ rfl
  have h1 := withinI_calls (v.n1) (1) (16) W
  go_enter Tryz.func20, Tryz.ntmps20
  go_wp2_with fail
  refine h1.mono ?_
  rintro e w2 ⟨rfl, hb⟩
  have HB := Aside0.mk hb
  clear hb h1
  go_wp2_with fail
  go_ret
  exact ⟨rfl, HB.out⟩
set_option maxHeartbeats 1000000 in
theorem cl4 (v : CfV) (cb : Nat) (W : World) (hC : v.At W cb) : Calls Tryz.prog 23 #[.pointer (some ⟨cb, 0, none⟩)] W fun e w' => e = .returned (.bool (inB (v.win) (1) (1073741824) && inB (v.late) (0) (1073741824))) ∧ Below W.heap.size W w' := by
  have x0 := hC.cell 0 _ rfl
  have x1 := hC.cell 1 _ rfl
  have x2 := hC.cell 2 _ rfl
  have x3 := hC.cell 3 _ rfl
  have x4 := hC.cell 4 _ rfl
  have x5 := hC.cell 5 _ rfl
  have x6 := hC.cell 6 _ rfl
  have x7 := hC.cell 7 _ rfl
  have x8 := hC.cell 8 _ rfl
  have x9 := hC.cell 9 _ rfl
  have x10 := hC.cell 10 _ rfl
  have h1 := withinL_calls (v.win) (1) (1073741824) W
  obtain ⟨r, hr⟩ : ∃ r, inB (v.win) (1) (1073741824) = r := ⟨_, rfl⟩
  rw [hr] at h1 ⊢
  clear hr
  cases r with
  | false =>
    rw [Bool.false_and]
    go_enter Tryz.func23, Tryz.ntmps23
    go_wp2_with fail
    refine h1.mono ?_
    rintro e w2 ⟨rfl, hb⟩
    have HB := Aside0.mk hb
    clear hb h1
    go_wp2_with fail
    go_ret
    exact ⟨rfl, HB.out⟩
  | true =>
    rw [Bool.true_and]
    have HC := Aside0.mk hC
    clear hC
    go_enter Tryz.func23, Tryz.ntmps23
    go_wp2_with fail
    refine h1.mono ?_
    rintro e w2 ⟨rfl, hb⟩
    have HB := Aside0.mk hb
    have hC2 := HC.out.below hb
    clear hb h1 HC x0 x1 x2 x3 x4 x5 x6 x7 x8 x9 x10
    have x0 := hC2.cell 0 _ rfl
    have x1 := hC2.cell 1 _ rfl
    have x2 := hC2.cell 2 _ rfl
    have x3 := hC2.cell 3 _ rfl
    have x4 := hC2.cell 4 _ rfl
    have x5 := hC2.cell 5 _ rfl
    have x6 := hC2.cell 6 _ rfl
    have x7 := hC2.cell 7 _ rfl
    have x8 := hC2.cell 8 _ rfl
    have x9 := hC2.cell 9 _ rfl
    have x10 := hC2.cell 10 _ rfl
    have h2 := withinL_calls (v.late) (0) (1073741824) w2
    clear hC2
    go_wp2_with fail
    refine h2.mono ?_
    rintro e w3 ⟨rfl, hb⟩
    have HB3 := Aside0.mk (HB.out.trans (hb.mono HB.out.size))
    clear hb h2 HB
    go_wp2_with fail
    go_ret
    exact ⟨rfl, HB3.out⟩
set_option maxHeartbeats 1000000 in
theorem cl5 (v : CfV) (cb : Nat) (W : World) (hC : v.At W cb) : Calls Tryz.prog 24 #[.pointer (some ⟨cb, 0, none⟩)] W fun e w' => e = .returned (.bool (inB (v.ser) (1) (4096) && inB (v.wins) (1) (64))) ∧ Below W.heap.size W w' := by
  have x0 := hC.cell 0 _ rfl
  have x1 := hC.cell 1 _ rfl
  have x2 := hC.cell 2 _ rfl
  have x3 := hC.cell 3 _ rfl
  have x4 := hC.cell 4 _ rfl
  have x5 := hC.cell 5 _ rfl
  have x6 := hC.cell 6 _ rfl
  have x7 := hC.cell 7 _ rfl
  have x8 := hC.cell 8 _ rfl
  have x9 := hC.cell 9 _ rfl
  have x10 := hC.cell 10 _ rfl
  have h1 := withinI_calls (v.ser) (1) (4096) W
  obtain ⟨r, hr⟩ : ∃ r, inB (v.ser) (1) (4096) = r := ⟨_, rfl⟩
  rw [hr] at h1 ⊢
  clear hr
  cases r with
  | false =>
    rw [Bool.false_and]
    go_enter Tryz.func24, Tryz.ntmps24
    go_wp2_with fail
    refine h1.mono ?_
    rintro e w2 ⟨rfl, hb⟩
    have HB := Aside0.mk hb
    clear hb h1
    go_wp2_with fail
    go_ret
    exact ⟨rfl, HB.out⟩
  | true =>
    rw [Bool.true_and]
    have HC := Aside0.mk hC
    clear hC
    go_enter Tryz.func24, Tryz.ntmps24
    go_wp2_with fail
    refine h1.mono ?_
    rintro e w2 ⟨rfl, hb⟩
    have HB := Aside0.mk hb
    have hC2 := HC.out.below hb
    clear hb h1 HC x0 x1 x2 x3 x4 x5 x6 x7 x8 x9 x10
    have x0 := hC2.cell 0 _ rfl
    have x1 := hC2.cell 1 _ rfl
    have x2 := hC2.cell 2 _ rfl
    have x3 := hC2.cell 3 _ rfl
    have x4 := hC2.cell 4 _ rfl
    have x5 := hC2.cell 5 _ rfl
    have x6 := hC2.cell 6 _ rfl
    have x7 := hC2.cell 7 _ rfl
    have x8 := hC2.cell 8 _ rfl
    have x9 := hC2.cell 9 _ rfl
    have x10 := hC2.cell 10 _ rfl
    have h2 := withinI_calls (v.wins) (1) (64) w2
    clear hC2
    go_wp2_with fail
    refine h2.mono ?_
    rintro e w3 ⟨rfl, hb⟩
    have HB3 := Aside0.mk (HB.out.trans (hb.mono HB.out.size))
    clear hb h2 HB
    go_wp2_with fail
    go_ret
    exact ⟨rfl, HB3.out⟩
set_option maxHeartbeats 1000000 in
theorem cl6 (v : CfV) (cb : Nat) (W : World) (hC : v.At W cb) : Calls Tryz.prog 25 #[.pointer (some ⟨cb, 0, none⟩)] W fun e w' => e = .returned (.bool (inB (v.que) (1) (64) && inB (v.con) (v.n1) (32))) ∧ Below W.heap.size W w' := by
  have x0 := hC.cell 0 _ rfl
  have x1 := hC.cell 1 _ rfl
  have x2 := hC.cell 2 _ rfl
  have x3 := hC.cell 3 _ rfl
  have x4 := hC.cell 4 _ rfl
  have x5 := hC.cell 5 _ rfl
  have x6 := hC.cell 6 _ rfl
  have x7 := hC.cell 7 _ rfl
  have x8 := hC.cell 8 _ rfl
  have x9 := hC.cell 9 _ rfl
  have x10 := hC.cell 10 _ rfl
  have h1 := withinI_calls (v.que) (1) (64) W
  obtain ⟨r, hr⟩ : ∃ r, inB (v.que) (1) (64) = r := ⟨_, rfl⟩
  rw [hr] at h1 ⊢
  clear hr
  cases r with
  | false =>
    rw [Bool.false_and]
    go_enter Tryz.func25, Tryz.ntmps25
    go_wp2_with fail
    refine h1.mono ?_
    rintro e w2 ⟨rfl, hb⟩
    have HB := Aside0.mk hb
    clear hb h1
    go_wp2_with fail
    go_ret
    exact ⟨rfl, HB.out⟩
  | true =>
    rw [Bool.true_and]
    have HC := Aside0.mk hC
    clear hC
    go_enter Tryz.func25, Tryz.ntmps25
    go_wp2_with fail
    refine h1.mono ?_
    rintro e w2 ⟨rfl, hb⟩
    have HB := Aside0.mk hb
    have hC2 := HC.out.below hb
    clear hb h1 HC x0 x1 x2 x3 x4 x5 x6 x7 x8 x9 x10
    have x0 := hC2.cell 0 _ rfl
    have x1 := hC2.cell 1 _ rfl
    have x2 := hC2.cell 2 _ rfl
    have x3 := hC2.cell 3 _ rfl
    have x4 := hC2.cell 4 _ rfl
    have x5 := hC2.cell 5 _ rfl
    have x6 := hC2.cell 6 _ rfl
    have x7 := hC2.cell 7 _ rfl
    have x8 := hC2.cell 8 _ rfl
    have x9 := hC2.cell 9 _ rfl
    have x10 := hC2.cell 10 _ rfl
    have h2 := withinI_calls (v.con) (v.n1) (32) w2
    clear hC2
    go_wp2_with fail
    refine h2.mono ?_
    rintro e w3 ⟨rfl, hb⟩
    have HB3 := Aside0.mk (HB.out.trans (hb.mono HB.out.size))
    clear hb h2 HB
    go_wp2_with fail
    go_ret
    exact ⟨rfl, HB3.out⟩
set_option maxHeartbeats 1000000 in
theorem cl7 (v : CfV) (cb : Nat) (W : World) (hC : v.At W cb) : Calls Tryz.prog 26 #[.pointer (some ⟨cb, 0, none⟩)] W fun e w' => e = .returned (.bool (inB (v.bod) (1) (1048576))) ∧ Below W.heap.size W w' := by
  have x0 := hC.cell 0 _ rfl
  have x1 := hC.cell 1 _ rfl
  have x2 := hC.cell 2 _ rfl
  have x3 := hC.cell 3 _ rfl
  have x4 := hC.cell 4 _ rfl
  have x5 := hC.cell 5 _ rfl
  have x6 := hC.cell 6 _ rfl
  have x7 := hC.cell 7 _ rfl
  have x8 := hC.cell 8 _ rfl
  have x9 := hC.cell 9 _ rfl
  have x10 := hC.cell 10 _ rfl
  have h1 := withinI_calls (v.bod) (1) (1048576) W
  go_enter Tryz.func26, Tryz.ntmps26
  go_wp2_with fail
  refine h1.mono ?_
  rintro e w2 ⟨rfl, hb⟩
  have HB := Aside0.mk hb
  clear hb h1
  go_wp2_with fail
  go_ret
  exact ⟨rfl, HB.out⟩
set_option maxHeartbeats 1000000 in
theorem cl8 (v : CfV) (cb : Nat) (W : World) (hC : v.At W cb) : Calls Tryz.prog 27 #[.pointer (some ⟨cb, 0, none⟩)] W fun e w' => e = .returned (.bool (inB (v.bas) (1) (v.mos) && decide (v.mos ≤ 1073741824))) ∧ Below W.heap.size W w' := by
  have x0 := hC.cell 0 _ rfl
  have x1 := hC.cell 1 _ rfl
  have x2 := hC.cell 2 _ rfl
  have x3 := hC.cell 3 _ rfl
  have x4 := hC.cell 4 _ rfl
  have x5 := hC.cell 5 _ rfl
  have x6 := hC.cell 6 _ rfl
  have x7 := hC.cell 7 _ rfl
  have x8 := hC.cell 8 _ rfl
  have x9 := hC.cell 9 _ rfl
  have x10 := hC.cell 10 _ rfl
  have h1 := withinL_calls (v.bas) (1) (v.mos) W
  obtain ⟨r, hr⟩ : ∃ r, inB (v.bas) (1) (v.mos) = r := ⟨_, rfl⟩
  rw [hr] at h1 ⊢
  clear hr
  cases r with
  | false =>
    rw [Bool.false_and]
    go_enter Tryz.func27, Tryz.ntmps27
    go_wp2_with fail
    refine h1.mono ?_
    rintro e w2 ⟨rfl, hb⟩
    have HB := Aside0.mk hb
    clear hb h1
    go_wp2_with fail
    go_ret
    exact ⟨rfl, HB.out⟩
  | true =>
    rw [Bool.true_and]
    have HC := Aside0.mk hC
    clear hC
    go_enter Tryz.func27, Tryz.ntmps27
    go_wp2_with fail
    refine h1.mono ?_
    rintro e w2 ⟨rfl, hb⟩
    have HB := Aside0.mk hb
    have hC2 := HC.out.below hb
    clear hb h1 HC x0 x1 x2 x3 x4 x5 x6 x7 x8 x9 x10
    have x0 := hC2.cell 0 _ rfl
    have x1 := hC2.cell 1 _ rfl
    have x2 := hC2.cell 2 _ rfl
    have x3 := hC2.cell 3 _ rfl
    have x4 := hC2.cell 4 _ rfl
    have x5 := hC2.cell 5 _ rfl
    have x6 := hC2.cell 6 _ rfl
    have x7 := hC2.cell 7 _ rfl
    have x8 := hC2.cell 8 _ rfl
    have x9 := hC2.cell 9 _ rfl
    have x10 := hC2.cell 10 _ rfl
    clear hC2
    go_wp2_with fail
    go_ret
    exact ⟨rfl, HB.out⟩
set_option maxRecDepth 100000 in
set_option maxHeartbeats 1000000 in
theorem cl3 {α : Type} (T : TgK α) (v : CfV) (l : List α) (hn : v.n1 = l.length) (cb ab sb mb : Nat) (W : World) (hC : v.At W cb) (hA : W.cell? ⟨ab, 0, none⟩ = some (.func (.func 19) #[] #[.pointer (some ⟨sb, 0, none⟩)]))
    (hS : SeenAt W sb mb []) (hR : T.d.C W v.A1 l.length l) (hT : ∀ x ∈ l, T.Ok x) (hl : l.length ≤ 8796093022208) (hm : 0 < l.length → ∀ b o, v.A1 = some ⟨b, o, none⟩ → b ≠ mb) :
    Calls Tryz.prog 21 #[.pointer (some ⟨cb, 0, none⟩), .pointer (some ⟨ab, 0, none⟩)] W fun e w' => e = .returned (.bool (!anyBad T [] l)) ∧ W.grownBy w' (some mb) := by
  have x0 := hC.cell 0 _ rfl
  have hc := contains_calls T v.A1 v.c1 l W sb mb hS hR hT hl hm

  clear hS hR hT hC
  go_enter Tryz.func21, Tryz.ntmps21
  go_wp2_with fail
  refine hc.mono ?_
  rintro e w2 ⟨rfl, hg⟩
  have HG := Aside0.mk hg
  clear hg hc
  go_wp2_with fail
  go_ret
  exact ⟨rfl, HG.out⟩
end Go.Proofs.YtedchpflcemdkaaGreat
