/- A text of this claim, pruned by a program of the session (prune.py) to what the theorem rests on. -/
import Derived.Test.YtcikjeiebpmmcaaQbPureRboBnd
namespace Go.Proofs.Ytcikjeiebpmmcaa
open Go.RowKit Go.Proofs.YtcikjeiebpmmcaaW.PrintWords Go.Proofs.Ytcikjeiebpmmcaa.PRbo Go.Proofs.Ytcikjeiebpmmcaa.PureRbo
set_option linter.unusedVariables false
set_option linter.unusedSimpArgs false
def MoreC (s : ByteArray) (n : Int) (r : ByteArray) : Prop := ∀ W, Calls Try.prog 5 #[.string s, .int .i64 n] W fun e w' => e = .returned (.string r) ∧ Below W.heap.size W w'
def MatchA (s t : ByteArray) (l : List ByteArray) (r : Bool) : Prop := ∀ W, Calls Try.prog 4 #[.string s, .string t] W fun e w' => ∃ A c, e = .returned (.tuple #[.slice A l.length c, .bool r]) ∧ Kd.C Kd.string w' A l.length l ∧ Below W.heap.size W w'
def FillA (s : ByteArray) (r : Bool) : Prop := ∀ W, Calls Try.prog 6 #[.string s, .slice none 0 0] W fun e w' => ∃ x, e = .returned (.tuple #[.string x, .bool r]) ∧ Below W.heap.size W w'
abbrev Rl := S30
def ApplyA (l : List Rl) (s : ByteArray) (r : Bool) (e0 : Int) : Prop := ∀ A c W, SH W → Kd.C k30 W A l.length l → l.length ≤ c → Calls Try.prog 7 #[.slice A l.length c, .string s] W fun e w' => ∃ x, e = .returned (.tuple #[.string x, .bool r, .int .i64 e0]) ∧ Below W.heap.size W w'
def rule1 : Rl := ⟨3, ⟨#[97]⟩, ⟨#[42]⟩, ⟨#[36, 49, 36, 49]⟩, ⟨#[97]⟩⟩
def rule2 : Rl := ⟨3, ⟨#[97]⟩, ⟨#[42]⟩, ⟨#[]⟩, ⟨#[95, 95, 110, 97, 109, 101, 95, 95]⟩⟩
def rule0 : Rl := ⟨0, ⟨#[]⟩, ⟨#[]⟩, ⟨#[]⟩, ⟨#[]⟩⟩
def ruleL (x : Rl) : List Value := [.int .i64 x.f0, .string x.f1, .string x.f2, .string x.f3, .string x.f4]
theorem rule_C {W : World} {q : Nat} {x : Rl} (h : W.heap[q]? = some (.cells (ruleL x).toArray 30 (0, 0))) : Kd.C k30 W (some ⟨q, 0, none⟩) 1 [x] := by
  refine ⟨rfl, by simp, fun _ => ⟨⟨q, 0, none⟩, rfl, fun j p hj => ?_⟩⟩
  match j, hj with
  | 0, hj =>
    obtain rfl : x = p := by simpa using hj
    refine ⟨ruleL x, rfl, ⟨[.int .i64 x.f0], _, rfl, rfl, [.string x.f1], _, rfl, rfl, [.string x.f2], _, rfl, rfl, [.string x.f3], _, rfl, rfl, rfl⟩, fun i u hu => ?_⟩
    have h2 : (ruleL x).toArray[i]? = some u := by rw [← Array.getElem?_toList]; exact hu
    have h3 := (blk_cell h i).trans h2
    rw [show (⟨q, 0, none⟩ : Addr).add (0 * k30.sz + i) = ⟨q, i, none⟩ by by_cases hi : i = 0 <;> simp [Addr.add, hi]]
    exact h3
  | j + 1, hj => simp at hj
set_option maxRecDepth 100000 in
set_option maxHeartbeats 8000000 in
theorem bounds_walk (p18 t18 s10 a24 a25 x12 x13 : ByteArray) (w : World) (hSH : SH w)
    (m1 : MoreC ⟨#[42, 45]⟩ 9 p18) (m2 : MoreC ⟨#[97, 45]⟩ 9 t18) (m3 : MoreC ⟨#[42]⟩ 10 s10) (m4 : MoreC ⟨#[97]⟩ 1024 a24) (m5 : MoreC ⟨#[97]⟩ 1025 a25) (m6 : MoreC ⟨#[120]⟩ 512 x12) (m7 : MoreC ⟨#[120]⟩ 513 x13)
    (q1 : MatchA p18 t18 (List.replicate 9 ⟨#[97]⟩) true) (q2 : MatchA s10 ⟨#[97]⟩ [] false) (q3 : MatchA a24 a24 [] true) (q4 : MatchA a25 a25 [] false) (f1 : FillA a24 true) (f2 : FillA a25 false)
    (z1 : x12.size = 512) (z2 : x13.size = 513)
    (y1 : ApplyA [rule1] ((⟨#[109, 123, 97, 61, 34]⟩ : ByteArray) ++ x12 ++ ⟨#[34, 125]⟩) true 0) (y2 : ApplyA [rule1] ((⟨#[109, 123, 97, 61, 34]⟩ : ByteArray) ++ x13 ++ ⟨#[34, 125]⟩) false 5) (y3 : ApplyA [rule2] ⟨#[109]⟩ false 5)
    (d1 : ∀ W, Calls Try.prog 8 #[.slice none 0 0] W fun e w' => e = .returned (.bool true) ∧ Below W.heap.size W w')
    (d2 : ∀ W q, W.heap[q]? = some (.cells (ruleL rule0).toArray 30 (0, 0)) → Calls Try.prog 8 #[.slice (some ⟨q, 0, none⟩) 1 1] W fun e w' => e = .returned (.bool false) ∧ Below W.heap.size W w')
    (d3 : ∀ W, SH W → Calls Try.prog 9 #[] W fun e w' => e = .returned (.bool true) ∧ Below W.heap.size W w') :
    Calls Try.prog 3 #[] w fun e w' => e = .returned (.bool true) ∧ Below w.heap.size w w' := by
  have M1 := Aside0.mk m1
  have M2 := Aside0.mk m2
  have M3 := Aside0.mk m3
  have M4 := Aside0.mk m4
  have M5 := Aside0.mk m5
  have M6 := Aside0.mk m6
  have M7 := Aside0.mk m7
  have Q1 := Aside0.mk q1
  have Q2 := Aside0.mk q2
  have Q3 := Aside0.mk q3
  have Q4 := Aside0.mk q4
  have F1 := Aside0.mk f1
  have F2 := Aside0.mk f2
  have Y1 := Aside0.mk y1
  have Y2 := Aside0.mk y2
  have Y3 := Aside0.mk y3
  have HSH := Aside0.mk hSH
  have D1 := Aside0.mk d1
  have D2 := Aside0.mk d2
  have D3 := Aside0.mk d3
  clear m1 m2 m3 m4 m5 m6 m7 q1 q2 q3 q4 f1 f2 y1 y2 y3 hSH d1 d2 d3
  go_enter Try.func3, Try.ntmps3
  go_wp2_with fail
  refine (M1.out _).mono ?_
  rintro e w1 ⟨rfl, b1⟩
  go_wp2_with fail
  refine (M2.out _).mono ?_
  rintro e w2 ⟨rfl, b2⟩
  have B2 := Aside0.mk (b1.trans (b2.mono b1.size))
  clear b1 b2
  go_wp2_with fail
  refine (Q1.out _).mono ?_
  rintro e w3 ⟨A9, c9, rfl, hC9, b3⟩
  have B3 := Aside0.mk (B2.out.trans (b3.mono B2.out.size))
  obtain ⟨g9, o9, rfl, hg9, hcc9⟩ := C_at hC9 (by simp) (show 0 < Kd.string.sz by decide)
  obtain ⟨c, _, hK, hc⟩ := hcc9 8 ⟨#[97]⟩ rfl
  have n3 : w3.cell? ⟨g9, o9 + 8, none⟩ = some (.string ⟨#[97]⟩) := by
    obtain rfl : c = [.string ⟨#[97]⟩] := hK
    exact hc 0 _ rfl
  have l3 := hg9
  rw [List.length_replicate]
  clear hC9 hcc9 hK hc b3 B2 hg9
  go_wp2_with fail
  refine (M3.out _).mono ?_
  rintro e w4 ⟨rfl, b4⟩
  have B4 := Aside0.mk (B3.out.trans (b4.mono B3.out.size))
  have n4 : w4.cell? ⟨g9, o9 + 8, none⟩ = some (.string ⟨#[97]⟩) := (b4.cell (p := ⟨g9, o9 + 8, none⟩) l3).trans n3
  have l4 : g9 < w4.heap.size := Nat.lt_of_lt_of_le l3 b4.size
  clear b4 B3 n3 l3
  go_wp2_with fail
  refine (Q2.out _).mono ?_
  rintro e w5 ⟨A5, c5, rfl, _, b5⟩
  have B5 := Aside0.mk (B4.out.trans (b5.mono B4.out.size))
  have n5 : w5.cell? ⟨g9, o9 + 8, none⟩ = some (.string ⟨#[97]⟩) := (b5.cell (p := ⟨g9, o9 + 8, none⟩) l4).trans n4
  have l5 : g9 < w5.heap.size := Nat.lt_of_lt_of_le l4 b5.size
  clear b5 B4 n4 l4
  go_wp2_with fail
  refine (M4.out _).mono ?_
  rintro e w6 ⟨rfl, b6⟩
  have B6 := Aside0.mk (B5.out.trans (b6.mono B5.out.size))
  have n6 : w6.cell? ⟨g9, o9 + 8, none⟩ = some (.string ⟨#[97]⟩) := (b6.cell (p := ⟨g9, o9 + 8, none⟩) l5).trans n5
  have l6 : g9 < w6.heap.size := Nat.lt_of_lt_of_le l5 b6.size
  clear b6 B5 n5 l5
  go_wp2_with fail
  refine (M4.out _).mono ?_
  rintro e w7 ⟨rfl, b7⟩
  have B7 := Aside0.mk (B6.out.trans (b7.mono B6.out.size))
  have n7 : w7.cell? ⟨g9, o9 + 8, none⟩ = some (.string ⟨#[97]⟩) := (b7.cell (p := ⟨g9, o9 + 8, none⟩) l6).trans n6
  have l7 : g9 < w7.heap.size := Nat.lt_of_lt_of_le l6 b7.size
  clear b7 B6 n6 l6
  go_wp2_with fail
  refine (Q3.out _).mono ?_
  rintro e w8 ⟨A8, c8, rfl, _, b8⟩
  have B8 := Aside0.mk (B7.out.trans (b8.mono B7.out.size))
  have n8 : w8.cell? ⟨g9, o9 + 8, none⟩ = some (.string ⟨#[97]⟩) := (b8.cell (p := ⟨g9, o9 + 8, none⟩) l7).trans n7
  have l8 : g9 < w8.heap.size := Nat.lt_of_lt_of_le l7 b8.size
  clear b8 B7 n7 l7
  go_wp2_with fail
  refine (M5.out _).mono ?_
  rintro e w9 ⟨rfl, b9⟩
  have B9 := Aside0.mk (B8.out.trans (b9.mono B8.out.size))
  have n9 : w9.cell? ⟨g9, o9 + 8, none⟩ = some (.string ⟨#[97]⟩) := (b9.cell (p := ⟨g9, o9 + 8, none⟩) l8).trans n8
  have l9 : g9 < w9.heap.size := Nat.lt_of_lt_of_le l8 b9.size
  clear b9 B8 n8 l8
  go_wp2_with fail
  refine (M5.out _).mono ?_
  rintro e w10 ⟨rfl, b10⟩
  have B10 := Aside0.mk (B9.out.trans (b10.mono B9.out.size))
  have n10 : w10.cell? ⟨g9, o9 + 8, none⟩ = some (.string ⟨#[97]⟩) := (b10.cell (p := ⟨g9, o9 + 8, none⟩) l9).trans n9
  have l10 : g9 < w10.heap.size := Nat.lt_of_lt_of_le l9 b10.size
  clear b10 B9 n9 l9
  go_wp2_with fail
  refine (Q4.out _).mono ?_
  rintro e w11 ⟨A11, c11, rfl, _, b11⟩
  have B11 := Aside0.mk (B10.out.trans (b11.mono B10.out.size))
  have n11 : w11.cell? ⟨g9, o9 + 8, none⟩ = some (.string ⟨#[97]⟩) := (b11.cell (p := ⟨g9, o9 + 8, none⟩) l10).trans n10
  have l11 : g9 < w11.heap.size := Nat.lt_of_lt_of_le l10 b11.size
  clear b11 B10 n10 l10
  go_wp2_with fail
  refine (M4.out _).mono ?_
  rintro e w12 ⟨rfl, b12⟩
  have B12 := Aside0.mk (B11.out.trans (b12.mono B11.out.size))
  have n12 : w12.cell? ⟨g9, o9 + 8, none⟩ = some (.string ⟨#[97]⟩) := (b12.cell (p := ⟨g9, o9 + 8, none⟩) l11).trans n11
  have l12 : g9 < w12.heap.size := Nat.lt_of_lt_of_le l11 b12.size
  clear b12 B11 n11 l11
  go_wp2_with fail
  refine (F1.out _).mono ?_
  rintro e w13 ⟨x13f, rfl, b13⟩
  have B13 := Aside0.mk (B12.out.trans (b13.mono B12.out.size))
  have n13 : w13.cell? ⟨g9, o9 + 8, none⟩ = some (.string ⟨#[97]⟩) := (b13.cell (p := ⟨g9, o9 + 8, none⟩) l12).trans n12
  have l13 : g9 < w13.heap.size := Nat.lt_of_lt_of_le l12 b13.size
  clear b13 B12 n12 l12
  go_wp2_with fail
  refine (M5.out _).mono ?_
  rintro e w14 ⟨rfl, b14⟩
  have B14 := Aside0.mk (B13.out.trans (b14.mono B13.out.size))
  have n14 : w14.cell? ⟨g9, o9 + 8, none⟩ = some (.string ⟨#[97]⟩) := (b14.cell (p := ⟨g9, o9 + 8, none⟩) l13).trans n13
  have l14 : g9 < w14.heap.size := Nat.lt_of_lt_of_le l13 b14.size
  clear b14 B13 n13 l13
  go_wp2_with fail
  refine (F2.out _).mono ?_
  rintro e w15 ⟨x15f, rfl, b15⟩
  have B15 := Aside0.mk (B14.out.trans (b15.mono B14.out.size))
  have n15 : w15.cell? ⟨g9, o9 + 8, none⟩ = some (.string ⟨#[97]⟩) := (b15.cell (p := ⟨g9, o9 + 8, none⟩) l14).trans n14
  have l15 : g9 < w15.heap.size := Nat.lt_of_lt_of_le l14 b15.size
  clear b15 B14 n14 l14
  go_wp2_with fail
  have bk := blk_new w15 (.cells #[.int .i64 3, .string ⟨#[97]⟩, .string ⟨#[42]⟩, .string ⟨#[36, 49, 36, 49]⟩, .string ⟨#[97]⟩] 30)
  have B16 := Aside0.mk (B15.out.trans ((Below.refl _ w15).alloc (Nat.le_refl _) (.cells #[.int .i64 3, .string ⟨#[97]⟩, .string ⟨#[42]⟩, .string ⟨#[36, 49, 36, 49]⟩, .string ⟨#[97]⟩] 30) |>.mono B15.out.size))
  have n16 : (w15.alloc (.cells #[.int .i64 3, .string ⟨#[97]⟩, .string ⟨#[42]⟩, .string ⟨#[36, 49, 36, 49]⟩, .string ⟨#[97]⟩] 30)).cell? ⟨g9, o9 + 8, none⟩ = some (.string ⟨#[97]⟩) := ((Below.refl w15.heap.size w15).alloc (Nat.le_refl _) _ |>.cell (p := ⟨g9, o9 + 8, none⟩) l15).trans n15
  have l16 : g9 < (w15.alloc (.cells #[.int .i64 3, .string ⟨#[97]⟩, .string ⟨#[42]⟩, .string ⟨#[36, 49, 36, 49]⟩, .string ⟨#[97]⟩] 30)).heap.size := by simp; omega
  have lk : w15.heap.size < (w15.alloc (.cells #[.int .i64 3, .string ⟨#[97]⟩, .string ⟨#[42]⟩, .string ⟨#[36, 49, 36, 49]⟩, .string ⟨#[97]⟩] 30)).heap.size := by simp
  generalize w15.heap.size = kb at *
  generalize (w15.alloc (.cells #[.int .i64 3, .string ⟨#[97]⟩, .string ⟨#[42]⟩, .string ⟨#[36, 49, 36, 49]⟩, .string ⟨#[97]⟩] 30)) = w16 at *
  have k0 : w16.cell? ⟨kb, 0, none⟩ = some (.int .i64 3) := (blk_cell bk 0).trans rfl
  have k1 : w16.cell? ⟨kb, 1, none⟩ = some (.string ⟨#[97]⟩) := (blk_cell bk 1).trans rfl
  have k2 : w16.cell? ⟨kb, 2, none⟩ = some (.string ⟨#[42]⟩) := (blk_cell bk 2).trans rfl
  have k3 : w16.cell? ⟨kb, 3, none⟩ = some (.string ⟨#[36, 49, 36, 49]⟩) := (blk_cell bk 3).trans rfl
  have k4 : w16.cell? ⟨kb, 4, none⟩ = some (.string ⟨#[97]⟩) := (blk_cell bk 4).trans rfl
  have BK := Aside0.mk bk
  clear bk n15 l15 B15
  have hc17 : ∀ W, Below w16.heap.size w16 W → Calls Try.prog 5 #[.string ⟨#[120]⟩, .int .i64 512] W fun e w' => e = .returned (.string x12) ∧ (w'.cell? ⟨kb, 0, none⟩ = some (.int .i64 3) ∧ w'.cell? ⟨kb, 1, none⟩ = some (.string ⟨#[97]⟩) ∧ w'.cell? ⟨kb, 2, none⟩ = some (.string ⟨#[42]⟩) ∧ w'.cell? ⟨kb, 3, none⟩ = some (.string ⟨#[36, 49, 36, 49]⟩) ∧ w'.cell? ⟨kb, 4, none⟩ = some (.string ⟨#[97]⟩)) ∧ Aside0 (Below W.heap.size W w' ∧ Below w16.heap.size w16 w') := fun W hW =>
    (M6.out W).mono fun e w' ⟨he, hb⟩ => by
      have hb2 := hW.trans (hb.mono hW.size)
      exact ⟨he, ⟨(hb2.cell (p := ⟨kb, 0, none⟩) lk).trans k0, (hb2.cell (p := ⟨kb, 1, none⟩) lk).trans k1, (hb2.cell (p := ⟨kb, 2, none⟩) lk).trans k2, (hb2.cell (p := ⟨kb, 3, none⟩) lk).trans k3, (hb2.cell (p := ⟨kb, 4, none⟩) lk).trans k4⟩, ⟨hb, hb2⟩⟩
  have hy17 : ∀ W q, Below w16.heap.size w16 W → W.heap[q]? = some (.cells (ruleL rule1).toArray 30 (0, 0)) → Calls Try.prog 7 #[.slice (some ⟨q, 0, none⟩) 1 1, .string ((⟨#[109, 123, 97, 61, 34]⟩ : ByteArray) ++ x12 ++ ⟨#[34, 125]⟩)] W fun e w' => ∃ y, e = .returned (.tuple #[.string y, .bool true, .int .i64 0]) ∧ (w'.cell? ⟨kb, 0, none⟩ = some (.int .i64 3) ∧ w'.cell? ⟨kb, 1, none⟩ = some (.string ⟨#[97]⟩) ∧ w'.cell? ⟨kb, 2, none⟩ = some (.string ⟨#[42]⟩) ∧ w'.cell? ⟨kb, 3, none⟩ = some (.string ⟨#[36, 49, 36, 49]⟩) ∧ w'.cell? ⟨kb, 4, none⟩ = some (.string ⟨#[97]⟩)) ∧ Aside0 (Below w16.heap.size w16 w') := fun W q hW hq =>
    (Y1.out (some ⟨q, 0, none⟩) 1 W (HSH.out.below ((B16.out).trans (hW.mono B16.out.size))) (rule_C hq) (Nat.le_refl _)).mono fun e w' ⟨y, he, hb⟩ => by
      have hb2 := hW.trans (hb.mono hW.size)
      exact ⟨y, he, ⟨(hb2.cell (p := ⟨kb, 0, none⟩) lk).trans k0, (hb2.cell (p := ⟨kb, 1, none⟩) lk).trans k1, (hb2.cell (p := ⟨kb, 2, none⟩) lk).trans k2, (hb2.cell (p := ⟨kb, 3, none⟩) lk).trans k3, (hb2.cell (p := ⟨kb, 4, none⟩) lk).trans k4⟩, ⟨hb2⟩⟩
  have zz17 : (⟨#[109, 123, 97, 61, 34]⟩ : ByteArray).size = 5 := rfl
  have zy17 : (⟨#[34, 125]⟩ : ByteArray).size = 2 := rfl
  go_region_held3 (fun w' => w'.cell? ⟨kb, 0, none⟩ = some (.int .i64 3) ∧ w'.cell? ⟨kb, 1, none⟩ = some (.string ⟨#[97]⟩) ∧ w'.cell? ⟨kb, 2, none⟩ = some (.string ⟨#[42]⟩) ∧ w'.cell? ⟨kb, 3, none⟩ = some (.string ⟨#[36, 49, 36, 49]⟩) ∧ w'.cell? ⟨kb, 4, none⟩ = some (.string ⟨#[97]⟩)) (first | go_keep)
    (first
      | (go_at_call 5; refine (hc17 _ (by repeat (first | apply below_alloc | apply pw_below_drewN | apply below_drew1 | exact Below.refl _ _))).mono ?_; rintro e w17 ⟨rfl, ⟨k0, k1, k2, k3, k4⟩, HB17⟩)
      | (go_at_call 7; refine (hy17 _ _ HB17.out.2 ((HB17.out.1.block _ (by simp)).trans (blk_new w16 (.cells (ruleL rule1).toArray 30)))).mono ?_; rintro e w18 ⟨y18, rfl, ⟨k0, k1, k2, k3, k4⟩, HB18⟩)
      | (go_at_call 7; refine (hy17 _ _ (below_alloc HB17.out.2 _) (blk_new w17 (.cells (ruleL rule1).toArray 30))).mono ?_; rintro e w18 ⟨y18, rfl, ⟨k0, k1, k2, k3, k4⟩, HB18⟩)
      | (go_at_call 7; trace_state; sorry))
  all_goals (
    have B18 := Aside0.mk (B16.out.trans (HB18.out.mono B16.out.size))
    have n18 : w18.cell? ⟨g9, o9 + 8, none⟩ = some (.string ⟨#[97]⟩) := (HB18.out.cell (p := ⟨g9, o9 + 8, none⟩) l16).trans n16
    have l18 : g9 < w18.heap.size := Nat.lt_of_lt_of_le l16 HB18.out.size
    have lk18 : kb < w18.heap.size := Nat.lt_of_lt_of_le lk HB18.out.size
    clear HB17 HB18 B16 n16 l16 lk BK hc17 hy17
    have lk := lk18
    clear lk18
    go_wp2_with fail
    have hc19 : ∀ W, Below w18.heap.size w18 W → Calls Try.prog 5 #[.string ⟨#[120]⟩, .int .i64 513] W fun e w' => e = .returned (.string x13) ∧ (w'.cell? ⟨kb, 0, none⟩ = some (.int .i64 3) ∧ w'.cell? ⟨kb, 1, none⟩ = some (.string ⟨#[97]⟩) ∧ w'.cell? ⟨kb, 2, none⟩ = some (.string ⟨#[42]⟩) ∧ w'.cell? ⟨kb, 3, none⟩ = some (.string ⟨#[36, 49, 36, 49]⟩) ∧ w'.cell? ⟨kb, 4, none⟩ = some (.string ⟨#[97]⟩)) ∧ Aside0 (Below W.heap.size W w' ∧ Below w18.heap.size w18 w') := fun W hW =>
      (M7.out W).mono fun e w' ⟨he, hb⟩ => by
        have hb2 := hW.trans (hb.mono hW.size)
        exact ⟨he, ⟨(hb2.cell (p := ⟨kb, 0, none⟩) lk).trans k0, (hb2.cell (p := ⟨kb, 1, none⟩) lk).trans k1, (hb2.cell (p := ⟨kb, 2, none⟩) lk).trans k2, (hb2.cell (p := ⟨kb, 3, none⟩) lk).trans k3, (hb2.cell (p := ⟨kb, 4, none⟩) lk).trans k4⟩, ⟨hb, hb2⟩⟩
    have hy19 : ∀ W q, Below w18.heap.size w18 W → W.heap[q]? = some (.cells (ruleL rule1).toArray 30 (0, 0)) → Calls Try.prog 7 #[.slice (some ⟨q, 0, none⟩) 1 1, .string ((⟨#[109, 123, 97, 61, 34]⟩ : ByteArray) ++ x13 ++ ⟨#[34, 125]⟩)] W fun e w' => ∃ y, e = .returned (.tuple #[.string y, .bool false, .int .i64 5]) ∧ (w'.cell? ⟨kb, 0, none⟩ = some (.int .i64 3) ∧ w'.cell? ⟨kb, 1, none⟩ = some (.string ⟨#[97]⟩) ∧ w'.cell? ⟨kb, 2, none⟩ = some (.string ⟨#[42]⟩) ∧ w'.cell? ⟨kb, 3, none⟩ = some (.string ⟨#[36, 49, 36, 49]⟩) ∧ w'.cell? ⟨kb, 4, none⟩ = some (.string ⟨#[97]⟩)) ∧ Aside0 (Below w18.heap.size w18 w') := fun W q hW hq =>
      (Y2.out (some ⟨q, 0, none⟩) 1 W (HSH.out.below ((B18.out).trans (hW.mono B18.out.size))) (rule_C hq) (Nat.le_refl _)).mono fun e w' ⟨y, he, hb⟩ => by
        have hb2 := hW.trans (hb.mono hW.size)
        exact ⟨y, he, ⟨(hb2.cell (p := ⟨kb, 0, none⟩) lk).trans k0, (hb2.cell (p := ⟨kb, 1, none⟩) lk).trans k1, (hb2.cell (p := ⟨kb, 2, none⟩) lk).trans k2, (hb2.cell (p := ⟨kb, 3, none⟩) lk).trans k3, (hb2.cell (p := ⟨kb, 4, none⟩) lk).trans k4⟩, ⟨hb2⟩⟩
    have zz19 : (⟨#[109, 123, 97, 61, 34]⟩ : ByteArray).size = 5 := rfl
    have zy19 : (⟨#[34, 125]⟩ : ByteArray).size = 2 := rfl
    go_region_held3 (fun w' => w'.cell? ⟨kb, 0, none⟩ = some (.int .i64 3) ∧ w'.cell? ⟨kb, 1, none⟩ = some (.string ⟨#[97]⟩) ∧ w'.cell? ⟨kb, 2, none⟩ = some (.string ⟨#[42]⟩) ∧ w'.cell? ⟨kb, 3, none⟩ = some (.string ⟨#[36, 49, 36, 49]⟩) ∧ w'.cell? ⟨kb, 4, none⟩ = some (.string ⟨#[97]⟩)) (first | go_keep)
      (first
        | (go_at_call 5; refine (hc19 _ (by repeat (first | apply below_alloc | apply pw_below_drewN | apply below_drew1 | exact Below.refl _ _))).mono ?_; rintro e w19 ⟨rfl, ⟨k0, k1, k2, k3, k4⟩, HB19⟩)
        | (go_at_call 7; refine (hy19 _ _ HB19.out.2 ((HB19.out.1.block _ (by simp)).trans (blk_new w18 (.cells (ruleL rule1).toArray 30)))).mono ?_; rintro e w20 ⟨y20, rfl, ⟨k0, k1, k2, k3, k4⟩, HB20⟩)
        | (go_at_call 7; refine (hy19 _ _ (below_alloc HB19.out.2 _) (blk_new w19 (.cells (ruleL rule1).toArray 30))).mono ?_; rintro e w20 ⟨y20, rfl, ⟨k0, k1, k2, k3, k4⟩, HB20⟩)
        | (go_at_call 7; trace_state; sorry))
    all_goals go_wp2_with fail
    all_goals (
      have B20 := Aside0.mk (B18.out.trans (HB20.out.mono B18.out.size))
      have n20 : w20.cell? ⟨g9, o9 + 8, none⟩ = some (.string ⟨#[97]⟩) := (HB20.out.cell (p := ⟨g9, o9 + 8, none⟩) l18).trans n18
      have l20 : g9 < w20.heap.size := Nat.lt_of_lt_of_le l18 HB20.out.size
      clear HB20 HB19 B18 n18 l18 lk hc19 hy19 k0 k1 k2 k3 k4
      refine (Y3.out (some ⟨w20.heap.size, 0, none⟩) 1 _ (HSH.out.below (B20.out.trans (((Below.refl _ w20).alloc (Nat.le_refl _) _).mono B20.out.size))) (rule_C (blk_new w20 (.cells (ruleL rule2).toArray 30))) (Nat.le_refl _)).mono ?_
      rintro e w21 ⟨y21, rfl, hb21⟩
      have hb21' : Below w20.heap.size w20 w21 := ((Below.refl _ w20).alloc (Nat.le_refl _) (.cells (ruleL rule2).toArray 30)).trans (hb21.mono (by simp))
      have B21 := Aside0.mk (B20.out.trans (hb21'.mono B20.out.size))
      have n21 : w21.cell? ⟨g9, o9 + 8, none⟩ = some (.string ⟨#[97]⟩) := (hb21'.cell (p := ⟨g9, o9 + 8, none⟩) l20).trans n20
      have l21 : g9 < w21.heap.size := Nat.lt_of_lt_of_le l20 hb21'.size
      clear hb21 hb21' B20 n20 l20
      go_wp2_with fail
      refine (D1.out _).mono ?_
      rintro e w22 ⟨rfl, hb22⟩
      have B22 := Aside0.mk (B21.out.trans (hb22.mono B21.out.size))
      clear hb22 B21 n21 l21
      go_wp2_with fail
      refine (D2.out _ _ (blk_new w22 (.cells (ruleL rule0).toArray 30))).mono ?_
      rintro e w23 ⟨rfl, hb23⟩
      have B23 := Aside0.mk (B22.out.trans ((((Below.refl _ w22).alloc (Nat.le_refl _) (.cells (ruleL rule0).toArray 30)).trans (hb23.mono (by simp))).mono B22.out.size))
      clear hb23 B22
      go_wp2_with fail
      refine (D3.out _ (HSH.out.below B23.out)).mono ?_
      rintro e w24 ⟨rfl, hb24⟩
      have B24 := Aside0.mk (B23.out.trans (hb24.mono B23.out.size))
      clear hb24 B23
      go_wp2_with fail
      go_ret
      exact ⟨rfl, B24.out⟩))
theorem more_c {s r : ByteArray} {n : Int} (h : odometerlaw29_more.f KK s n = some r) : MoreC s n r := fun W => (odometerlaw29_more.calls KK s n r W h).mono fun e w' ⟨he, hd⟩ => ⟨he, hd.below⟩
theorem match_c {s t : ByteArray} {l : List ByteArray} {r : Bool} (h : relabel_Match.f KK s t = some (l, r)) : MatchA s t l r := fun W => (relabel_Match.calls KK s t l r W h).mono fun e w' ⟨v, he, hR, hb⟩ => by
  obtain ⟨A, c, hv, hle, hC⟩ := Kd.R_reads hR
  exact ⟨A, c, by rw [he, hv], hC, hb⟩
theorem fill_c {s x : ByteArray} {r : Bool} (h : relabel_Fill.f s [] = some (x, r)) : FillA s r := fun W => (relabel_Fill.calls s none 0 [] x r W ⟨rfl, by simp, fun hn => absurd hn (by simp)⟩ (Nat.le_refl _) h).mono fun e w' ⟨he, hb⟩ => ⟨x, he, hb⟩
theorem apply_c {l : List Rl} {s x : ByteArray} {r : Bool} {e0 : Int} (h : relabel_Apply.f KK l s = some (x, r, e0)) : ApplyA l s r e0 := fun A c W hS hC hc => (relabel_Apply.calls KK A c l s x r e0 W hS hC hc h).mono fun e w' ⟨he, hb⟩ => ⟨x, he, hb⟩
theorem bounds_calls (w : World) (hSH : SH w) : Calls Try.prog 3 #[] w fun e w' => e = .returned (.bool true) ∧ Below w.heap.size w w' :=
  bounds_walk P18 T18 (rep 42 10) (rep 97 1024) (rep 97 1025) (rep 120 512) (rep 120 513) w hSH
    (more_c more_p) (more_c more_t) (more_c (more_f 42 10 (by omega))) (more_c (more_f 97 1024 (by omega))) (more_c (more_f 97 1025 (by omega))) (more_c (more_f 120 512 (by omega))) (more_c (more_f 120 513 (by omega)))
    (match_c match9) (match_c match10) (match_c (match_rep 1024 (by omega) (by omega))) (match_c (match_rep 1025 (by omega) (by omega))) (fill_c (fill_f 1024 (by omega))) (fill_c (fill_f 1025 (by omega))) (rep_size _ _) (rep_size _ _)
    (apply_c ((apply_r1 512 (by omega) (by omega)).trans (if_pos (by omega)))) (apply_c ((apply_r1 513 (by omega) (by omega)).trans (if_neg (by omega)))) (apply_c apply_r2)
    (fun W => relabel_May.calls KK none 0 [] true W ⟨rfl, by simp, fun hn => absurd hn (by simp)⟩ (Nat.le_refl _) may_nil)
    (fun W q hq => relabel_May.calls KK (some ⟨q, 0, none⟩) 1 [rule0] false W (rule_C hq) (Nat.le_refl _) may_r0)
    (fun W hS => odometerlaw29_known.calls KK true W hS known_KK)
def odometerlaw29_RelabelBounds.f (_ : Nat) : Option Bool := some true
theorem odometerlaw29_RelabelBounds.calls (kk : Nat) (r : Bool) (w : World) (hSH : SH w) (h : odometerlaw29_RelabelBounds.f kk = some r) : Calls Try.prog 3 #[] w fun e w' => e = .returned (.bool r) ∧ Below w.heap.size w w' := by
  obtain rfl := Option.some.inj h
  exact bounds_calls w hSH
theorem PureBounds : ∃ k, odometerlaw29_RelabelBounds.f k = some true := ⟨0, rfl⟩
end Go.Proofs.Ytcikjeiebpmmcaa
