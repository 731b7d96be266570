import Derived.Test.YtdgmgbcjlmighaaDoorGFBase
import Derived.Test.YtdgmgbcjlmighaaDoorGDivPrep
import Derived.Deep.LoopGhost
import Derived.Deep.DeepCutAuto
import Derived.Deep.CutBlock
import Derived.Deep.QuietTactic
import Derived.BigQuiet
/-! math/bits.Div64. -/
namespace Go.Proofs.YtdgmgbcjlmighaaDoor
open Go.RowKit Go.Proofs.YtdgmgbcjlmighaaDoorW.PrintWords Go.Proofs.YtdgmgbcjlmighaaDoorW.PrintMore Go.Proofs.YtdgmgbcjlmighaaDoor.DivArith
set_option linter.unusedVariables false
set_option linter.unusedSimpArgs false
set_option maxHeartbeats 4000000 in
set_option maxRecDepth 100000 in
theorem div_calls (hi lo y : Nat) (w : World) (hy : y < 18446744073709551616) (hh : hi < y) (hl : lo < 18446744073709551616) :
    Calls Tryd.prog 34 #[.int .u64 hi, .int .u64 lo, .int .u64 y] w fun e w' => e = .returned (.tuple #[.int .u64 (((hi * 18446744073709551616 + lo) / y : Nat) : Int), .int .u64 (((hi * 18446744073709551616 + lo) % y : Nat) : Int)]) ∧ Below w.heap.size w w' := by
  have y0 : ((y : Int) == 0) = false := by rw [beq_eq_false_iff_ne]; omega
  have yh : decide ((y : Int) ≤ (hi : Int)) = false := decide_eq_false (by omega)
  have yh2 : ¬ (y : Int) ≤ (hi : Int) := by omega
  rcases Nat.eq_zero_or_pos hi with rfl | h0
  · have n0 : ¬ (y : Int) = 0 := by omega
    have hwz : IntKind.u64.wrap ((lo : Int) / (y : Int)) = (lo : Int) / (y : Int) := by
      have := Nat.div_le_self lo y
      rw [show (lo : Int) / (y : Int) = ((lo / y : Nat) : Int) by push_cast; rfl, IntKind.wrap_u64]
      generalize lo / y = z at *
      omega
    have h0 := Aside0.mk (show (((0 * 18446744073709551616 + lo) / y : Nat) : Int) = (lo : Int) / (y : Int) ∧ (((0 * 18446744073709551616 + lo) % y : Nat) : Int) = (lo : Int) % (y : Int) by rw [Nat.zero_mul, Nat.zero_add]; exact ⟨by push_cast; rfl, by push_cast; rfl⟩)
    go_enter Tryd.func34, Tryd.ntmps34
    go_wp2
    go_quiet (fail)
    go_wp2
    go_ret2
    rw [h0.out.1, h0.out.2]
    exact ⟨rfl, below_drawn _ _ _⟩
  · have hn : ((hi : Int) == 0) = false := by rw [beq_eq_false_iff_ne]; omega
    obtain ⟨s, t, Y, H, L1, U, L2, hs, hP⟩ := prep hi lo y hy hh hl
    have hLZ := Tryd.bits_LeadingZeros64 (y : Int) w (by omega) (by omega)
    rw [Int.toNat_natCast, hs] at hLZ
    have s1 : (s : Int) ≤ 63 := by have := hP.s63; omega
    have w1 : IntKind.u64.wrap (s : Int) = (s : Int) := by rw [IntKind.wrap_u64]; omega
    have m1 : min s 64 = s := by omega
    have w2 : IntKind.u64.wrap (64 - (s : Int)) = (t : Int) := by rw [IntKind.wrap_u64]; have := hP.st; omega
    have m2 : min t 64 = t := by have := hP.st; omega
    have w3 : IntKind.u64.wrap ((y : Int) * 2 ^ s) = (Y : Int) := by rw [IntKind.wrap_u64, show (y : Int) * 2 ^ s = (Y : Int) by rw [hP.eY]; push_cast; rfl]; have := hP.Y2; omega
    have HH : H ≤ U ∧ L1 ≤ U := by have := hP.eU; omega
    have w4 : IntKind.u64.wrap ((hi : Int) * 2 ^ s) = (H : Int) := by rw [IntKind.wrap_u64, show (hi : Int) * 2 ^ s = (H : Int) by rw [hP.eH]; push_cast; rfl]; have := hP.Y2; have := hP.UY; omega
    have w5 : (lo : Int) / 2 ^ t = (L1 : Int) := by rw [hP.eL1]; push_cast; rfl
    have w6 : bits .or .u64 (H : Int) (L1 : Int) = (U : Int) := or_cast H L1 U (by have := hP.Y2; have := hP.UY; omega) (by have := hP.Y2; have := hP.UY; omega) hP.eor
    have w7 : IntKind.u64.wrap ((lo : Int) * 2 ^ s) = (L2 : Int) := by rw [show (lo : Int) * 2 ^ s = ((lo * 2 ^ s : Nat) : Int) by rw [Int.natCast_mul, Int.natCast_pow]; rfl, IntKind.wrap_u64, hP.eL2]; omega
    have hL2 : L2 < 18446744073709551616 := by rw [hP.eL2]; exact Nat.mod_lt _ (by omega)
    obtain ⟨yn1, e1⟩ : ∃ yn1, yn1 = Y / 4294967296 := ⟨_, rfl⟩
    obtain ⟨yn0, e0⟩ : ∃ yn0, yn0 = Y % 4294967296 := ⟨_, rfl⟩
    obtain ⟨un1, f1⟩ : ∃ un1, un1 = L2 / 4294967296 := ⟨_, rfl⟩
    obtain ⟨un0, f0⟩ : ∃ un0, un0 = L2 % 4294967296 := ⟨_, rfl⟩
    have w8 : (Y : Int) / 4294967296 = (yn1 : Int) := by omega
    have w9 : bits .and .u64 (Y : Int) 4294967295 = (yn0 : Int) := by rw [mask_cast Y hP.Y2, e0]
    have w10 : (L2 : Int) / 4294967296 = (un1 : Int) := by omega
    have w11 : bits .and .u64 (L2 : Int) 4294967295 = (un0 : Int) := by rw [mask_cast L2 hL2, f0]
    have hyn1 : 2147483648 ≤ yn1 ∧ yn1 < 4294967296 := by have := hP.Y1; have := hP.Y2; omega
    have n1 : ¬ (yn1 : Int) = 0 := by omega
    have HP := Aside0.mk hP
    have E := Aside0.mk (show yn1 = Y / 4294967296 ∧ yn0 = Y % 4294967296 ∧ un1 = L2 / 4294967296 ∧ un0 = L2 % 4294967296 from ⟨e1, e0, f1, f0⟩)
    have hdm := Nat.div_mul_le_self U yn1
    obtain ⟨q, hq⟩ : ∃ q, q = U / yn1 := ⟨_, rfl⟩
    obtain ⟨rh, hrh⟩ : ∃ rh, rh = U - U / yn1 * yn1 := ⟨_, rfl⟩
    have hUb : U < 18446744073709551616 := by have := hP.Y2; have := hP.UY; omega
    have hqU : q ≤ U := by rw [hq]; exact Nat.div_le_self _ _
    have w12 : IntKind.u64.wrap ((U : Int) / (yn1 : Int)) = (q : Int) := by rw [show (U : Int) / (yn1 : Int) = ((U / yn1 : Nat) : Int) by push_cast; rfl, ← hq, IntKind.wrap_u64]; omega
    have w13 : IntKind.u64.wrap ((U : Int) - IntKind.u64.wrap ((q : Int) * (yn1 : Int))) = (rh : Int) := by
      rw [show (q : Int) * (yn1 : Int) = ((U / yn1 * yn1 : Nat) : Int) by rw [hq]; push_cast; rfl, IntKind.wrap_u64, IntKind.wrap_u64]
      generalize U / yn1 * yn1 = z at *
      omega
    have hun1 : un1 < 4294967296 := by omega
    have hun0 : un0 < 4294967296 := by omega
    have hyn0 : yn0 < 4294967296 := by omega
    have hYs : Y = yn1 * 4294967296 + yn0 := by omega
    have hG : Guess U un1 yn1 yn0 q rh := by rw [hq, hrh]; exact guess_start (by omega) hun1
    have hrl : rh < 4294967296 := by rw [hrh]; have := guess_rest (u := U) (yn1 := yn1) (by omega); omega
    have hUY : U < yn1 * 4294967296 + yn0 := by rw [← hYs]; exact hP.UY
    have G := Aside0.mk hG
    have UY := Aside0.mk hUY
    have YS := Aside0.mk hYs
    clear hP hs e1 e0 f1 f0 hq hrh hdm hG hUY hYs
    go_enter Tryd.func34, Tryd.ntmps34
    go_wp2_with fail
    refine hLZ.mono ?_
    rintro e w' ⟨rfl, rfl⟩
    clear hLZ
    go_upto_block 0 with (fail)
    clear w1 w2 w3 w4 w5 w6 w7 w8 w9 w10 w11 w12 w13 m1 m2
    have HQ := Aside0.mk (fun (q : Nat) (h : q = (U * 4294967296 + un1) / (yn1 * 4294967296 + yn0)) => (show q < 4294967296 by rw [h]; exact guess_below UY.out hun1))
    go_cut [15] (fun v wx => w' = wx ∧ ∃ q : Nat, v = .int .u64 q ∧ q < 4294967296 ∧ Aside0 (q = (U * 4294967296 + un1) / (yn1 * 4294967296 + yn0)))
    case first =>
      go_wp2
      go_loop [15, 16] (fun a b => ∃ (q rh : Nat), Aside0 (Guess U un1 yn1 yn0 q rh) ∧ q < 18446744073709551616 ∧ rh < 4294967296 ∧ a = .int .u64 q ∧ b = .int .u64 rh) (fun a _ => (intOf a).toNat)
      case atStart => exact ⟨q, rh, G, by omega, by omega, rfl, rfl⟩
      case round =>
        obtain ⟨q, rh, hg, hq, hr, rfl, rfl⟩ := hrel
        by_cases hc : 4294967296 ≤ q ∨ rh * 4294967296 + un1 < q * yn0
        · have hl := guess_less hg.out UY.out (by omega) hc
          obtain ⟨h1, hg2⟩ := hl
          obtain ⟨q, rfl⟩ : ∃ p, q = p + 1 := ⟨q - 1, by omega⟩
          rw [Nat.add_sub_cancel] at hg2
          have HG2 := Aside0.mk hg2
          have HB := Aside0.mk (fun h => guess_break hg2 (by omega : 0 < yn1) UY.out (by omega) h)
          have hcc : (decide ((4294967296 : Int) ≤ (q : Int) + 1) = true ∧ (4294967296 : Int) ≤ (q : Int) + 1) ∨ (decide ((4294967296 : Int) ≤ (q : Int) + 1) = false ∧ ¬ (4294967296 : Int) ≤ (q : Int) + 1 ∧ (q + 1) * yn0 < 18446744073709551616 ∧ rh * 4294967296 + un1 < (q + 1) * yn0) := by
            rcases Nat.lt_or_ge (q + 1) 4294967296 with h | h
            · refine Or.inr ⟨decide_eq_false (by omega), by omega, ?_, by omega⟩
              have := Nat.mul_le_mul (show q + 1 ≤ 4294967295 by omega) (show yn0 ≤ 4294967295 by omega)
              omega
            · exact Or.inl ⟨decide_eq_true (by omega), by omega⟩
          clear hg2 hc hg h1
          by_cases hbr : 4294967296 ≤ rh + yn1
          · have hb1 : (4294967296 : Int) ≤ (rh : Int) + (yn1 : Int) := by omega
            have hb2 : decide ((4294967296 : Int) ≤ (rh : Int) + (yn1 : Int)) = true := decide_eq_true hb1
            have HD := Aside0.mk (HB.out hbr)
            clear HB
            rcases hcc with ⟨c1, c2⟩ | ⟨c1, c2, c3, c4⟩
            · go_wp2
              go_meet
              exact ⟨rfl, q, rfl, HQ.out _ HD.out, HD⟩
            · obtain ⟨P, hP⟩ : ∃ P, P = (q + 1) * yn0 := ⟨_, rfl⟩
              have wp : IntKind.u64.wrap (((q : Int) + 1) * (yn0 : Int)) = (P : Int) := by rw [show ((q : Int) + 1) * (yn0 : Int) = (P : Int) by rw [hP]; push_cast; rfl, IntKind.wrap_u64]; omega
              have d1 : 4294967296 * (rh : Int) + (un1 : Int) < (P : Int) := by omega
              have d2 : decide (4294967296 * (rh : Int) + (un1 : Int) < (P : Int)) = true := decide_eq_true d1
              clear hP c3 c4
              go_wp2
              go_meet
              exact ⟨rfl, q, rfl, HQ.out _ HD.out, HD⟩
          · have hb1 : ¬ (4294967296 : Int) ≤ (rh : Int) + (yn1 : Int) := by omega
            have hb2 : decide ((4294967296 : Int) ≤ (rh : Int) + (yn1 : Int)) = false := decide_eq_false hb1
            clear HB
            rcases hcc with ⟨c1, c2⟩ | ⟨c1, c2, c3, c4⟩
            · go_wp2
              go_round
              case rel => exact ⟨q, rh + yn1, HG2, by omega, by omega, rfl, rfl⟩
              case measure => simp [intOf]
            · obtain ⟨P, hP⟩ : ∃ P, P = (q + 1) * yn0 := ⟨_, rfl⟩
              have wp : IntKind.u64.wrap (((q : Int) + 1) * (yn0 : Int)) = (P : Int) := by rw [show ((q : Int) + 1) * (yn0 : Int) = (P : Int) by rw [hP]; push_cast; rfl, IntKind.wrap_u64]; omega
              have d1 : 4294967296 * (rh : Int) + (un1 : Int) < (P : Int) := by omega
              have d2 : decide (4294967296 * (rh : Int) + (un1 : Int) < (P : Int)) = true := decide_eq_true d1
              clear hP c3 c4
              go_wp2
              go_round
              case rel => exact ⟨q, rh + yn1, HG2, by omega, by omega, rfl, rfl⟩
              case measure => simp [intOf]
        · have HE := Aside0.mk (guess_end hg.out (by omega) (by omega : q * yn0 ≤ rh * 4294967296 + un1))
          have hq2 := HQ.out _ HE.out
          have c1 : ¬ (4294967296 : Int) ≤ (q : Int) := by omega
          have c2 : decide ((4294967296 : Int) ≤ (q : Int)) = false := decide_eq_false c1
          obtain ⟨P, hP⟩ : ∃ P, P = q * yn0 := ⟨_, rfl⟩
          have hP2 : P < 18446744073709551616 := by
            have := Nat.mul_le_mul (show q ≤ 4294967295 by omega) (show yn0 ≤ 4294967295 by omega)
            omega
          have wp : IntKind.u64.wrap ((q : Int) * (yn0 : Int)) = (P : Int) := by rw [show (q : Int) * (yn0 : Int) = (P : Int) by rw [hP]; push_cast; rfl, IntKind.wrap_u64]; omega
          have d1 : ¬ 4294967296 * (rh : Int) + (un1 : Int) < (P : Int) := by omega
          have d2 : decide (4294967296 * (rh : Int) + (un1 : Int) < (P : Int)) = false := decide_eq_false d1
          clear hP hc hP2
          go_wp2
          go_meet
          exact ⟨rfl, q, rfl, hq2, HE⟩
    case rest =>
      obtain ⟨rfl, q1, rfl, hq1, HQ1⟩ := hcut
      clear G HQ hqU hrl hUb
      obtain ⟨R1, hR1⟩ : ∃ R1, R1 = (U * 4294967296 + un1) % (yn1 * 4294967296 + yn0) := ⟨_, rfl⟩
      have hYY := YS.out
      have hY2 := HP.out.Y2
      have hRY : R1 < yn1 * 4294967296 + yn0 := by rw [hR1]; exact Nat.mod_lt _ (by omega)
      have hdm := Nat.div_add_mod (U * 4294967296 + un1) (yn1 * 4294967296 + yn0)
      rw [← HQ1.out, ← hR1] at hdm
      have v1 : IntKind.u64.wrap (IntKind.u64.wrap (IntKind.u64.wrap ((U : Int) * 4294967296) + (un1 : Int)) - IntKind.u64.wrap ((q1 : Int) * (Y : Int))) = (R1 : Int) := by
        rw [show (q1 : Int) * (Y : Int) = (((yn1 * 4294967296 + yn0) * q1 : Nat) : Int) by rw [← hYY, Nat.mul_comm]; exact (Int.natCast_mul q1 Y).symm]
        generalize (yn1 * 4294967296 + yn0) * q1 = z at *
        rw [IntKind.wrap_u64, IntKind.wrap_u64, IntKind.wrap_u64, IntKind.wrap_u64]
        omega
      have hdm2 := Nat.div_mul_le_self R1 yn1
      obtain ⟨q, hq⟩ : ∃ q, q = R1 / yn1 := ⟨_, rfl⟩
      obtain ⟨rh, hrh⟩ : ∃ rh, rh = R1 - R1 / yn1 * yn1 := ⟨_, rfl⟩
      have hRb : R1 < 18446744073709551616 := by omega
      have hqR : q ≤ R1 := by rw [hq]; exact Nat.div_le_self _ _
      have v2 : IntKind.u64.wrap ((R1 : Int) / (yn1 : Int)) = (q : Int) := by rw [show (R1 : Int) / (yn1 : Int) = ((R1 / yn1 : Nat) : Int) by push_cast; rfl, ← hq, IntKind.wrap_u64]; omega
      have v3 : IntKind.u64.wrap ((R1 : Int) - IntKind.u64.wrap ((q : Int) * (yn1 : Int))) = (rh : Int) := by
        rw [show (q : Int) * (yn1 : Int) = ((R1 / yn1 * yn1 : Nat) : Int) by rw [hq]; push_cast; rfl, IntKind.wrap_u64, IntKind.wrap_u64]
        generalize R1 / yn1 * yn1 = z at *
        omega
      have hGG : Guess R1 un0 yn1 yn0 q rh := by rw [hq, hrh]; exact guess_start (by omega) hun0
      have hrl : rh < 4294967296 := by rw [hrh]; have := guess_rest (u := R1) (yn1 := yn1) (by omega); omega
      have GG := Aside0.mk hGG
      have RY := Aside0.mk hRY
      have HR1 := Aside0.mk hR1
      have HQ2 := Aside0.mk (fun (q : Nat) (h : q = (R1 * 4294967296 + un0) / (yn1 * 4294967296 + yn0)) => (show q < 4294967296 by rw [h]; exact guess_below RY.out hun0))
      clear hq hrh hdm hdm2 hGG hRY hR1 hYY hY2
      go_upto_block 2 with (fail)
      clear v1 v2 v3
      go_cut [18] (fun v wx => w' = wx ∧ ∃ q : Nat, v = .int .u64 q ∧ q < 4294967296 ∧ Aside0 (q = (R1 * 4294967296 + un0) / (yn1 * 4294967296 + yn0)))
      case first =>
        go_wp2
        go_loop [18, 16] (fun a b => ∃ (q rh : Nat), Aside0 (Guess R1 un0 yn1 yn0 q rh) ∧ q < 18446744073709551616 ∧ rh < 4294967296 ∧ a = .int .u64 q ∧ b = .int .u64 rh) (fun a _ => (intOf a).toNat)
        case atStart => exact ⟨q, rh, GG, by omega, by omega, rfl, rfl⟩
        case round =>
          obtain ⟨q, rh, hg, hq, hr, rfl, rfl⟩ := hrel
          by_cases hc : 4294967296 ≤ q ∨ rh * 4294967296 + un0 < q * yn0
          · have hl := guess_less hg.out RY.out (by omega) hc
            obtain ⟨h1, hg2⟩ := hl
            obtain ⟨q, rfl⟩ : ∃ p, q = p + 1 := ⟨q - 1, by omega⟩
            rw [Nat.add_sub_cancel] at hg2
            have HG2 := Aside0.mk hg2
            have HB := Aside0.mk (fun h => guess_break hg2 (by omega : 0 < yn1) RY.out (by omega) h)
            have hcc : (decide ((4294967296 : Int) ≤ (q : Int) + 1) = true ∧ (4294967296 : Int) ≤ (q : Int) + 1) ∨ (decide ((4294967296 : Int) ≤ (q : Int) + 1) = false ∧ ¬ (4294967296 : Int) ≤ (q : Int) + 1 ∧ (q + 1) * yn0 < 18446744073709551616 ∧ rh * 4294967296 + un0 < (q + 1) * yn0) := by
              rcases Nat.lt_or_ge (q + 1) 4294967296 with h | h
              · refine Or.inr ⟨decide_eq_false (by omega), by omega, ?_, by omega⟩
                have := Nat.mul_le_mul (show q + 1 ≤ 4294967295 by omega) (show yn0 ≤ 4294967295 by omega)
                omega
              · exact Or.inl ⟨decide_eq_true (by omega), by omega⟩
            clear hg2 hc hg h1
            by_cases hbr : 4294967296 ≤ rh + yn1
            · have hb1 : (4294967296 : Int) ≤ (rh : Int) + (yn1 : Int) := by omega
              have hb2 : decide ((4294967296 : Int) ≤ (rh : Int) + (yn1 : Int)) = true := decide_eq_true hb1
              have HD := Aside0.mk (HB.out hbr)
              clear HB
              rcases hcc with ⟨c1, c2⟩ | ⟨c1, c2, c3, c4⟩
              · go_wp2
                go_meet
                exact ⟨rfl, q, rfl, HQ2.out _ HD.out, HD⟩
              · obtain ⟨P, hP⟩ : ∃ P, P = (q + 1) * yn0 := ⟨_, rfl⟩
                have wp : IntKind.u64.wrap (((q : Int) + 1) * (yn0 : Int)) = (P : Int) := by rw [show ((q : Int) + 1) * (yn0 : Int) = (P : Int) by rw [hP]; push_cast; rfl, IntKind.wrap_u64]; omega
                have d1 : 4294967296 * (rh : Int) + (un0 : Int) < (P : Int) := by omega
                have d2 : decide (4294967296 * (rh : Int) + (un0 : Int) < (P : Int)) = true := decide_eq_true d1
                clear hP c3 c4
                go_wp2
                go_meet
                exact ⟨rfl, q, rfl, HQ2.out _ HD.out, HD⟩
            · have hb1 : ¬ (4294967296 : Int) ≤ (rh : Int) + (yn1 : Int) := by omega
              have hb2 : decide ((4294967296 : Int) ≤ (rh : Int) + (yn1 : Int)) = false := decide_eq_false hb1
              clear HB
              rcases hcc with ⟨c1, c2⟩ | ⟨c1, c2, c3, c4⟩
              · go_wp2
                go_round
                case rel => exact ⟨q, rh + yn1, HG2, by omega, by omega, rfl, rfl⟩
                case measure => simp [intOf]
              · obtain ⟨P, hP⟩ : ∃ P, P = (q + 1) * yn0 := ⟨_, rfl⟩
                have wp : IntKind.u64.wrap (((q : Int) + 1) * (yn0 : Int)) = (P : Int) := by rw [show ((q : Int) + 1) * (yn0 : Int) = (P : Int) by rw [hP]; push_cast; rfl, IntKind.wrap_u64]; omega
                have d1 : 4294967296 * (rh : Int) + (un0 : Int) < (P : Int) := by omega
                have d2 : decide (4294967296 * (rh : Int) + (un0 : Int) < (P : Int)) = true := decide_eq_true d1
                clear hP c3 c4
                go_wp2
                go_round
                case rel => exact ⟨q, rh + yn1, HG2, by omega, by omega, rfl, rfl⟩
                case measure => simp [intOf]
          · have HE := Aside0.mk (guess_end hg.out (by omega) (by omega : q * yn0 ≤ rh * 4294967296 + un0))
            have hq2 := HQ2.out _ HE.out
            have c1 : ¬ (4294967296 : Int) ≤ (q : Int) := by omega
            have c2 : decide ((4294967296 : Int) ≤ (q : Int)) = false := decide_eq_false c1
            obtain ⟨P, hP⟩ : ∃ P, P = q * yn0 := ⟨_, rfl⟩
            have hP2 : P < 18446744073709551616 := by
              have := Nat.mul_le_mul (show q ≤ 4294967295 by omega) (show yn0 ≤ 4294967295 by omega)
              omega
            have wp : IntKind.u64.wrap ((q : Int) * (yn0 : Int)) = (P : Int) := by rw [show (q : Int) * (yn0 : Int) = (P : Int) by rw [hP]; push_cast; rfl, IntKind.wrap_u64]; omega
            have d1 : ¬ 4294967296 * (rh : Int) + (un0 : Int) < (P : Int) := by omega
            have d2 : decide (4294967296 * (rh : Int) + (un0 : Int) < (P : Int)) = false := decide_eq_false d1
            clear hP hc hP2
            go_wp2
            go_meet
            exact ⟨rfl, q, rfl, hq2, HE⟩
      case rest =>
        obtain ⟨rfl, q0, rfl, hq0, HQ0⟩ := hcut
        clear GG HQ2 hqR hrl
        obtain ⟨R2, hR2⟩ : ∃ R2, R2 = (R1 * 4294967296 + un0) % (yn1 * 4294967296 + yn0) := ⟨_, rfl⟩
        have hYY := YS.out
        have hY2 := HP.out.Y2
        have hRY2 : R2 < yn1 * 4294967296 + yn0 := by rw [hR2]; exact Nat.mod_lt _ (by omega)
        have hdm := Nat.div_add_mod (R1 * 4294967296 + un0) (yn1 * 4294967296 + yn0)
        rw [← HQ0.out, ← hR2] at hdm
        have u1 : IntKind.u64.wrap (IntKind.u64.wrap (IntKind.u64.wrap ((R1 : Int) * 4294967296) + (un0 : Int)) - IntKind.u64.wrap ((q0 : Int) * (Y : Int))) = (R2 : Int) := by
          rw [show (q0 : Int) * (Y : Int) = (((yn1 * 4294967296 + yn0) * q0 : Nat) : Int) by rw [← hYY, Nat.mul_comm]; exact (Int.natCast_mul q0 Y).symm]
          generalize (yn1 * 4294967296 + yn0) * q0 = z at *
          rw [IntKind.wrap_u64, IntKind.wrap_u64, IntKind.wrap_u64, IntKind.wrap_u64]
          omega
        clear hdm
        have hF := two_digits (u := U) (n1 := un1) (n0 := un0) (q1 := q1) (q0 := q0) (r := R2) (by omega : 0 < yn1 * 4294967296 + yn0) HQ1.out (by rw [← HR1.out]; exact HQ0.out) (by rw [← HR1.out]; exact hR2)
        have hnum : (U * 4294967296 + un1) * 4294967296 + un0 = (hi * 18446744073709551616 + lo) * 2 ^ s := by
          rw [HP.out.num]
          have := E.out
          omega
        rw [hnum, ← hYY, HP.out.eY] at hF
        have HF := Aside0.mk (unshift (by omega : 0 < y) hF)
        obtain ⟨Z, hZ⟩ : ∃ Z, Z = R2 / 2 ^ s := ⟨_, rfl⟩
        rw [← hZ] at HF
        have u2 : (R2 : Int) / 2 ^ s = (Z : Int) := by rw [hZ]; push_cast; rfl
        have m1 : min s 64 = s := by omega
        have hFs := Aside0.mk (show (((hi * 18446744073709551616 + lo) / y : Nat) : Int) = (q1 : Int) * 4294967296 + (q0 : Int) ∧ (((hi * 18446744073709551616 + lo) % y : Nat) : Int) = (Z : Int) by rw [HF.out.1, HF.out.2]; exact ⟨by rw [Int.natCast_add, Int.natCast_mul]; rfl, rfl⟩)
        clear hR2 hYY hY2 hRY2 hF hnum hZ HF
        go_wp2
        go_ret2
        rw [hFs.out.1, hFs.out.2]
        exact ⟨rfl, Below.refl _ _⟩
end Go.Proofs.YtdgmgbcjlmighaaDoor
