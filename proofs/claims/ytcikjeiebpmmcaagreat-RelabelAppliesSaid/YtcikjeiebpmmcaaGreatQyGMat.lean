/- Pruned. -/
import Derived.Test.YtcikjeiebpmmcaaGreatQyGDel
import Derived.Deep.DeepCutAuto
import Derived.Deep.CutBlock
import Derived.Deep.RegionHeld3
namespace Go.Proofs.YtcikjeiebpmmcaaGreat
open Go.RowKit Go.Proofs.YtcikjeiebpmmcaaGreatW.PrintWords Go.Proofs.YtcikjeiebpmmcaaGreatW.PrintLast Go.Proofs.YtcikjeiebpmmcaaGreatW.PrintMore Go.Sort Go.Shelf
attribute [local go_sem] max2_int max_two
set_option linter.unusedVariables false
set_option linter.unusedSimpArgs false
section
variable {β : Type} (st : List β → Int → Option Bool) (sz : Nat)
def findF (p : List β) : Nat → Nat → Option Nat
  | 0, a => some a
  | n + 1, a => (st p (a : Int)).bind fun b => if b = true then some a else findF p n (a + 1)
def restF (text : ByteArray) : List (List β) → Nat → List ByteArray → Option (List ByteArray × Bool)
  | [], _, took => some (took, true)
  | p :: r, a, took => (findF st p (text.size + 1 - (if r = [] then max a (text.size - p.length) else a)) (if r = [] then max a (text.size - p.length) else a)).bind fun a2 =>
      if text.size < a2 then some ([], false) else restF text r (a2 + p.length) (took ++ [text.extract a a2])
def matchF (text : ByteArray) (ps : List (List β)) (ok : Bool) : Option (List ByteArray × Bool) :=
  if ok = false then some ([], false) else match ps with
    | [] => none
    | p0 :: r => (st p0 0).bind fun b => if b = false then some ([], false) else if r = [] ∧ p0.length ≠ text.size then some ([], false) else restF st text r p0.length []
end
theorem restF_nil {β : Type} (st : List β → Int → Option Bool) (text : ByteArray) (a : Nat) (took : List ByteArray) : restF st text [] a took = some (took, true) := rfl
theorem info_text : (Tryz.prog.info? 9).map (fun i => (i.zero, i.size, i.bytes)) = some (some (.string ⟨#[]⟩), 1, 16) := by kernel_rfl
theorem info_pieces : (Tryz.prog.info? 63).map (fun i => (i.zero, i.size, i.bytes)) = some (some (.slice none 0 0), 1, 24) := by kernel_rfl
theorem findF_mono {β : Type} {st st' : List β → Int → Option Bool} (hs : ∀ p a r, st p a = some r → st' p a = some r) (p : List β) : ∀ (n a r : Nat), findF st p n a = some r → findF st' p n a = some r
  | 0, a, r, h => h
  | n + 1, a, r, h => by
    unfold findF at h ⊢
    obtain ⟨b, hb, h⟩ := Option.bind_eq_some_iff.1 h
    rw [hs _ _ _ hb, Option.bind_some]
    cases b with
    | true => exact h
    | false =>
      rw [if_neg (by simp)] at h ⊢
      exact findF_mono hs p n (a + 1) r h
theorem restF_mono {β : Type} {st st' : List β → Int → Option Bool} (hs : ∀ p a r, st p a = some r → st' p a = some r) (text : ByteArray) : ∀ (ps : List (List β)) (a : Nat) (took : List ByteArray) (r : List ByteArray × Bool), restF st text ps a took = some r → restF st' text ps a took = some r
  | [], _, _, _, h => h
  | p :: ps, a, took, r, h => by
    unfold restF at h ⊢
    obtain ⟨a2, ha, h⟩ := Option.bind_eq_some_iff.1 h
    rw [findF_mono hs p _ _ _ ha, Option.bind_some]
    split
    · rename_i hlt
      rw [if_pos hlt] at h
      exact h
    · rename_i hlt
      rw [if_neg hlt] at h
      exact restF_mono hs text ps _ _ r h
theorem matchF_mono {β : Type} {st st' : List β → Int → Option Bool} (hs : ∀ p a r, st p a = some r → st' p a = some r) (text : ByteArray) (ps : List (List β)) (ok : Bool) (r : List ByteArray × Bool) (h : matchF st text ps ok = some r) : matchF st' text ps ok = some r := by
  unfold matchF at h ⊢
  cases ok with
  | false => exact h
  | true =>
    rw [if_neg (by simp)] at h ⊢
    cases ps with
    | nil => cases h
    | cons p0 rs =>
      obtain ⟨b, hb, h⟩ := Option.bind_eq_some_iff.1 h
      show ((st' p0 0).bind _) = _
      rw [hs _ _ _ hb, Option.bind_some]
      cases b with
      | false => exact h
      | true =>
        rw [if_neg (by simp)] at h ⊢
        split
        · rename_i hc
          rw [if_pos hc] at h
          exact h
        · rename_i hc
          rw [if_neg hc] at h
          exact restF_mono hs text rs _ _ r h
theorem rows_at {β : Type} {kp : Kd β} {e : Nat} {w : World} {A : Option Addr} {n : Nat} {xs : List (List β)} (h : (Kd.slice e kp).C w A n xs) (hn : 0 < n) :
    ∃ b off, A = some ⟨b, off, none⟩ ∧ b < w.heap.size ∧ ∀ j (hj : j < xs.length), ∃ Aj cj, w.cell? ⟨b, off + j, none⟩ = some (.slice Aj xs[j].length cj) ∧ xs[j].length ≤ cj ∧ kp.C w Aj xs[j].length xs[j] := by
  obtain ⟨b, off, e1, hb, hc⟩ := C_at h hn Nat.one_pos
  refine ⟨b, off, e1, hb, fun j hj => ?_⟩
  obtain ⟨c, _, ⟨Aj, cj, rfl, h1, h2⟩, h3⟩ := hc j xs[j] (List.getElem?_eq_getElem hj)
  have := h3 0 _ rfl
  refine ⟨Aj, cj, ?_, h1, h2⟩
  rw [show (Kd.slice e kp).sz = 1 from rfl, Nat.mul_one, Nat.add_zero] at this
  exact this
set_option maxHeartbeats 4000000 in
set_option maxRecDepth 100000 in
theorem match_calls {β : Type} (kp : Kd β) (st : List β → Int → Option Bool) (pat text : ByteArray) (ps : List (List β)) (ok : Bool) (w : World)
    (hP : ∀ W, Calls Tryz.prog 27 #[.string pat] W fun e w' => ∃ A c, e = .returned (.tuple #[.slice A ps.length c, .bool ok]) ∧ ps.length ≤ c ∧ (Kd.slice 103 kp).C w' A ps.length ps ∧ Below W.heap.size W w')
    (hS : ∀ p (a : Int) b W A c, st p a = some b → kp.C W A p.length p → p.length ≤ c → Calls Tryz.prog 28 #[.slice A p.length c, .string text, .int .i64 a] W fun e w' => e = .returned (.bool b) ∧ Below W.heap.size W w')
    (hts : text.size ≤ 1099511627776) (hps : ∀ p ∈ ps, p.length ≤ 1099511627776) (hpl : ps.length ≤ 1099511627776) (r : List ByteArray) (b : Bool) (h : matchF st text ps ok = some (r, b)) :
    Calls Tryz.prog 11 #[.string pat, .string text] w fun e w' => ∃ v, e = .returned (.tuple #[v, .bool b]) ∧ Kd.R Kd.string 9 w' w.heap.size (fun _ => True) v r ∧ Below w.heap.size w w' := by
  unfold matchF at h
  cases ok with
  | false =>
    rw [if_pos rfl] at h
    cases h
    have HP := hP w
    clear hP hS
    go_enter Tryz.func11, Tryz.ntmps11
    go_wp2_with fail
    refine HP.mono ?_
    rintro e w1 ⟨A, c, rfl, _, _, hB⟩
    go_wp2
    go_ret2
    exact ⟨_, rfl, Kd.R_nil _ _ _ _ _, hB⟩
  | true =>
    rw [if_neg (by simp)] at h
    rcases ps with _ | ⟨p0, rs⟩
    · cases h
    obtain ⟨b0, hb0, h⟩ := Option.bind_eq_some_iff.1 h
    have HP := hP w
    clear hP
    have hp0 := hps p0 (by simp)
    have hlen : (p0 :: rs).length = rs.length + 1 := rfl
    rw [hlen] at HP hpl
    go_enter Tryz.func11, Tryz.ntmps11
    go_wp2_with fail
    refine HP.mono ?_
    rintro e w1 ⟨A, c, rfl, hc, hC, hB⟩
    clear HP
    obtain ⟨bl, off, rfl, hbl, hel⟩ := rows_at hC (by omega)
    obtain ⟨A0, c0, g0, hc0, hC0⟩ := hel 0 (by simp)
    rw [Nat.add_zero, List.getElem_cons_zero] at g0
    rw [List.getElem_cons_zero] at hc0 hC0
    have hS0 := hS p0 0 b0 w1 A0 c0 hb0 hC0 hc0
    have hn1 : (1 : Int) ≤ (rs.length : Int) + 1 := by omega
    have HC := Aside0.mk hC
    have HEL := Aside0.mk hel
    have HB := Aside0.mk hB
    clear hC hel hB hlen
    cases b0 with
    | false =>
      rw [if_pos rfl] at h
      cases h
      go_wp2_with fail
      refine hS0.mono ?_
      rintro e w2 ⟨rfl, hB2⟩
      go_wp2
      go_ret2
      exact ⟨_, rfl, Kd.R_nil _ _ _ _ _, HB.out.trans (hB2.mono HB.out.size)⟩
    | true =>
      rw [if_neg (by simp)] at h
      obtain ⟨i0, hi0, _, hsz, _⟩ := info_parts info_pieces
      have hcut := cut_from (P := Tryz.prog) 59 63 .i64 Tryz.underlying59 hi0 1 hsz (some ⟨bl, off, none⟩) (rs.length + 1) c 1 (by omega) (by omega)
      clear hi0 hsz
      rcases Nat.eq_zero_or_pos rs.length with hz0 | hn0
      · have hnil : rs = [] := List.eq_nil_of_length_eq_zero hz0
        have hq1 : ((rs.length : Int) + 1 == 1) = true := by rw [hz0]; rfl
        rw [hnil] at h
        clear hnil
        by_cases hpe : p0.length = text.size
        · rw [if_neg (by simp [hpe]), restF_nil] at h
          cases h
          have hne : ((p0.length : Int) != (text.size : Int)) = false := by simp [hpe]
          generalize (if c = (1 : Int).toNat then (some ⟨bl, off, none⟩ : Option Addr) else (some ⟨bl, off, none⟩ : Option Addr).map (·.add ((1 : Int).toNat * 1))) = A1 at hcut
          clear hpe
          go_wp2_with fail
          refine hS0.mono ?_
          rintro e w2 ⟨rfl, hB2⟩
          have g2 : w2.cell? ⟨bl, off, none⟩ = some (.slice A0 p0.length c0) := (hB2.cell (p := ⟨bl, off, none⟩) hbl).trans g0
          go_wp2
          all_goals
            refine wp_loop_rounds 1 ?_
            rw [rounds_succ]
            go_wp2
            go_ret2
            exact ⟨_, rfl, Kd.R_nil _ _ _ _ _, HB.out.trans (hB2.mono HB.out.size)⟩
        · rw [if_pos ⟨rfl, hpe⟩] at h
          cases h
          have hne : ((p0.length : Int) != (text.size : Int)) = true := by
            rw [bne_iff_ne]
            omega
          clear hcut
          go_wp2_with fail
          refine hS0.mono ?_
          rintro e w2 ⟨rfl, hB2⟩
          have g2 : w2.cell? ⟨bl, off, none⟩ = some (.slice A0 p0.length c0) := (hB2.cell (p := ⟨bl, off, none⟩) hbl).trans g0
          go_wp2
          go_ret2
          exact ⟨_, rfl, Kd.R_nil _ _ _ _ _, HB.out.trans (hB2.mono HB.out.size)⟩
      · have hq1 : ((rs.length : Int) + 1 == 1) = false := by rw [beq_eq_false_iff_ne]; omega
        have hnn : rs ≠ [] := fun e => by rw [e] at hn0; exact absurd hn0 (by simp)
        rw [if_neg (fun e => hnn e.1)] at h
        have hc2 : ¬ c = (1 : Int).toNat := by
          show ¬ c = 1
          omega
        rw [if_neg hc2] at hcut
        simp only [Option.map_some, add_none, show (1 : Int).toNat = 1 from rfl, Nat.mul_one] at hcut
        have hrsl : ∀ p ∈ rs, p.length ≤ 1099511627776 := fun p hp => hps p (by simp [hp])
        clear hc2 hps hnn
        rw [show rs.length + 1 - 1 = rs.length by omega] at hcut
        have H := Aside0.mk h
        have HS := Aside0.mk hS
        have HC1 := Aside0.mk hc
        clear h hc hS
        go_wp2_with fail
        refine hS0.mono ?_
        rintro e w2 ⟨rfl, hB2⟩
        have g2 : w2.cell? ⟨bl, off, none⟩ = some (.slice A0 p0.length c0) := (hB2.cell (p := ⟨bl, off, none⟩) hbl).trans g0
        go_wp2
        clear hS0 hC0 hc0 g0 g2 hq1
        go_loopw [8, 9, 49] (fun v8 v9 v49 wr => ∃ (i a : Nat) (took : List ByteArray), i ≤ rs.length ∧ a ≤ 4398046511104 ∧ v8 = .int .i64 a ∧ v49 = .int .i64 i ∧ took.length ≤ i ∧ Aside0 (Kd.R Kd.string 9 wr w1.heap.size (fun _ => True) v9 took) ∧ Aside0 (Below w1.heap.size w1 wr) ∧ Aside0 (restF st text (rs.drop i) a took = some (r, b))) (fun _ _ v49 _ => rs.length - (intOf v49).toNat)
        case atStart => exact ⟨0, p0.length, [], Nat.zero_le _, by omega, by go_num, by go_num, Nat.le_refl _, ⟨Kd.R_nil _ _ _ _ _⟩, ⟨hB2⟩, H⟩
        case round =>
          clear H
          obtain ⟨i, a, took, hi, ha, rfl, rfl, hti, HR, HB1, H⟩ := hrel
          by_cases hlt : i < rs.length
          · have hlti : (i : Int) < (rs.length : Int) := by omega
            obtain ⟨Aj, cj, gj, hcj, hCj⟩ := HEL.out (i + 1) (by simp; omega)
            rw [List.getElem_cons_succ] at gj hcj hCj
            have hpj := hrsl rs[i] (List.getElem_mem hlt)
            have hh := H.out
            rw [List.drop_eq_getElem_cons hlt] at hh
            unfold restF at hh
            have hdrop : rs.drop (i + 1) = [] ↔ i + 1 = rs.length := by rw [List.drop_eq_nil_iff]; omega
            have gjr : wr.cell? ⟨bl, off + 1 + i, none⟩ = some (.slice Aj rs[i].length cj) := by
              have := (HB1.out.cell (p := ⟨bl, off + (i + 1), none⟩) hbl).trans gj
              rwa [show off + (i + 1) = off + 1 + i by omega] at this
            generalize rs[i] = pj at *
            have h53 : ((i : Int) == (rs.length : Int) + 1 - 2) = decide (i + 1 = rs.length) := by
              rw [Bool.eq_iff_iff, beq_iff_eq, decide_eq_true_eq]
              omega
            obtain ⟨a1, ha1⟩ : ∃ a1, a1 = (if rs.drop (i + 1) = [] then max a (text.size - pj.length) else a) := ⟨_, rfl⟩
            rw [← ha1] at hh
            have haa : a ≤ a1 ∧ a1 ≤ 4398046511104 := by
              rw [ha1]
              split <;> omega
            obtain ⟨a3, hf, hh⟩ := Option.bind_eq_some_iff.1 hh
            have HA1 := Aside0.mk ha1
            have HF := Aside0.mk hf
            have HH := Aside0.mk hh
            have HCJ := Aside0.mk hCj
            have HDR := Aside0.mk hdrop
            clear ha1 hf hh hCj H gj hdrop
            go_upto_if 59 with (fail)
            go_cut [8] (fun v8 wc => v8 = .int .i64 a1 ∧ Aside0 (wc = wr))
            case first =>
              by_cases hla : i + 1 = rs.length
              · have h54 : decide (i + 1 = rs.length) = true := decide_eq_true hla
                have e1 := HA1.out
                rw [if_pos (HDR.out.2 hla)] at e1
                clear h53
                by_cases hmx : a < text.size - pj.length
                · have hmi : (a : Int) < (text.size : Int) - (pj.length : Int) := by omega
                  have e2 := Aside0.mk (show (a1 : Int) = (text.size : Int) - (pj.length : Int) by omega)
                  clear e1
                  go_wp2
                  go_meet
                  case rel => exact ⟨by rw [e2.out], ⟨rfl⟩⟩
                · have hmi : ¬ (a : Int) < (text.size : Int) - (pj.length : Int) := by omega
                  have e2 := Aside0.mk (show a1 = a by omega)
                  clear e1
                  go_wp2
                  go_meet
                  case rel => exact ⟨by rw [e2.out], ⟨rfl⟩⟩
              · have h54 : decide (i + 1 = rs.length) = false := decide_eq_false hla
                have e1 := HA1.out
                rw [if_neg (fun e => hla (HDR.out.1 e))] at e1
                have e2 := Aside0.mk e1
                clear h53 e1
                go_wp2
                go_meet
                case rel => exact ⟨by rw [e2.out], ⟨rfl⟩⟩
            case rest =>
              clear HA1 h53
              obtain ⟨rfl, hwc⟩ := hcut
              obtain rfl := hwc.out
              clear hwc
              go_wp2
              go_loopw [8] (fun v8 wx => ∃ a2 : Nat, a1 ≤ a2 ∧ a2 ≤ 8796093022208 ∧ (a2 ≤ text.size + 1 ∨ a2 = a1) ∧ v8 = .int .i64 a2 ∧ Aside0 (findF st pj (text.size + 1 - a2) a2 = some a3) ∧ Aside0 (Kd.R Kd.string 9 wx w1.heap.size (fun _ => True) u9 took) ∧ Aside0 (Below w1.heap.size w1 wx)) (fun v8 _ => text.size + 1 - (intOf v8).toNat)
              case atStart => exact ⟨a1, Nat.le_refl _, by omega, Or.inr rfl, rfl, HF, HR, HB1⟩
              case round =>
                clear HF HR HB1 gjr
                obtain ⟨a2, h12, h2b, h2c, rfl, HF, HR, HB1⟩ := hrel
                by_cases hle : a2 ≤ text.size
                · have hlei : (a2 : Int) ≤ (text.size : Int) := by omega
                  have hf := HF.out
                  rw [show text.size + 1 - a2 = (text.size - a2) + 1 by omega, findF] at hf
                  obtain ⟨bs, hbs, hf⟩ := Option.bind_eq_some_iff.1 hf
                  have hS2 := HS.out pj (a2 : Int) bs wr Aj cj hbs (Kd.C_below HCJ.out HB1.out) hcj
                  cases bs with
                  | false =>
                    rw [if_neg (by simp)] at hf
                    have HF2 := Aside0.mk hf
                    clear hf hbs HF
                    go_wp2_with fail
                    refine hS2.mono ?_
                    rintro e w3 ⟨rfl, hB3⟩
                    have HR3 := Aside0.mk (Kd.R_below HR.out hB3)
                    have HB3 := Aside0.mk (HB1.out.trans (hB3.mono HB1.out.size))
                    clear hS2 HR HB1 hB3
                    go_wp2
                    go_roundw
                    case rel => exact ⟨a2 + 1, by omega, by omega, Or.inl (by omega), by go_num, ⟨by rw [show text.size + 1 - (a2 + 1) = text.size - a2 by omega]; exact HF2.out⟩, HR3, HB3⟩
                    case measure => simp [intOf]; omega
                  | true =>
                    rw [if_pos rfl] at hf
                    have e3 : a2 = a3 := Option.some.inj hf
                    have hh := HH.out
                    rw [← e3, if_neg (by omega)] at hh
                    have HH2 := Aside0.mk hh
                    have hgt : ¬ (text.size : Int) < (a2 : Int) := by omega
                    have haa2 : (a : Int) ≤ (a2 : Int) := by omega
                    clear hf hbs HF hh e3 HH
                    go_wp2_with fail
                    refine hS2.mono ?_
                    rintro e w3 ⟨rfl, hB3⟩
                    have HR3 := Aside0.mk (Kd.R_below HR.out hB3)
                    have HB3 := Aside0.mk (HB1.out.trans (hB3.mono HB1.out.size))
                    clear hS2 HR HB1 hB3
                    go_wp2_with (at_builtin; refine Kd.R_append Kd.string (w0 := w1) w1.heap.size rfl (.tmp 84) (.tmp 89) 23 9 (.string ⟨#[]⟩) 16 rfl Tryz.underlying23 info_text rfl (by decide) (by omega) u9 took (text.extract a a2) [.string (text.extract a a2)] (fun _ => True) (fun _ => False) rfl rfl ?aP (fun _ hk => hk.elim) ?aF ?aO ?aB ?aS ?aL ?_; (case aP => exact rfl); (case aF => exact (fun _ _ => trivial)); (case aO => exact HR3.out); (case aB => exact HB3.out); (case aS => exact HB3.out.size); (case aL => omega); intro v4 w4 ho hb hg hat)
                    have HR4 := Aside0.mk ho
                    have HB4 := Aside0.mk hb
                    clear ho hb hg hat HR3 HB3
                    go_wp2
                    go_roundw
                    case rel => exact ⟨i + 1, a2 + pj.length, took ++ [text.extract a a2], by omega, by omega, by go_num, by go_num, by simp; omega, HR4, HB4, HH2⟩
                    case measure => simp [intOf]; omega
                · have hlei : ¬ (a2 : Int) ≤ (text.size : Int) := by omega
                  have hf := HF.out
                  rw [show text.size + 1 - a2 = 0 by omega, findF] at hf
                  have e3 : a2 = a3 := Option.some.inj hf
                  have hh := HH.out
                  rw [← e3, if_pos (by omega)] at hh
                  cases hh
                  have hgt : (text.size : Int) < (a2 : Int) := by omega
                  clear hf e3 HF
                  go_wp2
                  go_ret2
                  exact ⟨_, rfl, Kd.R_nil _ _ _ _ _, HB.out.trans (HB1.out.mono HB.out.size)⟩
          · obtain rfl : i = rs.length := by omega
            have hlti : ¬ (rs.length : Int) < (rs.length : Int) := by omega
            have hh := H.out
            rw [List.drop_length, restF_nil] at hh
            cases hh
            go_wp2
            go_ret2
            exact ⟨_, rfl, Kd.R_lower HR.out HB.out.size, HB.out.trans (HB1.out.mono HB.out.size)⟩
end Go.Proofs.YtcikjeiebpmmcaaGreat
