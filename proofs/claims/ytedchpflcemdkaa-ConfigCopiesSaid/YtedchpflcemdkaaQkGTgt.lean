/- A text of this claim, pruned by a program of the session (prune.py) to what the theorem rests on. -/
import Derived.Test.YtedchpflcemdkaaQkGMore
import Derived.Test.YtedchpflcemdkaaQkGBase
import Derived.Test.YtedchpflcemdkaaQkWEqStruct
import Derived.RegionTactic
import Derived.BigRegion
import Derived.Deep.RegionHeld3
import Derived.Deep.QuietTactic
import Derived.BigQuiet
import Derived.WalkKit
namespace Go.Proofs.Ytedchpflcemdkaa
open Go.RowKit Go.Proofs.YtedchpflcemdkaaW.PrintWords
set_option linter.unusedVariables false
set_option linter.unusedSimpArgs false
structure Tgt where
  job : ByteArray
  host : ByteArray
  path : ByteArray
  iv : Int
  tm : Int
  deriving DecidableEq
def tgL (x : Tgt) : List Value := [.string x.job, .string x.host, .string x.path, .int .i64 x.iv, .int .i64 x.tm]
def kT : Kd Tgt := Kd.iso (Kd.pair Kd.string (Kd.pair Kd.string (Kd.pair Kd.string (Kd.pair (Kd.int .i64) (Kd.int .i64))))) (fun x => (x.job, x.host, x.path, x.iv, x.tm))
theorem kT_K {w : World} {x : Tgt} {c : List Value} (h : kT.K w x c) : c = tgL x := by
  obtain ⟨_, _, rfl, rfl, _, _, rfl, rfl, _, _, rfl, rfl, _, _, rfl, rfl, rfl⟩ := h
  rfl
theorem kT_M {w : World} {base : Nat} {ok : Nat → Prop} (x : Tgt) : kT.M w base ok x (tgL x) := ⟨[_], _, rfl, rfl, [_], _, rfl, rfl, [_], _, rfl, rfl, [_], [_], rfl, rfl, rfl⟩
theorem kT_M' {w : World} {base : Nat} {ok : Nat → Prop} {x : Tgt} {c : List Value} (h : kT.M w base ok x c) : c = tgL x := by
  obtain ⟨_, _, rfl, rfl, _, _, rfl, rfl, _, _, rfl, rfl, _, _, rfl, rfl, rfl⟩ := h
  rfl
theorem tl_inj {a b : ByteArray} (h : a.toList = b.toList) : a = b := by
  refine ByteArray.ext (Array.ext' ?_)
  rw [ByteArray.toList_eq, ByteArray.toList_eq] at h
  exact h
theorem tgt_beq (x y : Tgt) : (x.job.toList == y.job.toList && (x.host.toList == y.host.toList && (x.path.toList == y.path.toList && (x.iv == y.iv && x.tm == y.tm)))) = decide (x = y) := by
  by_cases e : x = y
  · subst e
    simp
  · rw [decide_eq_false e, Bool.eq_false_iff]
    intro h
    simp only [Bool.and_eq_true, beq_iff_eq] at h
    obtain ⟨h1, h2, h3, h4, h5⟩ := h
    refine e ?_
    obtain ⟨a1, a2, a3, a4, a5⟩ := x
    obtain ⟨b1, b2, b3, b4, b5⟩ := y
    dsimp only at h1 h2 h3 h4 h5
    have h1 := tl_inj h1
    have h2 := tl_inj h2
    have h3 := tl_inj h3
    subst h1 h2 h3 h4 h5
    rfl
set_option maxRecDepth 100000 in
theorem tgt_eqIn (x y : Tgt) (w : World) : (Op.equalIn 10000 23 (.agg (tgL x).toArray) (.agg (tgL y).toArray)).run Try.prog w = .ok (decide (x = y)) w := by
  rw [← tgt_beq]
  refine eqA_of Try.underlying23 (by kernel_rfl) ?_
  refine eqf_cons (by rfl) (by go_simp; rfl) (by go_simp; rfl) (by go_simp) ?_
  refine eqf_cons (by rfl) (by go_simp; rfl) (by go_simp; rfl) (by go_simp) ?_
  refine eqf_cons (by rfl) (by go_simp; rfl) (by go_simp; rfl) (by go_simp) ?_
  refine eqf_cons (by rfl) (by go_simp; rfl) (by go_simp; rfl) (by go_simp) ?_
  exact eqf_last (by rfl) (by go_simp; rfl) (by go_simp; rfl) (by go_simp)
theorem tgt_neq (x y : Tgt) (w : World) : (binOp .neq 23 (.agg #[.string x.job, .string x.host, .string x.path, .int .i64 x.iv, .int .i64 x.tm]) (.agg #[.string y.job, .string y.host, .string y.path, .int .i64 y.iv, .int .i64 y.tm])).run Try.prog w = .ok (.bool (!decide (x = y))) w := by
  rw [run_neq_struct]
  have h := tgt_eqIn x y w
  unfold tgL at h
  rw [h]
  rfl
theorem tgt_cells {w : World} {A : Option Addr} {xs : List Tgt} (h : kT.C w A xs.length xs) (hn : 0 < xs.length) : ∃ b off, A = some ⟨b, off, none⟩ ∧ b < w.heap.size ∧ ∀ j p, xs[j]? = some p → ∀ i u, (tgL p)[i]? = some u → w.cell? ⟨b, off + j * 5 + i, none⟩ = some u := by
  obtain ⟨b, off, e, hb, hc⟩ := C_at h hn (by decide)
  refine ⟨b, off, e, hb, fun j p hp i u hu => ?_⟩
  obtain ⟨c, _, hK, hcc⟩ := hc j p hp
  obtain rfl := kT_K hK
  exact hcc i u hu
theorem str_cells {w : World} {A : Option Addr} {xs : List ByteArray} (h : Kd.string.C w A xs.length xs) (hn : 0 < xs.length) : ∃ b off, A = some ⟨b, off, none⟩ ∧ b < w.heap.size ∧ ∀ j p, xs[j]? = some p → w.cell? ⟨b, off + j, none⟩ = some (.string p) := by
  obtain ⟨b, off, e, hb, hc⟩ := C_at h hn (by decide)
  refine ⟨b, off, e, hb, fun j p hp => ?_⟩
  obtain ⟨c, _, hK, hcc⟩ := hc j p hp
  obtain rfl : c = [.string p] := hK
  have := hcc 0 _ rfl
  simpa [show Kd.string.sz = 1 from rfl] using this
set_option maxRecDepth 100000 in
set_option maxHeartbeats 2000000 in
theorem equalT_calls (A1 A2 : Option Addr) (c1 c2 : Nat) (xs ys : List Tgt) (w : World) (h1 : kT.C w A1 xs.length xs) (h2 : kT.C w A2 ys.length ys) (hl : xs.length ≤ 8796093022208) :
    Calls Try.prog 25 #[.slice A1 xs.length c1, .slice A2 ys.length c2] w fun e w' => e = .returned (.bool (decide (xs = ys))) ∧ Below w.heap.size w w' := by
  have H1 := Aside0.mk h1
  have H2 := Aside0.mk h2
  clear h1 h2
  by_cases hll : xs.length = ys.length
  · have HLL := Aside0.mk hll
    rw [← hll]
    clear hll
    go_enter Try.func25, Try.ntmps25
    go_wp2_with fail
    go_loopw [13] (fun v wr => ∃ j q : Nat, j ≤ xs.length ∧ v = .int .i64 j ∧ wr = w.drewN q ∧ Aside0 (xs.take j = ys.take j)) (fun v _ => xs.length - (intOf v).toNat)
    case atStart => exact ⟨0, 0, Nat.zero_le _, by go_num, rfl, ⟨rfl⟩⟩
    case round =>
      obtain ⟨j, q, hj, rfl, rfl, hT⟩ := hrel
      by_cases hlt : j < xs.length
      · have hlti : (j : Int) < (xs.length : Int) := by omega
        have hlty : j < ys.length := by have := HLL.out; omega
        obtain ⟨g1, o1, rfl, hg1, hc1⟩ := tgt_cells H1.out (by omega)
        obtain ⟨g2, o2, rfl, hg2, hc2⟩ := tgt_cells H2.out (by omega)
        have hx := List.getElem?_eq_getElem hlt
        have hy := List.getElem?_eq_getElem hlty
        have tx : xs.take (j + 1) = xs.take j ++ [xs[j]] := List.take_succ_eq_append_getElem hlt
        have ty : ys.take (j + 1) = ys.take j ++ [ys[j]] := List.take_succ_eq_append_getElem hlty
        generalize xs[j] = x at *
        generalize ys[j] = y at *
        have n0 : w.cell? ⟨g1, o1 + j * 5, none⟩ = some (.string x.job) := hc1 j x hx 0 _ rfl
        have n1 : w.cell? ⟨g1, o1 + j * 5 + 1, none⟩ = some (.string x.host) := hc1 j x hx 1 _ rfl
        have n2 : w.cell? ⟨g1, o1 + j * 5 + 2, none⟩ = some (.string x.path) := hc1 j x hx 2 _ rfl
        have n3 : w.cell? ⟨g1, o1 + j * 5 + 3, none⟩ = some (.int .i64 x.iv) := hc1 j x hx 3 _ rfl
        have n4 : w.cell? ⟨g1, o1 + j * 5 + 4, none⟩ = some (.int .i64 x.tm) := hc1 j x hx 4 _ rfl
        have z0 : w.cell? ⟨g2, o2 + j * 5, none⟩ = some (.string y.job) := hc2 j y hy 0 _ rfl
        have z1 : w.cell? ⟨g2, o2 + j * 5 + 1, none⟩ = some (.string y.host) := hc2 j y hy 1 _ rfl
        have z2 : w.cell? ⟨g2, o2 + j * 5 + 2, none⟩ = some (.string y.path) := hc2 j y hy 2 _ rfl
        have z3 : w.cell? ⟨g2, o2 + j * 5 + 3, none⟩ = some (.int .i64 y.iv) := hc2 j y hy 3 _ rfl
        have z4 : w.cell? ⟨g2, o2 + j * 5 + 4, none⟩ = some (.int .i64 y.tm) := hc2 j y hy 4 _ rfl
        have hneq := fun W => tgt_neq x y W
        have HX := Aside0.mk hx
        have HY := Aside0.mk hy
        have TX := Aside0.mk tx
        have TY := Aside0.mk ty
        clear hc1 hc2 hx hy tx ty
        by_cases e : x = y
        · rw [decide_eq_true e, Bool.not_true] at hneq
          have HE := Aside0.mk e
          clear e
          go_wp2_with fail
          go_quiet (fail)
          go_wp2_with fail
          exact ⟨⟨j + 1, _, by omega, by go_num, rfl, ⟨by rw [TX.out, TY.out, hT.out, HE.out]⟩⟩, by simp [intOf]; omega⟩
        · rw [decide_eq_false e, Bool.not_false] at hneq
          have HE : Aside0 (decide (xs = ys) = false) := ⟨decide_eq_false fun e2 => e (by have h9 := HX.out; rw [e2, HY.out] at h9; exact (Option.some.inj h9).symm)⟩
          clear e
          go_wp2_with fail
          go_quiet (fail)
          go_wp2_with fail
          go_ret
          exact ⟨by rw [HE.out]; rfl, pw_below_drewN (pw_below_drewN (Below.refl _ _) _) _⟩
      · have hje : j = xs.length := by omega
        have hlti : ¬ (j : Int) < (xs.length : Int) := by omega
        have HE : Aside0 (decide (xs = ys) = true) := ⟨decide_eq_true (by have h9 := hT.out; rw [hje, List.take_length, HLL.out, List.take_length] at h9; exact h9)⟩
        clear hje
        go_wp2_with fail
        go_ret
        exact ⟨by rw [HE.out]; rfl, pw_below_drewN (Below.refl _ _) _⟩
  · have hl2 : ((xs.length : Int) != (ys.length : Int)) = true := by simpa using fun e => hll (by omega)
    have HE : Aside0 (decide (xs = ys) = false) := ⟨decide_eq_false fun e => hll (by rw [e])⟩
    clear hll
    go_enter Try.func25, Try.ntmps25
    go_wp2_with fail
    go_ret
    exact ⟨by rw [HE.out]; rfl, Below.refl _ _⟩
set_option maxRecDepth 100000 in
set_option maxHeartbeats 2000000 in
theorem equalS_calls (A1 A2 : Option Addr) (c1 c2 : Nat) (xs ys : List ByteArray) (w : World) (h1 : Kd.string.C w A1 xs.length xs) (h2 : Kd.string.C w A2 ys.length ys) (hl : xs.length ≤ 8796093022208) :
    Calls Try.prog 26 #[.slice A1 xs.length c1, .slice A2 ys.length c2] w fun e w' => e = .returned (.bool (decide (xs = ys))) ∧ Below w.heap.size w w' := by
  have H1 := Aside0.mk h1
  have H2 := Aside0.mk h2
  clear h1 h2
  by_cases hll : xs.length = ys.length
  · have HLL := Aside0.mk hll
    rw [← hll]
    clear hll
    go_enter Try.func26, Try.ntmps26
    go_wp2_with fail
    go_loopw [13] (fun v wr => ∃ j q : Nat, j ≤ xs.length ∧ v = .int .i64 j ∧ wr = w.drewN q ∧ Aside0 (xs.take j = ys.take j)) (fun v _ => xs.length - (intOf v).toNat)
    case atStart => exact ⟨0, 0, Nat.zero_le _, by go_num, rfl, ⟨rfl⟩⟩
    case round =>
      obtain ⟨j, q, hj, rfl, rfl, hT⟩ := hrel
      by_cases hlt : j < xs.length
      · have hlti : (j : Int) < (xs.length : Int) := by omega
        have hlty : j < ys.length := by have := HLL.out; omega
        obtain ⟨g1, o1, rfl, hg1, hc1⟩ := str_cells H1.out (by omega)
        obtain ⟨g2, o2, rfl, hg2, hc2⟩ := str_cells H2.out (by omega)
        have hx := List.getElem?_eq_getElem hlt
        have hy := List.getElem?_eq_getElem hlty
        have tx : xs.take (j + 1) = xs.take j ++ [xs[j]] := List.take_succ_eq_append_getElem hlt
        have ty : ys.take (j + 1) = ys.take j ++ [ys[j]] := List.take_succ_eq_append_getElem hlty
        generalize xs[j] = x at *
        generalize ys[j] = y at *
        have n0 : w.cell? ⟨g1, o1 + j, none⟩ = some (.string x) := hc1 j x hx
        have z0 : w.cell? ⟨g2, o2 + j, none⟩ = some (.string y) := hc2 j y hy
        have HX := Aside0.mk hx
        have HY := Aside0.mk hy
        have TX := Aside0.mk tx
        have TY := Aside0.mk ty
        clear hc1 hc2 hx hy tx ty
        by_cases e : x = y
        · have he2 : (x.toList == y.toList) = true := by rw [e]; simp
          have HE := Aside0.mk e
          clear e
          go_wp2_with fail
          go_quiet (fail)
          go_wp2_with fail
          exact ⟨⟨j + 1, _, by omega, by go_num, rfl, ⟨by rw [TX.out, TY.out, hT.out, HE.out]⟩⟩, by simp [intOf]; omega⟩
        · have he2 : (x.toList == y.toList) = false := by simpa using fun e2 => e (tl_inj e2)
          have HE : Aside0 (decide (xs = ys) = false) := ⟨decide_eq_false fun e2 => e (by have h9 := HX.out; rw [e2, HY.out] at h9; exact (Option.some.inj h9).symm)⟩
          clear e
          go_wp2_with fail
          go_quiet (fail)
          go_wp2_with fail
          go_ret
          exact ⟨by rw [HE.out]; rfl, pw_below_drewN (pw_below_drewN (Below.refl _ _) _) _⟩
      · have hje : j = xs.length := by omega
        have hlti : ¬ (j : Int) < (xs.length : Int) := by omega
        have HE : Aside0 (decide (xs = ys) = true) := ⟨decide_eq_true (by have h9 := hT.out; rw [hje, List.take_length, HLL.out, List.take_length] at h9; exact h9)⟩
        clear hje
        go_wp2_with fail
        go_ret
        exact ⟨by rw [HE.out]; rfl, pw_below_drewN (Below.refl _ _) _⟩
  · have hl2 : ((xs.length : Int) != (ys.length : Int)) = true := by simpa using fun e => hll (by omega)
    have HE : Aside0 (decide (xs = ys) = false) := ⟨decide_eq_false fun e => hll (by rw [e])⟩
    clear hll
    go_enter Try.func26, Try.ntmps26
    go_wp2_with fail
    go_ret
    exact ⟨by rw [HE.out]; rfl, Below.refl _ _⟩
end Go.Proofs.Ytedchpflcemdkaa
