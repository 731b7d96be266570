/- A text of this claim, pruned by a program of the session (prune.py) to what the theorem rests on. -/
import Derived.Test.YtneodhhoejjncaaQcGRefD
import Derived.Test.YtneodhhoejjncaaQcGLast
namespace Go.Proofs.Ytneodhhoejjncaa
open Go.RowKit Go.Proofs.YtneodhhoejjncaaW.PrintWords
set_option linter.unusedVariables false
set_option linter.unusedSimpArgs false
def oneV (a : Sr) : List Value := .string a.1 :: lstL a.2
theorem oneV_len (a : Sr) : (oneV a).length = 7 := rfl
theorem oneV_one (a : Sr) : ∀ u ∈ oneV a, u.oneCell' = true := by
  simp [oneV, lstL]
  exact ⟨rfl, rfl, rfl, rfl, rfl, rfl, rfl⟩
def oneC (xs : List Sr) : List Value := xs.flatMap oneV
theorem oneC_len (xs : List Sr) : (oneC xs).length = xs.length * 7 := by
  induction xs with
  | nil => rfl
  | cons a r ih => unfold oneC at *; rw [List.flatMap_cons, List.length_append, ih, oneV_len, List.length_cons]; omega
theorem oneC_get : ∀ (xs : List Sr) (i : Nat) (a : Sr), xs[i]? = some a → ∀ (j : Nat) (u : Value), (oneV a)[j]? = some u → (oneC xs)[i * 7 + j]? = some u
  | [], i, a, h, _, _, _ => by simp at h
  | b :: r, 0, a, h, j, u, hu => by
    obtain rfl : b = a := by simpa using h
    have hj : j < (oneV b).length := (List.getElem?_eq_some_iff.1 hu).1
    unfold oneC
    rw [List.flatMap_cons, List.getElem?_append_left (by omega), Nat.zero_mul, Nat.zero_add]
    exact hu
  | b :: r, i + 1, a, h, j, u, hu => by
    unfold oneC
    rw [List.flatMap_cons, List.getElem?_append_right (by rw [oneV_len]; omega), oneV_len, show (i + 1) * 7 + j - 7 = i * 7 + j by omega]
    exact oneC_get r i a (by simpa using h) j u hu
structure RefAt (w : World) (base R : Nat) (most : Int) (xs : List Sr) (v : Value) : Prop where
  blk : w.heap[R]? = some (.cells #[v, .int .i64 most] 69 (0, 0))
  row : w.ownsRow base 71 7 v xs.length (oneC xs)
def rfoot (R : Nat) (v : Value) (k : Nat) : Prop := k = R ∨ v.ownBlock = some k
theorem RefAt.lt {w : World} {base R : Nat} {most : Int} {xs : List Sr} {v : Value} (h : RefAt w base R most xs v) {k : Nat} (hk : rfoot R v k) : k < w.heap.size := by
  rcases hk with rfl | hk
  · exact blk_lt h.blk
  · exact own_lt h.row k hk
theorem RefAt.kept {w w' : World} {base R : Nat} {most : Int} {xs : List Sr} {v : Value} (h : RefAt w base R most xs v) (hk : ∀ k, rfoot R v k → w'.heap[k]? = w.heap[k]?) : RefAt w' base R most xs v :=
  ⟨(hk R (Or.inl rfl)).trans h.blk, own_move h.row fun k e => hk k (Or.inr e)⟩
theorem RefAt.below {w w' : World} {base R : Nat} {most : Int} {xs : List Sr} {v : Value} (h : RefAt w base R most xs v) (hb : Below w.heap.size w w') : RefAt w' base R most xs v := h.kept fun k hk => hb.block k (h.lt hk)
theorem RefAt.off {F : Nat → Prop} {w w' : World} {base R : Nat} {most : Int} {xs : List Sr} {v : Value} (h : RefAt w base R most xs v) (hk : KeptOff F w w') (hF : ∀ k, rfoot R v k → ¬ F k) : RefAt w' base R most xs v := h.kept fun k hf => hk.block k (h.lt hf) (hF k hf)
theorem RefAt.reads {w : World} {base R : Nat} {most : Int} {xs : List Sr} {v : Value} (h : RefAt w base R most xs v) :
    ∃ A c, v = .slice A xs.length c ∧ xs.length ≤ c ∧ ((A = none ∧ c = 0 ∧ xs = []) ∨ ∃ g, A = some ⟨g, 0, none⟩ ∧ base ≤ g ∧ g < w.heap.size ∧ g ≠ R ∧ (∃ cs, w.heap[g]? = some (.cells cs 71 (0, 0)) ∧ cs.size = c * 7) ∧ ∀ i a, xs[i]? = some a → ∀ j u, (oneV a)[j]? = some u → w.cell? ⟨g, i * 7 + j, none⟩ = some u) := by
  rcases h.row.2 with ⟨rfl, h0⟩ | ⟨g, cap, cur, rfl, hg, hb, h1, h2, h3, h4⟩
  · have hz : xs = [] := List.eq_nil_of_length_eq_zero h0
    subst hz
    exact ⟨none, 0, rfl, Nat.le_refl _, Or.inl ⟨rfl, rfl, rfl⟩⟩
  · refine ⟨_, cap, rfl, h1, Or.inr ⟨g, rfl, hg, blk_lt hb, fun e => ?_, ⟨cur, hb, by omega⟩, fun i a ha j u hu => ?_⟩⟩
    · subst e
      have := h.blk
      rw [hb] at this
      cases this
    · have hc := h.row.cells (g := g) rfl (i * 7 + j) u (oneC_get xs i a ha j u hu)
      rwa [add_plain] at hc
theorem tl_eq {a b : ByteArray} (h : a = b) : (a.toList == b.toList) = true := by rw [h]; simp
theorem tl_ne {a b : ByteArray} (h : a ≠ b) : (a.toList == b.toList) = false := by
  rw [beq_eq_false_iff_ne]
  intro e
  refine h (ByteArray.ext (Array.ext' ?_))
  rw [ByteArray.toList_eq, ByteArray.toList_eq] at e
  exact e
def OfI (xs : List Sr) (s : ByteArray) (i : Int) : Prop := (i = -1 ∧ ∀ a ∈ xs, a.1 ≠ s) ∨ ∃ (k : Nat) (a : Sr), i = (k : Int) ∧ xs[k]? = some a ∧ a.1 = s
set_option maxRecDepth 100000 in
theorem rof_calls (base R : Nat) (most : Int) (xs : List Sr) (v : Value) (s : ByteArray) (w : World) (h : RefAt w base R most xs v) (hl : xs.length ≤ 1099511627776) :
    Calls Try.prog 25 #[.pointer (some ⟨R, 0, none⟩), .string s] w fun e w' => ∃ i, e = .returned (.int .i64 i) ∧ OfI xs s i ∧ Below w.heap.size w w' := by
  obtain ⟨A, c, rfl, hcap, hrd⟩ := h.reads
  have c0 : w.cell? ⟨R, 0, none⟩ = some (.slice A xs.length c) := (blk_cell h.blk 0).trans rfl
  have hRl : R < w.heap.size := blk_lt h.blk
  have HR := Aside0.mk hrd
  clear hrd h
  go_enter Try.func25, Try.ntmps25
  go_wp2_with fail
  go_loop [5] (fun v => ∃ j : Nat, j ≤ xs.length ∧ v = .int .i64 j ∧ Aside0 (∀ a ∈ xs.take j, a.1 ≠ s)) (fun v => xs.length - (intOf v).toNat)
  case atStart => exact ⟨0, Nat.zero_le _, by go_num, ⟨by simp⟩⟩
  case round =>
    obtain ⟨j, hj, rfl, hS⟩ := hrel
    by_cases hlt : j < xs.length
    · have hlti : (j : Int) < (xs.length : Int) := by omega
      obtain ⟨g, rfl, _, _, _, _, hcell⟩ := HR.out.resolve_left (fun e => by obtain ⟨_, _, rfl⟩ := e; simp at hlt)
      have s0 : w.cell? ⟨g, j * 7, none⟩ = some (.string xs[j].1) := by
        have := hcell j xs[j] (List.getElem?_eq_getElem hlt) 0 _ rfl
        exact this
      have HG := Aside0.mk (List.getElem?_eq_getElem hlt)
      have HT := Aside0.mk (List.take_succ_eq_append_getElem hlt)
      clear hcell
      generalize xs[j] = a at *
      by_cases he : a.1 = s
      · have he2 := tl_eq he
        have HE := Aside0.mk he
        clear he
        go_wp2_with fail
        go_ret
        exact ⟨j, rfl, Or.inr ⟨j, a, rfl, HG.out, HE.out⟩, Below.refl _ _⟩
      · have he2 := tl_ne he
        have HE := Aside0.mk he
        clear he
        go_wp2_with fail
        go_round
        case rel =>
          refine ⟨j + 1, by omega, by go_num, ⟨fun b hb => ?_⟩⟩
          rw [HT.out, List.mem_append, List.mem_singleton] at hb
          rcases hb with hb | rfl
          · exact hS.out b hb
          · exact HE.out
        case measure => simp [intOf]; omega
    · obtain rfl : j = xs.length := by omega
      have hlti : ¬ (xs.length : Int) < (xs.length : Int) := by omega
      rw [List.take_length] at hS
      go_wp2_with fail
      go_ret
      exact ⟨-1, rfl, Or.inl ⟨rfl, hS.out⟩, Below.refl _ _⟩
theorem info_one : (Try.prog.info? 71).map (fun i => (i.zero, i.size, i.bytes)) = some (some (.agg #[.string ⟨#[]⟩, .string ⟨#[]⟩, .int .i64 0, .int .i64 0, .bool false, .bool false, .int .i64 0]), 7, 72) := by kernel_rfl
def SrcAt (W : World) (A : Option Addr) (c m : Nat) (news : List Value) : Prop := (A = none ∧ c = 0 ∧ m = 0 ∧ news = []) ∨ ∃ ad, A = some ad ∧ ∀ j u, news[j]? = some u → W.cell? (ad.add j) = some u
theorem app_wp {o : Oper} {a : Act} {K : Act → World → Prop} {Q : Exit → Act → World → Prop} {W : World} (base : Nat) (s x : Operand) (ho : o.op = .call { callee := .builtin .append, args := #[s, x], argTypes := #[67, 67] })
    (v : Value) (n : Nat) (cs : List Value) (hs : a.eval s = v) (HO : W.ownsRow base 71 7 v n cs) (A : Option Addr) (m c : Nat) (news : List Value) (hx : a.eval x = .slice A m c) (hl : news.length = m * 7) (src : SrcAt W A c m news) (h1 : ∀ u ∈ news, u.oneCell' = true)
    (hn : n + m ≤ 1099511627777) (hbase : base ≤ W.heap.size)
    (h : ∀ v' w', w'.ownsRow base 71 7 v' (n + m) (cs ++ news) → W.grownBy w' v.ownBlock → K (a.put o.dst v') w') : Oper.wp Try.prog o a W K Q := by
  obtain ⟨i, hi, hzz⟩ := Option.map_eq_some_iff.1 info_one
  simp only [Prod.mk.injEq] at hzz
  obtain ⟨hz0, hz1, hz2⟩ := hzz
  have ht : Try.prog.underlying 67 = some (.slice 71) := Try.underlying67
  rcases src with ⟨rfl, rfl, rfl, rfl⟩ | ⟨ad, rfl, hc⟩
  · have hr := run_append_owned_none (P := Try.prog) (w := W) base 67 o.type 71 i 7 ht hi v n cs HO
    unfold Oper.wp execOp
    simp only [ho, resolve, invoke, builtin, Sem.run_bind, Sem.run_pure, Result.andThen_ok, List.map_toArray, List.map_cons, List.map_nil, hs, hx, hr]
    exact h v W (by rw [List.append_nil]; exact HO) (World.grownBy.refl W _)
  · obtain ⟨v', w', hr, hown, hg, _, _⟩ := run_append_own_at (P := Try.prog) W base 67 o.type 71 i _ 7 72 ht hi hz0 hz1 hz2 rfl (by decide) v n cs HO ad m c news hl hc h1 (by simp only [maxLen]; omega) (by omega) hbase
    unfold Oper.wp execOp
    simp only [ho, resolve, invoke, builtin, Sem.run_bind, Sem.run_pure, Result.andThen_ok, List.map_toArray, List.map_cons, List.map_nil, hs, hx, hr]
    exact h v' w' hown hg
theorem oneC_split (xs : List Sr) (j : Nat) : oneC xs = oneC (xs.take j) ++ oneC (xs.drop j) := by
  unfold oneC
  rw [← List.flatMap_append, List.take_append_drop]
theorem oneC_one (xs : List Sr) : ∀ u ∈ oneC xs, u.oneCell' = true := fun u hu => by
  obtain ⟨a, _, ha⟩ := List.mem_flatMap.1 hu
  exact oneV_one a u ha
theorem src_lo {w W : World} {base R g c : Nat} {most : Int} {xs : List Sr} (h : RefAt w base R most xs (.slice (some ⟨g, 0, none⟩) xs.length c)) (j : Nat) (hj : j ≤ xs.length) (hb : Below w.heap.size w W) : SrcAt W (some ⟨g, 0, none⟩) c j (oneC (xs.take j)) :=
  Or.inr ⟨_, rfl, fun k u hu => pw_cell_below hb (h.row.cells (g := g) rfl k u (by rw [oneC_split xs j, List.getElem?_append_left (List.getElem?_eq_some_iff.1 hu).1]; exact hu))⟩
theorem src_hi {w W : World} {base R g c : Nat} {most : Int} {xs : List Sr} (h : RefAt w base R most xs (.slice (some ⟨g, 0, none⟩) xs.length c)) (j : Nat) (hj : j ≤ xs.length) (hc : xs.length ≤ c) (hb : Below w.heap.size w W) :
    SrcAt W (if c = j then some ⟨g, 0, none⟩ else some ⟨g, j * 7, none⟩) (c - j) (xs.length - j) (oneC (xs.drop j)) := by
  by_cases e : c = j
  · rw [if_pos e]
    refine Or.inr ⟨_, rfl, fun k u hu => ?_⟩
    rw [List.drop_eq_nil_of_le (by omega)] at hu
    simp [oneC] at hu
  · rw [if_neg e]
    refine Or.inr ⟨_, rfl, fun k u hu => ?_⟩
    have hl : (oneC (xs.take j)).length = j * 7 := by rw [oneC_len, List.length_take_of_le hj]
    have := pw_cell_below hb (h.row.cells (g := g) rfl (j * 7 + k) u (by rw [oneC_split xs j, List.getElem?_append_right (by omega), hl, Nat.add_sub_cancel_left]; exact hu))
    have e2 : (⟨g, j * 7, none⟩ : Addr).add k = (⟨g, 0, none⟩ : Addr).add (j * 7 + k) := by
      rw [add_plain]
      unfold Addr.add
      split <;> simp_all
    rw [e2]
    exact this
def oneX (most owner : Int) (x : Smp) (xs : List Sr) (i : Int) : Sn × List Sr :=
  if i < 0 then (if most ≤ (xs.length : Int) then (⟨x, 4, false, 0⟩, xs) else (⟨x, 1, false, 0⟩, insP x.nm ⟨x, true, owner⟩ xs))
  else match xs[i.toNat]? with
    | none => (⟨x, 4, false, 0⟩, xs)
    | some a => if x.time < a.2.x.time then (⟨x, 2, false, 0⟩, xs) else if x.time = a.2.x.time then (⟨x, 3, false, 0⟩, xs)
      else (⟨x, 1, a.2.live, if a.2.live then a.2.x.val else 0⟩, xs.set i.toNat (a.1, ⟨x, true, owner⟩))
structure RLeft (w w' : World) (base R : Nat) (most : Int) (v v' : Value) (xs' : List Sr) : Prop where
  st : RefAt w' base R most xs' v'
  kept : KeptOff (rfoot R v) w w'
  grows : ∀ k, rfoot R v' k → rfoot R v k ∨ w.heap.size ≤ k
theorem wp_at {P : Program} {code : Code} {Q : Exit → Act → World → Prop} {a : Act} {w : World} (p : World → Prop) (hp : p w) (h : ∀ w', p w' → Code.wp P code Q a w') : Code.wp P code Q a w := h w hp
theorem bp_at {P : Program} {f : Func} {Q : Ending → World → Prop} {e : Exit} {a : Act} {w : World} (p : World → Prop) (hp : p w) (h : ∀ w', p w' → bodyPost P f Q e a w') : bodyPost P f Q e a w := h w hp
theorem set7 (W : World) (p : Nat) {x0 x1 x2 x3 x4 x5 x6 : Value} {t : TypeId} (h : W.heap[p]? = some (.cells #[x0, x1, x2, x3, x4, x5, x6] t (0, 0))) (a b c d e f g : Value) :
    (((((((W.setCell ⟨p, 0, none⟩ a).setCell ⟨p, 1, none⟩ b).setCell ⟨p, 2, none⟩ c).setCell ⟨p, 3, none⟩ d).setCell ⟨p, 4, none⟩ e).setCell ⟨p, 5, none⟩ f).setCell ⟨p, 6, none⟩ g).heap[p]? = some (.cells #[a, b, c, d, e, f, g] t (0, 0)) := by
  have h0 : (W.setCell ⟨p, 0, none⟩ a).heap[p]? = some (.cells #[a, x1, x2, x3, x4, x5, x6] t (0, 0)) := blk_set h 0 a
  have h1 : ((W.setCell ⟨p, 0, none⟩ a).setCell ⟨p, 1, none⟩ b).heap[p]? = some (.cells #[a, b, x2, x3, x4, x5, x6] t (0, 0)) := blk_set h0 1 b
  have h2 : (((W.setCell ⟨p, 0, none⟩ a).setCell ⟨p, 1, none⟩ b).setCell ⟨p, 2, none⟩ c).heap[p]? = some (.cells #[a, b, c, x3, x4, x5, x6] t (0, 0)) := blk_set h1 2 c
  have h3 : ((((W.setCell ⟨p, 0, none⟩ a).setCell ⟨p, 1, none⟩ b).setCell ⟨p, 2, none⟩ c).setCell ⟨p, 3, none⟩ d).heap[p]? = some (.cells #[a, b, c, d, x4, x5, x6] t (0, 0)) := blk_set h2 3 d
  have h4 : (((((W.setCell ⟨p, 0, none⟩ a).setCell ⟨p, 1, none⟩ b).setCell ⟨p, 2, none⟩ c).setCell ⟨p, 3, none⟩ d).setCell ⟨p, 4, none⟩ e).heap[p]? = some (.cells #[a, b, c, d, e, x5, x6] t (0, 0)) := blk_set h3 4 e
  have h5 : ((((((W.setCell ⟨p, 0, none⟩ a).setCell ⟨p, 1, none⟩ b).setCell ⟨p, 2, none⟩ c).setCell ⟨p, 3, none⟩ d).setCell ⟨p, 4, none⟩ e).setCell ⟨p, 5, none⟩ f).heap[p]? = some (.cells #[a, b, c, d, e, f, x6] t (0, 0)) := blk_set h4 5 f
  have h6 : (((((((W.setCell ⟨p, 0, none⟩ a).setCell ⟨p, 1, none⟩ b).setCell ⟨p, 2, none⟩ c).setCell ⟨p, 3, none⟩ d).setCell ⟨p, 4, none⟩ e).setCell ⟨p, 5, none⟩ f).setCell ⟨p, 6, none⟩ g).heap[p]? = some (.cells #[a, b, c, d, e, f, g] t (0, 0)) := blk_set h5 6 g
  exact h6
theorem below7 {w W : World} (p : Nat) (h : Below w.heap.size w W) (hp : w.heap.size ≤ p) (a b c d e f g : Value) :
    Below w.heap.size w (((((((W.setCell ⟨p, 0, none⟩ a).setCell ⟨p, 1, none⟩ b).setCell ⟨p, 2, none⟩ c).setCell ⟨p, 3, none⟩ d).setCell ⟨p, 4, none⟩ e).setCell ⟨p, 5, none⟩ f).setCell ⟨p, 6, none⟩ g) :=
 by
  have h0 := h.setCell (p := ⟨p, 0, none⟩) hp a
  have h1 := h0.setCell (p := ⟨p, 1, none⟩) hp b
  have h2 := h1.setCell (p := ⟨p, 2, none⟩) hp c
  have h3 := h2.setCell (p := ⟨p, 3, none⟩) hp d
  have h4 := h3.setCell (p := ⟨p, 4, none⟩) hp e
  have h5 := h4.setCell (p := ⟨p, 5, none⟩) hp f
  exact h5.setCell (p := ⟨p, 6, none⟩) hp g
theorem RLeft.same {w w' : World} {base R : Nat} {most : Int} {xs : List Sr} {v : Value} (h : RefAt w base R most xs v) (hb : Below w.heap.size w w') : RLeft w w' base R most v v xs := ⟨h.below hb, Kept_below hb, fun k hk => Or.inl hk⟩
theorem fin_one {Q : Ending → World → Prop} {a : Act} {O : Nat} {s : Sn} {W : World} (hO : W.heap[O]? = some (.cells (snL s).toArray 37 (0, 0))) (h6 : a.tmps[6]?.getD undef = .pointer (some ⟨O, 0, none⟩)) (hd : a.defers = []) (hq : Q (.returned (.agg (snL s).toArray)) W) :
    bodyPost Try.prog Try.f26 Q .ret a W := by
  have c0 : W.cell? ⟨O, 0, none⟩ = some (.string s.x.nm) := (blk_cell hO 0).trans rfl
  have c1 : W.cell? ⟨O, 1, none⟩ = some (.int .i64 s.x.val) := (blk_cell hO 1).trans rfl
  have c2 : W.cell? ⟨O, 2, none⟩ = some (.int .i64 s.x.time) := (blk_cell hO 2).trans rfl
  have c3 : W.cell? ⟨O, 3, none⟩ = some (.bool s.x.counts) := (blk_cell hO 3).trans rfl
  have c4 : W.cell? ⟨O, 4, none⟩ = some (.int .i64 s.verdict) := (blk_cell hO 4).trans rfl
  have c5 : W.cell? ⟨O, 5, none⟩ = some (.bool s.chain) := (blk_cell hO 5).trans rfl
  have c6 : W.cell? ⟨O, 6, none⟩ = some (.int .i64 s.ahead) := (blk_cell hO 6).trans rfl
  obtain ⟨tmps, defers⟩ := a
  dsimp only at h6 hd
  refine bodyPost_ret (v := .agg #[.string s.x.nm, .int .i64 s.x.val, .int .i64 s.x.time, .bool s.x.counts, .int .i64 s.verdict, .bool s.chain, .int .i64 s.ahead]) ?_ hd hq
  simp [results, Try.f26, go_sem, h6, c0, c1, c2, c3, c4, c5, c6]
theorem insP_at (s : ByteArray) (y : Lst) : ∀ (xs : List Sr) (j : Nat), j ≤ xs.length → (∀ b ∈ xs.take j, Op.bytesLess b.1.data.toList s.data.toList = true) → (∀ a, xs[j]? = some a → Op.bytesLess a.1.data.toList s.data.toList = false) →
    insP s y xs = xs.take j ++ (s, y) :: xs.drop j
  | [], j, _, _, _ => by simp [insP]
  | a :: r, 0, _, _, h => by
    have := h a rfl
    unfold insP
    rw [this]
    rfl
  | a :: r, j + 1, hj, h1, h2 => by
    have := h1 a (by simp)
    unfold insP
    rw [this, if_pos rfl, insP_at s y r j (by simpa using hj) (fun b hb => h1 b (by simp [hb])) (fun b hb => h2 b (by simpa using hb))]
    rfl
def S9 (w3 : World) (R X N : Nat) (v : Value) (x : Smp) (owner : Int) (W : World) : Prop :=
  W.cell? ⟨R, 0, none⟩ = some v ∧ W.cell? ⟨X, 0, none⟩ = some (.string x.nm) ∧ W.cell? ⟨N, 0, none⟩ = some (.string x.nm) ∧ W.cell? ⟨N, 1, none⟩ = some (.int .i64 x.val) ∧ W.cell? ⟨N, 2, none⟩ = some (.int .i64 x.time) ∧
  W.cell? ⟨N, 3, none⟩ = some (.bool x.counts) ∧ W.cell? ⟨N, 4, none⟩ = some (.bool true) ∧ W.cell? ⟨N, 5, none⟩ = some (.int .i64 owner) ∧ Below w3.heap.size w3 W
theorem s9_of {w3 : World} {R X N : Nat} {v : Value} {x : Smp} {owner : Int} (h : S9 w3 R X N v x owner w3) (W : World) (hb : Below w3.heap.size w3 W) : S9 w3 R X N v x owner W := by
  obtain ⟨h0, h1, h2, h3, h4, h5, h6, h7, _⟩ := h
  exact ⟨pw_cell_below hb h0, pw_cell_below hb h1, pw_cell_below hb h2, pw_cell_below hb h3, pw_cell_below hb h4, pw_cell_below hb h5, pw_cell_below hb h6, pw_cell_below hb h7, hb⟩
def snZ : List Value := [.string ⟨#[]⟩, .int .i64 0, .int .i64 0, .bool false, .int .i64 0, .bool false, .int .i64 0]
theorem ins_end {w w3 w7 : World} {base R j c : Nat} {A : Option Addr} {most : Int} {xs ys : List Sr} {x : Smp} {l : Lst} {v7 : Value} (h : RefAt w base R most xs (.slice A xs.length c)) (h3 : RefAt w3 base R most xs (.slice A xs.length c)) (hb3 : Below w.heap.size w w3) (hb7 : Below w3.heap.size w3 w7)
    (hO : w3.heap[w.heap.size + 1]? = some (.cells snZ.toArray 37 (0, 0))) (hz : w.heap.size + 1 < w3.heap.size) {oX : Obj} (hX : w3.heap[w.heap.size]? = some oX) (hr : w7.ownsRow w3.heap.size 71 7 v7 (j + 1 + (xs.length - j)) ([] ++ oneC (xs.take j) ++ oneV (x.nm, l) ++ oneC (xs.drop j))) (hbase : base ≤ w.heap.size) (hj : j ≤ xs.length) (hi : ys = xs.take j ++ (x.nm, l) :: xs.drop j) :
    (w7.setCell ⟨R, 0, none⟩ v7).heap[w.heap.size + 1]? = some (.cells snZ.toArray 37 (0, 0)) ∧ (w7.setCell ⟨R, 0, none⟩ v7).heap[w.heap.size]? = some oX ∧ RefAt (w7.setCell ⟨R, 0, none⟩ v7) base R most ys v7 ∧ KeptOff (rfoot R (.slice A xs.length c)) w (w7.setCell ⟨R, 0, none⟩ v7) ∧ (∀ k, rfoot R v7 k → rfoot R (.slice A xs.length c) k ∨ w.heap.size ≤ k) := by
  have hRl : R < w.heap.size := blk_lt h.blk
  have hR7 := (h3.below hb7).blk
  refine ⟨?_, ?_, ⟨blk_set hR7 0 v7, ?_⟩, ?_, ?_⟩
  · rw [Below.heap_setCell _ _ _ _ (show w.heap.size + 1 ≠ R by omega)]
    exact blk_below hO hb7
  · rw [Below.heap_setCell _ _ _ _ (show w.heap.size ≠ R by omega)]
    exact blk_below hX hb7
  · have e1 : j + 1 + (xs.length - j) = ys.length := by rw [hi, List.length_append, List.length_take_of_le hj, List.length_cons, List.length_drop]; omega
    have e2 : [] ++ oneC (xs.take j) ++ oneV (x.nm, l) ++ oneC (xs.drop j) = oneC ys := by
      rw [hi]
      unfold oneC
      rw [List.flatMap_append, List.flatMap_cons, List.nil_append, List.append_assoc]
    rw [e1, e2] at hr
    refine own_setCell (own_weaken hr (by have := hb3.size; omega)) (fun e => ?_) v7
    have := own_base hr R e.symm
    have := hb3.size
    omega
  · refine KeptOff.setCell ?_ (Or.inr (Or.inl rfl)) v7
    exact (Kept_below hb3).below hb7
  · rintro k (rfl | hk)
    · exact Or.inl (Or.inl rfl)
    · have := own_base hr k hk
      have := hb3.size
      exact Or.inr (by omega)
theorem ref_setCell {w : World} {base R : Nat} {most : Int} {xs : List Sr} {v : Value} (h : RefAt w base R most xs v) {p : Addr} (hp : ¬ rfoot R v p.block) (u : Value) : RefAt (w.setCell p u) base R most xs v := h.kept fun k hk => Below.heap_setCell w p u k (fun e => by subst e; exact hp hk)
theorem ref_set7 {W : World} {p base R : Nat} {most : Int} {xs : List Sr} {v : Value} (h : RefAt W base R most xs v) (hp : ¬ rfoot R v p) (a b c d e f g : Value) :
    RefAt (((((((W.setCell ⟨p, 0, none⟩ a).setCell ⟨p, 1, none⟩ b).setCell ⟨p, 2, none⟩ c).setCell ⟨p, 3, none⟩ d).setCell ⟨p, 4, none⟩ e).setCell ⟨p, 5, none⟩ f).setCell ⟨p, 6, none⟩ g) base R most xs v := by
  have h0 := ref_setCell h (p := ⟨p, 0, none⟩) hp a
  have h1 := ref_setCell h0 (p := ⟨p, 1, none⟩) hp b
  have h2 := ref_setCell h1 (p := ⟨p, 2, none⟩) hp c
  have h3 := ref_setCell h2 (p := ⟨p, 3, none⟩) hp d
  have h4 := ref_setCell h3 (p := ⟨p, 4, none⟩) hp e
  have h5 := ref_setCell h4 (p := ⟨p, 5, none⟩) hp f
  exact ref_setCell h5 (p := ⟨p, 6, none⟩) hp g
theorem kept_set7 {F : Nat → Prop} {w W : World} {p : Nat} (h : KeptOff F w W) (hp : w.heap.size ≤ p) (a b c d e f g : Value) :
    KeptOff F w (((((((W.setCell ⟨p, 0, none⟩ a).setCell ⟨p, 1, none⟩ b).setCell ⟨p, 2, none⟩ c).setCell ⟨p, 3, none⟩ d).setCell ⟨p, 4, none⟩ e).setCell ⟨p, 5, none⟩ f).setCell ⟨p, 6, none⟩ g) := by
  have h0 := h.setCell (p := ⟨p, 0, none⟩) (Or.inl hp) a
  have h1 := h0.setCell (p := ⟨p, 1, none⟩) (Or.inl hp) b
  have h2 := h1.setCell (p := ⟨p, 2, none⟩) (Or.inl hp) c
  have h3 := h2.setCell (p := ⟨p, 3, none⟩) (Or.inl hp) d
  have h4 := h3.setCell (p := ⟨p, 4, none⟩) (Or.inl hp) e
  have h5 := h4.setCell (p := ⟨p, 5, none⟩) (Or.inl hp) f
  exact h5.setCell (p := ⟨p, 6, none⟩) (Or.inl hp) g
theorem rfoot_ne {W : World} {base R : Nat} {most : Int} {xs : List Sr} {v : Value} (h : RefAt W base R most xs v) {k : Nat} {cs : Array Value} {t : TypeId} (hb : W.heap[k]? = some (.cells cs t (0, 0))) (h1 : t ≠ 69) (h2 : t ≠ 71) : ¬ rfoot R v k := by
  rintro (rfl | hk)
  · have := h.blk
    rw [hb] at this
    cases this
    exact h1 rfl
  · obtain ⟨cells, hc⟩ := own_typed h.row k hk
    rw [hb] at hc
    cases hc
    exact h2 rfl
end Go.Proofs.Ytneodhhoejjncaa
