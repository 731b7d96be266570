/- Pruned. -/
import Derived.Test.YtcikjeiebpmmcaaGreatQyGGen
import Derived.Test.YtcikjeiebpmmcaaGreatQyGShelf
import Derived.WalkKit
import Derived.RowKit3
import Derived.Deep.LoopGhost
import Derived.Deep.QuietTactic
import Derived.BigQuiet
import Derived.Laws.MakeOwn
import Derived.Laws.OwnMore
import Derived.Lib.SliceRun
import Derived.Test.YtcikjeiebpmmcaaGreatQyWords
namespace Go.Proofs.YtcikjeiebpmmcaaGreat
open Go.RowKit Go.Proofs.YtcikjeiebpmmcaaGreatW.PrintWords Go.Proofs.YtcikjeiebpmmcaaGreatW.PrintLast Go.Proofs.YtcikjeiebpmmcaaGreatW.PrintMore Go.Sort Go.Shelf
set_option linter.unusedVariables false
set_option linter.unusedSimpArgs false
theorem compare_cl (x0 x1 y0 y1 : ByteArray) (W : World) : Calls Tryz.prog 86 #[.agg #[.string x0, .string x1], .agg #[.string y0, .string y1]] W fun e w' =>
    e = .returned (.int .i64 (if Op.bytesLess x0.toList y0.toList then (-1) else if Op.bytesLess y0.toList x0.toList then 1 else 0)) ∧ ∃ q os', w' = grow (W.drewN q) os' := by
  have hcon := fun W' => compare_calls x0 y0 W'
  generalize (if Op.bytesLess x0.toList y0.toList then (-1 : Int) else if Op.bytesLess y0.toList x0.toList then 1 else 0) = r at hcon ⊢
  go_enter Tryz.func86, Tryz.ntmps86
  go_wp2_with (go_at_call 48; refine (hcon _).mono ?_; rintro e w' ⟨rfl, ⟨n, rfl⟩⟩)
  go_ret
  exact ⟨rfl, n, _, by rw [alloc_eq_grow, alloc_eq_grow, grow_grow]; rfl⟩
theorem bad_cl (x0 x1 : ByteArray) (b : Bool) (W : World) (hW : ∀ W', Calls Tryz.prog 77 #[.string x0] W' fun e w' => e = .returned (.bool b) ∧ Drawn0 W' w') :
    Calls Tryz.prog 88 #[.agg #[.string x0, .string x1]] W fun e w' => e = .returned (.bool (!b || decide (1024 < x1.size))) ∧ Below W.heap.size W w' := by
  have hb : ∀ n, Below W.heap.size W ((W.alloc (.cells #[.string x0, .string x1] 96)).drewN n) := fun n => ⟨rfl, rfl, rfl, by simp, fun k hk => by
    show (W.alloc _).heap[k]? = _
    exact Below.heap_alloc _ _ _ hk⟩
  cases b with
  | true =>
    by_cases h : 1024 < x1.size
    · have hi : (1024 : Int) < (x1.size : Int) := by omega
      go_enter Tryz.func88, Tryz.ntmps88
      go_wp2_with (go_at_call 77; refine (hW _).mono ?_; rintro e w' ⟨rfl, ⟨n, rfl⟩⟩)
      go_ret
      exact ⟨by simp [h], hb _⟩
    · have hi : ¬ (1024 : Int) < (x1.size : Int) := by omega
      go_enter Tryz.func88, Tryz.ntmps88
      go_wp2_with (go_at_call 77; refine (hW _).mono ?_; rintro e w' ⟨rfl, ⟨n, rfl⟩⟩)
      go_ret
      exact ⟨by simp [h]; omega, hb _⟩
  | false =>
    go_enter Tryz.func88, Tryz.ntmps88
    go_wp2_with (go_at_call 77; refine (hW _).mono ?_; rintro e w' ⟨rfl, ⟨n, rfl⟩⟩)
    go_ret
    exact ⟨by simp, hb _⟩
theorem info_label : (Tryz.prog.info? 96).map (fun i => (i.zero, i.size, i.bytes)) = some (some (.agg #[(.string ⟨#[]⟩), (.string ⟨#[]⟩)]), 2, 32) := by kernel_rfl
theorem clone_calls {α : Type} (d : Kd α) (hz : d.sz = 2) (hKM : ∀ (w W : World) (base : Nat) (x : α) (cs : List Value), d.K w x cs → d.M W base (fun _ => False) x cs) (A : Option Addr) (c : Nat) (l : List α) (w : World)
    (hr : d.C w A l.length l) (hl : l.length ≤ 1099511627776) :
    Calls Tryz.prog 84 #[.slice A l.length c] w fun e w' => ∃ v, e = .returned v ∧ d.R 96 w' w.heap.size (fun _ => True) v l ∧ Below w.heap.size w w' := by
  have q22 : ∀ (w : World) (a : Option Addr) (n c n' c' : Nat), (binOp .eql 44 (.slice a n c) (.slice none n' c')).run Tryz.prog w = .ok (.bool a.isNone) w := fun w a n c n' c' => Lib.run_eql_slice_nil w _ _ a n c n' c' Tryz.underlying44
  rcases A with _ | ad
  · have h0 : l.length = 0 := by
      rcases Nat.eq_zero_or_pos l.length with h0 | h0
      · exact h0
      · obtain ⟨ad, h, _⟩ := hr.2.2 h0
        cases h
    obtain rfl : l = [] := List.eq_nil_of_length_eq_zero h0
    go_enter Tryz.func84, Tryz.ntmps84
    go_wp2
    go_ret
    exact ⟨_, rfl, Kd.R_nil _ _ _ _ _, Below.refl _ _⟩
  · have hI : (Tryz.prog.info? 96).map (fun i => (i.zero, i.size, i.bytes)) = some (some (.agg #[(.string ⟨#[]⟩), (.string ⟨#[]⟩)]), d.sz, 32) := by rw [hz]; exact info_label
    have hO : d.R 96 (w.alloc (.cells #[] 96)) w.heap.size (fun _ => True) (.slice (some ⟨w.heap.size, 0, none⟩) 0 0) [] :=
      ⟨fun _ _ => trivial, [], World.ownsRow_made w #[] 0 (Nat.le_refl _) (Nat.zero_le _) (by simp), Reps.none _ _⟩
    have hB : Below w.heap.size w (w.alloc (.cells #[] 96)) := (Below.refl _ w).alloc (Nat.le_refl _) _
    have hC : d.C (w.alloc (.cells #[] 96)) (some ad) l.length l := Kd.C_below hr hB
    go_enter Tryz.func84, Tryz.ntmps84
    go_wp2_with (at_builtin; refine Kd.R_append_rows d (w0 := w) w.heap.size rfl _ _ 44 96 _ 32 rfl Tryz.underlying44 hI (by rw [hz]; rfl) (by rw [hz]; decide) (by decide) _ [] l _ _ _ (fun _ => True) (fun _ => False) rfl rfl hO hC (fun x cs h => hKM _ _ _ x cs h) (fun _ h => h.elim) (fun _ _ => trivial) hB ?size ?len ?_)
    case size => simp
    case len => simp; omega
    intro v1 w1 hown hb hg _
    go_wp2
    go_ret
    exact ⟨v1, rfl, by simpa using hown, hb⟩
section
variable {α : Type} (d : Kd α) (nm vl : α → ByteArray)
def encL (x : α) : List Value := [.string (nm x), .string (vl x)]
theorem permIn_perm {xs : List α} [Inhabited α] {d' : Array α} (h : PermIn 0 xs.length xs.toArray d') : d'.toList.Perm xs := by
  obtain ⟨hs, _, hp⟩ := h
  have e1 : (d'.extract 0 xs.length) = d' := by rw [show xs.length = d'.size by simpa using hs.symm]; simp
  have e2 : (xs.toArray.extract 0 xs.length) = xs.toArray := by simp
  rw [e1, e2] at hp
  simpa using hp
theorem sortedIn_rising [Inhabited α] {n : Nat} {d' : Array α} (hn : d'.size = n) (h : SortedIn (ltN nm) 0 n d') : Rising nm d'.toList := by
  refine List.pairwise_iff_getElem.2 fun i j hi hj hij => ?_
  have := h i j (Nat.zero_le _) hij (by simpa [hn] using hj)
  rw [getElem!_pos d' i (by simpa using hi), getElem!_pos d' j (by simpa using hj)] at this
  simpa using this
theorem sort_calls (hz : d.sz = 2) (hM1 : ∀ {w base ok x c}, d.M w base ok x c → c = encL nm vl x) (hM2 : ∀ w base ok x, d.M w base ok x (encL nm vl x))
    (v : Value) (l : List α) (w : World) (base : Nat) (hR : d.R 96 w base (fun _ => True) v l) (hl : l.length ≤ 1099511627776) :
    Calls Tryz.prog 85 #[v, .func (.func 86) #[] #[]] w fun e w' => e = .returned (.tuple #[]) ∧ ∃ ys, ys.Perm l ∧ Rising nm ys ∧ d.R 96 w' base (fun _ => True) v ys ∧ w.grownBy w' v.ownBlock := by
  rcases l with _ | ⟨x0, r⟩
  · obtain ⟨A, c, rfl⟩ := Kd.R_slice hR
    refine (AnyF.slices_SortFunc_none (P := Tryz.prog) (ρ := Tryz.sortL_ren) Tryz.sortL A c _ w).mono ?_
    rintro e w' ⟨rfl, rfl⟩
    exact ⟨rfl, [], List.Perm.refl _, List.Pairwise.nil, hR, World.grownBy.refl _ _⟩
  · haveI : Inhabited α := ⟨x0⟩
    generalize hxs : x0 :: r = xs at *
    have hn : 0 < xs.length := by rw [← hxs]; simp
    have hk : ∀ x, (encL nm vl x).length = 2 := fun _ => rfl
    obtain ⟨h0, inner, hown, hreps⟩ := hR
    rw [hz] at hown hreps
    have hin := reps_flat (enc := encL nm vl) (fun x c h => hM1 h) hk hreps
    subst hin
    have hsh : ∃ g cap, v = .slice (some ⟨g, 0, none⟩) xs.length cap ∧ g < w.heap.size := by
      rcases hown.2 with ⟨_, h⟩ | ⟨g, cap, cur, hv, _, hb, _⟩
      · omega
      · exact ⟨g, cap, hv, (Array.getElem?_eq_some_iff.1 hb).1⟩
    obtain ⟨g, cap, rfl, hg⟩ := hsh
    have hH : HoldsK (encL nm vl) 2 w g 0 xs.toArray := holds_own hown
    have eg : ∀ args w, (callFunc 86 args).run Tryz.prog w = .ok (.enter 86 args) w := enters_of Tryz.func86 (by kernel_rfl) rfl
    have hlt : (ltOf fun x y : α => if Op.bytesLess (nm x).toList (nm y).toList then (-1) else if Op.bytesLess (nm y).toList (nm x).toList then 1 else 0) = ltN nm := by
      funext x y
      unfold ltOf ltN
      cases h1 : Op.bytesLess (nm x).toList (nm y).toList
      · cases h2 : Op.bytesLess (nm y).toList (nm x).toList <;> simp [h1, h2]
      · simp [h1]
    have hcmp : CmpLays Tryz.prog 86 #[] (encL nm vl) 2 (fun x y : α => if Op.bytesLess (nm x).toList (nm y).toList then (-1) else if Op.bytesLess (nm y).toList (nm x).toList then 1 else 0) g 0 xs.toArray.size w :=
      fun _ _ _ _ x y => compare_cl (nm x) (vl x) (nm y) (vl y) _
    have hcon := AnyQ.slices_SortFunc (P := Tryz.prog) (ρ := Tryz.sortL_ren) Tryz.sortL 2 Tryz.isAgg96 Tryz.sizeOf96 (encL nm vl) hk (fun x v hv => by simp [encL] at hv; rcases hv with rfl | rfl <;> rfl)
      _ (by rw [hlt]; exact ltN_swo nm) 86 #[] g 0 cap xs.toArray w eg hcmp hH hg (by simp; omega)
    rw [hlt] at hcon
    have hsz : xs.toArray.size = xs.length := by simp
    rw [hsz] at hcon
    refine hcon.mono ?_
    rintro e w' ⟨rfl, d', n, os, hp, hs, rfl⟩
    have hperm := permIn_perm hp
    have hdl : d'.size = xs.length := by simpa using hp.1
    refine ⟨rfl, d'.toList, hperm, sortedIn_rising nm hdl hs, ⟨fun _ _ => trivial, (flatK (encL nm vl) 2 d').toList, ?_, ?_⟩, grown_put⟩
    · rw [hz, show d'.toList.length = xs.length by simpa using hdl]
      exact own_put (by simp [hdl]) hown
    · rw [hz]
      have := flat_reps (R := d.M (sortWorldK (encL nm vl) 2 w g 0 n d' os) base (fun k => True ∧ some k ≠ (Value.slice (some ⟨g, 0, none⟩) xs.length cap).ownBlock)) (enc := encL nm vl) (fun x => hM2 _ _ _ x) hk d'.toList
      simpa using this
theorem index_none (A : Option Addr) (c : Nat) (fv : Value) (w : World) : Calls Tryz.prog 83 #[.slice A 0 c, fv] w fun e w' => e = .returned (.int .i64 (-1)) ∧ w' = w := by
  go_enter Tryz.func83, Tryz.ntmps83
  go_wp2
  refine wp_loop_rounds 1 ?_
  rw [rounds_succ]
  go_wp2
  go_ret
  exact ⟨rfl, rfl⟩
theorem any_none (A : Option Addr) (c : Nat) (fv : Value) (w : World) : Calls Tryz.prog 87 #[.slice A 0 c, fv] w fun e w' => e = .returned (.bool false) ∧ w' = w := by
  go_enter Tryz.func87, Tryz.ntmps87
  go_wp2_with (go_at_call 83; refine (index_none A c fv w).mono ?_; rintro e w' ⟨rfl, rfl⟩)
  go_ret
  exact ⟨rfl, rfl⟩
def badL (word : ByteArray → Bool) (x : α) : Bool := !word (nm x) || decide (1024 < (vl x).size)
theorem any_calls (hz : d.sz = 2) (hK1 : ∀ {w x c}, d.K w x c → c = encL nm vl x) (word : ByteArray → Bool) (A : Option Addr) (c : Nat) (l : List α) (w : World) (hC : d.C w A l.length l)
    (hW : ∀ x ∈ l, ∀ W, Calls Tryz.prog 77 #[.string (nm x)] W fun e w' => e = .returned (.bool (word (nm x))) ∧ Drawn0 W w') :
    Calls Tryz.prog 87 #[.slice A l.length c, .func (.func 88) #[] #[]] w fun e w' => e = .returned (.bool (l.any (badL nm vl word))) ∧ Below w.heap.size w w' := by
  rcases l with _ | ⟨x0, r⟩
  · refine (any_none A c _ w).mono ?_
    rintro e w' ⟨rfl, rfl⟩
    exact ⟨rfl, Below.refl _ _⟩
  · have hx0 : x0 ∈ x0 :: r := by simp
    generalize hxs : x0 :: r = xs at *
    have hn : 0 < xs.length := by rw [← hxs]; simp
    haveI : Inhabited {x : α // x ∈ xs} := ⟨⟨x0, hx0⟩⟩
    obtain ⟨b, off, rfl, hb, hc⟩ := C_at hC hn (by omega)
    have eg : ∀ args w, (callFunc 88 args).run Tryz.prog w = .ok (.enter 88 args) w := enters_of Tryz.func88 (by kernel_rfl) rfl
    have hp : PredBelow Tryz.prog 88 #[] (fun x : {x : α // x ∈ xs} => .agg (encL nm vl x.1).toArray) (fun x => badL nm vl word x.1) w := fun W x hB =>
      (bad_cl (nm x.1) (vl x.1) (word (nm x.1)) W (hW x.1 x.2)).mono fun e w' ⟨h1, h2⟩ => ⟨h1, hB.trans (h2.mono hB.size)⟩
    have hcon := AnyQ.slices_ContainsFunc (P := Tryz.prog) (ρ := Tryz.containsL_ren) Tryz.containsL 2 Tryz.isAgg96 Tryz.sizeOf96 (fun x : {x : α // x ∈ xs} => encL nm vl x.1) (fun _ => rfl)
      (fun x => badL nm vl word x.1) 88 #[] eg b off xs.length c xs.attach w hp (by simp) hC.2.1 hb (fun j hj i v hi => by
        have hj' : j < xs.length := by simpa using hj
        obtain ⟨cs, hcl, hK, hcell⟩ := hc j xs[j] (List.getElem?_eq_getElem hj')
        rw [hz] at hcell
        refine hcell i v ?_
        rw [hK1 hK]
        rw [getElem!_pos xs.attach j hj] at hi
        simpa using hi)
    refine hcon.mono ?_
    rintro e w' ⟨rfl, hB⟩
    refine ⟨?_, hB⟩
    congr 2
    rw [List.take_of_length_le (by simp)]
    conv => rhs; rw [← List.attach_map_subtype_val xs, List.any_map]
    rfl
def seriesF (word metric : ByteArray → Bool) (a0 : ByteArray) (l : List α) : List α × Option Int :=
  if metric a0 = false then ([], some 101)
  else if 16 < l.length ∨ l.any (badL nm vl word) = true then ([], some 102)
  else if twins nm (isort nm l) = true then ([], some 103)
  else (isort nm l, none)
theorem drawn_below {w w' : World} {B : Nat} (h : Drawn0 w w') : Below B w w' := by
  obtain ⟨n, rfl⟩ := h.out
  exact ⟨rfl, rfl, rfl, Nat.le_refl _, fun _ _ => rfl⟩
theorem any_perm {l ys : List α} (hp : ys.Perm l) (p : α → Bool) : ys.any p = l.any p := by
  rw [Bool.eq_iff_iff, List.any_eq_true, List.any_eq_true]
  exact ⟨fun ⟨x, h1, h2⟩ => ⟨x, hp.mem_iff.1 h1, h2⟩, fun ⟨x, h1, h2⟩ => ⟨x, hp.mem_iff.2 h1, h2⟩⟩
theorem twins_step (ys : List α) (k : Nat) (h1 : 1 ≤ k) (h2 : k < ys.length) : twins nm (ys.drop (k - 1)) = (decide (nm ys[k] = nm ys[k - 1]) || twins nm (ys.drop (k + 1 - 1))) := by
  obtain ⟨j, rfl⟩ : ∃ j, k = j + 1 := ⟨k - 1, by omega⟩
  show twins nm (List.drop j ys) = (decide (nm ys[j + 1] = nm ys[j]) || twins nm (List.drop (j + 1) ys))
  rw [List.drop_eq_getElem_cons (show j < ys.length by omega), List.drop_eq_getElem_cons h2]
  rfl
theorem twins_short : ∀ xs : List α, xs.length ≤ 1 → twins nm xs = false
  | [], _ => rfl
  | [_], _ => rfl
  | _ :: _ :: _, h => by simp at h
theorem series_calls (hz : d.sz = 2) (hK1 : ∀ {w x c}, d.K w x c → c = encL nm vl x) (hM1 : ∀ {w base ok x c}, d.M w base ok x c → c = encL nm vl x) (hM2 : ∀ w base ok x, d.M w base ok x (encL nm vl x))
    (word metric : ByteArray → Bool) (ew : Option Int → Value) (e0 : ew none = .nilIface)
    (e1 : ew (some 101) = .iface 133 (.agg #[.string ⟨#[109, 101, 116, 114, 105, 99]⟩])) (e2 : ew (some 102) = .iface 133 (.agg #[.string ⟨#[108, 97, 98, 101, 108, 115]⟩])) (e3 : ew (some 103) = .iface 133 (.agg #[.string ⟨#[116, 119, 105, 99, 101]⟩]))
    (a0 : ByteArray) (A1 : Option Addr) (c1 : Nat) (l : List α) (w : World) (hC : d.C w A1 l.length l) (hl : l.length ≤ 1099511627776)
    (hMet : ∀ W, Calls Tryz.prog 89 #[.string a0] W fun e w' => e = .returned (.bool (metric a0)) ∧ Drawn0 W w')
    (hW : ∀ x ∈ l, ∀ W, Calls Tryz.prog 77 #[.string (nm x)] W fun e w' => e = .returned (.bool (word (nm x))) ∧ Drawn0 W w') :
    Calls Tryz.prog 64 #[.string a0, .slice A1 l.length c1] w fun e w' => ∃ v0_ : Value, e = .returned (.tuple #[v0_, ew (seriesF nm vl word metric a0 l).2]) ∧ d.R 96 w' w.heap.size (fun _ => True) v0_ (seriesF nm vl word metric a0 l).1 ∧ Below w.heap.size w w' := by
  have hKM : ∀ (w W : World) (base : Nat) (x : α) (cs : List Value), d.K w x cs → d.M W base (fun _ => False) x cs := fun w W base x cs h => by rw [hK1 h]; exact hM2 _ _ _ _
  have hc := clone_calls d hz hKM A1 c1 l w hC hl
  generalize hF : seriesF nm vl word metric a0 l = F
  have HF : Aside0 (seriesF nm vl word metric a0 l = F) := ⟨hF⟩
  have E0 := Aside0.mk e0
  have E1 := Aside0.mk e1
  have E2 := Aside0.mk e2
  have E3 := Aside0.mk e3
  clear hF hC e0 e1 e2 e3
  go_enter Tryz.func64, Tryz.ntmps64
  go_wp2_with fail
  refine hc.mono ?_
  rintro e w1 ⟨v1, rfl, hR1, hB1⟩
  clear hc
  go_wp2_with fail
  refine (sort_calls d nm vl hz hM1 hM2 v1 l w1 _ hR1 hl).mono ?_
  rintro e w2 ⟨rfl, ys, hp, hris, hR2, hg2⟩
  obtain ⟨A, c, rfl, hcl, hC2⟩ := Kd.R_reads hR2
  have hn : ys.length = l.length := hp.length_eq
  have hB2 : Below w.heap.size w w2 := hB1.grown hg2 hB1.size (fun k hk => by
    obtain ⟨inner, ho⟩ := Kd.R_own hR1
    exact own_base ho k hk)
  have HA : Aside0 (ys.any (badL nm vl word) = l.any (badL nm vl word)) := ⟨any_perm hp _⟩
  have HT : Aside0 (twins nm ys = twins nm (isort nm l)) := ⟨twins_perm nm (hp.trans (isort_perm nm l).symm) (isort_rising nm l) hris⟩
  have HU : Aside0 (twins nm ys = false → ys = isort nm l) := ⟨sorted_unique nm hp hris⟩
  have hW2 : ∀ x ∈ ys, ∀ W, Calls Tryz.prog 77 #[.string (nm x)] W fun e w' => e = .returned (.bool (word (nm x))) ∧ Drawn0 W w' := fun x hx => hW x (hp.mem_iff.1 hx)
  have hany := any_calls d nm vl hz hK1 word A c ys w2 hC2 hW2
  have hl2 : ys.length ≤ 1099511627776 := by omega
  have HN := Aside0.mk hn
  have HR2 := Aside0.mk hR2
  have HB2 := Aside0.mk hB2
  clear hp hris hR1 hB1 hg2 hR2 hB2 hW hW2 hn hl
  go_wp2_with fail
  refine hany.mono ?_
  rintro e w3 ⟨rfl, hB3⟩
  have HR3 := Aside0.mk (Kd.R_below HR2.out hB3)
  have HB3 := Aside0.mk (HB2.out.trans (hB3.mono HB2.out.size))
  have HC3 := Aside0.mk (Kd.C_below hC2 hB3)
  clear hany hB3 hC2 HR2 HB2
  go_wp2_with fail
  refine (hMet _).mono ?_
  rintro e w4 ⟨rfl, hd4⟩
  have HD4 := Aside0.mk hd4
  clear hd4 hMet
  have nilR : ∀ W base, d.R 96 W base (fun _ => True) (.slice none 0 0) [] := fun W base => Kd.R_nil _ _ _ _ _
  cases hm : metric a0 with
  | false =>
    have hF : F = ([], some 101) := by rw [← HF.out, seriesF, if_pos hm]
    have hB : Below w.heap.size w w4 := HB3.out.trans (drawn_below HD4.out)
    clear HF HA HT HU
    go_wp2
    go_ret2
    exact ⟨.slice none 0 0, by rw [hF, E1.out]; rfl, by rw [hF]; exact nilR _ _, hB⟩
  | true =>
    by_cases hbig : 16 < l.length
    · have hF : F = ([], some 102) := by rw [← HF.out, seriesF, if_neg (by simp [hm]), if_pos (Or.inl hbig)]
      have hB : Below w.heap.size w w4 := HB3.out.trans (drawn_below HD4.out)
      have hi : (16 : Int) < (ys.length : Int) := by have := HN.out; omega
      clear HF HA HT HU
      go_wp2
      go_ret2
      exact ⟨.slice none 0 0, by rw [hF, E2.out]; rfl, by rw [hF]; exact nilR _ _, hB⟩
    · have hi : ¬ (16 : Int) < (ys.length : Int) := by have := HN.out; omega
      have hi' : decide ((16 : Int) < (ys.length : Int)) = false := by simpa using hi
      cases hbad : ys.any (badL nm vl word) with
      | true =>
        have hF : F = ([], some 102) := by rw [← HF.out, seriesF, if_neg (by simp [hm]), if_pos (Or.inr (by rw [← HA.out]; exact hbad))]
        have hB : Below w.heap.size w w4 := HB3.out.trans (drawn_below HD4.out)
        clear HF HA HT HU
        go_wp2
        go_ret2
        exact ⟨.slice none 0 0, by rw [hF, E2.out]; rfl, by rw [hF]; exact nilR _ _, hB⟩
      | false =>
        have HF2 : Aside0 (F = if twins nm (isort nm l) = true then ([], some 103) else (isort nm l, none)) := ⟨by
          rw [← HF.out, seriesF, if_neg (by simp [hm]), if_neg (by rw [← HA.out, hbad]; simp [hbig])]⟩
        clear HF HA
        go_wp2
        go_loopw [8] (fun i wr => ∃ k : Nat, 1 ≤ k ∧ (k ≤ ys.length ∨ k = 1) ∧ i = .int .i64 k ∧ Aside0 (Drawn0 w4 wr) ∧ Aside0 (twins nm ys = twins nm (ys.drop (k - 1)))) (fun i _ => ys.length - (intOf i).toNat)
        case atStart => exact ⟨1, Nat.le_refl _, Or.inr rfl, rfl, ⟨⟨0, rfl⟩⟩, ⟨rfl⟩⟩
        case round =>
          obtain ⟨k, hk1, hk2, rfl, HD, HK⟩ := hrel
          by_cases hlt : k < ys.length
          · obtain ⟨b, off, rfl, hb, hc⟩ := C_at HC3.out (by omega) (by omega)
            rw [hz] at hc
            obtain ⟨cs1, _, hk1', hcell1⟩ := hc k ys[k] (List.getElem?_eq_getElem hlt)
            obtain ⟨cs2, _, hk2', hcell2⟩ := hc (k - 1) ys[k - 1] (List.getElem?_eq_getElem (by omega))
            have g1 := hcell1 0 (.string (nm ys[k])) (by rw [hK1 hk1']; rfl)
            have g2 := hcell2 0 (.string (nm ys[k - 1])) (by rw [hK1 hk2']; rfl)
            have hB4 : Below w3.heap.size w3 wr := (drawn_below HD4.out).trans (drawn_below HD.out)
            have g1' : wr.cell? ⟨b, off + k * 2, none⟩ = some (.string (nm ys[k])) := (hB4.cell (p := ⟨b, off + k * 2, none⟩) hb).trans (by simpa using g1)
            have g2' : wr.cell? ⟨b, off + (k - 1) * 2, none⟩ = some (.string (nm ys[k - 1])) := (hB4.cell (p := ⟨b, off + (k - 1) * 2, none⟩) hb).trans (by simpa using g2)
            have HS := Aside0.mk (twins_step nm ys k hk1 hlt)
            have hin : (k : Int) < (ys.length : Int) := by omega
            generalize ys[k] = y1 at *
            generalize ys[k - 1] = y2 at *
            clear hc hcell1 hcell2 hk1' hk2' g1 g2
            by_cases heq : nm y1 = nm y2
            · have hq : ((nm y1).toList == (nm y2).toList) = true := by rw [heq]; simp
              have hF : F = ([], some 103) := by
                rw [HF2.out, if_pos]
                rw [← HT.out, HK.out, HS.out]
                simp [heq]
              have hB : Below w.heap.size w wr := (HB3.out.trans (drawn_below HD4.out)).trans (drawn_below HD.out)
              clear HF2 HT HU HK HS
              go_wp2
              go_quiet (fail)
              go_wp2
              go_ret2
              exact ⟨.slice none 0 0, by first | (rw [hF, E3.out]; rfl) | (rw [E3.out]; rfl), by first | (rw [hF]; exact nilR _ _) | exact nilR _ _, hB.trans (drawn_below ⟨_, rfl⟩)⟩
            · have hq : ((nm y1).toList == (nm y2).toList) = false := by
                cases h : ((nm y1).toList == (nm y2).toList) with
                | false => rfl
                | true => exact absurd (toList_inj (by simpa using h)) heq
              have ht : twins nm ys = twins nm (ys.drop (k + 1 - 1)) := by rw [HK.out, HS.out]; simp [heq]
              have HT2 := Aside0.mk ht
              clear ht
              go_wp2
              go_quiet (fail)
              go_wp2
              refine ⟨⟨k + 1, by omega, Or.inl (by omega), by go_num, ?_, HT2⟩, by simp [intOf]; omega⟩
              obtain ⟨m, rfl⟩ := HD.out.out
              exact ⟨⟨m + nq, by simp [World.drewN, Nat.add_assoc]⟩⟩
          · have ht : twins nm ys = false := by
              rw [HK.out]
              exact twins_short nm _ (by rw [List.length_drop]; omega)
            have hF : F = (ys, none) := by rw [HF2.out, if_neg (by rw [← HT.out, ht]; simp), ← HU.out ht]
            have hB4 : Below w3.heap.size w3 wr := (drawn_below HD4.out).trans (drawn_below HD.out)
            have hB : Below w.heap.size w wr := (HB3.out.trans (drawn_below HD4.out)).trans (drawn_below HD.out)
            have hR := Kd.R_below HR3.out hB4
            have hin : ¬ (k : Int) < (ys.length : Int) := by omega
            clear HF2 HT HU HK
            go_wp2
            go_ret2
            exact ⟨.slice A ys.length c, by first | (rw [hF, E0.out]; rfl) | (rw [E0.out]; rfl), by first | (rw [hF]; exact hR) | exact hR, hB⟩
end
end Go.Proofs.YtcikjeiebpmmcaaGreat
