/- A text of this claim, pruned by a program of the session (prune.py) to what the theorem rests on. -/
import Derived.Test.YtcikjeiebpmmcaaQbPureRboPar
import Derived.KernelRfl
namespace Go.Proofs.Ytcikjeiebpmmcaa.PureRbo
open Go.RowKit Go.Proofs.Ytcikjeiebpmmcaa Go.Proofs.Ytcikjeiebpmmcaa.PRbo Go.Proofs.YtcikjeiebpmmcaaW.PrintWords
set_option linter.unusedVariables false
set_option linter.unusedSimpArgs false
theorem lift {α : Type} {f : Nat → Option α} (h : ∀ k r, f k = some r → f (k + 1) = some r) {k k' : Nat} (hk : k ≤ k') {r : α} (e : f k = some r) : f k' = some r := by
  induction hk with
  | refl => exact e
  | step _ ih => exact h _ _ ih
def KK : Nat := 100000
theorem k60 : 60 ≤ KK := by unfold KK; omega
theorem known_KK : odometerlaw29_known.f KK = some true := lift (fun k r h => odometerlaw29_known.mono k r h) k60 (show odometerlaw29_known.f 60 = some true by kernel_rfl)
def rep (c : UInt8) (n : Nat) : ByteArray := ba (List.replicate n c)
theorem rep_size (c : UInt8) (n : Nat) : (rep c n).size = n := by rw [rep, size_ba, List.length_replicate]
theorem bl_rep (c : UInt8) (n : Nat) : bl (rep c n) = List.replicate n c := bl_ba _
theorem bt_rep (c : UInt8) (n i : Nat) (h : i < n) : bt (rep c n) (i : Int) = (c.toNat : Int) := by
  rw [rep, bt_ba _ i (by rw [List.length_replicate]; exact h), List.getElem_replicate]
theorem more_go (c : UInt8) (m : Nat) (hm : m ≤ 4000) : ∀ (n k i : Nat), i + n = m → n < k → odometerlaw29_more.l0 k (⟨#[c]⟩ : ByteArray) (m : Int) (rep c i) (i : Int) = some (rep c m)
  | 0, k + 1, i, h, hk => by
    obtain rfl : i = m := by omega
    rw [odometerlaw29_more.l0, if_neg (by omega)]
  | n + 1, k + 1, i, h, hk => by
    have z : (⟨#[c]⟩ : ByteArray).size = 1 := rfl
    have e : rep c i ++ (⟨#[c]⟩ : ByteArray) = rep c (i + 1) := by
      apply eq_ba
      rw [bl_append, rep, bl_ba, List.replicate_succ']
      rfl
    rw [odometerlaw29_more.l0, if_pos (by omega), if_pos (by rw [rep_size, z]; omega), wrap_one i (by omega), e]
    exact more_go c m hm n k (i + 1) (by omega) (by omega)
theorem more_f (c : UInt8) (m : Nat) (hm : m ≤ 4000) : odometerlaw29_more.f KK (⟨#[c]⟩ : ByteArray) (m : Int) = some (rep c m) :=
  more_go c m hm m KK 0 (by omega) (by unfold KK; omega)
def P18 : ByteArray := ba [42, 45, 42, 45, 42, 45, 42, 45, 42, 45, 42, 45, 42, 45, 42, 45, 42, 45]
def T18 : ByteArray := ba [97, 45, 97, 45, 97, 45, 97, 45, 97, 45, 97, 45, 97, 45, 97, 45, 97, 45]
theorem more_p : odometerlaw29_more.f KK (⟨#[42, 45]⟩ : ByteArray) 9 = some P18 := lift (fun k r h => odometerlaw29_more.mono _ _ k r h) k60 (show odometerlaw29_more.f 60 _ _ = _ by kernel_rfl)
theorem more_t : odometerlaw29_more.f KK (⟨#[97, 45]⟩ : ByteArray) 9 = some T18 := lift (fun k r h => odometerlaw29_more.mono _ _ k r h) k60 (show odometerlaw29_more.f 60 _ _ = _ by kernel_rfl)
theorem match9 : relabel_Match.f KK P18 T18 = some (List.replicate 9 (⟨#[97]⟩ : ByteArray), true) := lift (fun k r h => relabel_Match.mono _ _ k r h) k60 (show relabel_Match.f 60 _ _ = _ by kernel_rfl)
theorem match10 : relabel_Match.f KK (rep 42 10) (⟨#[97]⟩ : ByteArray) = some ([], false) := lift (fun k r h => relabel_Match.mono _ _ k r h) k60 (show relabel_Match.f 60 _ _ = _ by kernel_rfl)
theorem pieces_rep (n : Nat) (hn : n ≤ 4000) : ∀ (m k i : Nat), i + m = n → m < k → relabel_pieces.l0 k (rep 97 n) [List.replicate i ⟨false, 97⟩] (i : Int) = some ([List.replicate n ⟨false, 97⟩], decide ((n : Int) ≤ 1024))
  | 0, k + 1, i, h, hk => by
    obtain rfl : i = n := by omega
    rw [relabel_pieces.l0, if_neg (by rw [rep_size]; omega), if_pos (by simp), rep_size]
  | m + 1, k + 1, i, h, hk => by
    have hb : bt (rep 97 n) (i : Int) = 97 := bt_rep 97 n i (by omega)
    have w0 : wrap64 ((([List.replicate i ⟨false, 97⟩] : List (List S63)).length : Int) - 1) = 0 := by simp [wrap64]
    have r0 : rd_L3 ([List.replicate i ⟨false, 97⟩] : List (List S63)) 0 = List.replicate i ⟨false, 97⟩ := rfl
    rw [relabel_pieces.l0, if_pos (by rw [rep_size]; omega), if_pos (by omega), hb, if_neg (by decide), if_neg (by decide), if_neg (by decide), w0, if_pos (by omega), if_pos (by simp), r0, if_pos (by rw [List.length_replicate]; omega), wrap_one i (by omega)]
    have e : ([List.replicate i ⟨false, 97⟩] : List (List S63)).set (0 : Int).toNat (List.replicate i ⟨false, 97⟩ ++ [⟨false, 97⟩]) = [List.replicate (i + 1) ⟨false, 97⟩] := by
      rw [List.replicate_succ']
      rfl
    rw [e]
    exact pieces_rep n hn m k (i + 1) (by omega) (by omega)
theorem rd_rep (n i : Nat) (h : i < n) : rd_T63 (List.replicate n ⟨false, 97⟩) (i : Int) = ⟨false, 97⟩ := by
  simp [rd_T63, h]
theorem stands_rep (n : Nat) (hn : n ≤ 4000) : ∀ (m k i : Nat), i + m = n → m < k → relabel_stands.l0 k (rep 97 n) 0 (List.replicate n ⟨false, 97⟩) (n : Int) (i : Int) = some true
  | 0, k + 1, i, h, hk => by
    obtain rfl : i = n := by omega
    rw [relabel_stands.l0, if_neg (by omega)]
  | m + 1, k + 1, i, h, hk => by
    have w0 : wrap64 (0 + (i : Int)) = (i : Int) := by unfold wrap64; omega
    rw [relabel_stands.l0, if_pos (by omega), if_pos (by omega), if_pos (by rw [List.length_replicate]; omega), rd_rep n i (by omega), if_neg (by simp), w0, if_pos (by omega), if_pos (by rw [rep_size]; omega), bt_rep 97 n i (by omega), if_pos (by decide), wrap_one i (by omega)]
    exact stands_rep n hn m k (i + 1) (by omega) (by omega)
theorem stands_f (n : Nat) (hn : n ≤ 4000) : relabel_stands.f KK (List.replicate n ⟨false, 97⟩) (rep 97 n) 0 = some true := by
  unfold relabel_stands.f
  have hd : decide (wrap64 (0 + ((List.replicate n (⟨false, 97⟩ : S63)).length : Int)) > ((rep 97 n).size : Int)) = false := by
    rw [List.length_replicate, rep_size]
    exact decide_eq_false (by unfold wrap64; omega)
  obtain ⟨k, hk⟩ : ∃ k, KK = k + 1 := ⟨99999, rfl⟩
  rw [if_neg (by omega), hd, hk, relabel_stands.j0, if_neg (by simp), List.length_replicate]
  exact stands_rep n hn n k 0 (by omega) (by unfold KK at hk; omega)
theorem match_rep (n : Nat) (h1 : 1 ≤ n) (hn : n ≤ 4000) : relabel_Match.f KK (rep 97 n) (rep 97 n) = some ([], decide ((n : Int) ≤ 1024)) := by
  unfold relabel_Match.f relabel_pieces.f
  rw [show ([[]] : List (List S63)) = [List.replicate 0 ⟨false, 97⟩] from rfl, show (0 : Int) = ((0 : Nat) : Int) from rfl, pieces_rep n hn n KK 0 (by omega) (by unfold KK; omega), Option.bind_some]
  rw [if_pos ⟨by rw [rep_size]; omega, by simp, fun p hp => by rw [List.mem_singleton.1 hp, List.length_replicate]; omega⟩]
  unfold matchF
  by_cases hd : (n : Int) ≤ 1024
  · simp only [hd, decide_true]
    rw [if_neg (by simp)]
    show (relabel_stands.f KK (List.replicate n ⟨false, 97⟩) (rep 97 n) 0).bind _ = _
    rw [stands_f n hn, Option.bind_some, if_neg (by simp), if_neg (by rw [List.length_replicate, rep_size]; simp), restF_nil]
  · simp only [hd, decide_false]
    exact if_pos trivial
theorem fill_rep (took : List ByteArray) (c : UInt8) (hc : c ≠ 36) : ∀ n, fillL took (List.replicate n c) = some (List.replicate n c)
  | 0 => rfl
  | n + 1 => by rw [List.replicate_succ, fill_plain took c _ hc, fill_rep took c hc n]; rfl
theorem fill_f (n : Nat) (hn : n ≤ 4000) : relabel_Fill.f (rep 97 n) [] = some (rep 97 n, decide (n ≤ 1024)) := by
  unfold relabel_Fill.f fillR
  rw [if_pos ⟨by rw [rep_size]; omega, by simp⟩, show (rep 97 n).data.toList = List.replicate n 97 from bl_rep 97 n, fill_rep [] 97 (by decide), rep_size]
  rfl
theorem stands_none (t : ByteArray) (ht : t.size ≤ 4000) (a : Nat) (ha : a ≤ t.size) : relabel_stands.f KK [] t (a : Int) = some true := by
  obtain ⟨k, hk⟩ : ∃ k, KK = k + 1 + 1 := ⟨99998, rfl⟩
  unfold relabel_stands.f
  have hd : decide (wrap64 ((a : Int) + (([] : List (S63)).length : Int)) > (t.size : Int)) = false := decide_eq_false (by simp only [List.length_nil]; unfold wrap64; omega)
  rw [if_neg (by omega), hd, hk, relabel_stands.j0, if_neg (by simp), relabel_stands.l0, if_neg (by simp)]
theorem pieces_star : relabel_pieces.f KK (⟨#[42]⟩ : ByteArray) = some ([[], []], true) := lift (fun k r h => relabel_pieces.mono _ k r h) k60 (show relabel_pieces.f 60 _ = _ by kernel_rfl)
theorem match_star (t : ByteArray) (ht : t.size ≤ 4000) : relabel_Match.f KK (⟨#[42]⟩ : ByteArray) t = some ([t], true) := by
  unfold relabel_Match.f
  rw [pieces_star, Option.bind_some, if_pos ⟨by omega, by simp, fun p hp => by simp at hp; rw [hp]; simp⟩]
  have h0 : relabel_stands.f KK [] t 0 = some true := stands_none t ht 0 (Nat.zero_le _)
  have h1 := stands_none t ht t.size (Nat.le_refl _)
  have hm : max 0 (t.size - 0) = t.size := by omega
  unfold matchF
  rw [if_neg (by simp)]
  show (relabel_stands.f KK [] t 0).bind _ = _
  rw [h0, Option.bind_some, if_neg (by simp), if_neg (by simp)]
  unfold restF
  rw [if_pos rfl, List.length_nil, hm, show t.size + 1 - t.size = 1 by omega, findF]
  show ((relabel_stands.f KK [] t (t.size : Int)).bind _).bind _ = _
  rw [h1, Option.bind_some, if_pos rfl, Option.bind_some, if_neg (by omega), restF_nil]
  simp
theorem fill_two (v : ByteArray) (hv : v.size ≤ 4000) : relabel_Fill.f (⟨#[36, 49, 36, 49]⟩ : ByteArray) [v] = some (v ++ v, true) := by
  unfold relabel_Fill.f fillR
  rw [if_pos ⟨by show (4 : Nat) ≤ 100000; omega, fun x hx => by rw [List.mem_singleton.1 hx]; omega⟩]
  have e : fillL [v] [36, 49, 36, 49] = some (v.data.toList ++ (v.data.toList ++ [])) := by simp [fillL]
  rw [show (⟨#[36, 49, 36, 49]⟩ : ByteArray).data.toList = [36, 49, 36, 49] from rfl, e]
  have h2 : (⟨(v.data.toList ++ (v.data.toList ++ [])).toArray⟩ : ByteArray) = v ++ v := by
    apply ByteArray.ext
    simp [ByteArray.data_append]
  show some ((⟨(v.data.toList ++ (v.data.toList ++ [])).toArray⟩ : ByteArray), _) = _
  rw [h2]
  rfl
def mB : ByteArray := ⟨#[109]⟩
def aB : ByteArray := ⟨#[97]⟩
def lb (v : ByteArray) : Lb := ⟨aB, v⟩
theorem mB_ok : namedB mB 58 = true := by kernel_rfl
theorem aB_ok : namedB aB 95 = true := by kernel_rfl
theorem right_lb (v : ByteArray) (hv : v.size ≤ 1024) : Right mB [lb v] := by
  refine ⟨mB_ok, by simp, ?_, by simp⟩
  simp [goodL, lb, aB_ok, hv]
theorem small_lb (v : ByteArray) (hv : v.size ≤ 10000) : Small [lb v] := ⟨by simp, fun x hx => by rw [List.mem_singleton.1 hx]; exact ⟨by show (1 : Nat) ≤ 10000; omega, hv⟩⟩
theorem esc_rep : ∀ n, (List.replicate n (120 : UInt8)).flatMap escByte = List.replicate n 120
  | 0 => rfl
  | n + 1 => by rw [List.replicate_succ, esc_cons, esc_rep n]; rfl
theorem text_lb (n : Nat) : ba (bl mB ++ render [lb (rep 120 n)]) = (⟨#[109, 123, 97, 61, 34]⟩ : ByteArray) ++ rep 120 n ++ ⟨#[34, 125]⟩ := by
  symm
  apply eq_ba
  rw [bl_append, bl_append, bl_rep]
  simp [render, one, lb, bl_rep, esc_rep, Lib.join, Lib.joinTail]
  rfl
theorem parse_lb (n : Nat) (hn : n ≤ 1024) : label_Parse.f KK ((⟨#[109, 123, 97, 61, 34]⟩ : ByteArray) ++ rep 120 n ++ ⟨#[34, 125]⟩) = some (mB, [lb (rep 120 n)], 0) := by
  have h := parse_name mB (by show (1 : Nat) ≤ 10000; omega) [lb (rep 120 n)] (small_lb _ (by rw [rep_size]; omega)) (right_lb _ (by rw [rep_size]; exact hn)) KK (by unfold KK; omega)
  rw [show isort nmL [lb (rep 120 n)] = [lb (rep 120 n)] from rfl, text_lb] at h
  exact h
def r1 : S30 := ⟨3, ⟨#[97]⟩, ⟨#[42]⟩, ⟨#[36, 49, 36, 49]⟩, ⟨#[97]⟩⟩
def r2 : S30 := ⟨3, ⟨#[97]⟩, ⟨#[42]⟩, ⟨#[]⟩, ⟨#[95, 95, 110, 97, 109, 101, 95, 95]⟩⟩
def r0 : S30 := ⟨0, ⟨#[]⟩, ⟨#[]⟩, ⟨#[]⟩, ⟨#[]⟩⟩
theorem may_r1 : relabel_May.f KK [r1] = some true := lift (fun k r h => relabel_May.mono _ k r h) k60 (show relabel_May.f 60 _ = _ by kernel_rfl)
theorem may_r0 : relabel_May.f KK [r0] = some false := lift (fun k r h => relabel_May.mono _ k r h) k60 (show relabel_May.f 60 _ = _ by kernel_rfl)
theorem may_nil : relabel_May.f KK [] = some true := lift (fun k r h => relabel_May.mono _ k r h) k60 (show relabel_May.f 60 _ = _ by kernel_rfl)
theorem apply_r2 : relabel_Apply.f KK [r2] (⟨#[109]⟩ : ByteArray) = some (⟨#[]⟩, false, 5) := lift (fun k r h => relabel_Apply.mono _ _ k r h) k60 (show relabel_Apply.f 60 _ _ = _ by kernel_rfl)
theorem step_r1 (v : ByteArray) (hv : v.size ≤ 4000) (hp : 0 < v.size) : relabel_Apply.step KK r1 mB [lb v] = some (mB, [lb (v ++ v)], true) := by
  have hval : valueF (fun x : Lb => x.f0) (fun x => x.f1) mB [lb v] (⟨#[97]⟩ : ByteArray) = v := by
    unfold valueF
    rw [if_neg (by decide)]
    simp [lb, aB]
  have hne : v ++ v ≠ (⟨#[]⟩ : ByteArray) := fun e => by
    have h2 := congrArg ByteArray.size e
    rw [ByteArray.size_append] at h2
    have h3 : (⟨#[]⟩ : ByteArray).size = 0 := rfl
    omega
  unfold relabel_Apply.step stepF
  show (if _ then (relabel_Match.f KK (⟨#[42]⟩ : ByteArray) (valueF (fun x : Lb => x.f0) (fun x => x.f1) mB [lb v] (⟨#[97]⟩ : ByteArray))).bind _ else _) = _
  rw [if_pos ⟨Or.inr (Or.inr (Or.inl rfl)), by simp⟩, hval, match_star v hv, Option.bind_some, if_pos ⟨rfl, rfl⟩]
  show (relabel_Fill.f (⟨#[36, 49, 36, 49]⟩ : ByteArray) [v]).bind _ = _
  rw [fill_two v hv, Option.bind_some]
  show some (oneF (fun x : Lb => x.f0) (fun a b => (⟨a, b⟩ : Lb)) (fun _ => false) 3 (⟨#[97]⟩ : ByteArray) (v ++ v) true mB [lb v]) = _
  have hset : setF (fun x : Lb => x.f0) (fun a b => (⟨a, b⟩ : Lb)) mB [lb v] (⟨#[97]⟩ : ByteArray) (v ++ v) = (mB, [lb (v ++ v)]) := by
    unfold setF
    rw [if_neg (by decide), if_neg hne]
    simp [lb, aB]
  unfold oneF
  rw [if_neg (by decide), if_neg (by decide), if_pos rfl, if_pos rfl, hset]
theorem apply_r1 (n : Nat) (h0 : 0 < n) (hn : n ≤ 1024) : relabel_Apply.f KK [r1] ((⟨#[109, 123, 97, 61, 34]⟩ : ByteArray) ++ rep 120 n ++ ⟨#[34, 125]⟩) = if n ≤ 512 then some ((nameF mB [lb (rep 120 n ++ rep 120 n)]).1, true, 0) else some (⟨#[]⟩, false, 5) := by
  unfold relabel_Apply.f
  rw [may_r1, Option.bind_some, if_pos rfl, parse_lb n hn, Option.bind_some, if_pos rfl, if_pos (by simp), goF, step_r1 _ (by rw [rep_size]; omega) (by rw [rep_size]; omega), Option.bind_some, if_neg (by simp)]
  have hsz : (rep 120 n ++ rep 120 n).size = n + n := by rw [ByteArray.size_append, rep_size]
  show (label_Name.f KK mB [lb (rep 120 n ++ rep 120 n)]).bind _ = _
  rw [labelName_f mB (by show (1 : Nat) ≤ 10000; omega) _ (small_lb _ (by rw [hsz]; omega)) KK (by unfold KK; omega), Option.bind_some]
  by_cases h : n ≤ 512
  · rw [if_pos h, nameF_right (right_lb _ (by rw [hsz]; omega)), if_pos rfl, goF]
  · rw [if_neg h, nameF_not (fun hr => by
      have h2 := hr.2.2.1
      simp [goodL, lb, hsz] at h2
      omega), if_neg (by decide)]
end Go.Proofs.Ytcikjeiebpmmcaa.PureRbo
