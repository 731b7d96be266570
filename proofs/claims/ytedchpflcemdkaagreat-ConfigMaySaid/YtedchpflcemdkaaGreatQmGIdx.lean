/- A text of this claim, pruned by a program of the session (prune.py) to what the theorem rests on. -/
import Derived.Test.YtedchpflcemdkaaGreatQmGAno
namespace Go.Proofs.YtedchpflcemdkaaGreat
open Go.RowKit Go.Maps Go.Proofs.YtedchpflcemdkaaGreatW.PrintWords Go.Proofs.YtedchpflcemdkaaGreatW.PrintLast Go.Proofs.YtedchpflcemdkaaGreatW.PrintMore
set_option linter.unusedVariables false
set_option linter.unusedSimpArgs false
structure TgK (α : Type) where
  d : Kd α
  f0 : α → ByteArray
  f1 : α → ByteArray
  f2 : α → ByteArray
  f3 : α → Int
  f4 : α → Int
  who : α → Who
  may : α → Bool
  sz : d.sz = 5
  hK : ∀ {w x cs}, d.K w x cs → cs = [.string (f0 x), .string (f1 x), .string (f2 x), .int .i64 (f3 x), .int .i64 (f4 x)]
def TgK.Ok {α : Type} (T : TgK α) (x : α) : Prop := (T.who x).1.1 = T.f0 x ∧ (T.who x).1.2 = T.f1 x ∧ ∀ W', Calls Tryz.prog 6 #[.agg #[.string (T.f0 x), .string (T.f1 x), .string (T.f2 x), .int .i64 (T.f3 x), .int .i64 (T.f4 x)]] W' fun e w' => e = .returned (.bool (T.may x)) ∧ Below W'.heap.size W' w'
theorem TgK.cells {α : Type} (T : TgK α) {w : World} {A : Option Addr} {xs : List α} (h : T.d.C w A xs.length xs) (hn : 0 < xs.length) : ∃ b off, A = some ⟨b, off, none⟩ ∧ b < w.heap.size ∧ ∀ j p, xs[j]? = some p → ∀ i u, [Value.string (T.f0 p), .string (T.f1 p), .string (T.f2 p), .int .i64 (T.f3 p), .int .i64 (T.f4 p)][i]? = some u → w.cell? ⟨b, off + j * 5 + i, none⟩ = some u := by
  obtain ⟨b, off, e, hb, hc⟩ := C_at h hn (by rw [T.sz]; decide)
  refine ⟨b, off, e, hb, fun j p hp i u hu => ?_⟩
  obtain ⟨c, _, hK, hcc⟩ := hc j p hp
  obtain rfl := T.hK hK
  have := hcc i u hu
  rwa [T.sz] at this
noncomputable def anyBad {α : Type} (T : TgK α) : List Who → List α → Bool
  | _, [] => false
  | S, x :: l => ((seenF S (T.who x)).isSome || !T.may x) || anyBad T (T.who x :: S) l
def IndexPost (bad : Bool) (W : World) (mb : Nat) (e : Ending) (w' : World) : Prop := ∃ k : Int, e = .returned (.int .i64 k) ∧ decide (0 ≤ k) = bad ∧ W.grownBy w' (some mb)
set_option maxRecDepth 100000 in
set_option maxHeartbeats 2000000 in
theorem index_calls {α : Type} (T : TgK α) (A : Option Addr) (c : Nat) (l : List α) (W : World) (sb mb : Nat) (hS : SeenAt W sb mb []) (hC : T.d.C W A l.length l) (hT : ∀ x ∈ l, T.Ok x) (hl : l.length ≤ 8796093022208) (hA : 0 < l.length → ∀ b o, A = some ⟨b, o, none⟩ → b ≠ mb) :
    Calls Tryz.prog 37 #[.slice A l.length c, .func (.func 19) #[] #[.pointer (some ⟨sb, 0, none⟩)]] W (IndexPost (anyBad T [] l) W mb) := by
  have HS := Aside0.mk hS
  have HT := Aside0.mk hT
  have HA := Aside0.mk hA
  clear hT hA hS
  have hmb : mb < W.heap.size := by obtain ⟨_, _, _, _, h⟩ := HS.out; exact h.lt
  go_enter Tryz.func37, Tryz.ntmps37
  go_wp2_with fail
  go_loopw [8] (fun v wr => ∃ j : Nat, j ≤ l.length ∧ v = .int .i64 j ∧ ∃ S, S.length = j ∧ Aside0 (SeenAt wr sb mb S ∧ W.grownBy wr (some mb) ∧ anyBad T [] l = anyBad T S (l.drop j))) (fun v _ => l.length - (intOf v).toNat)
  case atStart => exact ⟨0, Nat.zero_le _, by go_num, [], rfl, Aside0.mk ⟨HS.out, grown_refl W mb, rfl⟩⟩
  case round =>
    obtain ⟨j, hj, rfl, S, hSl, HR⟩ := hrel
    by_cases hlt : j < l.length
    · have hlti : (j : Int) < (l.length : Int) := by omega
      obtain ⟨h1, o1, rfl, hg1, hc1⟩ := T.cells hC (by omega)
      have hx := List.getElem?_eq_getElem hlt
      have hd : l.drop j = l[j] :: l.drop (j + 1) := List.drop_eq_getElem_cons hlt
      have hxm : l[j] ∈ l := List.getElem_mem hlt
      generalize l[j] = u at *
      have hne := HA.out (by omega) h1 o1 rfl
      have hcw := fun i v hv => grown_cell HR.out.2.1 hg1 (fun e => hne (Option.some.inj e)) (hc1 j u hx i v hv)
      have n0 : wr.cell? ⟨h1, o1 + j * 5, none⟩ = some (.string (T.f0 u)) := hcw 0 _ rfl
      have n1 : wr.cell? ⟨h1, o1 + j * 5 + 1, none⟩ = some (.string (T.f1 u)) := hcw 1 _ rfl
      have n2 : wr.cell? ⟨h1, o1 + j * 5 + 2, none⟩ = some (.string (T.f2 u)) := hcw 2 _ rfl
      have n3 : wr.cell? ⟨h1, o1 + j * 5 + 3, none⟩ = some (.int .i64 (T.f3 u)) := hcw 3 _ rfl
      have n4 : wr.cell? ⟨h1, o1 + j * 5 + 4, none⟩ = some (.int .i64 (T.f4 u)) := hcw 4 _ rfl
      obtain ⟨t1, t2, t3⟩ := HT.out u hxm
      have HQ := Aside0.mk (another_cl (T.may u) _ _ (T.f2 u) (T.f3 u) (T.f4 u) (T.who u) t1 t2 wr sb mb S HR.out.1 (by rw [hSl]; simp only [maxLen]; omega) t3)
      have HD := Aside0.mk hd
      clear hcw hc1 hx t1 t2 t3 hd hxm
      go_wp2_with fail
      refine HQ.out.mono ?_
      rintro e w2 ⟨rfl, hS2, hg2⟩
      have HS2 := Aside0.mk hS2
      have HG2 := Aside0.mk (grown_trans HR.out.2.1 hg2)
      obtain ⟨r, hr⟩ : ∃ r, ((seenF S (T.who u)).isSome || !T.may u) = r := ⟨_, rfl⟩
      have HE : Aside0 (anyBad T [] l = (r || anyBad T (T.who u :: S) (l.drop (j + 1)))) := Aside0.mk (by rw [HR.out.2.2, HD.out, anyBad, hr])
      rw [hr]
      clear hS2 hg2 HQ n0 n1 n2 n3 n4 hr HR HD
      cases r with
      | true =>
        go_wp2_with fail
        go_ret
        exact ⟨j, rfl, by rw [HE.out]; simp, HG2.out⟩
      | false =>
        go_wp2_with fail
        exact ⟨⟨j + 1, by omega, by go_num, _, by simp [hSl], Aside0.mk ⟨HS2.out, HG2.out, by rw [HE.out]; simp⟩⟩, by simp [intOf]; omega⟩
    · have hlti : ¬ (j : Int) < (l.length : Int) := by omega
      have HE : Aside0 (anyBad T [] l = false) := Aside0.mk (by rw [HR.out.2.2, List.drop_eq_nil_of_le (by omega), anyBad])
      go_wp2_with fail
      go_ret
      exact ⟨-1, rfl, by rw [HE.out]; rfl, HR.out.2.1⟩
set_option maxRecDepth 100000 in
theorem contains_calls {α : Type} (T : TgK α) (A : Option Addr) (c : Nat) (l : List α) (W : World) (sb mb : Nat) (hS : SeenAt W sb mb []) (hC : T.d.C W A l.length l) (hT : ∀ x ∈ l, T.Ok x) (hl : l.length ≤ 8796093022208) (hA : 0 < l.length → ∀ b o, A = some ⟨b, o, none⟩ → b ≠ mb) :
    Calls Tryz.prog 22 #[.slice A l.length c, .func (.func 19) #[] #[.pointer (some ⟨sb, 0, none⟩)]] W fun e w' => e = .returned (.bool (anyBad T [] l)) ∧ W.grownBy w' (some mb) := by
  have hc := index_calls T A c l W sb mb hS hC hT hl hA
  go_enter Tryz.func22, Tryz.ntmps22
  go_wp2_with fail
  refine hc.mono ?_
  rintro e w2 ⟨k, rfl, hk, hg⟩
  have HG := Aside0.mk hg
  have HK := Aside0.mk hk
  clear hg hk hc hS hC hT
  go_wp2_with fail
  go_ret
  exact ⟨by rw [← HK.out]; rfl, HG.out⟩
end Go.Proofs.YtedchpflcemdkaaGreat
