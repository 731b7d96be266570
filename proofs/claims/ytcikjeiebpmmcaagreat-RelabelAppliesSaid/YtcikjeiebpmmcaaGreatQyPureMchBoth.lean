/- A text of this claim, pruned by a program of the session (prune.py) to what the theorem rests on. -/
import Derived.Test.YtcikjeiebpmmcaaGreatQyPureMchProg
namespace Go.Proofs.YtcikjeiebpmmcaaGreat.PureMch
open Go.RowKit Go.Proofs.YtcikjeiebpmmcaaGreat Go.Proofs.YtcikjeiebpmmcaaGreat.PMch Go.Proofs.YtcikjeiebpmmcaaGreatW.PrintWords
set_option linter.unusedVariables false
set_option linter.unusedSimpArgs false
theorem took_len (n : Nat) (tx : ByteArray) : ∀ (l : List (Tok PT)) (k : Nat), (tookF (okR tx) n tx l k).length ≤ l.length
  | [], k => Nat.le_refl _
  | .one b :: r, k => by
    show (tookF (okR tx) n tx r (k + 1)).length ≤ r.length + 1
    have := took_len n tx r (k + 1)
    omega
  | .star :: r, k => by
    show (tookF (okR tx) n tx r _).length + 1 ≤ r.length + 1
    exact Nat.succ_le_succ (took_len n tx r _)
theorem match_len (tx : ByteArray) (l : List PT) (b : Bool) : (matchR l b tx).1.length ≤ l.length := by
  unfold matchR
  split
  · simp
  · split
    · have := took_len tx.size tx (l.map tokR) 0
      rwa [List.length_map] at this
    · simp
theorem matchT_eq (ls : List PT) (b : Bool) (s : ByteArray) : matchT (fun p : PT => p.f0) (fun p => p.f1) (fun p => p.f2) s ls b = matchR ls b s := rfl
theorem both_match (pat s : ByteArray) (hp : pat.size ≤ 100000) (hs : s.size ≤ 100000) (k : Nat) (hk : 100002 < k) : ∃ r, r.1.length ≤ pat.size ∧ relabel_Match.f k pat s = some r ∧ odometerref29_Match.f k pat s = some r := by
  obtain ⟨ls, b, h1, h2, h3⟩ := prog_match pat s hp hs k hk
  refine ⟨_, Nat.le_trans (match_len s ls b) h2, h3, ?_⟩
  unfold odometerref29_Match.f
  rw [h1, Option.bind_some]
  dsimp only
  rw [if_pos ⟨by omega, by omega⟩, matchT_eq]
end Go.Proofs.YtcikjeiebpmmcaaGreat.PureMch
