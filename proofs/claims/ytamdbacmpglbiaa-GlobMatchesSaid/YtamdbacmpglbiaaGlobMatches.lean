/-
  Whether any text matches any pattern is told as the document says: the walk of the law.
-/
import Derived.Test.YtamdbacmpglbiaaGlobLaw
namespace Go.Proofs.Ytamdbacmpglbiaa.GlobMatches
open Go.Shelf Go.RowKit Go.Proofs.YtamdbacmpglbiaaW.PrintWords Go.Proofs.YtamdbacmpglbiaaW.PrintLast Go.Proofs.YtamdbacmpglbiaaW.PrintMore Kit Glob
set_option linter.unusedVariables false
set_option linter.unusedSimpArgs false
theorem alive02 (w : World) : Calls Try.prog 17 #[] w fun e w' => e = .returned (.bool true) ∧ Below w.heap.size w w' :=
  PGlobMatches.mewslaw02_alive.calls 40 true w (by kernel_rfl)
theorem far2 (p s : ByteArray) : PGlobMatches.mewslaw02_far.f 4 [p, s] = some (decide (300 < p.size) || decide (300 < s.size)) := by
  have w1 : wrap64 (1 : Int) = 1 := by unfold wrap64; omega
  have w2 : wrap64 (2 : Int) = 2 := by unfold wrap64; omega
  have r0 : rdOf ByteArray.empty [p, s] 0 = p := rfl
  have r1 : rdOf ByteArray.empty [p, s] 1 = s := rfl
  by_cases h1 : 300 < p.size
  · have : ((p.size : Int) > 300) := by omega
    simp [PGlobMatches.mewslaw02_far.f, PGlobMatches.mewslaw02_far.l0, w1, w2, r0, r1, h1, this]
  · have h1' : ¬ ((p.size : Int) > 300) := by omega
    by_cases h2 : 300 < s.size
    · have : ((s.size : Int) > 300) := by omega
      simp [PGlobMatches.mewslaw02_far.f, PGlobMatches.mewslaw02_far.l0, w1, w2, r0, r1, h1, h1', h2, this]
    · have h2' : ¬ ((s.size : Int) > 300) := by omega
      simp [PGlobMatches.mewslaw02_far.f, PGlobMatches.mewslaw02_far.l0, w1, w2, r0, r1, h1, h1', h2, h2']
set_option maxHeartbeats 8000000 in
set_option maxRecDepth 100000 in
theorem far_way (w : World) (p s : ByteArray) (hf : (decide (300 < p.size) || decide (300 < s.size)) = true) : Calls Try.prog 4 #[.string p, .string s] w fun e w' => e = .returned (.bool true) ∧ Below w.heap.size w w' := by
  have HF := Aside0.mk (by rw [far2, hf] : PGlobMatches.mewslaw02_far.f 4 [p, s] = some true)
  clear hf
  go_enter Try.func4, Try.ntmps4
  go_wp2_with (first
    | (go_at_call 16; go_must (refine (PGlobMatches.mewslaw02_far.calls 4 _ _ [p, s] true _ (strs_lit _ [p, s] _ (by simp) (by simp)) (Nat.le_refl _) HF.out).mono ?_); rintro e w2 ⟨rfl, ⟨q, rfl⟩⟩)
    | (go_at_call 17; go_must (refine (alive02 _).mono ?_); rintro e w3 ⟨rfl, hB3⟩))
  go_ret
  exact ⟨rfl, below_then (pw_below_drewN (below_alloc (Below.refl _ _) _) _) (by simp) hB3⟩
set_option maxHeartbeats 8000000 in
set_option maxRecDepth 100000 in
theorem near_way (w : World) (p s : ByteArray) (hp : p.size ≤ 300) (hs : s.size ≤ 300) : Calls Try.prog 4 #[.string p, .string s] w fun e w' => e = .returned (.bool true) ∧ Below w.heap.size w w' := by
  have HF := Aside0.mk (by rw [far2, decide_eq_false (by omega : ¬ 300 < p.size), decide_eq_false (by omega : ¬ 300 < s.size)]; rfl : PGlobMatches.mewslaw02_far.f 4 [p, s] = some false)
  obtain ⟨k, hk⟩ := Match_f p s (by omega) (by omega)
  have HK := Aside0.mk hk
  have HP := Aside0.mk hp
  have HS := Aside0.mk hs
  clear hk hp hs
  obtain ⟨b, hb⟩ : ∃ b, b = matchP p s := ⟨_, rfl⟩
  rw [← hb] at HK
  have HBB := Aside0.mk hb
  clear hb
  go_enter Try.func4, Try.ntmps4
  go_wp2_with (first
    | (go_at_call 16; go_must (refine (PGlobMatches.mewslaw02_far.calls 4 _ _ [p, s] false _ (strs_lit _ [p, s] _ (by simp) (by simp)) (Nat.le_refl _) HF.out).mono ?_); rintro e w2 ⟨rfl, ⟨q, rfl⟩⟩)
    | (go_at_call 18; go_must (refine (PGlobMatches.glob_Match.calls k p s b _ HK.out).mono ?_); rintro e w3 ⟨rfl, hB3⟩)
    | (go_at_call 19; go_must (refine (match_calls _ p s (by have := HP.out; omega) (by have := HS.out; omega)).mono ?_); rw [← HBB.out]; rintro e w4 ⟨rfl, hB4⟩)
    | (go_at_call 17; go_must (refine (alive02 _).mono ?_); rintro e w5 ⟨rfl, hB5⟩))
  go_ret
  have h1 : Below w.heap.size w ((w.alloc (Obj.cells #[Value.string p, Value.string s] 9)).drewN q) := pw_below_drewN (below_alloc (Below.refl _ _) _) _
  have h3 := below_then h1 h1.size hB3
  have h4 := below_then h3 h3.size hB4
  exact ⟨rfl, below_then h4 h4.size hB5⟩
theorem walk (w : World) (p s : ByteArray) : Calls Try.prog 4 #[.string p, .string s] w fun e w' => e = .returned (.bool true) ∧ Below w.heap.size w w' := by
  by_cases hn : p.size ≤ 300 ∧ s.size ≤ 300
  · exact near_way w p s hn.1 hn.2
  · exact far_way w p s (by simp only [Bool.or_eq_true, decide_eq_true_eq]; omega)
end Go.Proofs.Ytamdbacmpglbiaa.GlobMatches
