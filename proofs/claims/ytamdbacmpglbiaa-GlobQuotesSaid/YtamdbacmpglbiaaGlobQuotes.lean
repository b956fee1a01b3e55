/-
  Any text quoted, what any plain pattern is, and which of some texts match, are the document's: the walk of the law.
-/
import Derived.Test.YtamdbacmpglbiaaGlobQLaw
namespace Go.Proofs.Ytamdbacmpglbiaa.Glob.Q
open Go.Shelf Go.RowKit Go.Proofs.YtamdbacmpglbiaaW.PrintWords Go.Proofs.YtamdbacmpglbiaaW.PrintLast Go.Proofs.YtamdbacmpglbiaaW.PrintMore Kit
set_option linter.unusedVariables false
set_option linter.unusedSimpArgs false
theorem alive02 (w : World) : Calls Try.prog 17 #[] w fun e w' => e = .returned (.bool true) ∧ Below w.heap.size w w' :=
  PGlobQuotes.mewslaw02_alive.calls 40 true w (by kernel_rfl)
theorem far_calls (w : World) (A : Option Addr) (c n : Nat) (l : List ByteArray) (hC : Kd.C Kd.string w A n l) (hn : n = l.length) (hc : l.length ≤ c) (hl : l.length ≤ 9223372036854775807) : Calls Try.prog 16 #[.slice A n c] w fun e w' => e = .returned (.bool (farL l)) ∧ Drawn0 w w' := by
  subst hn
  obtain ⟨k, hk⟩ := far_f l hl
  exact PGlobQuotes.mewslaw02_far.calls k A c l _ w hC hc hk
theorem far_lit (p : ByteArray) (b : Bool) (hf : farL [p] = b) (w : World) (n : Nat) (hn : w.heap.size = n) : Calls Try.prog 16 #[.slice (some ⟨n, 0, none⟩) 1 1] (w.alloc (.cells #[.string p] 9)) fun e w' => e = .returned (.bool b) ∧ Drawn0 (w.alloc (.cells #[.string p] 9)) w' := by
  have h := far_calls (w.alloc (.cells #[.string p] 9)) (some ⟨n, 0, none⟩) 1 1 [p] (strs_lit w [p] n hn (by simp)) rfl (Nat.le_refl _) (by simp)
  rw [hf] at h
  exact h
set_option maxHeartbeats 8000000 in
set_option maxRecDepth 100000 in
theorem far_one (w : World) (p : ByteArray) (A : Option Addr) (c : Nat) (l : List ByteArray) (hf : farL [p] = true) : Calls Try.prog 6 #[.string p, .slice A l.length c] w fun e w' => e = .returned (.bool true) ∧ Below w.heap.size w w' := by
  have HF := Aside0.mk hf
  clear hf
  go_enter Try.func6, Try.ntmps6
  go_wp2_with (first
    | (go_at_call 16; ((with_reducible refine (far_lit p _ HF.out _ _ ?h0).mono ?_)); (case h0 => rfl); rintro e w2 ⟨rfl, ⟨q, rfl⟩⟩)
    | (go_at_call 17; go_must (refine (alive02 _).mono ?_); rintro e w3 ⟨rfl, hB3⟩))
  go_ret
  exact ⟨rfl, below_then (pw_below_drewN (below_alloc (Below.refl _ _) _) _) (by simp) hB3⟩
set_option maxHeartbeats 8000000 in
set_option maxRecDepth 100000 in
theorem far_two (w : World) (p : ByteArray) (A : Option Addr) (c : Nat) (l : List ByteArray) (hC : Kd.C Kd.string w A l.length l) (hc : l.length ≤ c) (hl : l.length ≤ 9223372036854775807) (hf : farL [p] = false) (hf2 : farL l = true) : Calls Try.prog 6 #[.string p, .slice A l.length c] w fun e w' => e = .returned (.bool true) ∧ Below w.heap.size w w' := by
  have HF := Aside0.mk hf
  have HF2 : Aside0 (∀ W, Kd.C Kd.string W A l.length l → Calls Try.prog 16 #[.slice A l.length c] W fun e w' => e = .returned (.bool true) ∧ Drawn0 W w') := ⟨fun W hW => by have h := far_calls W A c l.length l hW rfl hc hl; rw [hf2] at h; exact h⟩
  have HC := Aside0.mk hC
  clear hf hf2 hC hc hl
  go_enter Try.func6, Try.ntmps6
  go_wp2_with (first
    | (go_at_call 16; ((with_reducible refine (far_lit p _ HF.out _ _ ?h0).mono ?_)); (case h0 => rfl); rintro e w2 ⟨rfl, ⟨q, rfl⟩⟩)
    | (go_at_call 16; ((with_reducible refine (HF2.out _ ?h1).mono ?_)); (case h1 => exact Kd.C_below HC.out (pw_below_drewN (below_alloc (Below.refl _ _) _) _)); rintro e w2 ⟨rfl, ⟨q2, rfl⟩⟩)
    | (go_at_call 17; go_must (refine (alive02 _).mono ?_); rintro e w3 ⟨rfl, hB3⟩))
  go_ret
  exact ⟨rfl, below_then (pw_below_drewN (below_alloc (Below.refl _ _) _) _) (by simp) hB3⟩
set_option maxHeartbeats 8000000 in
set_option maxRecDepth 100000 in
theorem near_way (w : World) (p : ByteArray) (A : Option Addr) (c : Nat) (l : List ByteArray) (hC : Kd.C Kd.string w A l.length l) (hc : l.length ≤ c) (hf : farL [p] = false) (hf2 : farL l = false) : Calls Try.prog 6 #[.string p, .slice A l.length c] w fun e w' => e = .returned (.bool true) ∧ Below w.heap.size w w' := by
  have hp : p.size ≤ 300 := by simp [farL] at hf; exact hf
  have hl : l.length ≤ 100 ∧ ∀ x ∈ l, x.size ≤ 300 := by
    simp only [farL, Bool.or_eq_false_iff, decide_eq_false_iff_not] at hf2
    refine ⟨by omega, fun x hx => ?_⟩
    exact Nat.le_of_not_lt fun h => hf2.1 ⟨x, hx, h⟩
  obtain ⟨hl1, hl2⟩ := hl
  obtain ⟨k1, h1⟩ := Plain_f p (by omega)
  obtain ⟨k2, h2⟩ := Quote_f p (by omega)
  obtain ⟨k3, h3⟩ := refQuote_f p (by omega)
  obtain ⟨k4, h4⟩ := All_f p l (by omega) (by omega) (fun x hx => Nat.le_trans (hl2 x hx) (by omega))
  obtain ⟨s1, hs1⟩ : ∃ s, s = (strOf (plainK (parts p))).1 := ⟨_, rfl⟩
  obtain ⟨b1, hb1⟩ : ∃ s, s = (strOf (plainK (parts p))).2 := ⟨_, rfl⟩
  obtain ⟨Q, hQ⟩ : ∃ s, s = quoteB p := ⟨_, rfl⟩
  obtain ⟨F, hF⟩ : ∃ s, s = l.filter fun x => matchP p x := ⟨_, rfl⟩
  rw [← hQ] at h2 h3
  have hFl : F.length ≤ 1000000 := by rw [hF]; exact Nat.le_trans (List.length_filter_le _ _) (by omega)
  obtain ⟨k5, h5⟩ := Same_f F hFl
  have HPL : Aside0 (∀ W, Calls Try.prog 29 #[.string p] W fun e w' => e = .returned (.tuple #[.string s1, .bool b1]) ∧ Below W.heap.size W w') := ⟨fun W => PGlobQuotes.glob_Plain.calls k1 p s1 b1 W (by rw [h1, hs1, hb1])⟩
  have HRP : Aside0 (∀ W, Calls Try.prog 30 #[.string p] W fun e w' => e = .returned (.tuple #[.string s1, .bool b1]) ∧ Below W.heap.size W w') := ⟨fun W => by have h := refPlain W p (by omega); rw [← hs1, ← hb1] at h; exact h⟩
  have HQ2 : Aside0 (∀ W, Calls Try.prog 31 #[.string p] W fun e w' => e = .returned (.string Q) ∧ Below W.heap.size W w') := ⟨fun W => PGlobQuotes.glob_Quote.calls k2 p Q W h2⟩
  have HRQ : Aside0 (∀ W, Calls Try.prog 32 #[.string p] W fun e w' => e = .returned (.string Q) ∧ Below W.heap.size W w') := ⟨fun W => (PGlobQuotes.mewsref02_Quote.calls k3 p Q W h3).mono fun e w' h => ⟨h.1, by have := h.2; first | exact this | (obtain ⟨q, rfl⟩ := this; exact pw_below_drewN (Below.refl _ _) _)⟩⟩
  have HAL : Aside0 (∀ W, Kd.C Kd.string W A l.length l → Calls Try.prog 33 #[.string p, .slice A l.length c] W fun e w' => ∃ A7 c7, e = .returned (.slice A7 F.length c7) ∧ F.length ≤ c7 ∧ Kd.C Kd.string w' A7 F.length F ∧ Below W.heap.size W w') := ⟨fun W hW => (PGlobQuotes.glob_All.calls k4 p A c l F W hW hc (by rw [h4, hF])).mono fun e w' h => by obtain ⟨v, rfl, hR, hB⟩ := h; obtain ⟨A7, c7, rfl, hl, hC7⟩ := Kd.R_reads hR; exact ⟨A7, c7, rfl, hl, hC7, hB⟩⟩
  have HRA : Aside0 (∀ W, Kd.C Kd.string W A l.length l → Calls Try.prog 34 #[.string p, .slice A l.length c] W fun e w' => ∃ A7 c7, e = .returned (.slice A7 F.length c7) ∧ F.length ≤ c7 ∧ Kd.C Kd.string w' A7 F.length F ∧ Below W.heap.size W w') := ⟨fun W hW => by have h := refAll W p A c l hW (by omega) (by omega) (fun x hx => Nat.le_trans (hl2 x hx) (by omega)); rw [← hF] at h; exact (h).mono fun e w' h => by obtain ⟨v, rfl, hR, hB⟩ := h; obtain ⟨A7, c7, rfl, hl, hC7⟩ := Kd.R_reads hR; exact ⟨A7, c7, rfl, hl, hC7, hB⟩⟩
  have HSM : Aside0 (∀ W A1 c1 A2 c2, Kd.C Kd.string W A1 F.length F → F.length ≤ c1 → Kd.C Kd.string W A2 F.length F → F.length ≤ c2 → Calls Try.prog 15 #[.slice A1 F.length c1, .slice A2 F.length c2] W fun e w' => e = .returned (.bool true) ∧ Drawn0 W w') := ⟨fun W A1 c1 A2 c2 g1 g2 g3 g4 => PGlobQuotes.mewsref02_Same.calls k5 A1 c1 F A2 c2 F true W g1 g2 g3 g4 h5⟩
  have HF := Aside0.mk hf
  have HF2 : Aside0 (∀ W, Kd.C Kd.string W A l.length l → Calls Try.prog 16 #[.slice A l.length c] W fun e w' => e = .returned (.bool false) ∧ Drawn0 W w') := ⟨fun W hW => by have h := far_calls W A c l.length l hW rfl hc (by omega); rw [hf2] at h; exact h⟩
  have HC := Aside0.mk hC
  clear hf hf2 hC hc hl1 hl2 hp h1 h2 h3 h4 h5 hs1 hb1 hQ hF hFl k1 k2 k3 k4 k5
  go_enter Try.func6, Try.ntmps6
  go_wp2_with (first
    | (go_at_call 16; ((with_reducible refine (far_lit p _ HF.out _ _ ?h0).mono ?_)); (case h0 => rfl); rintro e w2 ⟨rfl, ⟨q, rfl⟩⟩)
    | (go_at_call 16; ((with_reducible refine (HF2.out _ ?h1).mono ?_)); (case h1 => exact Kd.C_below HC.out (pw_below_drewN (below_alloc (Below.refl _ _) _) _)); rintro e w2 ⟨rfl, ⟨q2, rfl⟩⟩)
    | (go_at_call 29; go_must (refine (HPL.out _).mono ?_); rintro e w3 ⟨rfl, hB3⟩; have HB3 := Aside0.mk (below_then (pw_below_drewN (below_alloc (Below.refl w.heap.size w) _) _) (by simp) hB3); clear hB3)
    | (go_at_call 30; go_must (refine (HRP.out _).mono ?_); rintro e w4 ⟨rfl, hB4⟩; have HB4 := Aside0.mk (below_then HB3.out HB3.out.size hB4); clear hB4)
    | (go_at_call 31; go_must (refine (HQ2.out _).mono ?_); rintro e w5 ⟨rfl, hB5⟩; have HB5 := Aside0.mk (below_then HB4.out HB4.out.size hB5); clear hB5)
    | (go_at_call 32; go_must (refine (HRQ.out _).mono ?_); rintro e w6 ⟨rfl, hB6⟩; have HB6 := Aside0.mk (below_then HB5.out HB5.out.size hB6); clear hB6)
    | (go_at_call 33; ((with_reducible refine (HAL.out _ ?h1).mono ?_)); (case h1 => exact Kd.C_below HC.out HB6.out); rintro e w7 ⟨A7, c7, rfl, hl7, hC7, hB7⟩; have HC7 := Aside0.mk hC7; have HL7 := Aside0.mk hl7; have HB7 := Aside0.mk (below_then HB6.out HB6.out.size hB7); clear hC7 hl7 hB7)
    | (go_at_call 34; ((with_reducible refine (HRA.out _ ?h1).mono ?_)); (case h1 => exact Kd.C_below HC.out HB7.out); rintro e w8 ⟨A8, c8, rfl, hl8, hC8, hB8⟩; have HC8 := Aside0.mk hC8; have HL8 := Aside0.mk hl8; have HC78 := Aside0.mk (Kd.C_below HC7.out hB8); have HB8 := Aside0.mk (below_then HB7.out HB7.out.size hB8); clear hC8 hl8 hB8)
    | (go_at_call 15; ((with_reducible refine (HSM.out _ _ _ _ _ HC78.out HL7.out HC8.out HL8.out).mono ?_)); rintro e w9 ⟨rfl, ⟨q9, rfl⟩⟩)
    | (go_at_call 17; go_must (refine (alive02 _).mono ?_); rintro e w10 ⟨rfl, hB10⟩; have HB10 := Aside0.mk (below_then (pw_below_drewN HB8.out q9) (by have := HB8.out.size; simpa using this) hB10); clear hB10))
  go_ret
  exact ⟨rfl, HB10.out⟩
theorem walk (w : World) (p : ByteArray) (A : Option Addr) (c : Nat) (l : List ByteArray) (hC : Kd.C Kd.string w A l.length l) (hc : l.length ≤ c) (hl : l.length ≤ 9223372036854775807) : Calls Try.prog 6 #[.string p, .slice A l.length c] w fun e w' => e = .returned (.bool true) ∧ Below w.heap.size w w' := by
  cases hf : farL [p] with
  | true => exact far_one w p A c l hf
  | false =>
    cases hf2 : farL l with
    | true => exact far_two w p A c l hC hc hl hf hf2
    | false => exact near_way w p A c l hC hc hf hf2
end Go.Proofs.Ytamdbacmpglbiaa.Glob.Q
