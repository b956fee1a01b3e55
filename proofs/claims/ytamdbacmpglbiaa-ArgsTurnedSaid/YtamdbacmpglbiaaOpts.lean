/-
  What args.Options returns: its plain answer, for every list of arguments and of names.
-/
import Derived.Test.YtamdbacmpglbiaaArgs
namespace Go.Proofs.Ytamdbacmpglbiaa.Args
open Go.Shelf Go.RowKit Go.Proofs.YtamdbacmpglbiaaW.PrintWords Go.Proofs.YtamdbacmpglbiaaW.PrintLast Go.Proofs.YtamdbacmpglbiaaW.PrintMore Kit
set_option linter.unusedVariables false
set_option linter.unusedSimpArgs false
open PArgsTurned (S35 z35 k35 rd_T35 k35_mk k35_openF k35_mkF)
theorem info35 : (Try.prog.info? 35).map (fun i => (i.zero, i.size, i.bytes)) = some (some (.agg #[.bool false, .slice none 0 0]), 2, 32) := by kernel_rfl
/-- How many arguments an option has, itself counted. -/
def optN (name : ByteArray) : Int := 1 + (bt name ((name.size : Int) - 1) - 48) % 256
def optsF (names : List ByteArray) : Nat → List ByteArray → List S35 → Option (List S35)
  | _, [], outs => some outs
  | 0, _ :: _, _ => none
  | f + 1, a :: rest, outs =>
    let i := idxF (optIs (upperB a)) names 0
    if i < 0 then none
    else if (rd_T35 outs i).f0 = true then none
    else
      let n := optN (names.getD i.toNat ⟨#[]⟩)
      if n > ((rest.length + 1 : Nat) : Int) then none
      else optsF names f ((a :: rest).drop n.toNat) (outs.set i.toNat ⟨true, ((a :: rest).take n.toNat).drop 1⟩)
def optsR (names args : List ByteArray) : List S35 × Bool :=
  match optsF names args.length args (List.replicate names.length z35) with
  | some outs => (outs, true)
  | none => ([], false)
theorem kt35 : (Try.prog.info? 35).map (·.size) = some 2 := by kernel_rfl
theorem zero35 (W : World) (ok : Nat → Prop) : Kd.FK k35 W ok z35 [.bool false, .slice none 0 0] := k35_mkF W ok z35 (Nat.le_refl _) (Kd.F_nil _ _ _)
set_option maxHeartbeats 8000000 in
set_option maxRecDepth 100000 in
theorem options (w : World) (A0 A1 : Option Addr) (c0 c1 : Nat) (args names : List ByteArray) (hC0 : Kd.C Kd.string w A0 args.length args) (hc0 : args.length ≤ c0) (hC1 : Kd.C Kd.string w A1 names.length names) (hc1 : names.length ≤ c1)
    (hl0 : ∀ x ∈ args, x.size ≤ 9223372036854775807) (hl1 : ∀ x ∈ names, x.size ≤ 9223372036854775807) (hb0 : args.length ≤ 1000000) (hb1 : names.length ≤ 1000000) :
    Calls Try.prog 13 #[.slice A0 args.length c0, .slice A1 names.length c1] w fun e w' => ∃ A c, e = .returned (.tuple #[.slice A (optsR names args).1.length c, .bool (optsR names args).2]) ∧ (optsR names args).1.length ≤ c ∧ Kd.C k35 w' A (optsR names args).1.length (optsR names args).1 ∧ Below w.heap.size w w' := by
  have HC0 := Aside0.mk hC0
  have HC1 := Aside0.mk hC1
  have HL0 := Aside0.mk hl0
  have HL1 := Aside0.mk hl1
  have HB1 := Aside0.mk hb1
  obtain ⟨i9, hinfo9, hz9⟩ := Option.map_eq_some_iff.1 info9
  have hisz9 : i9.size = Kd.string.sz := by simp only [Prod.mk.injEq] at hz9; exact hz9.2.1
  clear hz9
  clear hC0 hC1 hl0 hl1 hb1
  go_enter Try.func13, Try.ntmps13
  go_wp2_with (refine Kd.N_make k35 (w0 := w) w.heap.size 35 rfl rfl 29 (.tmp 11) (.tmp 11) rfl (names.length : Int) rfl rfl Try.underlying29 (.agg #[.bool false, .slice none 0 0]) 32 info35 rfl (by decide) (by omega) z35 (ok := fun _ => True) (okp := fun _ => False) (zero35 _ _) (fun _ _ => trivial) trivial (by omega) ?hl (Below.refl _ _) (Nat.le_refl _) ?_; (case hl => have := HB1.out; omega); intro v6 w1 hN hB hg hat; have HN := Aside0.mk hN; have HB := Aside0.mk hB; clear hN hB hg hat)
  go_loopg [0] args.length (fun gq v0 wr => ∃ (args' : List ByteArray) (A' : Option Addr) (c' : Nat) (outs : List S35), v0 = .slice A' args'.length c' ∧ args'.length ≤ c' ∧ Aside0 (gq = args'.length) ∧ Aside0 (Kd.C Kd.string w A' args'.length args') ∧ Aside0 (∀ x ∈ args', x.size ≤ 9223372036854775807) ∧ args'.length ≤ 1000000 ∧ Aside0 (outs.length = names.length) ∧ Aside0 (Kd.N k35 35 wr w.heap.size (fun _ => True) v6 outs) ∧ Aside0 (Below w.heap.size w wr) ∧ Aside0 (∃ f, args'.length ≤ f ∧ optsF names args.length args (List.replicate names.length z35) = optsF names f args' outs))
  case atStart => exact ⟨args, A0, c0, _, rfl, hc0, ⟨rfl⟩, HC0, HL0, hb0, ⟨List.length_replicate ..⟩, HN, HB, ⟨_, Nat.le_refl _, rfl⟩⟩
  case round =>
    clear HC0 HL0 HN HB hc0 hb0
    obtain ⟨args', A', c', outs, rfl, hc', HG, HC0, HL0, hb0, HO, HN, HB, HE⟩ := hrel
    cases args' with
    | nil =>
      go_wp2
      obtain ⟨A, c, e6, hl6, hC6⟩ := Kd.N_reads HN.out
      subst e6
      have hE : optsR names args = (outs, true) := by obtain ⟨f, _, he⟩ := HE.out; unfold optsR; rw [he]; cases f <;> rfl
      go_ret2
      rw [hE]
      exact ⟨A, c, rfl, hl6, hC6, HB.out⟩
    | cons a rest =>
      obtain ⟨f0, hf0, he0⟩ := HE.out
      obtain ⟨f, rfl⟩ : ∃ f, f0 = f + 1 := ⟨f0 - 1, by simp at hf0; omega⟩
      clear HE
      have HE := Aside0.mk he0
      have HF0 := Aside0.mk hf0
      clear he0 hf0
      obtain ⟨ad, rfl, hcell⟩ := str_at HC0.out (i := 0) (by simp)
      have hcell' : wr.cell? ad = some (.string a) := (HB.out.cell (p := ad) (by simpa [Addr.add] using World.block_lt_of_cell? w _ hcell)).trans (by simpa [Addr.add] using hcell)
      clear hcell
      have ha : a.size ≤ 9223372036854775807 := HL0.out a (by simp)
      have HA := Aside0.mk ha
      clear ha
      obtain ⟨U, hU⟩ : ∃ U, U = upperB a := ⟨_, rfl⟩
      have HU := Aside0.mk hU
      have hup := fun W => upper W a HA.out
      rw [← hU] at hup
      have HUP := Aside0.mk hup
      clear hup hU
      obtain ⟨ix, hix⟩ : ∃ ix, ix = idxF (optIs U) names 0 := ⟨_, rfl⟩
      have HIX := Aside0.mk hix
      have hif : ∀ w2 : World, Below wr.heap.size wr w2 → Calls Try.prog 54 #[.slice A1 names.length c1, .func (.func 55) #[] #[.pointer (some ⟨w2.heap.size, 0, none⟩)]] (w2.alloc (.cells #[.string U] 9)) fun e w' => e = .returned (.int .i64 ix) ∧ Below wr.heap.size wr w' := by
        intro w2 hb2
        rw [hix]
        refine Calls.mono ?_ (fun e w' (h : _ ∧ ∃ q, w' = (w2.alloc (.cells #[.string U] 9)).drewN q) => ⟨h.1, by obtain ⟨q, hq⟩ := h.2; rw [hq]; exact pw_below_drewN (below_alloc hb2 _) _⟩)
        exact indexFunc _ A1 names.length c1 names ⟨w2.heap.size, 0, none⟩ U (Kd.C_below HC1.out (below_alloc (below_then HB.out HB.out.size hb2) _)) (by simp) HL1.out
      have HIF := Aside0.mk hif
      have hr := idxF_range (optIs U) names 0
      rw [← hix] at hr
      have HR := Aside0.mk hr
      clear hif hix hr
      by_cases hneg : ix < 0
      · go_wp2_with (first | (go_at_call 53; refine (HUP.out _).mono ?_; rintro e w2 ⟨rfl, hB2⟩; have HB2 := Aside0.mk hB2; clear hB2) | (go_at_call 54; refine (HIF.out _ HB2.out).mono ?_; rintro e w3 ⟨rfl, hB3⟩; have HB3 := Aside0.mk hB3; clear hB3))
        have hE : optsR names args = ([], false) := by
          unfold optsR
          rw [HE.out]
          show (match optsF names (f + 1) (a :: rest) outs with | some outs => (outs, true) | none => ([], false)) = _
          simp only [optsF]
          rw [← HU.out, ← HIX.out, if_pos hneg]
        go_ret2
        rw [hE]
        exact ⟨none, 0, rfl, Nat.le_refl _, Kd.C_nil _ _, below_then HB.out HB.out.size HB3.out⟩
      · obtain ⟨j, hj1, hj2, hj3⟩ : ∃ j : Nat, ix = (j : Int) ∧ j < names.length ∧ optIs U (names.getD j ⟨#[]⟩) = true := by
          rcases HR.out with h | ⟨j, h1, h2, h3⟩
          · omega
          · exact ⟨j, by rw [h1, Nat.zero_add], h2, h3⟩
        clear HR
        subst hj1
        obtain ⟨g, cap, e6, hg0, hg1, _⟩ := Kd.N_form HN.out (by rw [HO.out]; omega)
        subst e6
        have hcl : ∀ (w3 : World), Below wr.heap.size wr w3 → ∃ A c, w3.cell? ⟨g, j * 2, none⟩ = some (.bool (rd_T35 outs j).f0) ∧ w3.cell? ⟨g, j * 2 + 1, none⟩ = some (.slice A (rd_T35 outs j).f1.length c) := by
          intro w3 hb3
          obtain ⟨c, h1, h2, h3, h4⟩ := Kd.N_elem (Kd.N_below HN.out hb3) z35 (j : Int) (by omega) (by rw [HO.out]; omega)
          obtain ⟨A, c', rfl, h5, h6⟩ := k35_openF h2
          exact ⟨A, c', h3 0 _ rfl, h3 1 _ rfl⟩
        have HCL := Aside0.mk hcl
        clear hcl
        by_cases hf : (rd_T35 outs j).f0 = true
        · have HF := Aside0.mk hf
          have hjo : j < outs.length := by rw [HO.out]; exact hj2
          go_wp2_with (first | (go_at_call 53; refine (HUP.out _).mono ?_; rintro e w2 ⟨rfl, hB2⟩; have HB2 := Aside0.mk hB2; clear hB2) | (go_at_call 54; refine (HIF.out _ HB2.out).mono ?_; rintro e w3 ⟨rfl, hB3⟩; have HB3 := Aside0.mk hB3; clear hB3; obtain ⟨Ax, cx, hx0, hx1⟩ := HCL.out _ HB3.out; rw [HF.out] at hx0))
          have hE : optsR names args = ([], false) := by
            unfold optsR
            rw [HE.out]
            show (match optsF names (f + 1) (a :: rest) outs with | some outs => (outs, true) | none => ([], false)) = _
            simp only [optsF]
            rw [← HU.out, ← HIX.out, if_neg (by omega), if_pos HF.out]
          go_ret2
          rw [hE]
          exact ⟨none, 0, rfl, Nat.le_refl _, Kd.C_nil _ _, below_then HB.out HB.out.size HB3.out⟩
        · have HF := Aside0.mk (Bool.eq_false_iff.mpr hf)
          clear hf
          have hjo : j < outs.length := by rw [HO.out]; exact hj2
          obtain ⟨nm, hnm⟩ : ∃ nm, nm = names.getD j ⟨#[]⟩ := ⟨_, rfl⟩
          have hnl : nm.size ≤ 9223372036854775807 := by
            rw [hnm, List.getD_eq_getElem?_getD, List.getElem?_eq_getElem hj2]
            exact HL1.out _ (List.getElem_mem _)
          rw [← hnm] at hj3
          have hn2 : 2 < nm.size := by
            simp only [optIs, Bool.and_eq_true, decide_eq_true_eq] at hj3
            exact hj3.1
          obtain ⟨ad1, hA1, hc1'⟩ := str_at HC1.out hj2
          subst hA1
          rw [← hnm] at hc1'
          have hc2' : ∀ (w3 : World), Below wr.heap.size wr w3 → w3.cell? (ad1.add j) = some (.string nm) := fun w3 hb3 =>
            pw_cell_below (below_then HB.out HB.out.size hb3) hc1'
          have HCN := Aside0.mk hc2'
          have HNM := Aside0.mk hnm
          have HJ3 := Aside0.mk hj3
          clear hc2' hc1' hnm hj3
          go_wp2_with (first | (go_at_call 53; refine (HUP.out _).mono ?_; rintro e w2 ⟨rfl, hB2⟩; have HB2 := Aside0.mk hB2; clear hB2) | (go_at_call 54; refine (HIF.out _ HB2.out).mono ?_; rintro e w3 ⟨rfl, hB3⟩; have HB3 := Aside0.mk hB3; clear hB3; obtain ⟨Ax, cx, hx0, hx1⟩ := HCL.out _ HB3.out; rw [HF.out] at hx0; have hx2 := HCN.out _ HB3.out))
          refine wp_region_quiet_lit (by kernel_rfl) (by kernel_rfl) ?_
          have hi0 : (1 : Int) ≤ (nm.size : Int) := by omega
          have hi2 : ((nm.size : Int) - 1).toNat = nm.size - 1 := by omega
          obtain ⟨b, hb⟩ : ∃ b, b = bt nm ((nm.size : Int) - 1) := ⟨_, rfl⟩
          have hb1 := bt_range nm ((nm.size : Int) - 1)
          rw [← hb] at hb1
          obtain ⟨hb1, hb2⟩ := hb1
          have hb3 : ∀ h : nm.size - 1 < nm.size, ((nm[nm.size - 1]'h).toNat : Int) = b := fun h => by rw [hb]; unfold bt; simp only [hi2]; rw [dif_pos h]
          have HBB := Aside0.mk hb
          clear hb
          repeat (first | go_big_quiet_step (fail) | quiet_step (fail))
          refine wpQuiet_nil ?_
          intro _ hw'
          obtain ⟨nq, hw''⟩ := hw'
          subst hw''
          have hm0 : 1 ≤ 1 + (b - 48) % 256 := by omega
          obtain ⟨m, hm⟩ : ∃ m : Nat, 1 + (b - 48) % 256 = (m : Int) := ⟨_, (Int.toNat_of_nonneg (by omega)).symm⟩
          rw [hm]
          have hoN : optN nm = (m : Int) := by unfold optN; rw [← HBB.out]; exact hm
          rw [hm] at hm0
          have HON := Aside0.mk hoN
          clear hoN hm
          by_cases hgt : rest.length + 1 < m
          · have hE : optsR names args = ([], false) := by
              unfold optsR
              rw [HE.out]
              show (match optsF names (f + 1) (a :: rest) outs with | some outs => (outs, true) | none => ([], false)) = _
              simp only [optsF]
              rw [← HU.out, ← HIX.out, if_neg (by omega), if_neg (by rw [HF.out]; simp)]
              simp only [Int.toNat_natCast]
              rw [← HNM.out, HON.out, if_pos (by omega)]
            go_wp2
            go_ret2
            rw [hE]
            exact ⟨none, 0, rfl, Nat.le_refl _, Kd.C_nil _ _, pw_below_drewN (below_then HB.out HB.out.size HB3.out) _⟩
          · obtain ⟨A2, c2, hk2, hl2, hc2, hC2⟩ := cut_mid' (P := Try.prog) 26 9 Try.underlying26 hinfo9 hisz9 (lo := 1) (hi' := m) HC0.out (by omega) (by simp; omega) hc'
            obtain ⟨A3, c3, hk3, hl3, hc3, hC3⟩ := cut_from' (P := Try.prog) 26 9 Try.underlying26 hinfo9 hisz9 (lo := m) HC0.out (by simp; omega) hc'
            obtain ⟨sub, hsub⟩ : ∃ sub, sub = ((a :: rest).take m).drop 1 := ⟨_, rfl⟩
            obtain ⟨left, hleft⟩ : ∃ left, left = (a :: rest).drop m := ⟨_, rfl⟩
            rw [← hsub] at hl2 hC2
            rw [← hleft] at hl3 hC3
            have HSUB := Aside0.mk hsub
            have HLEFT := Aside0.mk hleft
            clear hsub hleft
            have HC2 := Aside0.mk hC2
            have HC3 := Aside0.mk hC3
            have HL2 := Aside0.mk hl2
            have HL3 := Aside0.mk hl3
            clear hC2 hC3 hl2 hl3
            simp only [List.length_cons, Int.natCast_one] at hk2 hk3 hc2 hc3
            have hbr : rest.length + 1 ≤ 1000000 := hb0
            have hcl := fun W (hW : Below wr.heap.size wr W) => clone W A2 (m - 1) c2 sub (by have h := Kd.C_below HC2.out (below_then HB.out HB.out.size hW); rw [HL2.out] at h; exact h) (by omega)
            have HCLO := Aside0.mk hcl
            clear hcl
            go_wp2_with (first
              | (go_at_call 56; refine (HCLO.out _ (pw_below_drewN HB3.out nq)).mono ?_; rintro e w4 ⟨v55, rfl, hR4, hB4⟩
                 obtain ⟨A5, c5, e5, hl5, _⟩ := Kd.R_reads hR4
                 subst e5
                 have HF5 := Aside0.mk (Kd.F_mono (Kd.R_F (Kd.R_bound hR4)) (ok' := fun k => wr.heap.size ≤ k) (fun k hk => Nat.le_trans HB3.out.size hk.2.1))
                 have hB4' := below_then (pw_below_drewN HB3.out nq) HB3.out.size hB4
                 have HB4 := Aside0.mk hB4'
                 obtain ⟨Ay, cy, hy0, hy1⟩ := HCL.out w4 hB4'
                 have HY0 := Aside0.mk hy0
                 have HY1 := Aside0.mk hy1
                 have HL5 := Aside0.mk hl5
                 clear hR4 hB4 hB4' hy0 hy1 hl5)
              | ((with_reducible refine gate_store (t := 35) (p := 57) (v := .tmp 56) rfl ?_)
                 go_must (refine Kd.N_store k35 (w0 := w) w.heap.size rfl rfl 35 (.tmp 57) (.tmp 56) rfl 35 (g := g) (n := outs.length) (cap := cap) (o' := j * 2) (j : Int) 0 outs ⟨true, sub⟩ _ [.bool true, .slice A5 sub.length c5] [.bool (rd_T35 outs j).f0, .slice Ay (rd_T35 outs j).f1.length cy] (fun _ => True) (fun k => wr.heap.size ≤ k) rfl rfl rfl rfl kt35 ?h1 ?hO (by omega) (by omega) rfl ?hcc (Nat.le_refl 2) ?hM ?hok ?hB ?_)
                 case h1 => intro q hq; simp only [List.mem_cons, List.not_mem_nil, or_false] at hq; rcases hq with rfl | rfl <;> rfl
                 case hO => exact Kd.N_below HN.out HB4.out
                 case hcc => intro i u hu; rcases i with _ | _ | i
                             · injection hu with hu; subst hu; exact HY0.out
                             · injection hu with hu; subst hu; exact HY1.out
                             · simp at hu
                 case hM => exact k35_mkF w4 _ ⟨true, sub⟩ HL5.out HF5.out
                 case hok => intro k hk; exact ⟨trivial, by omega⟩
                 case hB => exact below_then HB.out HB.out.size HB4.out
                 intro w5 hN5 hB5 _
                 have HN5 := Aside0.mk hN5
                 have HB5 := Aside0.mk hB5
                 clear hN5 hB5))
            go_roundg left.length
            case measure => have h := HL3.out; have h2 := HG.out; simp only [List.length_cons] at h h2; omega
            case rel =>
              refine ⟨left, A3, c3, outs.set j ⟨true, sub⟩, by have h := HL3.out; simp only [List.length_cons] at h; rw [h], by have h := HL3.out; simp only [List.length_cons] at h; omega, ⟨rfl⟩, HC3, ⟨fun x hx => HL0.out x (List.mem_of_mem_drop (by rw [← HLEFT.out]; exact hx))⟩, by have h := HL3.out; simp only [List.length_cons] at h; omega, ⟨by rw [List.length_set]; exact HO.out⟩, ⟨by simpa using HN5.out⟩, HB5, ⟨f, by have h := HL3.out; have h2 := HF0.out; simp only [List.length_cons] at h h2; omega, ?_⟩⟩
              rw [HE.out]
              simp only [optsF]
              rw [← HU.out, ← HIX.out, if_neg (by omega), if_neg (by rw [HF.out]; simp)]
              simp only [Int.toNat_natCast]
              rw [← HNM.out, HON.out, if_neg (by omega), Int.toNat_natCast, ← HSUB.out, ← HLEFT.out]
end Go.Proofs.Ytamdbacmpglbiaa.Args
