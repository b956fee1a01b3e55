/-
  The law of options is alive: its few calls answer as they must.
-/
import Derived.Test.YtamdbacmpglbiaaOpts
import Derived.Test.YtamdbacmpglbiaaPArgsTurnedx
namespace Go.Proofs.Ytamdbacmpglbiaa.Turned
open Go.Shelf Go.RowKit Go.Proofs.YtamdbacmpglbiaaW.PrintWords Go.Proofs.YtamdbacmpglbiaaW.PrintLast Go.Proofs.YtamdbacmpglbiaaW.PrintMore Kit Args
set_option linter.unusedVariables false
set_option linter.unusedSimpArgs false
open PArgsTurned (S35 z35 k35 rd_T35 k35_mk k35_openF k35_mkF)
theorem up7 : upperB ⟨#[40, 55]⟩ = ⟨#[40, 55]⟩ := by kernel_rfl
theorem parse7 : PArgsTurned.num_Parse.f 20 ⟨#[55]⟩ = some (7, true) := by kernel_rfl
set_option maxHeartbeats 8000000 in
set_option maxRecDepth 100000 in
theorem bound7 (w : World) : Calls Try.prog 52 #[.string ⟨#[40, 55]⟩] w fun e w' => e = .returned (.tuple #[.agg #[.int .i64 0, .int .i64 7, .bool true], .bool true]) ∧ Below w.heap.size w w' := by
  have hup := fun W => upper W ⟨#[40, 55]⟩ (by decide)
  rw [up7] at hup
  have HUP := Aside0.mk hup
  clear hup
  have hp := fun W => PArgsTurned.num_Parse.calls 20 ⟨#[55]⟩ 7 true W parse7
  rw [show (⟨#[55]⟩ : ByteArray) = (⟨#[40, 55]⟩ : ByteArray).extract 1 2 from by kernel_rfl] at hp
  have HP := Aside0.mk hp
  clear hp
  have h0 : ∀ h : 0 < (⟨#[40, 55]⟩ : ByteArray).size, (((⟨#[40, 55]⟩ : ByteArray)[0]'h).toNat : Int) = 40 := fun _ => rfl
  go_enter Try.func52, Try.ntmps52
  go_wp2_with (first
    | (go_at_call 53; refine (HUP.out _).mono ?_; rintro e w2 ⟨rfl, hB2⟩; have HB2 := Aside0.mk hB2; clear hB2)
    | (go_at_call 77; go_must (refine (HP.out _).mono ?_; rintro e w3 ⟨rfl, hD⟩); go_must (have hB3 := below_then HB2.out HB2.out.size hD.below)

       have HB3 := Aside0.mk hB3
       have hc0 := pw_cell_below hB3 (a := ⟨w.heap.size, 0, none⟩) (v := .int .i64 0) (by simp)
       have hc1 := pw_cell_below hB3 (a := ⟨w.heap.size, 1, none⟩) (v := .int .i64 0) (by simp)
       have hc2 := pw_cell_below hB3 (a := ⟨w.heap.size, 2, none⟩) (v := .bool false) (by simp)
       have hf0 : w3.frozen? ⟨w.heap.size, 0, none⟩ = false := (hB3.frozen (p := ⟨w.heap.size, 0, none⟩) (by simp)).trans (by simp)
       have hf1 : w3.frozen? ⟨w.heap.size, 1, none⟩ = false := (hB3.frozen (p := ⟨w.heap.size, 1, none⟩) (by simp)).trans (by simp)
       have hf2 : w3.frozen? ⟨w.heap.size, 2, none⟩ = false := (hB3.frozen (p := ⟨w.heap.size, 2, none⟩) (by simp)).trans (by simp)
       clear hD hB3))
  refine bodyPost_ret (v := .tuple #[.agg #[.int .i64 0, .int .i64 7, .bool true], .bool true]) ?_ rfl ⟨rfl, ?_⟩
  · simp [results, Try.results52, go_sem, hc0, hc1, hc2]
  · exact (((below_then (below_alloc (Below.refl _ _) _) (by simp) HB3.out).setCell (Nat.le_refl _) _).setCell (Nat.le_refl _) _).setCell (Nat.le_refl _) _
theorem al1 : optsR [⟨#[87, 73, 84, 72, 83, 67, 79, 82, 69, 83, 32, 48]⟩, ⟨#[76, 73, 77, 73, 84, 32, 50]⟩] [⟨#[76, 73, 77, 73, 84]⟩, ⟨#[48]⟩, ⟨#[53]⟩, ⟨#[119, 105, 116, 104, 115, 99, 111, 114, 101, 115]⟩] = ([⟨true, []⟩, ⟨true, [⟨#[48]⟩, ⟨#[53]⟩]⟩], true) := by kernel_rfl
theorem same05 : PArgsTurned.mewsref02_Same.f 5 [⟨#[48]⟩, ⟨#[53]⟩] [⟨#[48]⟩, ⟨#[53]⟩] = some true := by kernel_rfl
set_option maxHeartbeats 8000000 in
set_option maxRecDepth 100000 in
theorem alive (w : World) : Calls Try.prog 11 #[] w fun e w' => e = .returned (.bool true) ∧ Below w.heap.size w w' := by
  have ho := fun W A0 A1 c0 c1 h0 h1 h2 h3 => options W A0 A1 c0 c1 [⟨#[76, 73, 77, 73, 84]⟩, ⟨#[48]⟩, ⟨#[53]⟩, ⟨#[119, 105, 116, 104, 115, 99, 111, 114, 101, 115]⟩] [⟨#[87, 73, 84, 72, 83, 67, 79, 82, 69, 83, 32, 48]⟩, ⟨#[76, 73, 77, 73, 84, 32, 50]⟩] h0 h1 h2 h3 (by decide) (by decide) (by decide) (by decide)
  rw [al1] at ho
  have HO := Aside0.mk ho
  clear ho
  go_enter Try.func11, Try.ntmps11
  go_wp2_with (first
    | (go_at_call 13; go_must (refine (HO.out _ _ _ _ _ ?h0 (Nat.le_refl _) ?h1 (Nat.le_refl _)).mono ?_); (case h0 => exact Kd.C_below (strs_lit w [⟨#[76, 73, 77, 73, 84]⟩, ⟨#[48]⟩, ⟨#[53]⟩, ⟨#[119, 105, 116, 104, 115, 99, 111, 114, 101, 115]⟩] _ rfl (by decide)) (below_alloc (Below.refl _ _) _)); (case h1 => exact strs_lit _ [⟨#[87, 73, 84, 72, 83, 67, 79, 82, 69, 83, 32, 48]⟩, ⟨#[76, 73, 77, 73, 84, 32, 50]⟩] _ (by simp) (by decide)); rintro e w2 ⟨A, c, rfl, hlc, hC, hB⟩
       obtain ⟨ad, A0, c0, eA, hx0, hx1, hl0, hi0⟩ := PArgsTurned.at_T35 hC 0 (by decide) (by decide)
       obtain ⟨_, A1, c1, eA', hy0, hy1, hl1, hi1⟩ := PArgsTurned.at_T35 hC 1 (by decide) (by decide)
       subst eA
       injection eA' with eA'
       subst eA'
       have HX0 := Aside0.mk (show w2.cell? (ad.add 0) = some (.bool true) from hx0)
       have HY1 := Aside0.mk (show w2.cell? ⟨(ad.add 2).block, (ad.add 2).off + 1, none⟩ = some (.slice A1 2 c1) from hy1)
       have HL1 := Aside0.mk hl1
       have HI1 := Aside0.mk hi1
       have HB := Aside0.mk hB
       clear hC hB hlc hx0 hx1 hl0 hi0 hy0 hy1 hl1 hi1)
    | (go_at_call 52; go_must (refine (bound7 _).mono ?_); rintro e w3 ⟨rfl, hB3⟩
       go_must (have hx0 : ∀ o, (w3.alloc o).cell? ad = some (.bool true) := fun o => pw_cell_below (below_alloc hB3 o) (by simpa [Addr.add] using HX0.out))
       go_must (have hy1 : ∀ o, (w3.alloc o).cell? ⟨ad.block, ad.off + 2 + 1, none⟩ = some (.slice A1 2 c1) := fun o => pw_cell_below (below_alloc hB3 o) (by simpa [Addr.add] using HY1.out))
       have HB3 := Aside0.mk hB3; clear hB3)
    | (go_at_call 15; go_must (refine (PArgsTurned.mewsref02_Same.calls 5 A1 c1 [⟨#[48]⟩, ⟨#[53]⟩] (some ⟨w3.heap.size + 1, 0, none⟩) 2 [⟨#[48]⟩, ⟨#[53]⟩] true _ (Kd.C_below HI1.out (below_alloc (below_alloc HB3.out _) _)) HL1.out (strs_lit _ [⟨#[48]⟩, ⟨#[53]⟩] _ (by simp) (by decide)) (Nat.le_refl _) same05).mono ?_); rintro e w5 ⟨rfl, ⟨q, rfl⟩⟩))
  go_ret
  exact ⟨rfl, pw_below_drewN (below_alloc (below_alloc (below_then (below_then (below_alloc (below_alloc (Below.refl _ _) _) _) (by simp; omega) HB.out) (Nat.le_trans (by simp; omega) HB.out.size) HB3.out) _) _) _⟩
end Go.Proofs.Ytamdbacmpglbiaa.Turned
