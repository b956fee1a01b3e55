/-
  What waited is given back in order, just if it was neither spoilt nor dirty; there is never more of it than may be: the walk.
-/
import Derived.Test.YtamdbacmpglbiaaTf
namespace Go.Proofs.Ytamdbacmpglbiaa.Multi
open Go.Shelf Go.RowKit Go.Proofs.YtamdbacmpglbiaaW.PrintWords Go.Proofs.YtamdbacmpglbiaaW.PrintLast Go.Proofs.YtamdbacmpglbiaaW.PrintMore Kit
set_option linter.unusedVariables false
set_option linter.unusedSimpArgs false
set_option maxHeartbeats 8000000 in
set_option maxRecDepth 100000 in
theorem order_walk (w : World) (A : Option Addr) (c : Nat) (ls : List (List ByteArray)) (hs0 : List Hdr) (hC : Kd.C kHdr w A ls.length hs0) (hH : Heads w hs0 ls) (hc : ls.length ≤ c) (hT : tots ls ≤ 2000000) (bad dirty : Bool) :
    Calls Try.prog 5 #[.slice A ls.length c, .bool bad, .bool dirty] w fun e w' => e = .returned (.bool true) ∧ Below w.heap.size w w' := by
  have HC := Aside0.mk hC
  have HH := Aside0.mk hH
  have HT := Aside0.mk hT
  have HW : Aside0 (∀ W A, Kd.C Kd.string W A 1 [sK] → Calls Try.prog 22 #[.agg #[.bool false, .bool false, .bool false, .slice none 0 0, .int .i64 0, .slice none 0 0], .slice A 1 1] W fun e w' => ∃ A2 c2, e = .returned (.tuple #[.agg #[.bool false, .bool false, .bool false, .slice none 0 0, .int .i64 0, .slice A2 1 c2], .agg #[.int .i64 1, .int .i64 0, .string ⟨#[79, 75]⟩, .slice none 0 0]]) ∧ Kd.R Kd.string 9 w' W.heap.size (fun _ => True) (.slice A2 1 c2) [sK] ∧ Below W.heap.size W w') :=
    ⟨fun W A h => watch_shut W false false none none A 0 0 0 0 1 0 [] [sK] h ((Kd.R_reads' (Kd.R_nil Kd.string 9 W 0 (fun _ => True))).2.2) (by omega) (by simp)⟩
  have HBG : Aside0 (∀ W A2 c2, Calls Try.prog 23 #[.agg #[.bool false, .bool false, .bool false, .slice none 0 0, .int .i64 0, .slice A2 1 c2]] W fun e w' => e = .returned (.tuple #[.agg #[.bool true, .bool false, .bool false, .slice none 0 0, .int .i64 0, .slice A2 1 c2], .agg #[.int .i64 1, .int .i64 0, .string ⟨#[79, 75]⟩, .slice none 0 0]]) ∧ Below W.heap.size W w') := ⟨fun W A2 c2 => begin_ W false false false none A2 0 1 0 c2 0⟩
  have hm0 : ls.length ≤ 9223372036854775807 := hC.2.1
  clear hC hH hT
  go_enter Try.func5, Try.ntmps5
  go_wp2_with (fail)
  go_loopg [7, 24] (ls.length + 1) (fun gq v7 v24 wr => ∃ (i s q : Nat), v7 = .int .i64 s ∧ v24 = .int .i64 i ∧ i ≤ ls.length ∧ w.drewN q = wr ∧ Aside0 (s + tots (ls.drop i) = tots ls) ∧ Aside0 (ls.length - i < gq))
  case atStart => exact ⟨0, 0, 0, rfl, rfl, Nat.zero_le _, rfl, ⟨by simp⟩, ⟨by omega⟩⟩
  case round =>
    obtain ⟨i, s, q, rfl, rfl, hi, rfl, HE, HM⟩ := hrel
    by_cases hlt : i < ls.length
    · obtain ⟨l, hx⟩ : ∃ l, l = ls.getD i [] := ⟨_, rfl⟩
      obtain ⟨a, hA, hcell⟩ := hdr_at (Kd.C_drewN HC.out q) hlt
      subst hA
      have hli : ls[i]? = some l := by rw [hx, List.getD_eq_getElem?_getD, List.getElem?_eq_getElem hlt]; rfl
      have hhi : hs0[i]? = some (hs0.getD i (none, 0, 0)) := by rw [List.getD_eq_getElem?_getD, List.getElem?_eq_getElem (by rw [HH.out.1]; exact hlt)]; rfl
      have hok := HH.out.2 i _ _ hhi hli
      obtain ⟨⟨B, m, cb⟩, hh⟩ : ∃ h, h = hs0.getD i (none, 0, 0) := ⟨_, rfl⟩
      rw [← hh] at hcell hok
      simp only [hdrV] at hcell
      obtain ⟨o1, o2, o3⟩ := hok
      simp only at o1 o2 o3
      subst o1
      have hdr : ls.drop i = l :: ls.drop (i + 1) := by rw [hx, List.drop_eq_getElem_cons hlt]; simp [hlt]
      have hsum : s + (tot l + tots (ls.drop (i + 1))) = tots ls := by rw [← HE.out, hdr]; rfl
      obtain ⟨t, ht⟩ : ∃ t, t = tot l := ⟨_, rfl⟩
      have htb : s + t ≤ 2000000 := by have := HT.out; omega
      have HBY : Aside0 (∀ W, Kd.C Kd.string W B l.length l → Calls Try.prog 20 #[.slice B l.length cb] W fun e w' => e = .returned (.int .i64 t) ∧ Drawn0 W w') := ⟨fun W h => by
        have h1 := bytes_calls W B cb l h o2
        rw [← ht, wrap_small _ (by omega) (by omega)] at h1
        exact h1⟩
      obtain ⟨S, hS⟩ : ∃ S, S = s + t := ⟨_, rfl⟩
      have hw : IntKind.i64.wrap ((s : Int) + (t : Int)) = (S : Int) := by rw [IntKind.wrap_i64]; omega
      have HSUM : Aside0 (S + tots (ls.drop (i + 1)) = tots ls) := ⟨by omega⟩
      have HO3 := Aside0.mk (Kd.C_drewN o3 q)
      clear hsum hdr hx ht HE hh hhi hli o2 o3 htb hS
      by_cases hgt : S > 200000
      · have hd1 : decide ((S : Int) > 200000) = true := by simpa using (by omega : (S : Int) > 200000)
        have hd2 : decide ((200000 : Int) < S) = true := by simpa using (by omega : (S : Int) > 200000)
        go_wp2_with (first
          | (go_at_call 20; ((with_reducible refine (HBY.out _ ?h1).mono ?_)); (case h1 => exact HO3.out); rintro e w3 ⟨rfl, ⟨q2, rfl⟩⟩)
          | (go_at_call 21; ((with_reducible refine (alive37 _).mono ?_)); rintro e w2 ⟨rfl, hB2⟩; have HB2 := Aside0.mk hB2; clear hB2))
        go_ret
        exact ⟨rfl, below_then (pw_below_drewN (Below.refl _ _) _) (Nat.le_refl _) HB2.out⟩
      · have hd1 : decide ((S : Int) > 200000) = false := by simpa using (by omega : ¬ (S : Int) > 200000)
        have hd2 : decide ((200000 : Int) < S) = false := by simpa using (by omega : ¬ (S : Int) > 200000)
        go_wp2_with (go_at_call 20; ((with_reducible refine (HBY.out _ ?h1).mono ?_)); (case h1 => exact HO3.out); rintro e w3 ⟨rfl, ⟨q2, rfl⟩⟩)
        go_roundg (ls.length - i)
        case measure => exact HM.out
        case rel => exact ⟨i + 1, S, q + q2, rfl, by go_num, by omega, by simp [World.drewN_drewN], HSUM, ⟨by omega⟩⟩
    · by_cases hbig : ls.length > 300
      · have hd1 : decide ((ls.length : Int) > 300) = true := by simpa using (by omega : (ls.length : Int) > 300)
        have hd2 : decide ((300 : Int) < ls.length) = true := by simpa using (by omega : (ls.length : Int) > 300)
        go_wp2_with (go_at_call 21; ((with_reducible refine (alive37 _).mono ?_)); rintro e w2 ⟨rfl, hB2⟩; have HB2 := Aside0.mk hB2; clear hB2)
        go_ret
        exact ⟨rfl, below_then (pw_below_drewN (Below.refl _ _) _) (Nat.le_refl _) HB2.out⟩
      · have hd1 : decide ((ls.length : Int) > 300) = false := by simpa using (by omega : ¬ (ls.length : Int) > 300)
        have hd2 : decide ((300 : Int) < ls.length) = false := by simpa using (by omega : ¬ (ls.length : Int) > 300)
        clear HE HM
        go_wp2_with (first
          | (go_at_call 22; ((with_reducible refine (HW.out _ _ ?h1).mono ?_)); (case h1 => exact strs_lit _ [sK] _ rfl (by decide)); rintro e w1 ⟨A2, c2, rfl, hR1, hB1⟩; have HR1 : Aside0 (Kd.R Kd.string 9 w1 w.heap.size (fun _ => True) (.slice A2 1 c2) [sK]) := ⟨Kd.R_lower hR1 (by simp)⟩; have HB1 : Aside0 (Below w.heap.size w w1) := ⟨below_then (below_alloc (pw_below_drewN (Below.refl _ _) _) _) (by simp) hB1⟩; clear hR1 hB1)
          | (go_at_call 23; ((with_reducible refine (HBG.out _ _ _).mono ?_)); rintro e w2 ⟨rfl, hB2⟩; have HX2 : Aside0 (w2.heap[w1.heap.size]? = some (.cells #[.bool false, .bool false, .bool false, .slice none 0 0, .int .i64 0, .slice A2 1 c2] 41 (0, 0))) := ⟨blk_below (blk_alloc (heap_alloc_new w1 _) _) hB2⟩; have HB2 : Aside0 (Below w.heap.size w w2) := ⟨below_then (below_alloc (below_alloc HB1.out _) _) (by have := HB1.out.size; simp; omega) hB2⟩; have HR2 : Aside0 (Kd.R Kd.string 9 w2 w.heap.size (fun _ => True) (.slice A2 1 c2) [sK]) := ⟨R_keeps9 HR1.out ((Keeps.alloc _ _ _).trans ((Keeps.alloc _ _ _).trans (Keeps.below hB2)))⟩; clear hB2)
          | ((with_reducible refine gate_store (t := 41) (p := 10) (v := .tmp 49) rfl ?_); (go_must (refine Glob.wpList_store_row rfl 41 (.tmp 10) (.tmp 49) rfl w1.heap.size #[.bool true, .bool false, .bool false, .slice none 0 0, .int .i64 0, .slice A2 1 c2] #[.bool false, .bool false, .bool false, .slice none 0 0, .int .i64 0, .slice A2 1 c2] 41 rfl rfl HX2.out size41 rfl (by simp [Value.oneCell']) ?_); intro w3 hg3 ho3 hs3 hb3; have HX3 := Aside0.mk hg3; have HB3 : Aside0 (Below w.heap.size w w3) := ⟨HB2.out.trans (hb3 _ HB1.out.size)⟩; have HR3 : Aside0 (Kd.R Kd.string 9 w3 w.heap.size (fun _ => True) (.slice A2 1 c2) [sK]) := ⟨R_keeps9 HR2.out (Keeps.store HX2.out (by decide) ho3)⟩; clear hg3 ho3 hs3 hb3)))
        have HG : Aside0 (w.heap.size ≤ w1.heap.size) := ⟨HB1.out.size⟩
        generalize w1.heap.size = gx at HX3 HG HX2 ⊢
        clear HX2 HB1 HR1 HR2 HW HBG hd1 hd2 HB2
        go_loopg [1, 12, 53] (ls.length + 1) (fun gq v1 v12 v53 wr => ∃ (i : Nat) (bv bq : Bool) (AQ : Option Addr) (cQ z : Nat) (hs ks : List Hdr) (acc : List (List ByteArray)) (AK : Option Addr) (cK : Nat), v1 = .bool bv ∧ v12 = .slice AK ks.length cK ∧ v53 = .int .i64 i ∧ i ≤ ls.length ∧ Aside0 (OInv w gx A2 c2 wr bq AQ cQ z hs acc AK cK ks) ∧ Aside0 (bq = true → bv = true) ∧ Aside0 (ls.length - i < gq))
        case atStart => exact ⟨0, bad, false, none, 0, 0, [], [], [], none, 0, rfl, rfl, rfl, Nat.zero_le _, ⟨⟨HB3.out, HX3.out, Kd.R_nil _ _ _ _ _, HeadsR.nil _ _, Kd.R_nil _ _ _ _ _, Heads.nil _, HR3.out, by decide, by decide⟩⟩, ⟨by simp⟩, ⟨by omega⟩⟩
        case round =>
          clear HX3 HB3 HR3
          obtain ⟨i, bv, bq, AQ, cQ, z, hs, ks, acc, AK, cK, rfl, rfl, rfl, hi, HI, HBV, HM⟩ := hrel
          by_cases hlt : i < ls.length
          · obtain ⟨l, hx⟩ : ∃ l, l = ls.getD i [] := ⟨_, rfl⟩
            obtain ⟨a, hA, hcell⟩ := hdr_at (Kd.C_below HC.out HI.out.below) hlt
            subst hA
            have hli : ls[i]? = some l := by rw [hx, List.getD_eq_getElem?_getD, List.getElem?_eq_getElem hlt]; rfl
            have hhi : hs0[i]? = some (hs0.getD i (none, 0, 0)) := by rw [List.getD_eq_getElem?_getD, List.getElem?_eq_getElem (by rw [HH.out.1]; exact hlt)]; rfl
            have hok := HH.out.2 i _ _ hhi hli
            have HTL : Aside0 (tot l ≤ 2000000) := ⟨Nat.le_trans (tot_le (List.mem_of_getElem? hli)) HT.out⟩
            obtain ⟨⟨B, m, cb⟩, hh⟩ : ∃ h, h = hs0.getD i (none, 0, 0) := ⟨_, rfl⟩
            rw [← hh] at hcell hok
            simp only [hdrV] at hcell
            obtain rfl : m = l.length := hok.1
            have HOK := Aside0.mk hok
            have HO2 : Aside0 (l.length ≤ cb) := ⟨hok.2.1⟩
            have HO3 : Aside0 (Kd.C Kd.string w B l.length l) := ⟨hok.2.2⟩
            clear hx hh hhi hli hok
            have HN := Aside0.mk HI.out.hn
            have HZ := Aside0.mk HI.out.hz
            have p0 : wr.cell? ⟨gx, 0, none⟩ = some (.bool true) := by rw [cell_of_row wr _ 0 _ _ _ HI.out.x]; rfl
            have p1 : wr.cell? ⟨gx, 1, none⟩ = some (.bool bq) := by rw [cell_of_row wr _ 1 _ _ _ HI.out.x]; rfl
            have p2 : wr.cell? ⟨gx, 2, none⟩ = some (.bool false) := by rw [cell_of_row wr _ 2 _ _ _ HI.out.x]; rfl
            have p3 : wr.cell? ⟨gx, 3, none⟩ = some (.slice AQ hs.length cQ) := by rw [cell_of_row wr _ 3 _ _ _ HI.out.x]; rfl
            have p4 : wr.cell? ⟨gx, 4, none⟩ = some (.int .i64 z) := by rw [cell_of_row wr _ 4 _ _ _ HI.out.x]; rfl
            have p5 : wr.cell? ⟨gx, 5, none⟩ = some (.slice A2 1 c2) := by rw [cell_of_row wr _ 5 _ _ _ HI.out.x]; rfl
            by_cases hrej : 100 ≤ hs.length ∨ 65536 < z + tot l
            · have HQ : Aside0 (∀ W, Kd.C Kd.string W B l.length l → Calls Try.prog 24 #[.agg #[.bool true, .bool bq, .bool false, .slice AQ hs.length cQ, .int .i64 z, .slice A2 1 c2], .slice B l.length cb] W fun e w' => e = .returned (.tuple #[.agg #[.bool true, .bool true, .bool false, .slice AQ hs.length cQ, .int .i64 z, .slice A2 1 c2], .agg #[.int .i64 2, .int .i64 0, .string sLarge, .slice none 0 0]]) ∧ Below W.heap.size W w') := ⟨fun W h => by
                by_cases h100 : 100 ≤ hs.length
                · exact queue_full W bq false AQ A2 B hs.length 1 cQ c2 cb z l h HO2.out (by have := HN.out; omega) h100
                · exact queue_large W bq false AQ A2 B hs.length 1 cQ c2 cb z l h HO2.out (by have := HN.out; omega) (by omega) (65536 - z) (tot l) (by have := HZ.out; rw [IntKind.wrap_i64]; omega) (wrap_small _ (by omega) (by have := HTL.out; omega)) (by omega)⟩
              have hdn1 : decide ((hs.length : Int) > 100) = false := by have := HN.out; simpa using (by omega : ¬ (hs.length : Int) > 100)
              have hdn2 : decide ((100 : Int) < hs.length) = false := by have := HN.out; simpa using (by omega : ¬ (hs.length : Int) > 100)
              have hdz1 : decide ((z : Int) > 65536) = false := by have := HZ.out; simpa using (by omega : ¬ (z : Int) > 65536)
              have hdz2 : decide ((65536 : Int) < z) = false := by have := HZ.out; simpa using (by omega : ¬ (z : Int) > 65536)
              clear hrej
              go_wp2_with (first
                | (go_at_call 24; ((with_reducible refine (HQ.out _ ?h1).mono ?_)); (case h1 => exact Kd.C_below HO3.out HI.out.below); rintro e w4 ⟨rfl, hB4⟩; clear p0 p1 p2 p3 p4 p5; have HX4 := Aside0.mk (blk_below HI.out.x hB4); have HB4 := Aside0.mk hB4; clear hB4)
                | ((with_reducible refine gate_store (t := 41) (p := 10) (v := .tmp 70) rfl ?_); (go_must (refine Glob.wpList_store_row rfl 41 (.tmp 10) (.tmp 70) rfl gx #[.bool true, .bool true, .bool false, .slice AQ hs.length cQ, .int .i64 z, .slice A2 1 c2] #[.bool true, .bool bq, .bool false, .slice AQ hs.length cQ, .int .i64 z, .slice A2 1 c2] 41 rfl rfl (blk_alloc (blk_alloc HX4.out _) _) size41 rfl (by simp [Value.oneCell']) ?_); intro w5 hg5 ho5 hs5 hb5; have HX5 := Aside0.mk hg5; have HB5 : Aside0 (Below w.heap.size w w5) := ⟨(below_alloc (below_alloc (below_then HI.out.below HI.out.below.size HB4.out) _) _).trans (hb5 _ HG.out)⟩; have HK9 : Aside0 (Keeps 9 wr w5) := ⟨(Keeps.below HB4.out).trans ((Keeps.alloc _ _ _).trans ((Keeps.alloc _ _ _).trans (Keeps.store (blk_alloc (blk_alloc HX4.out _) _) (by decide) ho5)))⟩; have HK26 : Aside0 (Keeps 26 wr w5) := ⟨(Keeps.below HB4.out).trans ((Keeps.alloc _ _ _).trans ((Keeps.alloc _ _ _).trans (Keeps.store (blk_alloc (blk_alloc HX4.out _) _) (by decide) ho5)))⟩; have p3 : w5.cell? ⟨gx, 3, none⟩ = some (.slice AQ hs.length cQ) := (by rw [cell_of_row w5 _ 3 _ _ _ HX5.out]; rfl); have p4 : w5.cell? ⟨gx, 4, none⟩ = some (.int .i64 z) := (by rw [cell_of_row w5 _ 4 _ _ _ HX5.out]; rfl); clear hg5 ho5 hs5 hb5)))
              go_roundg (ls.length - i)
              case measure => exact HM.out
              case rel => exact ⟨i + 1, true, true, AQ, cQ, z, hs, ks, acc, AK, cK, rfl, rfl, by go_num, by omega, ⟨⟨HB5.out, HX5.out, R_keeps26 HI.out.q HK26.out, HI.out.h.keeps HK9.out, R_keeps26 HI.out.k HK26.out, HI.out.kh, R_keeps9 HI.out.wt HK9.out, HN.out, HZ.out⟩⟩, ⟨fun _ => rfl⟩, ⟨by omega⟩⟩
            · obtain ⟨zz, hzz⟩ : ∃ zz, zz = z + tot l := ⟨_, rfl⟩
              have HQ : Aside0 (∀ W, Kd.C Kd.string W B l.length l → Kd.C kHdr W AQ hs.length hs → Calls Try.prog 24 #[.agg #[.bool true, .bool bq, .bool false, .slice AQ hs.length cQ, .int .i64 z, .slice A2 1 c2], .slice B l.length cb] W fun e w' => ∃ A3 c3 h3, e = .returned (.tuple #[.agg #[.bool true, .bool bq, .bool false, .slice A3 (hs.length + 1) c3, .int .i64 zz, .slice A2 1 c2], .agg #[.int .i64 1, .int .i64 0, .string sQueued, .slice none 0 0]]) ∧ Kd.R kHdr 26 w' W.heap.size (fun _ => True) (.slice A3 (hs.length + 1) c3) (hs ++ [h3]) ∧ HdrR w' W.heap.size h3 l ∧ Below W.heap.size W w') := ⟨fun W h hq => by
                have h9 := queue_ok W bq false AQ A2 B hs.length 1 cQ c2 cb z hs l h HO2.out hq (by omega) (by have := HTL.out; have := len_tot l; omega) (65536 - z) (tot l) zz (by have := HZ.out; rw [IntKind.wrap_i64]; omega) (wrap_small _ (by omega) (by have := HTL.out; omega)) (by have := HZ.out; rw [IntKind.wrap_i64]; omega) (by omega)
                simp only [List.length_append, List.length_singleton] at h9
                exact h9⟩
              have HHS : Aside0 (hs.length < 100) := ⟨by omega⟩
              have HZZ : Aside0 (zz ≤ 65536) := ⟨by omega⟩
              have hdn1 : decide ((hs.length : Int) + 1 > 100) = false := by have := HHS.out; simpa using (by omega : ¬ (hs.length : Int) + 1 > 100)
              have hdn2 : decide ((100 : Int) < (hs.length : Int) + 1) = false := by have := HHS.out; simpa using (by omega : ¬ (hs.length : Int) + 1 > 100)
              have hdz1 : decide ((zz : Int) > 65536) = false := by have := HZZ.out; simpa using (by omega : ¬ (zz : Int) > 65536)
              have hdz2 : decide ((65536 : Int) < zz) = false := by have := HZZ.out; simpa using (by omega : ¬ (zz : Int) > 65536)
              clear hrej hzz
              go_wp2_with (first
                | (go_at_call 24; ((with_reducible refine (HQ.out _ ?h1 ?h2).mono ?_)); (case h1 => exact Kd.C_below HO3.out HI.out.below); (case h2 => exact (Kd.R_reads' HI.out.q).2.2); rintro e w4 ⟨A3, c3, h3, rfl, hR4, hh4, hB4⟩; clear p0 p1 p2 p3 p4 p5; have HX4 := Aside0.mk (blk_below HI.out.x hB4); have HB4 := Aside0.mk hB4; have HR4 := Aside0.mk hR4; have HH4 := Aside0.mk hh4; clear hB4 hR4 hh4)
                | (at_builtin; go_loud (have hO : Kd.R kHdr 26 ((w4.alloc (.cells #[.bool true, .bool bq, .bool false, .slice A3 (hs.length + 1) c3, .int .i64 zz, .slice A2 1 c2] 41)).alloc (.cells #[.int .i64 1, .int .i64 0, .string sQueued, .slice none 0 0] 44)) w.heap.size (fun _ => True) (.slice AK ks.length cK) ks := R_keeps26 HI.out.k ((Keeps.below HB4.out).trans ((Keeps.alloc _ _ _).trans (Keeps.alloc _ _ _))); have hB6 : Below w.heap.size w ((w4.alloc (.cells #[.bool true, .bool bq, .bool false, .slice A3 (hs.length + 1) c3, .int .i64 zz, .slice A2 1 c2] 41)).alloc (.cells #[.int .i64 1, .int .i64 0, .string sQueued, .slice none 0 0] 44)) := below_alloc (below_alloc (below_then HI.out.below HI.out.below.size HB4.out) _) _; refine Kd.R_append kHdr (w0 := w) (W := ((w4.alloc (.cells #[.bool true, .bool bq, .bool false, .slice A3 (hs.length + 1) c3, .int .i64 zz, .slice A2 1 c2] 41)).alloc (.cells #[.int .i64 1, .int .i64 0, .string sQueued, .slice none 0 0] 44))) w.heap.size rfl (.tmp 66) (.tmp 68) 28 26 _ 24 rfl Try.underlying28 info26 rfl (by decide) (by omega) (.slice AK ks.length cK) ks (B, l.length, cb) [.slice B l.length cb] (fun _ => True) (fun _ => False) rfl (by show Value.slice (some ⟨w4.heap.size + 1 + 1, 0, none⟩) 1 1 = _; simp) rfl (fun _ h => h.elim) (fun _ _ => trivial) hO hB6 hB6.size ?aL ?_; (case aL => have h1 := HI.out.kh.1; have h2 := HI.out.h.1; have h3 := HHS.out; omega); intro v9 w9 hR9 hB9 hg9 hk9; obtain ⟨A9, c9, rfl⟩ := Kd.R_slice hR9; have HR9 := Aside0.mk hR9; have HB9 := Aside0.mk hB9; have HX9 : Aside0 (w9.heap[gx]? = some (.cells #[.bool true, .bool bq, .bool false, .slice AQ hs.length cQ, .int .i64 z, .slice A2 1 c2] 41 (0, 0))) := ⟨(Keeps.grown (t := 41) hO hg9 (by decide) gx _ (blk_alloc (blk_alloc HX4.out _) _)).trans (blk_alloc (blk_alloc HX4.out _) _)⟩; have HN9 : Aside0 (w9.heap[w4.heap.size]? = some (.cells #[.bool true, .bool bq, .bool false, .slice A3 (hs.length + 1) c3, .int .i64 zz, .slice A2 1 c2] 41 (0, 0))) := ⟨(Keeps.grown (t := 41) hO hg9 (by decide) w4.heap.size _ (blk_alloc (heap_alloc_new w4 _) _)).trans (blk_alloc (heap_alloc_new w4 _) _)⟩; have HK9 : Aside0 (Keeps 9 w4 w9) := ⟨(Keeps.alloc _ _ _).trans ((Keeps.alloc _ _ _).trans (Keeps.grown hO hg9 (by decide)))⟩; have HQ9 : Aside0 (Kd.R kHdr 26 w9 w.heap.size (fun _ => True) (.slice A3 (hs.length + 1) c3) (hs ++ [h3])) := ⟨(by obtain ⟨inner, ho⟩ := Kd.R_own HI.out.k; exact Kd.R_lower (Kd.R_mono (Kd.R_grown (R_upG (R_keeps26 HR4.out ((Keeps.alloc _ _ _).trans (Keeps.alloc _ _ _)))) hg9 (fun k hk he => by have := own_lt ho k he.symm; omega)) (fun _ _ => trivial)) HI.out.below.size)⟩; have p0 : w9.cell? ⟨w4.heap.size, 0, none⟩ = some (.bool true) := (by rw [cell_of_row w9 _ 0 _ _ _ HN9.out]; rfl); have p1 : w9.cell? ⟨w4.heap.size, 1, none⟩ = some (.bool bq) := (by rw [cell_of_row w9 _ 1 _ _ _ HN9.out]; rfl); have p2 : w9.cell? ⟨w4.heap.size, 2, none⟩ = some (.bool false) := (by rw [cell_of_row w9 _ 2 _ _ _ HN9.out]; rfl); have p3 : w9.cell? ⟨w4.heap.size, 3, none⟩ = some (.slice A3 (hs.length + 1) c3) := (by rw [cell_of_row w9 _ 3 _ _ _ HN9.out]; rfl); have p4 : w9.cell? ⟨w4.heap.size, 4, none⟩ = some (.int .i64 zz) := (by rw [cell_of_row w9 _ 4 _ _ _ HN9.out]; rfl); have p5 : w9.cell? ⟨w4.heap.size, 5, none⟩ = some (.slice A2 1 c2) := (by rw [cell_of_row w9 _ 5 _ _ _ HN9.out]; rfl); clear hR9 hB9 hg9 hk9 hO hB6))
                | ((with_reducible refine gate_store (t := 41) (p := 10) (v := .tmp 70) rfl ?_); (go_must (refine Glob.wpList_store_row rfl 41 (.tmp 10) (.tmp 70) rfl gx #[.bool true, .bool bq, .bool false, .slice A3 (hs.length + 1) c3, .int .i64 zz, .slice A2 1 c2] #[.bool true, .bool bq, .bool false, .slice AQ hs.length cQ, .int .i64 z, .slice A2 1 c2] 41 rfl rfl HX9.out size41 rfl (by simp [Value.oneCell']) ?_); intro w5 hg5 ho5 hs5 hb5; clear p0 p1 p2 p3 p4 p5; have HX5 := Aside0.mk hg5; have HB5 : Aside0 (Below w.heap.size w w5) := ⟨HB9.out.trans (hb5 _ HG.out)⟩; have HS9 : Aside0 (Keeps 9 w9 w5) := ⟨Keeps.store HX9.out (by decide) ho5⟩; have HS26 : Aside0 (Keeps 26 w9 w5) := ⟨Keeps.store HX9.out (by decide) ho5⟩; have p3 : w5.cell? ⟨gx, 3, none⟩ = some (.slice A3 (hs.length + 1) c3) := (by rw [cell_of_row w5 _ 3 _ _ _ HX5.out]; rfl); have p4 : w5.cell? ⟨gx, 4, none⟩ = some (.int .i64 zz) := (by rw [cell_of_row w5 _ 4 _ _ _ HX5.out]; rfl); clear hg5 ho5 hs5 hb5)))
              go_roundg (ls.length - i)
              case measure => exact HM.out
              case rel =>
                have e1 : (hs ++ [h3]).length = hs.length + 1 := by simp
                have e2 : (ks ++ [((B, l.length, cb) : Hdr)]).length = ks.length + 1 := by simp
                have k9 : Keeps 9 wr w5 := (Keeps.below HB4.out).trans (HK9.out.trans HS9.out)
                refine ⟨i + 1, bv, bq, A3, c3, zz, hs ++ [h3], ks ++ [(B, l.length, cb)], acc ++ [l], A9, c9, rfl, by rw [e2], by go_num, by omega, ⟨⟨HB5.out, by rw [e1]; exact HX5.out, by rw [e1]; exact R_keeps26 HQ9.out HS26.out, ?_, R_keeps26 HR9.out HS26.out, HI.out.kh.snoc HOK.out, R_keeps9 HI.out.wt k9, by have := HHS.out; omega, HZZ.out⟩⟩, HBV, ⟨by omega⟩⟩
                exact HeadsR.snoc (HI.out.h.keeps k9) (R_keeps9 (Kd.R_lower HH4.out HI.out.below.size) (HK9.out.trans HS9.out))
          · clear HM
            cases bv with
            | true =>
              cases dirty with
              | true =>
                have HWT : Aside0 (Kd.C Kd.string wr A2 1 [sK] ∧ 1 ≤ c2) := ⟨⟨(Kd.R_reads' HI.out.wt).2.2, (Kd.R_reads' HI.out.wt).2.1⟩⟩
                have HHN : Aside0 (hs.length ≤ 100) := ⟨HI.out.hn⟩
                have HSP : Aside0 (∀ W, Calls Try.prog 25 #[.agg #[.bool true, .bool bq, .bool false, .slice AQ hs.length cQ, .int .i64 z, .slice A2 1 c2]] W fun e w' => e = .returned (.agg #[.bool true, .bool true, .bool false, .slice AQ hs.length cQ, .int .i64 z, .slice A2 1 c2]) ∧ ∃ r1 r2, w' = (W.alloc (.cells r1 41)).alloc (.cells r2 41)) := ⟨fun W => by
                  have h := spoil W true bq false AQ A2 hs.length 1 cQ c2 z
                  rw [Bool.or_true] at h
                  exact h⟩
                have HMK : Aside0 (∀ W K, Kd.C Kd.string W K 2 [sJ, sK] → Kd.C Kd.string W A2 1 [sK] → Calls Try.prog 26 #[.agg #[.bool true, .bool true, .bool false, .slice AQ hs.length cQ, .int .i64 z, .slice A2 1 c2], .slice K 2 2] W fun e w' => e = .returned (.agg #[.bool true, .bool true, .bool true, .slice AQ hs.length cQ, .int .i64 z, .slice A2 1 c2]) ∧ Below W.heap.size W w') := ⟨fun W K h1 h2 => by
                  have h := mark W true true false AQ A2 K hs.length 1 cQ c2 2 z [sK] [sJ, sK] h1 h2 HWT.out.2 (by omega)
                  rw [show (false || [sJ, sK].any fun x => mem x [sK]) = true from by simp [mem, sJ, sK]] at h
                  exact h⟩
                have HEX : Aside0 (∀ W, Calls Try.prog 27 #[.agg #[.bool true, .bool true, .bool true, .slice AQ hs.length cQ, .int .i64 z, .slice A2 1 c2]] W fun e w' => e = .returned (.tuple #[.agg #[.bool false, .bool false, .bool false, .slice none 0 0, .int .i64 0, .slice none 0 0], .slice none 0 0, .agg #[.int .i64 2, .int .i64 0, .string sAbort, .slice none 0 0], .bool false]) ∧ Below W.heap.size W w') := ⟨fun W => exec_bad W true AQ A2 hs.length 1 cQ c2 z⟩
                have p0 : wr.cell? ⟨gx, 0, none⟩ = some (.bool true) := by rw [cell_of_row wr _ 0 _ _ _ HI.out.x]; rfl
                have p1 : wr.cell? ⟨gx, 1, none⟩ = some (.bool bq) := by rw [cell_of_row wr _ 1 _ _ _ HI.out.x]; rfl
                have p2 : wr.cell? ⟨gx, 2, none⟩ = some (.bool false) := by rw [cell_of_row wr _ 2 _ _ _ HI.out.x]; rfl
                have p3 : wr.cell? ⟨gx, 3, none⟩ = some (.slice AQ hs.length cQ) := by rw [cell_of_row wr _ 3 _ _ _ HI.out.x]; rfl
                have p4 : wr.cell? ⟨gx, 4, none⟩ = some (.int .i64 z) := by rw [cell_of_row wr _ 4 _ _ _ HI.out.x]; rfl
                have p5 : wr.cell? ⟨gx, 5, none⟩ = some (.slice A2 1 c2) := by rw [cell_of_row wr _ 5 _ _ _ HI.out.x]; rfl
                go_wp2_with (first
                  | (go_at_call 25; ((with_reducible refine (HSP.out _).mono ?_)); rintro e w5 ⟨rfl, r1, r2, rfl⟩)
                  | ((with_reducible refine gate_store (t := 41) (p := 10) (v := .tmp 83) rfl ?_); (go_must (refine Glob.wpList_store_row rfl 41 (.tmp 10) (.tmp 83) rfl gx #[.bool true, .bool true, .bool false, .slice AQ hs.length cQ, .int .i64 z, .slice A2 1 c2] #[.bool true, .bool bq, .bool false, .slice AQ hs.length cQ, .int .i64 z, .slice A2 1 c2] 41 rfl rfl (blk_alloc (blk_alloc HI.out.x _) _) size41 rfl (by simp [Value.oneCell']) ?_); intro w6 hg6 ho6 hs6 hb6; clear p0 p1 p2 p3 p4 p5; have HX6 := Aside0.mk hg6; have HB6 : Aside0 (Below w.heap.size w w6) := ⟨(below_alloc (below_alloc HI.out.below _) _).trans (hb6 _ HG.out)⟩; have HK6 : Aside0 (Keeps 9 wr w6) := ⟨(Keeps.alloc _ _ _).trans ((Keeps.alloc _ _ _).trans (Keeps.store (blk_alloc (blk_alloc HI.out.x _) _) (by decide) ho6))⟩; have p0 : w6.cell? ⟨gx, 0, none⟩ = some (.bool true) := (by rw [cell_of_row w6 _ 0 _ _ _ HX6.out]; rfl); have p1 : w6.cell? ⟨gx, 1, none⟩ = some (.bool true) := (by rw [cell_of_row w6 _ 1 _ _ _ HX6.out]; rfl); have p2 : w6.cell? ⟨gx, 2, none⟩ = some (.bool false) := (by rw [cell_of_row w6 _ 2 _ _ _ HX6.out]; rfl); have p3 : w6.cell? ⟨gx, 3, none⟩ = some (.slice AQ hs.length cQ) := (by rw [cell_of_row w6 _ 3 _ _ _ HX6.out]; rfl); have p4 : w6.cell? ⟨gx, 4, none⟩ = some (.int .i64 z) := (by rw [cell_of_row w6 _ 4 _ _ _ HX6.out]; rfl); have p5 : w6.cell? ⟨gx, 5, none⟩ = some (.slice A2 1 c2) := (by rw [cell_of_row w6 _ 5 _ _ _ HX6.out]; rfl); clear hg6 ho6 hs6 hb6))
                  | (go_at_call 26; ((with_reducible refine (HMK.out _ _ ?h1 ?h2).mono ?_)); (case h1 => exact strs_lit _ [sJ, sK] _ rfl (by decide)); (case h2 => exact Kd.C_below (Kd.R_reads' (R_keeps9 HI.out.wt HK6.out)).2.2 (below_alloc (Below.refl _ _) _)); rintro e w7 ⟨rfl, hB7⟩; have HX7 := Aside0.mk (blk_below (blk_alloc HX6.out _) hB7); have HB7 : Aside0 (Below w.heap.size w w7) := ⟨below_then (below_alloc HB6.out _) (by have := (HB6.out).size; simp; omega) hB7⟩; clear hB7)
                  | ((with_reducible refine gate_store (t := 41) (p := 10) (v := .tmp 87) rfl ?_); (go_must (refine Glob.wpList_store_row rfl 41 (.tmp 10) (.tmp 87) rfl gx #[.bool true, .bool true, .bool true, .slice AQ hs.length cQ, .int .i64 z, .slice A2 1 c2] #[.bool true, .bool true, .bool false, .slice AQ hs.length cQ, .int .i64 z, .slice A2 1 c2] 41 rfl rfl HX7.out size41 rfl (by simp [Value.oneCell']) ?_); intro w8 hg8 ho8 hs8 hb8; clear p0 p1 p2 p3 p4 p5; have HX8 := Aside0.mk hg8; have HB8 : Aside0 (Below w.heap.size w w8) := ⟨HB7.out.trans (hb8 _ HG.out)⟩; have p0 : w8.cell? ⟨gx, 0, none⟩ = some (.bool true) := (by rw [cell_of_row w8 _ 0 _ _ _ HX8.out]; rfl); have p1 : w8.cell? ⟨gx, 1, none⟩ = some (.bool true) := (by rw [cell_of_row w8 _ 1 _ _ _ HX8.out]; rfl); have p2 : w8.cell? ⟨gx, 2, none⟩ = some (.bool true) := (by rw [cell_of_row w8 _ 2 _ _ _ HX8.out]; rfl); have p3 : w8.cell? ⟨gx, 3, none⟩ = some (.slice AQ hs.length cQ) := (by rw [cell_of_row w8 _ 3 _ _ _ HX8.out]; rfl); have p4 : w8.cell? ⟨gx, 4, none⟩ = some (.int .i64 z) := (by rw [cell_of_row w8 _ 4 _ _ _ HX8.out]; rfl); have p5 : w8.cell? ⟨gx, 5, none⟩ = some (.slice A2 1 c2) := (by rw [cell_of_row w8 _ 5 _ _ _ HX8.out]; rfl); clear hg8 ho8 hs8 hb8))
                  | (go_at_call 27; ((with_reducible refine (HEX.out _).mono ?_)); rintro e w10 ⟨rfl, hB10⟩; have HB10 : Aside0 (Below w.heap.size w w10) := ⟨below_then HB8.out (HB8.out).size hB10⟩; clear hB10)
                  | (go_at_call 21; ((with_reducible refine (alive37 _).mono ?_)); rintro e w12 ⟨rfl, hB12⟩; have HB12 : Aside0 (Below w.heap.size w w12) := ⟨below_then (below_alloc (below_alloc HB10.out _) _) ((below_alloc (below_alloc HB10.out _) _)).size hB12⟩; clear hB12))
                go_ret
                exact ⟨rfl, HB12.out⟩
              | false =>
                have HWT : Aside0 (Kd.C Kd.string wr A2 1 [sK] ∧ 1 ≤ c2) := ⟨⟨(Kd.R_reads' HI.out.wt).2.2, (Kd.R_reads' HI.out.wt).2.1⟩⟩
                have HHN : Aside0 (hs.length ≤ 100) := ⟨HI.out.hn⟩
                have HSP : Aside0 (∀ W, Calls Try.prog 25 #[.agg #[.bool true, .bool bq, .bool false, .slice AQ hs.length cQ, .int .i64 z, .slice A2 1 c2]] W fun e w' => e = .returned (.agg #[.bool true, .bool true, .bool false, .slice AQ hs.length cQ, .int .i64 z, .slice A2 1 c2]) ∧ ∃ r1 r2, w' = (W.alloc (.cells r1 41)).alloc (.cells r2 41)) := ⟨fun W => by
                  have h := spoil W true bq false AQ A2 hs.length 1 cQ c2 z
                  rw [Bool.or_true] at h
                  exact h⟩
                have HEX : Aside0 (∀ W, Calls Try.prog 27 #[.agg #[.bool true, .bool true, .bool false, .slice AQ hs.length cQ, .int .i64 z, .slice A2 1 c2]] W fun e w' => e = .returned (.tuple #[.agg #[.bool false, .bool false, .bool false, .slice none 0 0, .int .i64 0, .slice none 0 0], .slice none 0 0, .agg #[.int .i64 2, .int .i64 0, .string sAbort, .slice none 0 0], .bool false]) ∧ Below W.heap.size W w') := ⟨fun W => exec_bad W false AQ A2 hs.length 1 cQ c2 z⟩
                have p0 : wr.cell? ⟨gx, 0, none⟩ = some (.bool true) := by rw [cell_of_row wr _ 0 _ _ _ HI.out.x]; rfl
                have p1 : wr.cell? ⟨gx, 1, none⟩ = some (.bool bq) := by rw [cell_of_row wr _ 1 _ _ _ HI.out.x]; rfl
                have p2 : wr.cell? ⟨gx, 2, none⟩ = some (.bool false) := by rw [cell_of_row wr _ 2 _ _ _ HI.out.x]; rfl
                have p3 : wr.cell? ⟨gx, 3, none⟩ = some (.slice AQ hs.length cQ) := by rw [cell_of_row wr _ 3 _ _ _ HI.out.x]; rfl
                have p4 : wr.cell? ⟨gx, 4, none⟩ = some (.int .i64 z) := by rw [cell_of_row wr _ 4 _ _ _ HI.out.x]; rfl
                have p5 : wr.cell? ⟨gx, 5, none⟩ = some (.slice A2 1 c2) := by rw [cell_of_row wr _ 5 _ _ _ HI.out.x]; rfl
                go_wp2_with (first
                  | (go_at_call 25; ((with_reducible refine (HSP.out _).mono ?_)); rintro e w5 ⟨rfl, r1, r2, rfl⟩)
                  | ((with_reducible refine gate_store (t := 41) (p := 10) (v := .tmp 83) rfl ?_); (go_must (refine Glob.wpList_store_row rfl 41 (.tmp 10) (.tmp 83) rfl gx #[.bool true, .bool true, .bool false, .slice AQ hs.length cQ, .int .i64 z, .slice A2 1 c2] #[.bool true, .bool bq, .bool false, .slice AQ hs.length cQ, .int .i64 z, .slice A2 1 c2] 41 rfl rfl (blk_alloc (blk_alloc HI.out.x _) _) size41 rfl (by simp [Value.oneCell']) ?_); intro w6 hg6 ho6 hs6 hb6; clear p0 p1 p2 p3 p4 p5; have HX6 := Aside0.mk hg6; have HB6 : Aside0 (Below w.heap.size w w6) := ⟨(below_alloc (below_alloc HI.out.below _) _).trans (hb6 _ HG.out)⟩; have HK6 : Aside0 (Keeps 9 wr w6) := ⟨(Keeps.alloc _ _ _).trans ((Keeps.alloc _ _ _).trans (Keeps.store (blk_alloc (blk_alloc HI.out.x _) _) (by decide) ho6))⟩; have p0 : w6.cell? ⟨gx, 0, none⟩ = some (.bool true) := (by rw [cell_of_row w6 _ 0 _ _ _ HX6.out]; rfl); have p1 : w6.cell? ⟨gx, 1, none⟩ = some (.bool true) := (by rw [cell_of_row w6 _ 1 _ _ _ HX6.out]; rfl); have p2 : w6.cell? ⟨gx, 2, none⟩ = some (.bool false) := (by rw [cell_of_row w6 _ 2 _ _ _ HX6.out]; rfl); have p3 : w6.cell? ⟨gx, 3, none⟩ = some (.slice AQ hs.length cQ) := (by rw [cell_of_row w6 _ 3 _ _ _ HX6.out]; rfl); have p4 : w6.cell? ⟨gx, 4, none⟩ = some (.int .i64 z) := (by rw [cell_of_row w6 _ 4 _ _ _ HX6.out]; rfl); have p5 : w6.cell? ⟨gx, 5, none⟩ = some (.slice A2 1 c2) := (by rw [cell_of_row w6 _ 5 _ _ _ HX6.out]; rfl); clear hg6 ho6 hs6 hb6))
                  | (go_at_call 27; ((with_reducible refine (HEX.out _).mono ?_)); rintro e w10 ⟨rfl, hB10⟩; have HB10 : Aside0 (Below w.heap.size w w10) := ⟨below_then HB6.out (HB6.out).size hB10⟩; clear hB10)
                  | (go_at_call 21; ((with_reducible refine (alive37 _).mono ?_)); rintro e w12 ⟨rfl, hB12⟩; have HB12 : Aside0 (Below w.heap.size w w12) := ⟨below_then (below_alloc (below_alloc HB10.out _) _) ((below_alloc (below_alloc HB10.out _) _)).size hB12⟩; clear hB12))
                go_ret
                exact ⟨rfl, HB12.out⟩
            | false =>
              cases bq with
              | true => exact absurd (HBV.out rfl) (by decide)
              | false =>
                cases dirty with
                | true =>
                  have HWT : Aside0 (Kd.C Kd.string wr A2 1 [sK] ∧ 1 ≤ c2) := ⟨⟨(Kd.R_reads' HI.out.wt).2.2, (Kd.R_reads' HI.out.wt).2.1⟩⟩
                  have HHN : Aside0 (hs.length ≤ 100) := ⟨HI.out.hn⟩
                  have HMK : Aside0 (∀ W K, Kd.C Kd.string W K 2 [sJ, sK] → Kd.C Kd.string W A2 1 [sK] → Calls Try.prog 26 #[.agg #[.bool true, .bool false, .bool false, .slice AQ hs.length cQ, .int .i64 z, .slice A2 1 c2], .slice K 2 2] W fun e w' => e = .returned (.agg #[.bool true, .bool false, .bool true, .slice AQ hs.length cQ, .int .i64 z, .slice A2 1 c2]) ∧ Below W.heap.size W w') := ⟨fun W K h1 h2 => by
                    have h := mark W true false false AQ A2 K hs.length 1 cQ c2 2 z [sK] [sJ, sK] h1 h2 HWT.out.2 (by omega)
                    rw [show (false || [sJ, sK].any fun x => mem x [sK]) = true from by simp [mem, sJ, sK]] at h
                    exact h⟩
                  have HEX : Aside0 (∀ W, Calls Try.prog 27 #[.agg #[.bool true, .bool false, .bool true, .slice AQ hs.length cQ, .int .i64 z, .slice A2 1 c2]] W fun e w' => e = .returned (.tuple #[.agg #[.bool false, .bool false, .bool false, .slice none 0 0, .int .i64 0, .slice none 0 0], .slice none 0 0, .agg #[.int .i64 7, .int .i64 0, .string ⟨#[]⟩, .slice none 0 0], .bool false]) ∧ Below W.heap.size W w') := ⟨fun W => exec_dirty W AQ A2 hs.length 1 cQ c2 z⟩
                  have p0 : wr.cell? ⟨gx, 0, none⟩ = some (.bool true) := by rw [cell_of_row wr _ 0 _ _ _ HI.out.x]; rfl
                  have p1 : wr.cell? ⟨gx, 1, none⟩ = some (.bool false) := by rw [cell_of_row wr _ 1 _ _ _ HI.out.x]; rfl
                  have p2 : wr.cell? ⟨gx, 2, none⟩ = some (.bool false) := by rw [cell_of_row wr _ 2 _ _ _ HI.out.x]; rfl
                  have p3 : wr.cell? ⟨gx, 3, none⟩ = some (.slice AQ hs.length cQ) := by rw [cell_of_row wr _ 3 _ _ _ HI.out.x]; rfl
                  have p4 : wr.cell? ⟨gx, 4, none⟩ = some (.int .i64 z) := by rw [cell_of_row wr _ 4 _ _ _ HI.out.x]; rfl
                  have p5 : wr.cell? ⟨gx, 5, none⟩ = some (.slice A2 1 c2) := by rw [cell_of_row wr _ 5 _ _ _ HI.out.x]; rfl
                  go_wp2_with (first
                    | (go_at_call 26; ((with_reducible refine (HMK.out _ _ ?h1 ?h2).mono ?_)); (case h1 => exact strs_lit _ [sJ, sK] _ rfl (by decide)); (case h2 => exact Kd.C_below (Kd.R_reads' (R_keeps9 HI.out.wt (Keeps.refl 9 wr))).2.2 (below_alloc (Below.refl _ _) _)); rintro e w7 ⟨rfl, hB7⟩; have HX7 := Aside0.mk (blk_below (blk_alloc HI.out.x _) hB7); have HB7 : Aside0 (Below w.heap.size w w7) := ⟨below_then (below_alloc HI.out.below _) (by have := (HI.out.below).size; simp; omega) hB7⟩; clear hB7)
                    | ((with_reducible refine gate_store (t := 41) (p := 10) (v := .tmp 87) rfl ?_); (go_must (refine Glob.wpList_store_row rfl 41 (.tmp 10) (.tmp 87) rfl gx #[.bool true, .bool false, .bool true, .slice AQ hs.length cQ, .int .i64 z, .slice A2 1 c2] #[.bool true, .bool false, .bool false, .slice AQ hs.length cQ, .int .i64 z, .slice A2 1 c2] 41 rfl rfl HX7.out size41 rfl (by simp [Value.oneCell']) ?_); intro w8 hg8 ho8 hs8 hb8; clear p0 p1 p2 p3 p4 p5; have HX8 := Aside0.mk hg8; have HB8 : Aside0 (Below w.heap.size w w8) := ⟨HB7.out.trans (hb8 _ HG.out)⟩; have p0 : w8.cell? ⟨gx, 0, none⟩ = some (.bool true) := (by rw [cell_of_row w8 _ 0 _ _ _ HX8.out]; rfl); have p1 : w8.cell? ⟨gx, 1, none⟩ = some (.bool false) := (by rw [cell_of_row w8 _ 1 _ _ _ HX8.out]; rfl); have p2 : w8.cell? ⟨gx, 2, none⟩ = some (.bool true) := (by rw [cell_of_row w8 _ 2 _ _ _ HX8.out]; rfl); have p3 : w8.cell? ⟨gx, 3, none⟩ = some (.slice AQ hs.length cQ) := (by rw [cell_of_row w8 _ 3 _ _ _ HX8.out]; rfl); have p4 : w8.cell? ⟨gx, 4, none⟩ = some (.int .i64 z) := (by rw [cell_of_row w8 _ 4 _ _ _ HX8.out]; rfl); have p5 : w8.cell? ⟨gx, 5, none⟩ = some (.slice A2 1 c2) := (by rw [cell_of_row w8 _ 5 _ _ _ HX8.out]; rfl); clear hg8 ho8 hs8 hb8))
                    | (go_at_call 27; ((with_reducible refine (HEX.out _).mono ?_)); rintro e w10 ⟨rfl, hB10⟩; have HB10 : Aside0 (Below w.heap.size w w10) := ⟨below_then HB8.out (HB8.out).size hB10⟩; clear hB10)
                    | (go_at_call 21; ((with_reducible refine (alive37 _).mono ?_)); rintro e w12 ⟨rfl, hB12⟩; have HB12 : Aside0 (Below w.heap.size w w12) := ⟨below_then (below_alloc (below_alloc HB10.out _) _) ((below_alloc (below_alloc HB10.out _) _)).size hB12⟩; clear hB12))
                  go_ret
                  exact ⟨rfl, HB12.out⟩
                | false =>
                  have HWT : Aside0 (Kd.C Kd.string wr A2 1 [sK] ∧ 1 ≤ c2) := ⟨⟨(Kd.R_reads' HI.out.wt).2.2, (Kd.R_reads' HI.out.wt).2.1⟩⟩
                  have HHN : Aside0 (hs.length ≤ 100) := ⟨HI.out.hn⟩
                  have HEX : Aside0 (∀ W, Kd.C kHdr W AQ hs.length hs → Calls Try.prog 27 #[.agg #[.bool true, .bool false, .bool false, .slice AQ hs.length cQ, .int .i64 z, .slice A2 1 c2]] W fun e w' => ∃ v, e = .returned (.tuple #[.agg #[.bool false, .bool false, .bool false, .slice none 0 0, .int .i64 0, .slice none 0 0], v, .agg #[.int .i64 0, .int .i64 0, .string ⟨#[]⟩, .slice none 0 0], .bool true]) ∧ (∃ A5 c5, v = .slice A5 hs.length c5 ∧ hs.length ≤ c5 ∧ Kd.C kHdr w' A5 hs.length hs) ∧ Below W.heap.size W w') := ⟨fun W h => exec_open W AQ A2 hs.length 1 cQ c2 z hs h (by have := HHN.out; omega)⟩
                  have HSM : Aside0 (∀ W A5 c5, Kd.C kHdr W A5 hs.length hs → hs.length ≤ c5 → Below wr.heap.size wr W → Calls Try.prog 28 #[.agg #[.slice A5 hs.length c5], .agg #[.slice AK ks.length cK]] W fun e w' => e = .returned (.bool true) ∧ Below W.heap.size W w') := ⟨fun W A5 c5 h hc hb => same28 W A5 AK c5 cK hs ks acc h (Kd.C_below (Kd.R_reads' HI.out.k).2.2 hb) (HI.out.h.heads.below hb) (HI.out.kh.below (below_then HI.out.below HI.out.below.size hb)) hc (Kd.R_reads' HI.out.k).2.1⟩
                  have p0 : wr.cell? ⟨gx, 0, none⟩ = some (.bool true) := by rw [cell_of_row wr _ 0 _ _ _ HI.out.x]; rfl
                  have p1 : wr.cell? ⟨gx, 1, none⟩ = some (.bool false) := by rw [cell_of_row wr _ 1 _ _ _ HI.out.x]; rfl
                  have p2 : wr.cell? ⟨gx, 2, none⟩ = some (.bool false) := by rw [cell_of_row wr _ 2 _ _ _ HI.out.x]; rfl
                  have p3 : wr.cell? ⟨gx, 3, none⟩ = some (.slice AQ hs.length cQ) := by rw [cell_of_row wr _ 3 _ _ _ HI.out.x]; rfl
                  have p4 : wr.cell? ⟨gx, 4, none⟩ = some (.int .i64 z) := by rw [cell_of_row wr _ 4 _ _ _ HI.out.x]; rfl
                  have p5 : wr.cell? ⟨gx, 5, none⟩ = some (.slice A2 1 c2) := by rw [cell_of_row wr _ 5 _ _ _ HI.out.x]; rfl
                  have hu55 := Try.underlying55
                  go_wp2_with (first
                    | (go_at_call 27; ((with_reducible refine (HEX.out _ ?h1).mono ?_)); (case h1 => exact (Kd.R_reads' HI.out.q).2.2); rintro e w10 ⟨v10, rfl, ⟨A5, c5, rfl, hc5, hC5⟩, hB10⟩; have HC5 : Aside0 (hs.length ≤ c5 ∧ Kd.C kHdr w10 A5 hs.length hs) := ⟨⟨hc5, hC5⟩⟩; have HBR : Aside0 (Below wr.heap.size wr w10) := ⟨hB10⟩; have HB10 : Aside0 (Below w.heap.size w w10) := ⟨below_then HI.out.below (HI.out.below).size hB10⟩; clear hB10 hC5 hc5)
                    | (go_at_call 28; ((with_reducible refine (HSM.out _ _ _ ?h1 ?h2 ?h3).mono ?_)); (case h1 => exact Kd.C_below HC5.out.2 (below_alloc (below_alloc (Below.refl _ _) _) _)); (case h2 => exact HC5.out.1); (case h3 => exact below_alloc (below_alloc HBR.out _) _); rintro e w11 ⟨rfl, hB11⟩; have HB11 : Aside0 (Below w.heap.size w w11) := ⟨below_then (below_alloc (below_alloc HB10.out _) _) (by have := HB10.out.size; simp; omega) hB11⟩; clear hB11)
                    | (go_at_call 21; ((with_reducible refine (alive37 _).mono ?_)); rintro e w12 ⟨rfl, hB12⟩; have HB12 : Aside0 (Below w.heap.size w w12) := ⟨below_then HB11.out (HB11.out).size hB12⟩; clear hB12))
                  go_ret
                  exact ⟨rfl, HB12.out⟩
end Go.Proofs.Ytamdbacmpglbiaa.Multi
