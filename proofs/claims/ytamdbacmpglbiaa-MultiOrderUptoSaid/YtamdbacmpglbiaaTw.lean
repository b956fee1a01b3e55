/-
  Transactions: keys are watched; is a text among some?
-/
import Derived.Test.YtamdbacmpglbiaaTy
import Derived.Test.YtamdbacmpglbiaaMultiBase
namespace Go.Proofs.Ytamdbacmpglbiaa.Multi
open Go.Shelf Go.RowKit Go.Proofs.YtamdbacmpglbiaaW.PrintWords Go.Proofs.YtamdbacmpglbiaaW.PrintLast Go.Proofs.YtamdbacmpglbiaaW.PrintMore Kit
open PMultiPlays (slices_Index_string_string.l0 slices_Index_string_string.f slices_Contains_string_string.f)
set_option linter.unusedVariables false
set_option linter.unusedSimpArgs false
/-- Is a text among some? -/
def mem (x : ByteArray) (l : List ByteArray) : Bool := l.any fun y => decide (x.toList = y.toList)
theorem index_loop : ∀ (n : Nat) (l : List ByteArray) (x : ByteArray) (i : Nat), l.length - i < n → i ≤ l.length → l.length ≤ 1000000 →
    ∃ k r, slices_Index_string_string.l0 k l x (l.length : Int) (i : Int) = some r ∧ (decide (0 ≤ r) = mem x (l.drop i))
  | 0, l, x, i, h, hi, hl => by omega
  | n + 1, l, x, i, h, hi, hl => by
    have h0 : (0 : Int) ≤ (i : Int) := by omega
    by_cases hlt : i < l.length
    · have w1 : wrap64 ((i : Int) + 1) = ((i + 1 : Nat) : Int) := by unfold wrap64; omega
      have hil : (i : Int) < (l.length : Int) := by omega
      obtain ⟨y, hy⟩ : ∃ y, y = l.getD i ⟨#[]⟩ := ⟨_, rfl⟩
      have hrd : rdOf ByteArray.empty l (i : Int) = y := by rw [hy]; rfl
      have hdr : l.drop i = y :: l.drop (i + 1) := by rw [hy, List.drop_eq_getElem_cons hlt]; simp [hlt]
      by_cases hb : x.toList = y.toList
      · refine ⟨1, i, by simp only [slices_Index_string_string.l0, if_pos hil, if_pos h0, hrd, if_pos hb], ?_⟩
        rw [hdr]
        simp [mem, hb]
      · obtain ⟨k, r, hk, hr⟩ := index_loop n l x (i + 1) (by omega) (by omega) hl
        refine ⟨k + 1, r, by simp only [slices_Index_string_string.l0, if_pos hil, if_pos h0, hrd, if_neg hb, w1]; exact hk, ?_⟩
        rw [hr, hdr]
        simp [mem, hb]
    · have hil : ¬ ((i : Int) < (l.length : Int)) := by omega
      refine ⟨1, -1, by simp only [slices_Index_string_string.l0, if_neg hil], ?_⟩
      rw [List.drop_of_length_le (by omega)]
      simp [mem]
theorem contains_calls (w : World) (A : Option Addr) (n c : Nat) (l : List ByteArray) (x : ByteArray) (hC : Kd.C Kd.string w A n l) (hn : n = l.length) (hc : n ≤ c) (hl : n ≤ 1000000) :
    Calls Try.prog 61 #[.slice A n c, .string x] w fun e w' => e = .returned (.bool (mem x l)) ∧ Drawn0 w w' := by
  subst hn
  obtain ⟨k, r, hk, hr⟩ := index_loop (l.length + 1) l x 0 (by omega) (by omega) hl
  refine PMultiPlays.slices_Contains_string_string.calls k A c l x _ w hC hc ?_
  simp only [slices_Contains_string_string.f, slices_Index_string_string.f]
  rw [show ((0 : Nat) : Int) = 0 from rfl] at hk
  rw [hk]
  simp only [Option.bind_some, List.drop_zero] at hr ⊢
  rw [← hr]
/-- Some keys more are watched. -/
def addW : List ByteArray → List ByteArray → List ByteArray
  | acc, [] => acc
  | acc, x :: l => addW (if mem x acc = true then acc else acc ++ [x]) l
theorem R_up {W : World} {base : Nat} {v : Value} {xs : List ByteArray} (h : Kd.R Kd.string 9 W base (fun _ => True) v xs) : Kd.R Kd.string 9 W base (fun k => base ≤ k) v xs := by
  obtain ⟨inner, ho⟩ := Kd.R_own h
  exact ⟨fun k hk => own_base ho k hk, h.2.imp_ (fun _ _ hp => hp)⟩
theorem R_put {W : World} {base : Nat} {v : Value} {xs : List ByteArray} (h : Kd.R Kd.string 9 W base (fun _ => True) v xs) (g i : Nat) (hg : g < base) (u : Value) : Kd.R Kd.string 9 (W.setCell ⟨g, i, none⟩ u) base (fun _ => True) v xs :=
  Kd.R_mono (Kd.R_far (R_up h) (p := ⟨g, i, none⟩) (fun k hk => by simp only; omega) u) (fun _ _ => trivial)
def xrow (b d : Bool) (A : Option Addr) (n c : Nat) (z : Int) (v : Value) : Array Value := #[.bool false, .bool b, .bool d, .slice A n c, .int .i64 z, v]
set_option maxHeartbeats 8000000 in
set_option maxRecDepth 100000 in
theorem watch_shut (w : World) (b d : Bool) (A A' K : Option Addr) (n n' c c' ck : Nat) (z : Int) (xs l : List ByteArray) (hK : Kd.C Kd.string w K l.length l) (hX : Kd.C Kd.string w A' n' xs) (hn : n' ≤ 900000) (hl : l.length ≤ 1000) :
    Calls Try.prog 22 #[tx false b d (.slice A n c) z (.slice A' n' c'), .slice K l.length ck] w fun e w' => ∃ A2 c2, e = .returned (.tuple #[tx false b d (.slice A n c) z (.slice A2 (addW xs l).length c2), rp 1 0 ⟨#[79, 75]⟩]) ∧ Kd.R Kd.string 9 w' w.heap.size (fun _ => True) (.slice A2 (addW xs l).length c2) (addW xs l) ∧ Below w.heap.size w w' := by
  have HK := Aside0.mk hK
  have HX := Aside0.mk hX
  have HN := Aside0.mk hn
  have HL := Aside0.mk hl
  clear hK hX hn
  unfold tx
  unfold rp
  go_enter Try.func22, Try.ntmps22
  obtain ⟨W3, hW3⟩ : ∃ W3, W3 = ((w.alloc (.cells (xrow b d A n c z (.slice A' n' c')) 41)).alloc (.cells z41 41)).alloc (.cells z44 44) := ⟨_, rfl⟩
  have hb3 : Below w.heap.size w W3 := by rw [hW3]; exact below_alloc (below_alloc (below_alloc (Below.refl _ _) _) _) _
  have hs3 : W3.heap.size = w.heap.size + 3 := by rw [hW3]; simp
  have hr1 : W3.heap[w.heap.size]? = some (.cells (xrow b d A n c z (.slice A' n' c')) 41 (0, 0)) := by rw [hW3]; exact blk_alloc (blk_alloc (heap_alloc_new _ _) _) _
  have hr2 : W3.heap[w.heap.size + 1]? = some (.cells z41 41 (0, 0)) := by rw [hW3]; exact blk_alloc (by have h := heap_alloc_new (w.alloc (.cells (xrow b d A n c z (.slice A' n' c')) 41)) (.cells z41 41); simpa using h) _
  have hr3 : W3.heap[w.heap.size + 1 + 1]? = some (.cells z44 44 (0, 0)) := by rw [hW3]; have h := heap_alloc_new ((w.alloc (.cells (xrow b d A n c z (.slice A' n' c')) 41)).alloc (.cells z41 41)) (.cells z44 44); simpa using h
  go_wp2_with (fail)
  simp only [xrow, z41, z44] at hW3
  rw [← hW3]
  refine (Args.clone W3 A' n' c' xs (Kd.C_below HX.out hb3) (by have := HN.out; omega)).mono ?_
  rintro e w2 ⟨v, rfl, hR, hB⟩
  obtain ⟨A2, c2, rfl⟩ := Kd.R_slice hR
  rw [hs3] at hR hB
  have hB' : Below W3.heap.size W3 w2 := by rw [hs3]; exact hB
  have HR := Aside0.mk hR
  have HB := Aside0.mk (hb3.trans ⟨hB.os, hB.tape, hB.output, by have := hB.size; omega, fun i hi => hB.block i (by omega)⟩ : Below w.heap.size w w2)
  have hx1 := blk_below hr1 hB'
  have HX2 := Aside0.mk (blk_below hr2 hB')
  have HX3 := Aside0.mk (blk_below hr3 hB')
  have HX1 := Aside0.mk hx1
  have hsz2 : w.heap.size + 3 ≤ w2.heap.size := by have := hB.size; omega
  have HS2 := Aside0.mk hsz2
  have hx5 : w2.cell? ⟨w.heap.size, 5, none⟩ = some (.slice A' n' c') := by rw [cell_of_row w2 _ 5 _ _ _ hx1]; rfl
  have hf5 := blk_frozen hx1 5
  clear hR hB hB' hx1 hr1 hr2 hr3 hW3 hb3 hs3 hsz2
  go_wp2
  have HR9 : Aside0 (Kd.R Kd.string 9 (w2.setCell ⟨w.heap.size, 5, none⟩ (.slice A2 xs.length c2)) (w.heap.size + 3) (fun _ => True) (.slice A2 xs.length c2) xs) := ⟨R_put HR.out _ 5 (by omega) _⟩
  go_loopg [19] (l.length + 1) (fun gq v19 wr => ∃ (i : Nat) (A2 : Option Addr) (c2 : Nat) (acc : List ByteArray), v19 = .int .i64 i ∧ i ≤ l.length ∧ Aside0 (wr.heap[w.heap.size]? = some (.cells (xrow b d A n c z (.slice A2 acc.length c2)) 41 (0, 0))) ∧ Aside0 (wr.heap[w.heap.size + 1]? = some (.cells z41 41 (0, 0))) ∧ Aside0 (wr.heap[w.heap.size + 1 + 1]? = some (.cells z44 44 (0, 0))) ∧ Aside0 (Kd.R Kd.string 9 wr (w.heap.size + 3) (fun _ => True) (.slice A2 acc.length c2) acc) ∧ Aside0 (addW xs l = addW acc (l.drop i)) ∧ Aside0 (acc.length ≤ n' + i) ∧ Aside0 (Below w.heap.size w wr) ∧ Aside0 (w.heap.size + 3 ≤ wr.heap.size) ∧ Aside0 (l.length - i < gq))
  case atStart => exact ⟨0, A2, c2, xs, rfl, Nat.zero_le _, ⟨blk_put HX1.out 5 _ rfl⟩, ⟨blk_far HX2.out (by simp) _⟩, ⟨blk_far HX3.out (by simp; omega) _⟩, HR9, ⟨rfl⟩, ⟨by have := HX.out.1; omega⟩, ⟨HB.out.setCell (Nat.le_refl _) _⟩, ⟨by simpa using HS2.out⟩, ⟨by omega⟩⟩
  case round =>
    clear HR9 HX1 HX2 HX3
    obtain ⟨i, A3, c3, acc, rfl, hi, HX1, HX2, HX3, HR, HE, HLN, HB, HS, HM⟩ := hrel
    by_cases hlt : i < l.length
    · obtain ⟨x, hx⟩ : ∃ x, x = l.getD i ⟨#[]⟩ := ⟨_, rfl⟩
      have hsa := str_at (Kd.C_below HK.out HB.out) hlt
      rw [← hx] at hsa
      obtain ⟨a, hA, hcell⟩ := hsa
      subst hA
      have hdr : l.drop i = x :: l.drop (i + 1) := by rw [hx, List.drop_eq_getElem_cons hlt]; simp [hlt]
      have hx5 : wr.cell? ⟨w.heap.size, 5, none⟩ = some (.slice A3 acc.length c3) := by rw [cell_of_row wr _ 5 _ _ _ HX1.out]; rfl
      have hf5 := blk_frozen HX1.out 5
      have hcc := (Kd.R_reads' HR.out).2
      have hE2 : addW xs l = addW (if mem x acc = true then acc else acc ++ [x]) (l.drop (i + 1)) := by rw [HE.out, hdr]; rfl
      have HCC := Aside0.mk hcc
      have HCT : Aside0 (∀ W, Kd.C Kd.string W A3 acc.length acc → Calls Try.prog 61 #[.slice A3 acc.length c3, .string x] W fun e w' => e = .returned (.bool (mem x acc)) ∧ Drawn0 W w') := ⟨fun W hW => contains_calls W A3 acc.length c3 acc x hW rfl hcc.1 (by have := HLN.out; have := HN.out; omega)⟩
      clear hdr hx hcc HE
      cases hm : mem x acc with
      | true =>
        rw [hm] at HCT hE2
        have HE2 := Aside0.mk hE2
        clear hE2 hm
        go_wp2_with (go_at_call 61; ((with_reducible refine (HCT.out _ ?h1).mono ?_)); (case h1 => exact HCC.out.2); rintro e w3 ⟨rfl, ⟨q, rfl⟩⟩)
        go_roundg (l.length - i)
        case measure => exact HM.out
        case rel => exact ⟨i + 1, A3, c3, acc, by go_num, by omega, ⟨blk_drewN HX1.out _⟩, ⟨blk_drewN HX2.out _⟩, ⟨blk_drewN HX3.out _⟩, ⟨Kd.R_drewN HR.out _⟩, HE2, ⟨by have := HLN.out; omega⟩, ⟨pw_below_drewN HB.out _⟩, ⟨by simpa using HS.out⟩, ⟨by omega⟩⟩
      | false =>
        rw [hm] at HCT hE2
        have HE2 := Aside0.mk hE2
        clear hE2 hm
        go_wp2_with (first
          | (go_at_call 61; ((with_reducible refine (HCT.out _ ?h1).mono ?_)); (case h1 => exact HCC.out.2); rintro e w3 ⟨rfl, ⟨q, rfl⟩⟩)
          | (at_builtin; go_must (refine Kd.R_append Kd.string (w0 := wr.drewN q) (w.heap.size + 3) rfl (.tmp 29) (.tmp 31) 26 9 _ 16 rfl Try.underlying26 Args.info9 rfl (by decide) (by omega) (.slice A3 acc.length c3) acc x [.string x] (fun _ => True) (fun _ => False) rfl rfl rfl (fun _ h => h.elim) (fun _ _ => trivial) ?aO ?aB ?aS ?aL ?_); (case aO => exact Kd.R_drewN HR.out _); (case aB => exact Below.refl _ _); (case aS => simpa using HS.out); (case aL => have h1 := HLN.out; have h2 := HN.out; omega); intro v9 w9 hR9 hB9 hg9 hk9; obtain ⟨A9, c9, rfl⟩ := Kd.R_slice hR9; have HR9 := Aside0.mk hR9; have HB9 := Aside0.mk hB9; have HX19 : Aside0 (w9.heap[w.heap.size]? = some (.cells (xrow b d A n c z (.slice A3 acc.length c3)) 41 (0, 0))) := ⟨(hB9.block _ (by omega)).trans HX1.out⟩; have HX29 : Aside0 (w9.heap[w.heap.size + 1]? = some (.cells z41 41 (0, 0))) := ⟨(hB9.block _ (by omega)).trans HX2.out⟩; have HX39 : Aside0 (w9.heap[w.heap.size + 1 + 1]? = some (.cells z44 44 (0, 0))) := ⟨(hB9.block _ (by omega)).trans HX3.out⟩; have hx59 : w9.cell? ⟨w.heap.size, 5, none⟩ = some (.slice A3 acc.length c3) := (by rw [cell_of_row w9 _ 5 _ _ _ HX19.out]; rfl); have hf59 := blk_frozen HX19.out 5; clear hR9 hB9 hg9 hk9))
        have hbb : Below w.heap.size (wr.drewN q) w9 := ⟨HB9.out.os, HB9.out.tape, HB9.out.output, HB9.out.size, fun i hi => HB9.out.block i (by omega)⟩
        have HBB := Aside0.mk ((pw_below_drewN HB.out q).trans hbb)
        have HSZ : Aside0 (w.heap.size + 3 ≤ w9.heap.size) := ⟨by have h1 := HB9.out.size; have h2 := HS.out; simp at h1; omega⟩
        clear hbb
        go_roundg (l.length - i)
        case measure => exact HM.out
        case rel => exact ⟨i + 1, A9, c9, acc ++ [x], by go_num, by omega, ⟨by have h := blk_put HX19.out 5 (.slice A9 (acc.length + 1) c9) rfl; simpa [xrow] using h⟩, ⟨blk_far HX29.out (by simp) _⟩, ⟨blk_far HX39.out (by simp; omega) _⟩, ⟨R_put HR9.out _ 5 (by omega) _⟩, ⟨by rw [HE2.out]; rfl⟩, ⟨by have := HLN.out; simp only [List.length_append, List.length_singleton]; omega⟩, ⟨HBB.out.setCell (Nat.le_refl _) _⟩, ⟨by simpa using HSZ.out⟩, ⟨by omega⟩⟩
    · have hE : addW xs l = acc := by rw [HE.out, List.drop_of_length_le (by omega)]; rfl
      have hR' := HR.out
      have HEE := Aside0.mk hE
      clear hE hR'
      go_wp2_with (fail)
      have p0 : wr.cell? ⟨w.heap.size, 0, none⟩ = some (.bool false) := by rw [cell_of_row wr _ 0 _ _ _ HX1.out]; rfl
      have p1 : wr.cell? ⟨w.heap.size, 1, none⟩ = some (.bool b) := by rw [cell_of_row wr _ 1 _ _ _ HX1.out]; rfl
      have p2 : wr.cell? ⟨w.heap.size, 2, none⟩ = some (.bool d) := by rw [cell_of_row wr _ 2 _ _ _ HX1.out]; rfl
      have p3 : wr.cell? ⟨w.heap.size, 3, none⟩ = some (.slice A n c) := by rw [cell_of_row wr _ 3 _ _ _ HX1.out]; rfl
      have p4 : wr.cell? ⟨w.heap.size, 4, none⟩ = some (.int .i64 z) := by rw [cell_of_row wr _ 4 _ _ _ HX1.out]; rfl
      have p5 : wr.cell? ⟨w.heap.size, 5, none⟩ = some (.slice A3 acc.length c3) := by rw [cell_of_row wr _ 5 _ _ _ HX1.out]; rfl
      have q0 : wr.cell? ⟨w.heap.size + 1, 0, none⟩ = some (.bool false) := by rw [cell_of_row wr _ 0 _ _ _ HX2.out]; rfl
      have f0 := blk_frozen HX2.out 0
      have q1 : wr.cell? ⟨w.heap.size + 1, 1, none⟩ = some (.bool false) := by rw [cell_of_row wr _ 1 _ _ _ HX2.out]; rfl
      have f1 := blk_frozen HX2.out 1
      have q2 : wr.cell? ⟨w.heap.size + 1, 2, none⟩ = some (.bool false) := by rw [cell_of_row wr _ 2 _ _ _ HX2.out]; rfl
      have f2 := blk_frozen HX2.out 2
      have q3 : wr.cell? ⟨w.heap.size + 1, 3, none⟩ = some (.slice none 0 0) := by rw [cell_of_row wr _ 3 _ _ _ HX2.out]; rfl
      have f3 := blk_frozen HX2.out 3
      have q4 : wr.cell? ⟨w.heap.size + 1, 4, none⟩ = some (.int .i64 0) := by rw [cell_of_row wr _ 4 _ _ _ HX2.out]; rfl
      have f4 := blk_frozen HX2.out 4
      have q5 : wr.cell? ⟨w.heap.size + 1, 5, none⟩ = some (.slice none 0 0) := by rw [cell_of_row wr _ 5 _ _ _ HX2.out]; rfl
      have f5 := blk_frozen HX2.out 5
      have r0 : wr.cell? ⟨w.heap.size + 1 + 1, 0, none⟩ = some (.int .i64 0) := by rw [cell_of_row wr _ 0 _ _ _ HX3.out]; rfl
      have g0 := blk_frozen HX3.out 0
      have r1 : wr.cell? ⟨w.heap.size + 1 + 1, 1, none⟩ = some (.int .i64 0) := by rw [cell_of_row wr _ 1 _ _ _ HX3.out]; rfl
      have g1 := blk_frozen HX3.out 1
      have r2 : wr.cell? ⟨w.heap.size + 1 + 1, 2, none⟩ = some (.string ⟨#[]⟩) := by rw [cell_of_row wr _ 2 _ _ _ HX3.out]; rfl
      have g2 := blk_frozen HX3.out 2
      have r3 : wr.cell? ⟨w.heap.size + 1 + 1, 3, none⟩ = some (.slice none 0 0) := by rw [cell_of_row wr _ 3 _ _ _ HX3.out]; rfl
      have g3 := blk_frozen HX3.out 3
      have b0 : w.heap.size < wr.heap.size := by have := HS.out; omega
      have b1 : w.heap.size + 1 < wr.heap.size := by have := HS.out; omega
      have b2 : w.heap.size + 1 + 1 < wr.heap.size := by have := HS.out; omega
      have b3 : ¬ (w.heap.size = wr.heap.size) := by omega
      have b4 : ¬ (w.heap.size + 1 = wr.heap.size) := by omega
      have b5 : ¬ (w.heap.size + 1 + 1 = wr.heap.size) := by omega
      go_region_with (first | (go_at_call 62; go_must (refine (okay _).mono ?_); unfold rp; rintro e w2 ⟨rfl, rfl⟩))
      all_goals
        go_wp2
        have hRF := HR.out
        refine bodyPost_ret (v := .tuple #[tx false b d (.slice A n c) z (.slice A3 acc.length c3), rp 1 0 ⟨#[79, 75]⟩]) ?_ rfl ⟨A3, c3, by rw [HEE.out]; rfl, ?_, ?_⟩
        · refine results_cc Try.results22 _ _ (w.heap.size + 1) (w.heap.size + 1 + 1) 41 44 #[.bool false, .bool b, .bool d, .slice A n c, .int .i64 z, .slice A3 acc.length c3] #[.int .i64 1, .int .i64 0, .string ⟨#[79, 75]⟩, .slice none 0 0] (0, 0) (0, 0) _ _ rfl ?_ Try.underlying41 rfl size41 rfl ?_ Try.underlying44 rfl size44
          · have e6 := blk_put (blk_put (blk_put (blk_put (blk_put (blk_put HX2.out 0 (.bool false) rfl) 1 (.bool b) rfl) 2 (.bool d) rfl) 3 (.slice A n c) rfl) 4 (.int .i64 z) rfl) 5 (.slice A3 acc.length c3) rfl
            replace e6 := e6.trans (show _ = some (Obj.cells #[.bool false, .bool b, .bool d, .slice A n c, .int .i64 z, .slice A3 acc.length c3] 41 (0, 0)) from rfl)
            with_reducible repeat (first | exact e6 | refine blk_drew ?_ | refine blk_alloc ?_ _ | (refine blk_far ?_ ?h _; (case h => (simp; done)); skip))
          · have e6 := blk_far (blk_far (blk_far (blk_far (blk_far (blk_far HX3.out (p := ⟨w.heap.size + 1, 0, none⟩) (by simp) (.bool false)) (p := ⟨w.heap.size + 1, 1, none⟩) (by simp) (.bool b)) (p := ⟨w.heap.size + 1, 2, none⟩) (by simp) (.bool d)) (p := ⟨w.heap.size + 1, 3, none⟩) (by simp) (.slice A n c)) (p := ⟨w.heap.size + 1, 4, none⟩) (by simp) (.int .i64 z)) (p := ⟨w.heap.size + 1, 5, none⟩) (by simp) (.slice A3 acc.length c3)
            have e7 := blk_put (blk_put (blk_put (blk_put e6 0 (.int .i64 1) rfl) 1 (.int .i64 0) rfl) 2 (.string ⟨#[79, 75]⟩) rfl) 3 (.slice none 0 0) rfl
            replace e7 := e7.trans (show _ = some (Obj.cells #[.int .i64 1, .int .i64 0, .string ⟨#[79, 75]⟩, .slice none 0 0] 44 (0, 0)) from rfl)
            with_reducible repeat (first | exact e7 | refine blk_drew ?_ | refine blk_alloc ?_ _)
        · rw [HEE.out]
          refine Kd.R_lower (base := w.heap.size + 3) ?_ (Nat.le_add_right _ _)
          have z1 : w.heap.size + 1 < w.heap.size + 3 := by omega
          have z2 : w.heap.size + 1 + 1 < w.heap.size + 3 := by omega
          with_reducible repeat (first | exact HR.out | refine R_put ?_ _ _ z2 _ | refine R_put ?_ _ _ z1 _ | refine Kd.R_alloc ?_ _ | refine Kd.R_drew ?_)
        · with_reducible repeat (first | exact HB.out | apply below_alloc | apply below_drew | refine Below.setCell ?_ (Nat.le_add_right _ _) _ | refine Below.setCell ?_ (Nat.le_succ_of_le (Nat.le_add_right _ _)) _)
end Go.Proofs.Ytamdbacmpglbiaa.Multi
