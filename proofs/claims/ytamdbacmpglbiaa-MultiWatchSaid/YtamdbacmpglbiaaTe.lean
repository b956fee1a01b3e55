/-
  What is watched makes a transaction dirty when it changes, and nothing else does: the walk.
-/
import Derived.Test.YtamdbacmpglbiaaTd
namespace Go.Proofs.Ytamdbacmpglbiaa.Multi
open Go.Shelf Go.RowKit Go.Proofs.YtamdbacmpglbiaaW.PrintWords Go.Proofs.YtamdbacmpglbiaaW.PrintLast Go.Proofs.YtamdbacmpglbiaaW.PrintMore Kit
open PMultiPlays (S65 k65)
set_option linter.unusedVariables false
set_option linter.unusedSimpArgs false
theorem beq_dec (a b : List UInt8) : (a == b) = decide (a = b) := by by_cases h : a = b <;> simp [h]
set_option maxHeartbeats 8000000 in
set_option maxRecDepth 100000 in
theorem watch_far7 (w : World) (A B : Option Addr) (c d : Nat) (l1 l2 : List ByteArray) (u : Bool) (h1 : Kd.C Kd.string w A l1.length l1) (h2 : Kd.C Kd.string w B l2.length l2) (hc : l1.length ≤ c) (hd : l2.length ≤ d)
    (hf : ∀ W A', Kd.C k65 W A' 2 [⟨0, l1⟩, ⟨0, l2⟩] → Calls Try.prog 35 #[.slice A' 2 2] W fun e w' => e = .returned (.bool true) ∧ Below W.heap.size W w') :
    Calls Try.prog 7 #[.slice A l1.length c, .slice B l2.length d, .bool u] w fun e w' => e = .returned (.bool true) ∧ Below w.heap.size w w' := by
  have HF := Aside0.mk hf
  have H1 := Aside0.mk h1
  have H2 := Aside0.mk h2
  have HC := Aside0.mk hc
  have HD := Aside0.mk hd
  clear hf h1 h2 hc hd
  go_enter Try.func7, Try.ntmps7
  go_wp2_with (first
    | (go_at_call 35; ((with_reducible refine (HF.out _ _ ?h1).mono ?_)); (case h1 => exact two_C w A B _ _ c d _ l1 l2 rfl H1.out H2.out HC.out HD.out); rintro e w1 ⟨rfl, hB1⟩; have HB1 : Aside0 (Below w.heap.size w w1) := ⟨below_then (below_alloc (Below.refl _ _) _) (by simp) hB1⟩; clear hB1)
    | (go_at_call 21; ((with_reducible refine (alive37 _).mono ?_)); rintro e w2 ⟨rfl, hB2⟩; have HB2 := Aside0.mk hB2; clear hB2))
  go_ret
  exact ⟨rfl, below_then HB1.out HB1.out.size HB2.out⟩
set_option maxHeartbeats 8000000 in
set_option maxRecDepth 100000 in
theorem near7_true (w : World) (A B : Option Addr) (c d : Nat) (l1 l2 : List ByteArray) (h1 : Kd.C Kd.string w A l1.length l1) (h2 : Kd.C Kd.string w B l2.length l2) (hc : l1.length ≤ c) (hd : l2.length ≤ d) (hl1 : l1.length ≤ 300) (hl2 : l2.length ≤ 300)
    (hf : ∀ W A', Kd.C k65 W A' 2 [⟨0, l1⟩, ⟨0, l2⟩] → Calls Try.prog 35 #[.slice A' 2 2] W fun e w' => e = .returned (.bool false) ∧ Below W.heap.size W w') :
    Calls Try.prog 7 #[.slice A l1.length c, .slice B l2.length d, .bool true] w fun e w' => e = .returned (.bool true) ∧ Below w.heap.size w w' := by
  have HF := Aside0.mk hf
  have H1 := Aside0.mk h1
  have H2 := Aside0.mk h2
  have HC := Aside0.mk hc
  have HD := Aside0.mk hd
  have HL1 := Aside0.mk hl1
  have HL2 := Aside0.mk hl2
  obtain ⟨kk, hkk⟩ : ∃ kk, kk = (addW [] l1).length := ⟨_, rfl⟩
  have HW : Aside0 (∀ W, Kd.C Kd.string W A l1.length l1 → Calls Try.prog 22 #[.agg #[.bool false, .bool false, .bool false, .slice none 0 0, .int .i64 0, .slice none 0 0], .slice A l1.length c] W fun e w' => ∃ A2 c2, e = .returned (.tuple #[.agg #[.bool false, .bool false, .bool false, .slice none 0 0, .int .i64 0, .slice A2 kk c2], .agg #[.int .i64 1, .int .i64 0, .string ⟨#[79, 75]⟩, .slice none 0 0]]) ∧ Kd.R Kd.string 9 w' W.heap.size (fun _ => True) (.slice A2 kk c2) (addW [] l1) ∧ Below W.heap.size W w') :=
    ⟨fun W h => by rw [hkk]; exact watch_shut W false false none none A 0 0 0 0 c 0 [] l1 h ((Kd.R_reads' (Kd.R_nil Kd.string 9 W 0 (fun _ => True))).2.2) (by omega) (by omega)⟩
  have HU : Aside0 (∀ W A2 k2 c2 dd, Calls Try.prog 36 #[.agg #[.bool false, .bool false, .bool dd, .slice none 0 0, .int .i64 0, .slice A2 k2 c2]] W fun e w' => e = .returned (.agg #[.bool false, .bool false, .bool false, .slice none 0 0, .int .i64 0, .slice none 0 0]) ∧ Below W.heap.size W w') := ⟨fun W A2 k2 c2 dd => unwatch W false false dd none A2 0 k2 0 c2 0⟩
  have HM : Aside0 (∀ W, Kd.C Kd.string W B l2.length l2 → Calls Try.prog 26 #[.agg #[.bool false, .bool false, .bool false, .slice none 0 0, .int .i64 0, .slice none 0 0], .slice B l2.length d] W fun e w' => e = .returned (.agg #[.bool false, .bool false, .bool false, .slice none 0 0, .int .i64 0, .slice none 0 0]) ∧ Below W.heap.size W w') :=
    ⟨fun W h => by
      have h9 := mark W false false false none none B 0 0 0 0 d 0 [] l2 h ((Kd.R_reads' (Kd.R_nil Kd.string 9 W 0 (fun _ => True))).2.2) (by omega) (by omega)
      rw [show (false || l2.any fun x => mem x []) = false from by simp [mem]] at h9
      exact h9⟩
  clear hf h1 h2 hc hd
  have hm1 : l1.length ≤ 9223372036854775807 := by omega
  have hm2 : l2.length ≤ 9223372036854775807 := by omega
  clear hl1 hl2 hkk
  go_enter Try.func7, Try.ntmps7
  go_wp2_with (first
    | (go_at_call 35; ((with_reducible refine (HF.out _ _ ?h1).mono ?_)); (case h1 => exact two_C w A B _ _ c d _ l1 l2 rfl H1.out H2.out HC.out HD.out); rintro e w1 ⟨rfl, hB1⟩; have HB1 : Aside0 (Below w.heap.size w w1) := ⟨below_then (below_alloc (Below.refl _ _) _) (by simp) hB1⟩; clear hB1)
    | (go_at_call 22; ((with_reducible refine (HW.out _ ?h1).mono ?_)); (case h1 => exact Kd.C_below H1.out HB1.out); rintro e w2 ⟨A2, c2, rfl, hR2, hB2⟩; have HB2 : Aside0 (Below w.heap.size w w2) := ⟨below_then HB1.out HB1.out.size hB2⟩; have HC2 : Aside0 (Kd.C Kd.string w2 A2 kk (addW [] l1) ∧ kk ≤ c2) := ⟨(by have h := Kd.R_reads' hR2; exact ⟨by rw [h.1]; exact h.2.2, h.2.1⟩)⟩; clear hB2 hR2)
    | (go_at_call 36; ((with_reducible refine (HU.out _ _ _ _ _).mono ?_)); rintro e w3 ⟨rfl, hB3⟩; have HX3 : Aside0 (w3.heap[w2.heap.size]? = some (.cells #[.bool false, .bool false, .bool false, .slice none 0 0, .int .i64 0, .slice A2 kk c2] 41 (0, 0))) := ⟨blk_below (blk_alloc (heap_alloc_new w2 _) _) hB3⟩; have HB3 : Aside0 (Below w.heap.size w w3) := ⟨below_then (below_alloc (below_alloc HB2.out _) _) (by have := HB2.out.size; simp; omega) hB3⟩; have HS3 : Aside0 (w2.heap.size + 2 ≤ w3.heap.size) := ⟨by have h := hB3.size; simp at h; omega⟩; clear hB3)
    | ((with_reducible refine gate_store (t := 41) (p := 7) (v := .tmp 30) rfl ?_); (go_must (refine Glob.wpList_store_row rfl 41 (.tmp 7) (.tmp 30) rfl w2.heap.size #[.bool false, .bool false, .bool false, .slice none 0 0, .int .i64 0, .slice none 0 0] #[.bool false, .bool false, .bool false, .slice none 0 0, .int .i64 0, .slice A2 kk c2] 41 rfl rfl HX3.out size41 rfl (by simp [Value.oneCell']) ?_); intro w4 hg4 ho4 hs4 hb4; have HX4 := Aside0.mk hg4; have HB4 : Aside0 (Below w.heap.size w w4) := ⟨HB3.out.trans (hb4 _ HB2.out.size)⟩; have p0 : w4.cell? ⟨w2.heap.size, 0, none⟩ = some (.bool false) := (by rw [cell_of_row w4 _ 0 _ _ _ HX4.out]; rfl); have p1 : w4.cell? ⟨w2.heap.size, 1, none⟩ = some (.bool false) := (by rw [cell_of_row w4 _ 1 _ _ _ HX4.out]; rfl); have p2 : w4.cell? ⟨w2.heap.size, 2, none⟩ = some (.bool false) := (by rw [cell_of_row w4 _ 2 _ _ _ HX4.out]; rfl); have p3 : w4.cell? ⟨w2.heap.size, 3, none⟩ = some (.slice none 0 0) := (by rw [cell_of_row w4 _ 3 _ _ _ HX4.out]; rfl); have p4 : w4.cell? ⟨w2.heap.size, 4, none⟩ = some (.int .i64 0) := (by rw [cell_of_row w4 _ 4 _ _ _ HX4.out]; rfl); have p5 : w4.cell? ⟨w2.heap.size, 5, none⟩ = some (.slice none 0 0) := (by rw [cell_of_row w4 _ 5 _ _ _ HX4.out]; rfl); clear hg4 ho4 hs4 hb4))
    | (go_at_call 26; ((with_reducible refine (HM.out _ ?h1).mono ?_)); (case h1 => exact Kd.C_below H2.out HB4.out); rintro e w5 ⟨rfl, hB5⟩; clear p0 p1 p2 p3 p4 p5; have HB5 : Aside0 (Below w.heap.size w w5) := ⟨below_then HB4.out HB4.out.size hB5⟩; clear hB5))
  obtain ⟨W6, hW6⟩ : ∃ W6, W6 = w5.alloc (.cells #[.bool false, .bool false, .bool false, .slice none 0 0, .int .i64 0, .slice none 0 0] 41) := ⟨_, rfl⟩
  rw [← hW6]
  have HY6 : Aside0 (W6.heap[w5.heap.size]? = some (.cells #[.bool false, .bool false, .bool false, .slice none 0 0, .int .i64 0, .slice none 0 0] 41 (0, 0))) := ⟨by rw [hW6]; exact heap_alloc_new _ _⟩
  have HB6 : Aside0 (Below w.heap.size w W6) := ⟨by rw [hW6]; exact below_alloc HB5.out _⟩
  clear hW6
  have HA6 := Aside0.mk (Kd.C_below H1.out HB6.out)
  have HBB6 := Aside0.mk (Kd.C_below H2.out HB6.out)
  go_loopg [10, 36] (l1.length + 1) (fun gq v10 v36 wr => ∃ (i : Nat) (m : Bool), v10 = .bool m ∧ v36 = .int .i64 i ∧ i ≤ l1.length ∧ W6 = wr ∧ Aside0 ((m || meets (l1.drop i) l2) = meets l1 l2) ∧ Aside0 (l1.length - i < gq))
  case atStart => exact ⟨0, false, rfl, rfl, Nat.zero_le _, rfl, ⟨rfl⟩, ⟨by omega⟩⟩
  case round =>
    obtain ⟨i, m, rfl, rfl, hi, rfl, HE, HM⟩ := hrel
    by_cases hlt : i < l1.length
    · obtain ⟨x, hx⟩ : ∃ x, x = l1.getD i ⟨#[]⟩ := ⟨_, rfl⟩
      have hsa := str_at HA6.out hlt
      rw [← hx] at hsa
      obtain ⟨a, hA, hcell⟩ := hsa
      subst hA
      have hdr : l1.drop i = x :: l1.drop (i + 1) := by rw [hx, List.drop_eq_getElem_cons hlt]; simp [hlt]
      have HE2 : Aside0 (((m || mem x l2) || meets (l1.drop (i + 1)) l2) = meets l1 l2) := ⟨by rw [← HE.out, hdr, Bool.or_assoc]; rfl⟩
      clear hdr hx HE
      go_wp2_with (fail)
      go_loopg [10, 42] (l2.length + 1) (fun gq2 v10 v42 wr => ∃ (j : Nat) (m' : Bool), v10 = .bool m' ∧ v42 = .int .i64 j ∧ j ≤ l2.length ∧ W6 = wr ∧ Aside0 ((m' || mem x (l2.drop j)) = (m || mem x l2)) ∧ Aside0 (l2.length - j < gq2))
      case atStart => exact ⟨0, m, rfl, rfl, Nat.zero_le _, rfl, ⟨rfl⟩, ⟨by omega⟩⟩
      case round =>
        obtain ⟨j, m', rfl, rfl, hj, rfl, HE3, HM3⟩ := hrel
        by_cases hlt2 : j < l2.length
        · obtain ⟨y, hy⟩ : ∃ y, y = l2.getD j ⟨#[]⟩ := ⟨_, rfl⟩
          have hsa2 := str_at HBB6.out hlt2
          rw [← hy] at hsa2
          obtain ⟨a2, hA2, hcell2⟩ := hsa2
          subst hA2
          have hdr2 : l2.drop j = y :: l2.drop (j + 1) := by rw [hy, List.drop_eq_getElem_cons hlt2]; simp [hlt2]
          have HE4 : Aside0 (((m' || decide (x.toList = y.toList)) || mem x (l2.drop (j + 1))) = (m || mem x l2)) := ⟨by rw [← HE3.out, hdr2, Bool.or_assoc]; rfl⟩
          clear hdr2 hy HE3
          cases m' with
          | true =>
            go_wp2_with (fail)
            go_roundg (l2.length - j)
            case measure => exact HM3.out
            case rel => exact ⟨j + 1, true, rfl, by go_num, by omega, rfl, ⟨by rw [← HE4.out]; simp⟩, ⟨by omega⟩⟩
          | false =>
            go_wp2_with (fail)
            go_roundg (l2.length - j)
            case measure => exact HM3.out
            case rel => exact ⟨j + 1, (x.toList == y.toList), rfl, by go_num, by omega, rfl, ⟨by rw [← HE4.out, Bool.false_or, beq_dec]⟩, ⟨by omega⟩⟩
        · have HE4 : Aside0 (m' = (m || mem x l2)) := ⟨by rw [← HE3.out, List.drop_of_length_le (by omega)]; simp [mem]⟩
          clear HE3
          go_wp2_with (fail)
          go_roundg (l1.length - i)
          case measure => exact HM.out
          case rel => exact ⟨i + 1, m', rfl, by go_num, by omega, rfl, ⟨by rw [HE4.out]; exact HE2.out⟩, ⟨by omega⟩⟩
    · have HE2 : Aside0 (m = meets l1 l2) := ⟨by rw [← HE.out, List.drop_of_length_le (by omega)]; simp [meets]⟩
      clear HE
      have y0 : W6.cell? ⟨w5.heap.size, 0, none⟩ = some (.bool false) := by rw [cell_of_row W6 _ 0 _ _ _ HY6.out]; rfl
      have y1 : W6.cell? ⟨w5.heap.size, 1, none⟩ = some (.bool false) := by rw [cell_of_row W6 _ 1 _ _ _ HY6.out]; rfl
      have y2 : W6.cell? ⟨w5.heap.size, 2, none⟩ = some (.bool false) := by rw [cell_of_row W6 _ 2 _ _ _ HY6.out]; rfl
      have y3 : W6.cell? ⟨w5.heap.size, 3, none⟩ = some (.slice none 0 0) := by rw [cell_of_row W6 _ 3 _ _ _ HY6.out]; rfl
      have y4 : W6.cell? ⟨w5.heap.size, 4, none⟩ = some (.int .i64 0) := by rw [cell_of_row W6 _ 4 _ _ _ HY6.out]; rfl
      have y5 : W6.cell? ⟨w5.heap.size, 5, none⟩ = some (.slice none 0 0) := by rw [cell_of_row W6 _ 5 _ _ _ HY6.out]; rfl
      have hm := HE2.out
      clear HE2 hm
      have hfd : ∀ W : World, (Instr.field 41 (.agg #[.bool false, .bool false, .bool false, .slice none 0 0, .int .i64 0, .slice none 0 0]) 2).run Try.prog W = .ok (.bool false) W := fun _ => by kernel_rfl
      cases m
      all_goals
        go_wp2_with (first
          | (go_at_call 36; ((with_reducible refine (HU.out _ _ _ _ _).mono ?_)); rintro e w7 ⟨rfl, hB7⟩; have HB7 : Aside0 (Below w.heap.size w w7) := ⟨below_then HB6.out HB6.out.size hB7⟩; clear hB7)
          | (go_at_call 21; ((with_reducible refine (alive37 _).mono ?_)); rintro e w8 ⟨rfl, hB8⟩; have HB8 : Aside0 (Below w.heap.size w w8) := ⟨below_then HB7.out HB7.out.size hB8⟩; clear hB8))
        go_ret
        exact ⟨rfl, HB8.out⟩
set_option maxHeartbeats 8000000 in
set_option maxRecDepth 100000 in
theorem near7_false (w : World) (A B : Option Addr) (c d : Nat) (l1 l2 : List ByteArray) (h1 : Kd.C Kd.string w A l1.length l1) (h2 : Kd.C Kd.string w B l2.length l2) (hc : l1.length ≤ c) (hd : l2.length ≤ d) (hl1 : l1.length ≤ 300) (hl2 : l2.length ≤ 300)
    (hf : ∀ W A', Kd.C k65 W A' 2 [⟨0, l1⟩, ⟨0, l2⟩] → Calls Try.prog 35 #[.slice A' 2 2] W fun e w' => e = .returned (.bool false) ∧ Below W.heap.size W w') :
    Calls Try.prog 7 #[.slice A l1.length c, .slice B l2.length d, .bool false] w fun e w' => e = .returned (.bool true) ∧ Below w.heap.size w w' := by
  have HF := Aside0.mk hf
  have H1 := Aside0.mk h1
  have H2 := Aside0.mk h2
  have HC := Aside0.mk hc
  have HD := Aside0.mk hd
  have HL1 := Aside0.mk hl1
  have HL2 := Aside0.mk hl2
  obtain ⟨kk, hkk⟩ : ∃ kk, kk = (addW [] l1).length := ⟨_, rfl⟩
  have HW : Aside0 (∀ W, Kd.C Kd.string W A l1.length l1 → Calls Try.prog 22 #[.agg #[.bool false, .bool false, .bool false, .slice none 0 0, .int .i64 0, .slice none 0 0], .slice A l1.length c] W fun e w' => ∃ A2 c2, e = .returned (.tuple #[.agg #[.bool false, .bool false, .bool false, .slice none 0 0, .int .i64 0, .slice A2 kk c2], .agg #[.int .i64 1, .int .i64 0, .string ⟨#[79, 75]⟩, .slice none 0 0]]) ∧ Kd.R Kd.string 9 w' W.heap.size (fun _ => True) (.slice A2 kk c2) (addW [] l1) ∧ Below W.heap.size W w') :=
    ⟨fun W h => by rw [hkk]; exact watch_shut W false false none none A 0 0 0 0 c 0 [] l1 h ((Kd.R_reads' (Kd.R_nil Kd.string 9 W 0 (fun _ => True))).2.2) (by omega) (by omega)⟩
  have HU : Aside0 (∀ W A2 k2 c2 dd, Calls Try.prog 36 #[.agg #[.bool false, .bool false, .bool dd, .slice none 0 0, .int .i64 0, .slice A2 k2 c2]] W fun e w' => e = .returned (.agg #[.bool false, .bool false, .bool false, .slice none 0 0, .int .i64 0, .slice none 0 0]) ∧ Below W.heap.size W w') := ⟨fun W A2 k2 c2 dd => unwatch W false false dd none A2 0 k2 0 c2 0⟩
  have hkl : kk ≤ l1.length := by
    have h : ∀ (l acc : List ByteArray), (addW acc l).length ≤ acc.length + l.length := fun l => by
      induction l with
      | nil => intro acc; simp [addW]
      | cons x l ih =>
        intro acc
        rw [addW]
        refine Nat.le_trans (ih _) ?_
        split <;> simp <;> omega
    have := h l1 []
    rw [hkk]; simpa using this
  have HM : Aside0 (∀ W A2 c2, Kd.C Kd.string W B l2.length l2 → Kd.C Kd.string W A2 kk (addW [] l1) → kk ≤ c2 → Calls Try.prog 26 #[.agg #[.bool false, .bool false, .bool false, .slice none 0 0, .int .i64 0, .slice A2 kk c2], .slice B l2.length d] W fun e w' => e = .returned (.agg #[.bool false, .bool false, .bool (meets l1 l2), .slice none 0 0, .int .i64 0, .slice A2 kk c2]) ∧ Below W.heap.size W w') :=
    ⟨fun W A2 c2 h h' hc' => by
      have h9 := mark W false false false none A2 B 0 kk 0 c2 d 0 (addW [] l1) l2 h h' hc' (by omega)
      rw [Bool.false_or, meets_eq] at h9
      exact h9⟩
  clear hf h1 h2 hc hd
  have hm1 : l1.length ≤ 9223372036854775807 := by omega
  have hm2 : l2.length ≤ 9223372036854775807 := by omega
  clear hl1 hl2 hkk
  go_enter Try.func7, Try.ntmps7
  go_wp2_with (first
    | (go_at_call 35; ((with_reducible refine (HF.out _ _ ?h1).mono ?_)); (case h1 => exact two_C w A B _ _ c d _ l1 l2 rfl H1.out H2.out HC.out HD.out); rintro e w1 ⟨rfl, hB1⟩; have HB1 : Aside0 (Below w.heap.size w w1) := ⟨below_then (below_alloc (Below.refl _ _) _) (by simp) hB1⟩; clear hB1)
    | (go_at_call 22; ((with_reducible refine (HW.out _ ?h1).mono ?_)); (case h1 => exact Kd.C_below H1.out HB1.out); rintro e w2 ⟨A2, c2, rfl, hR2, hB2⟩; have HB2 : Aside0 (Below w.heap.size w w2) := ⟨below_then HB1.out HB1.out.size hB2⟩; have HC2 : Aside0 (Kd.C Kd.string w2 A2 kk (addW [] l1) ∧ kk ≤ c2) := ⟨(by have h := Kd.R_reads' hR2; exact ⟨by rw [h.1]; exact h.2.2, h.2.1⟩)⟩; clear hB2 hR2)
    | (go_at_call 26; ((with_reducible refine (HM.out _ _ _ ?h1 ?h2 ?h3).mono ?_)); (case h1 => exact Kd.C_below H2.out (below_alloc (below_alloc HB2.out _) _)); (case h2 => exact Kd.C_below HC2.out.1 (below_alloc (below_alloc (Below.refl _ _) _) _)); (case h3 => exact HC2.out.2); rintro e w5 ⟨rfl, hB5⟩; have HB5 : Aside0 (Below w.heap.size w w5) := ⟨below_then (below_alloc (below_alloc HB2.out _) _) (by have := HB2.out.size; simp; omega) hB5⟩; clear hB5))
  obtain ⟨W6, hW6⟩ : ∃ W6, W6 = w5.alloc (.cells #[.bool false, .bool false, .bool (meets l1 l2), .slice none 0 0, .int .i64 0, .slice A2 kk c2] 41) := ⟨_, rfl⟩
  rw [← hW6]
  have HY6 : Aside0 (W6.heap[w5.heap.size]? = some (.cells #[.bool false, .bool false, .bool (meets l1 l2), .slice none 0 0, .int .i64 0, .slice A2 kk c2] 41 (0, 0))) := ⟨by rw [hW6]; exact heap_alloc_new _ _⟩
  have HB6 : Aside0 (Below w.heap.size w W6) := ⟨by rw [hW6]; exact below_alloc HB5.out _⟩
  clear hW6
  have HA6 := Aside0.mk (Kd.C_below H1.out HB6.out)
  have HBB6 := Aside0.mk (Kd.C_below H2.out HB6.out)
  go_loopg [10, 36] (l1.length + 1) (fun gq v10 v36 wr => ∃ (i : Nat) (m : Bool), v10 = .bool m ∧ v36 = .int .i64 i ∧ i ≤ l1.length ∧ W6 = wr ∧ Aside0 ((m || meets (l1.drop i) l2) = meets l1 l2) ∧ Aside0 (l1.length - i < gq))
  case atStart => exact ⟨0, false, rfl, rfl, Nat.zero_le _, rfl, ⟨rfl⟩, ⟨by omega⟩⟩
  case round =>
    obtain ⟨i, m, rfl, rfl, hi, rfl, HE, HM⟩ := hrel
    by_cases hlt : i < l1.length
    · obtain ⟨x, hx⟩ : ∃ x, x = l1.getD i ⟨#[]⟩ := ⟨_, rfl⟩
      have hsa := str_at HA6.out hlt
      rw [← hx] at hsa
      obtain ⟨a, hA, hcell⟩ := hsa
      subst hA
      have hdr : l1.drop i = x :: l1.drop (i + 1) := by rw [hx, List.drop_eq_getElem_cons hlt]; simp [hlt]
      have HE2 : Aside0 (((m || mem x l2) || meets (l1.drop (i + 1)) l2) = meets l1 l2) := ⟨by rw [← HE.out, hdr, Bool.or_assoc]; rfl⟩
      clear hdr hx HE
      go_wp2_with (fail)
      go_loopg [10, 42] (l2.length + 1) (fun gq2 v10 v42 wr => ∃ (j : Nat) (m' : Bool), v10 = .bool m' ∧ v42 = .int .i64 j ∧ j ≤ l2.length ∧ W6 = wr ∧ Aside0 ((m' || mem x (l2.drop j)) = (m || mem x l2)) ∧ Aside0 (l2.length - j < gq2))
      case atStart => exact ⟨0, m, rfl, rfl, Nat.zero_le _, rfl, ⟨rfl⟩, ⟨by omega⟩⟩
      case round =>
        obtain ⟨j, m', rfl, rfl, hj, rfl, HE3, HM3⟩ := hrel
        by_cases hlt2 : j < l2.length
        · obtain ⟨y, hy⟩ : ∃ y, y = l2.getD j ⟨#[]⟩ := ⟨_, rfl⟩
          have hsa2 := str_at HBB6.out hlt2
          rw [← hy] at hsa2
          obtain ⟨a2, hA2, hcell2⟩ := hsa2
          subst hA2
          have hdr2 : l2.drop j = y :: l2.drop (j + 1) := by rw [hy, List.drop_eq_getElem_cons hlt2]; simp [hlt2]
          have HE4 : Aside0 (((m' || decide (x.toList = y.toList)) || mem x (l2.drop (j + 1))) = (m || mem x l2)) := ⟨by rw [← HE3.out, hdr2, Bool.or_assoc]; rfl⟩
          clear hdr2 hy HE3
          cases m' with
          | true =>
            go_wp2_with (fail)
            go_roundg (l2.length - j)
            case measure => exact HM3.out
            case rel => exact ⟨j + 1, true, rfl, by go_num, by omega, rfl, ⟨by rw [← HE4.out]; simp⟩, ⟨by omega⟩⟩
          | false =>
            go_wp2_with (fail)
            go_roundg (l2.length - j)
            case measure => exact HM3.out
            case rel => exact ⟨j + 1, (x.toList == y.toList), rfl, by go_num, by omega, rfl, ⟨by rw [← HE4.out, Bool.false_or, beq_dec]⟩, ⟨by omega⟩⟩
        · have HE4 : Aside0 (m' = (m || mem x l2)) := ⟨by rw [← HE3.out, List.drop_of_length_le (by omega)]; simp [mem]⟩
          clear HE3
          go_wp2_with (fail)
          go_roundg (l1.length - i)
          case measure => exact HM.out
          case rel => exact ⟨i + 1, m', rfl, by go_num, by omega, rfl, ⟨by rw [HE4.out]; exact HE2.out⟩, ⟨by omega⟩⟩
    · have HE2 : Aside0 (m = meets l1 l2) := ⟨by rw [← HE.out, List.drop_of_length_le (by omega)]; simp [meets]⟩
      clear HE
      have y0 : W6.cell? ⟨w5.heap.size, 0, none⟩ = some (.bool false) := by rw [cell_of_row W6 _ 0 _ _ _ HY6.out]; rfl
      have y1 : W6.cell? ⟨w5.heap.size, 1, none⟩ = some (.bool false) := by rw [cell_of_row W6 _ 1 _ _ _ HY6.out]; rfl
      have y2 : W6.cell? ⟨w5.heap.size, 2, none⟩ = some (.bool (meets l1 l2)) := by rw [cell_of_row W6 _ 2 _ _ _ HY6.out]; rfl
      have y3 : W6.cell? ⟨w5.heap.size, 3, none⟩ = some (.slice none 0 0) := by rw [cell_of_row W6 _ 3 _ _ _ HY6.out]; rfl
      have y4 : W6.cell? ⟨w5.heap.size, 4, none⟩ = some (.int .i64 0) := by rw [cell_of_row W6 _ 4 _ _ _ HY6.out]; rfl
      have y5 : W6.cell? ⟨w5.heap.size, 5, none⟩ = some (.slice A2 kk c2) := by rw [cell_of_row W6 _ 5 _ _ _ HY6.out]; rfl
      have hm := HE2.out
      rw [← hm] at y2
      clear HE2 hm
      have hfd : ∀ W : World, (Instr.field 41 (.agg #[.bool false, .bool false, .bool false, .slice none 0 0, .int .i64 0, .slice none 0 0]) 2).run Try.prog W = .ok (.bool false) W := fun _ => by kernel_rfl
      cases m
      all_goals
        go_wp2_with (first
          | (go_at_call 36; ((with_reducible refine (HU.out _ _ _ _ _).mono ?_)); rintro e w7 ⟨rfl, hB7⟩; have HB7 : Aside0 (Below w.heap.size w w7) := ⟨below_then HB6.out HB6.out.size hB7⟩; clear hB7)
          | (go_at_call 21; ((with_reducible refine (alive37 _).mono ?_)); rintro e w8 ⟨rfl, hB8⟩; have HB8 : Aside0 (Below w.heap.size w w8) := ⟨below_then HB7.out HB7.out.size hB8⟩; clear hB8))
        go_ret
        exact ⟨rfl, HB8.out⟩
theorem walk7 (w : World) (A : Option Addr) (c : Nat) (l1 : List ByteArray) (h1 : Kd.C Kd.string w A l1.length l1) (hc : l1.length ≤ c) (hl1 : l1.length ≤ 9223372036854775807) (B : Option Addr) (d : Nat) (l2 : List ByteArray) (h2 : Kd.C Kd.string w B l2.length l2) (hd : l2.length ≤ d) (hl2 : l2.length ≤ 9223372036854775807) (u : Bool) :
    Calls Try.prog 7 #[.slice A l1.length c, .slice B l2.length d, .bool u] w fun e w' => e = .returned (.bool true) ∧ Below w.heap.size w w' := by
  obtain ⟨k, r, hf, hr⟩ := far_any [⟨0, l1⟩, ⟨0, l2⟩] (by simp) (by simp; exact ⟨hl1, hl2⟩)
  have hcalls : ∀ W A', Kd.C k65 W A' 2 [⟨0, l1⟩, ⟨0, l2⟩] → Calls Try.prog 35 #[.slice A' 2 2] W fun e w' => e = .returned (.bool r) ∧ Below W.heap.size W w' := fun W A' h => PMultiPlays.mewslaw37_far.calls k A' 2 [⟨0, l1⟩, ⟨0, l2⟩] r W h (Nat.le_refl _) hf
  cases r with
  | true => exact watch_far7 w A B c d l1 l2 u h1 h2 hc hd hcalls
  | false =>
    have e1 : l1.length ≤ 300 := (hr rfl).2 0 (by simp)
    have e2 : l2.length ≤ 300 := (hr rfl).2 1 (by simp)
    cases u with
    | true => exact near7_true w A B c d l1 l2 h1 h2 hc hd e1 e2 hcalls
    | false => exact near7_false w A B c d l1 l2 h1 h2 hc hd e1 e2 hcalls
end Go.Proofs.Ytamdbacmpglbiaa.Multi
