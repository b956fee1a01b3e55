/-
  Transactions: a call is let wait.
-/
import Derived.Test.YtamdbacmpglbiaaTa
namespace Go.Proofs.Ytamdbacmpglbiaa.Multi
open Go.Shelf Go.RowKit Go.Proofs.YtamdbacmpglbiaaW.PrintWords Go.Proofs.YtamdbacmpglbiaaW.PrintLast Go.Proofs.YtamdbacmpglbiaaW.PrintMore Kit
set_option linter.unusedVariables false
set_option linter.unusedSimpArgs false
theorem R_upG {α : Type} {d : Kd α} {e : Nat} {W : World} {base : Nat} {v : Value} {xs : List α} (h : Kd.R d e W base (fun _ => True) v xs) : Kd.R d e W base (fun k => base ≤ k) v xs :=
  Kd.R_mono (Kd.R_bound h) (fun k hk => hk.2.1)
theorem R_putG {α : Type} {d : Kd α} {e : Nat} {W : World} {base : Nat} {v : Value} {xs : List α} (h : Kd.R d e W base (fun _ => True) v xs) (g i : Nat) (hg : g < base) (u : Value) : Kd.R d e (W.setCell ⟨g, i, none⟩ u) base (fun _ => True) v xs :=
  Kd.R_mono (Kd.R_far (R_upG h) (p := ⟨g, i, none⟩) (fun k hk => by simp only; omega) u) (fun _ _ => trivial)
/-- A header of a row of the call's own. -/
def HdrR (w : World) (base : Nat) (h : Hdr) (l : List ByteArray) : Prop := Kd.R Kd.string 9 w base (fun _ => True) (hdrV h) l
theorem HdrR.ok {w : World} {base : Nat} {h : Hdr} {l : List ByteArray} (hh : HdrR w base h l) : HdrOk w h l := by
  have h1 := Kd.R_reads' (show Kd.R Kd.string 9 w base (fun _ => True) (.slice h.1 h.2.1 h.2.2) l from hh)
  exact ⟨h1.1, by have := h1.1; have := h1.2.1; omega, h1.2.2⟩
def sQueued : ByteArray := ⟨#[81, 85, 69, 85, 69, 68]⟩
def sLarge : ByteArray := ⟨#[69, 82, 82, 32, 116, 114, 97, 110, 115, 97, 99, 116, 105, 111, 110, 32, 105, 115, 32, 116, 111, 111, 32, 108, 97, 114, 103, 101]⟩
set_option maxHeartbeats 8000000 in
set_option maxRecDepth 100000 in
theorem queue_shut (w : World) (b d : Bool) (A A' : Option Addr) (n n' c c' : Nat) (z : Int) (K : Value) : Calls Try.prog 24 #[tx false b d (.slice A n c) z (.slice A' n' c'), K] w fun e w' => e = .returned (.tuple #[tx false b d (.slice A n c) z (.slice A' n' c'), rp 2 0 sNoM]) ∧ Below w.heap.size w w' := by
  unfold tx
  unfold rp
  go_enter Try.func24, Try.ntmps24
  go_wp2_with (fail)
  go_region_with (first | (go_at_call 60; go_must (refine (fail _ _).mono ?_); unfold rp; rintro e w2 ⟨rfl, rfl⟩))
  all_goals
    go_wp2
    refine bodyPost_ret (v := .tuple #[tx false b d (.slice A n c) z (.slice A' n' c'), rp 2 0 sNoM]) ?_ rfl ⟨by simp [tx, rp], ?_⟩
    · simp [results, Try.results24, go_sem, tx, rp, sNoM]
    · repeat (first | exact Below.refl _ _ | apply below_alloc | apply below_drew)
set_option maxHeartbeats 8000000 in
set_option maxRecDepth 100000 in
theorem queue_full (w : World) (b d : Bool) (A A' K : Option Addr) (n n' c c' ck : Nat) (z : Int) (l : List ByteArray) (hK : Kd.C Kd.string w K l.length l) (hk : l.length ≤ ck) (hn : n ≤ 9223372036854775807) (hf : 100 ≤ n) :
    Calls Try.prog 24 #[tx true b d (.slice A n c) z (.slice A' n' c'), .slice K l.length ck] w fun e w' => e = .returned (.tuple #[tx true true d (.slice A n c) z (.slice A' n' c'), rp 2 0 sLarge]) ∧ Below w.heap.size w w' := by
  have HS : Aside0 (∀ W, Kd.C Kd.string W K l.length l → Calls Try.prog 63 #[.slice K l.length ck] W fun e w' => e = .returned (.int .i64 (wrap64 (tot l))) ∧ Drawn0 W w') := ⟨fun W h => size_calls W K ck l h hk⟩
  have HP := Aside0.mk (fun W => spoil W true b d A A' n n' c c' z)
  have HK := Aside0.mk hK
  have hd : decide ((n : Int) ≥ 100) = true := by simpa using (by omega : (n : Int) ≥ 100)
  have hd2 : decide ((100 : Int) ≤ n) = true := by simpa using (by omega : (n : Int) ≥ 100)
  clear hK hk
  generalize wrap64 (tot l) = s at HS
  unfold tx at HP ⊢
  unfold rp
  go_enter Try.func24, Try.ntmps24
  go_wp2_with (first
    | (go_at_call 63; ((with_reducible refine (HS.out _ ?h1).mono ?_)); (case h1 => exact Kd.C_below HK.out (below_alloc (below_alloc (below_alloc (Below.refl _ _) _) _) _)); rintro e w3 ⟨rfl, ⟨q, rfl⟩⟩)
    | (go_at_call 25; ((with_reducible refine (HP.out _).mono ?_)); rintro e w4 ⟨rfl, r1, r2, rfl⟩)
    | (go_at_call 60; go_must (refine (fail _ _).mono ?_); unfold rp; rintro e w3 ⟨rfl, rfl⟩))
  refine bodyPost_ret (v := .tuple #[tx true true d (.slice A n c) z (.slice A' n' c'), rp 2 0 sLarge]) ?_ rfl ⟨by simp [tx, rp], ?_⟩
  · simp [results, Try.results24, go_sem, tx, rp, sLarge]
  · have z0 : w.heap.size ≤ w.heap.size := Nat.le_refl _
    with_reducible repeat (first | exact Below.refl _ _ | apply below_alloc | apply below_drew | apply pw_below_drewN | refine Below.setCell ?_ z0 _ | refine Below.setCell ?_ (Nat.le_add_right _ _) _ | refine Below.setCell ?_ (Nat.le_succ_of_le (Nat.le_add_right _ _)) _)
set_option maxHeartbeats 8000000 in
set_option maxRecDepth 100000 in
theorem queue_large (w : World) (b d : Bool) (A A' K : Option Addr) (n n' c c' ck : Nat) (z : Int) (l : List ByteArray) (hK : Kd.C Kd.string w K l.length l) (hk : l.length ≤ ck) (hn : n ≤ 9223372036854775807) (hf : n < 100) (m s : Int) (hw : IntKind.i64.wrap (65536 - z) = m) (hs : wrap64 (tot l) = s) (hg : m < s) :
    Calls Try.prog 24 #[tx true b d (.slice A n c) z (.slice A' n' c'), .slice K l.length ck] w fun e w' => e = .returned (.tuple #[tx true true d (.slice A n c) z (.slice A' n' c'), rp 2 0 sLarge]) ∧ Below w.heap.size w w' := by
  have HS : Aside0 (∀ W, Kd.C Kd.string W K l.length l → Calls Try.prog 63 #[.slice K l.length ck] W fun e w' => e = .returned (.int .i64 (wrap64 (tot l))) ∧ Drawn0 W w') := ⟨fun W h => size_calls W K ck l h hk⟩
  have HP := Aside0.mk (fun W => spoil W true b d A A' n n' c c' z)
  have HK := Aside0.mk hK
  have hd : decide ((n : Int) ≥ 100) = false := by simpa using (by omega : ¬ (n : Int) ≥ 100)
  have hd2 : decide ((100 : Int) ≤ n) = false := by simpa using (by omega : ¬ (n : Int) ≥ 100)
  have hd3 : decide (s > m) = true := by simpa using hg
  have hd4 : decide (m < s) = true := by simpa using hg
  rw [hs] at HS
  clear hK hk
  unfold tx at HP ⊢
  unfold rp
  go_enter Try.func24, Try.ntmps24
  go_wp2_with (first
    | (go_at_call 63; ((with_reducible refine (HS.out _ ?h1).mono ?_)); (case h1 => exact Kd.C_below HK.out (below_alloc (below_alloc (below_alloc (Below.refl _ _) _) _) _)); rintro e w3 ⟨rfl, ⟨q, rfl⟩⟩)
    | (go_at_call 25; ((with_reducible refine (HP.out _).mono ?_)); rintro e w4 ⟨rfl, r1, r2, rfl⟩)
    | (go_at_call 60; go_must (refine (fail _ _).mono ?_); unfold rp; rintro e w3 ⟨rfl, rfl⟩))
  refine bodyPost_ret (v := .tuple #[tx true true d (.slice A n c) z (.slice A' n' c'), rp 2 0 sLarge]) ?_ rfl ⟨by simp [tx, rp], ?_⟩
  · simp [results, Try.results24, go_sem, tx, rp, sLarge]
  · have z0 : w.heap.size ≤ w.heap.size := Nat.le_refl _
    with_reducible repeat (first | exact Below.refl _ _ | apply below_alloc | apply below_drew | apply pw_below_drewN | refine Below.setCell ?_ z0 _ | refine Below.setCell ?_ (Nat.le_add_right _ _) _ | refine Below.setCell ?_ (Nat.le_succ_of_le (Nat.le_add_right _ _)) _)
def xrowT (b d : Bool) (A : Option Addr) (n c : Nat) (z : Int) (v : Value) : Array Value := #[.bool true, .bool b, .bool d, .slice A n c, .int .i64 z, v]
set_option maxHeartbeats 8000000 in
set_option maxRecDepth 100000 in
theorem queue_ok (w : World) (b d : Bool) (A A' K : Option Addr) (n n' c c' ck : Nat) (z : Int) (hs : List Hdr) (l : List ByteArray) (hK : Kd.C Kd.string w K l.length l) (hk : l.length ≤ ck) (hH : Kd.C kHdr w A n hs) (hf : n < 100) (hll : l.length ≤ 2000000) (m s z2 : Int) (hw : IntKind.i64.wrap (65536 - z) = m) (hs0 : wrap64 (tot l) = s) (hw2 : IntKind.i64.wrap (z + s) = z2) (hg : ¬ m < s) :
    Calls Try.prog 24 #[tx true b d (.slice A n c) z (.slice A' n' c'), .slice K l.length ck] w fun e w' => ∃ A2 c2 h, e = .returned (.tuple #[tx true b d (.slice A2 (hs ++ [h]).length c2) z2 (.slice A' n' c'), rp 1 0 sQueued]) ∧ Kd.R kHdr 26 w' w.heap.size (fun _ => True) (.slice A2 (hs ++ [h]).length c2) (hs ++ [h]) ∧ HdrR w' w.heap.size h l ∧ Below w.heap.size w w' := by
  have HS : Aside0 (∀ W, Kd.C Kd.string W K l.length l → Calls Try.prog 63 #[.slice K l.length ck] W fun e w' => e = .returned (.int .i64 (wrap64 (tot l))) ∧ Drawn0 W w') := ⟨fun W h => size_calls W K ck l h hk⟩
  have HK := Aside0.mk hK
  have HH := Aside0.mk hH
  have hn : n ≤ 9223372036854775807 := by omega
  have hd : decide ((n : Int) ≥ 100) = false := by simpa using (by omega : ¬ (n : Int) ≥ 100)
  have hd2 : decide ((100 : Int) ≤ n) = false := by simpa using (by omega : ¬ (n : Int) ≥ 100)
  have hd3 : decide (s > m) = false := by simpa using hg
  have hd4 : decide (m < s) = false := by simpa using hg
  rw [hs0] at HS
  have HTL : Aside0 (l.length ≤ 2000000) := ⟨hll⟩
  clear hK hk hH
  unfold tx
  unfold rp
  go_enter Try.func24, Try.ntmps24
  obtain ⟨W3, hW3⟩ : ∃ W3, W3 = ((w.alloc (.cells (xrowT b d A n c z (.slice A' n' c')) 41)).alloc (.cells z41 41)).alloc (.cells z44 44) := ⟨_, rfl⟩
  have hb3 : Below w.heap.size w W3 := by rw [hW3]; exact below_alloc (below_alloc (below_alloc (Below.refl _ _) _) _) _
  have hs3 : W3.heap.size = w.heap.size + 3 := by rw [hW3]; simp
  have hr1 : W3.heap[w.heap.size]? = some (.cells (xrowT b d A n c z (.slice A' n' c')) 41 (0, 0)) := by rw [hW3]; exact blk_alloc (blk_alloc (heap_alloc_new _ _) _) _
  have hr2 : W3.heap[w.heap.size + 1]? = some (.cells z41 41 (0, 0)) := by rw [hW3]; exact blk_alloc (by have h := heap_alloc_new (w.alloc (.cells (xrowT b d A n c z (.slice A' n' c')) 41)) (.cells z41 41); simpa using h) _
  have hr3 : W3.heap[w.heap.size + 1 + 1]? = some (.cells z44 44 (0, 0)) := by rw [hW3]; have h := heap_alloc_new ((w.alloc (.cells (xrowT b d A n c z (.slice A' n' c')) 41)).alloc (.cells z41 41)) (.cells z44 44); simpa using h
  have HB3 := Aside0.mk hb3
  have HS3 := Aside0.mk hs3
  have HR1 := Aside0.mk hr1
  have HR2 := Aside0.mk hr2
  have HR3 := Aside0.mk hr3
  clear hb3 hs3 hr1 hr2 hr3
  go_wp2_with (go_at_call 63; ((with_reducible refine (HS.out _ ?h1).mono ?_)); (case h1 => exact Kd.C_below HK.out (below_alloc (below_alloc (below_alloc (Below.refl _ _) _) _) _)); rintro e w3 ⟨rfl, ⟨q, rfl⟩⟩)
  simp only [xrowT, z41, z44] at hW3
  rw [← hW3]
  refine (clone64 (W3.drewN q) A n c hs (Kd.C_drewN (Kd.C_below HH.out HB3.out) _) (by omega)).mono ?_
  rintro e w2 ⟨v, rfl, hR, hB⟩
  obtain ⟨A2, c2, rfl⟩ := Kd.R_slice hR
  have hq : (W3.drewN q).heap.size = w.heap.size + 3 := by rw [← HS3.out]; rfl
  rw [hq] at hR hB
  have hB' : Below (W3.drewN q).heap.size (W3.drewN q) w2 := by rw [hq]; exact hB
  have HR := Aside0.mk hR
  have HB : Aside0 (Below w.heap.size w w2) := ⟨(pw_below_drewN HB3.out q).trans ⟨hB.os, hB.tape, hB.output, by have := hB.size; omega, fun i hi => hB.block i (by omega)⟩⟩
  have HX1 := Aside0.mk (blk_below (blk_drewN HR1.out q) hB')
  have HX2 := Aside0.mk (blk_below (blk_drewN HR2.out q) hB')
  have HX3 := Aside0.mk (blk_below (blk_drewN HR3.out q) hB')
  have hsz2 : w.heap.size + 3 ≤ w2.heap.size := by have := hB.size; omega
  have HS2 := Aside0.mk hsz2
  clear hR hB hB' HR1 HR2 HR3 hW3 hsz2 hq HB3 HS3
  have HCT : Aside0 (∀ W, Kd.C Kd.string W K l.length l → Calls Try.prog 56 #[.slice K l.length ck] W fun e w' => ∃ v, e = .returned v ∧ Kd.R Kd.string 9 w' W.heap.size (fun _ => True) v l ∧ Below W.heap.size W w') := ⟨fun W h => Args.clone W K l.length ck l h (by have := HTL.out; omega)⟩
  go_wp2_with (first
    | (go_at_call 56; ((with_reducible refine (HCT.out _ ?h1).mono ?_)); (case h1 => exact Kd.C_below HK.out HB.out); rintro e w4 ⟨v, rfl, hR4, hB4⟩; obtain ⟨A4, c4, rfl⟩ := Kd.R_slice hR4; have HR4 := Aside0.mk hR4; have HB4 := Aside0.mk hB4; clear hR4 hB4)
    | (at_builtin; go_must (refine Kd.R_append kHdr (w0 := w4) (w.heap.size + 3) rfl (.tmp 30) (.tmp 33) 28 26 _ 24 rfl Try.underlying28 info26 rfl (by decide) (by omega) (.slice A2 hs.length c2) hs (A4, l.length, c4) [.slice A4 l.length c4] (fun _ => True) (fun _ => False) rfl rfl rfl (fun _ h => h.elim) (fun _ _ => trivial) ?aO ?aB ?aS ?aL ?_); (case aO => exact Kd.R_below HR.out HB4.out); (case aB => exact Below.refl _ _); (case aS => have := HB4.out.size; have := HS2.out; omega); (case aL => have := HH.out.1; omega); intro v9 w9 hR9 hB9 hg9 hk9; obtain ⟨A9, c9, rfl⟩ := Kd.R_slice hR9; have HR9 := Aside0.mk hR9; have HB9 := Aside0.mk hB9; have HX19 : Aside0 (w9.heap[w.heap.size]? = some (.cells (xrowT b d A n c z (.slice A' n' c')) 41 (0, 0))) := ⟨(hB9.block _ (by omega)).trans (blk_below HX1.out HB4.out)⟩; have HX29 : Aside0 (w9.heap[w.heap.size + 1]? = some (.cells z41 41 (0, 0))) := ⟨(hB9.block _ (by omega)).trans (blk_below HX2.out HB4.out)⟩; have HX39 : Aside0 (w9.heap[w.heap.size + 1 + 1]? = some (.cells z44 44 (0, 0))) := ⟨(hB9.block _ (by omega)).trans (blk_below HX3.out HB4.out)⟩; have HRS : Aside0 (Kd.R Kd.string 9 w9 w2.heap.size (fun _ => True) (.slice A4 l.length c4) l) := ⟨(by obtain ⟨inner, ho⟩ := Kd.R_own HR.out; exact Kd.R_mono (Kd.R_grown (R_up HR4.out) hg9 (fun k hk he => by have := own_lt ho k he.symm; omega)) (fun _ _ => trivial))⟩; have p0 : w9.cell? ⟨w.heap.size, 0, none⟩ = some (.bool true) := (by rw [cell_of_row w9 _ 0 _ _ _ HX19.out]; rfl); have p1 : w9.cell? ⟨w.heap.size, 1, none⟩ = some (.bool b) := (by rw [cell_of_row w9 _ 1 _ _ _ HX19.out]; rfl); have p2 : w9.cell? ⟨w.heap.size, 2, none⟩ = some (.bool d) := (by rw [cell_of_row w9 _ 2 _ _ _ HX19.out]; rfl); have p3 : w9.cell? ⟨w.heap.size, 3, none⟩ = some (.slice A n c) := (by rw [cell_of_row w9 _ 3 _ _ _ HX19.out]; rfl); have p4 : w9.cell? ⟨w.heap.size, 4, none⟩ = some (.int .i64 z) := (by rw [cell_of_row w9 _ 4 _ _ _ HX19.out]; rfl); have p5 : w9.cell? ⟨w.heap.size, 5, none⟩ = some (.slice A' n' c') := (by rw [cell_of_row w9 _ 5 _ _ _ HX19.out]; rfl); have e3 := blk_frozen HX19.out 3; have e4 := blk_frozen HX19.out 4; have q0 : w9.cell? ⟨w.heap.size + 1, 0, none⟩ = some (.bool false) := (by rw [cell_of_row w9 _ 0 _ _ _ HX29.out]; rfl); have f0 := blk_frozen HX29.out 0; have q1 : w9.cell? ⟨w.heap.size + 1, 1, none⟩ = some (.bool false) := (by rw [cell_of_row w9 _ 1 _ _ _ HX29.out]; rfl); have f1 := blk_frozen HX29.out 1; have q2 : w9.cell? ⟨w.heap.size + 1, 2, none⟩ = some (.bool false) := (by rw [cell_of_row w9 _ 2 _ _ _ HX29.out]; rfl); have f2 := blk_frozen HX29.out 2; have q3 : w9.cell? ⟨w.heap.size + 1, 3, none⟩ = some (.slice none 0 0) := (by rw [cell_of_row w9 _ 3 _ _ _ HX29.out]; rfl); have f3 := blk_frozen HX29.out 3; have q4 : w9.cell? ⟨w.heap.size + 1, 4, none⟩ = some (.int .i64 0) := (by rw [cell_of_row w9 _ 4 _ _ _ HX29.out]; rfl); have f4 := blk_frozen HX29.out 4; have q5 : w9.cell? ⟨w.heap.size + 1, 5, none⟩ = some (.slice none 0 0) := (by rw [cell_of_row w9 _ 5 _ _ _ HX29.out]; rfl); have f5 := blk_frozen HX29.out 5; have r0 : w9.cell? ⟨w.heap.size + 1 + 1, 0, none⟩ = some (.int .i64 0) := (by rw [cell_of_row w9 _ 0 _ _ _ HX39.out]; rfl); have g0 := blk_frozen HX39.out 0; have r1 : w9.cell? ⟨w.heap.size + 1 + 1, 1, none⟩ = some (.int .i64 0) := (by rw [cell_of_row w9 _ 1 _ _ _ HX39.out]; rfl); have g1 := blk_frozen HX39.out 1; have r2 : w9.cell? ⟨w.heap.size + 1 + 1, 2, none⟩ = some (.string ⟨#[]⟩) := (by rw [cell_of_row w9 _ 2 _ _ _ HX39.out]; rfl); have g2 := blk_frozen HX39.out 2; have r3 : w9.cell? ⟨w.heap.size + 1 + 1, 3, none⟩ = some (.slice none 0 0) := (by rw [cell_of_row w9 _ 3 _ _ _ HX39.out]; rfl); have g3 := blk_frozen HX39.out 3; clear hR9 hB9 hg9 hk9))
  have y1 : w.heap.size + 1 < w.heap.size + 3 := by omega
  have y2 : w.heap.size + 1 + 1 < w.heap.size + 3 := by omega
  have y3 : w.heap.size < w.heap.size + 3 := by omega
  have s1 : w.heap.size + 1 < w2.heap.size := by have := HS2.out; omega
  have s2 : w.heap.size + 1 + 1 < w2.heap.size := by have := HS2.out; omega
  have s3 : w.heap.size < w2.heap.size := by have := HS2.out; omega
  have z0 : w.heap.size ≤ w.heap.size := Nat.le_refl _
  have hlen : (hs ++ [((A4, l.length, c4) : Hdr)]).length = hs.length + 1 := by simp
  have HBF : Aside0 (Below w.heap.size w w9) := ⟨(below_then HB.out (by omega) HB4.out).trans ⟨HB9.out.os, HB9.out.tape, HB9.out.output, HB9.out.size, fun i hi => HB9.out.block i (by omega)⟩⟩
  refine bodyPost_ret (v := .tuple #[tx true b d (.slice A9 (hs.length + 1) c9) z2 (.slice A' n' c'), rp 1 0 sQueued]) ?_ rfl ⟨A9, c9, (A4, l.length, c4), by rw [hlen]; rfl, ?_, ?_, ?_⟩
  · refine results_cc Try.results24 _ _ (w.heap.size + 1) (w.heap.size + 1 + 1) 41 44 #[.bool true, .bool b, .bool d, .slice A9 (hs.length + 1) c9, .int .i64 z2, .slice A' n' c'] #[.int .i64 1, .int .i64 0, .string sQueued, .slice none 0 0] (0, 0) (0, 0) _ _ rfl ?_ Try.underlying41 rfl size41 rfl ?_ Try.underlying44 rfl size44
    · have e6 := blk_put (blk_put (blk_put (blk_put (blk_put (blk_put (blk_far (blk_far HX29.out (p := ⟨w.heap.size, 3, none⟩) (by simp) (.slice A9 (hs.length + 1) c9)) (p := ⟨w.heap.size, 4, none⟩) (by simp) (.int .i64 z2)) 0 (.bool true) rfl) 1 (.bool b) rfl) 2 (.bool d) rfl) 3 (.slice A9 (hs.length + 1) c9) rfl) 4 (.int .i64 z2) rfl) 5 (.slice A' n' c') rfl
      replace e6 := e6.trans (show _ = some (Obj.cells #[.bool true, .bool b, .bool d, .slice A9 (hs.length + 1) c9, .int .i64 z2, .slice A' n' c'] 41 (0, 0)) from rfl)
      with_reducible repeat (first | exact e6 | (refine blk_far ?_ ?h _; (case h => (simp; done)); skip))
    · have e6 := blk_far (blk_far (blk_far (blk_far (blk_far (blk_far (blk_far (blk_far HX39.out (p := ⟨w.heap.size, 3, none⟩) (by simp; omega) (.slice A9 (hs.length + 1) c9)) (p := ⟨w.heap.size, 4, none⟩) (by simp; omega) (.int .i64 z2)) (p := ⟨w.heap.size + 1, 0, none⟩) (by simp) (.bool true)) (p := ⟨w.heap.size + 1, 1, none⟩) (by simp) (.bool b)) (p := ⟨w.heap.size + 1, 2, none⟩) (by simp) (.bool d)) (p := ⟨w.heap.size + 1, 3, none⟩) (by simp) (.slice A9 (hs.length + 1) c9)) (p := ⟨w.heap.size + 1, 4, none⟩) (by simp) (.int .i64 z2)) (p := ⟨w.heap.size + 1, 5, none⟩) (by simp) (.slice A' n' c')
      have e7 := blk_put (blk_put (blk_put (blk_put e6 0 (.int .i64 1) rfl) 1 (.int .i64 0) rfl) 2 (.string sQueued) rfl) 3 (.slice none 0 0) rfl
      exact e7.trans (show _ = some (Obj.cells #[.int .i64 1, .int .i64 0, .string sQueued, .slice none 0 0] 44 (0, 0)) from rfl)
  · refine Kd.R_lower (base := w.heap.size + 3) ?_ (Nat.le_add_right _ _)
    with_reducible repeat (first | exact HR9.out | refine R_putG ?_ _ _ y2 _ | refine R_putG ?_ _ _ y1 _ | refine R_putG ?_ _ _ y3 _)
  · show Kd.R Kd.string 9 _ _ (fun _ => True) (.slice A4 l.length c4) l
    refine Kd.R_lower (base := w2.heap.size) ?_ HB.out.size
    with_reducible repeat (first | exact HRS.out | refine R_putG ?_ _ _ s2 _ | refine R_putG ?_ _ _ s1 _ | refine R_putG ?_ _ _ s3 _)
  · with_reducible repeat (first | exact HBF.out | refine Below.setCell ?_ z0 _ | refine Below.setCell ?_ (Nat.le_add_right _ _) _ | refine Below.setCell ?_ (Nat.le_succ_of_le (Nat.le_add_right _ _)) _)
end Go.Proofs.Ytamdbacmpglbiaa.Multi
