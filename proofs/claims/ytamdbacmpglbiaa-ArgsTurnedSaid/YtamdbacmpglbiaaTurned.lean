/-
  In whatever order the options stand, they are the same: the walk of the law.
-/
import Derived.Test.YtamdbacmpglbiaaAlive29
namespace Go.Proofs.Ytamdbacmpglbiaa.Turned
open Go.Shelf Go.RowKit Go.Proofs.YtamdbacmpglbiaaW.PrintWords Go.Proofs.YtamdbacmpglbiaaW.PrintLast Go.Proofs.YtamdbacmpglbiaaW.PrintMore Kit Args
set_option linter.unusedVariables false
set_option linter.unusedSimpArgs false
open PArgsTurned (S35 z35 k35 rd_T35 k35_mk k35_openF k35_mkF)
def nms : List ByteArray := [⟨#[78, 88, 32, 48]⟩, ⟨#[76, 73, 77, 73, 84, 32, 50]⟩, ⟨#[77, 65, 84, 67, 72, 32, 49]⟩]
def LIM : ByteArray := ⟨#[76, 73, 77, 73, 84]⟩
def MAT : ByteArray := ⟨#[109, 97, 116, 99, 104]⟩
def NX : ByteArray := ⟨#[78, 120]⟩
def ords (g s c : ByteArray) : List (List ByteArray) := [[LIM, s, c, MAT, g, NX], [LIM, s, c, NX, MAT, g], [MAT, g, LIM, s, c, NX], [MAT, g, NX, LIM, s, c], [NX, LIM, s, c, MAT, g], [NX, MAT, g, LIM, s, c]]
def res (g s c : ByteArray) : List S35 := [⟨true, []⟩, ⟨true, [s, c]⟩, ⟨true, [g]⟩]
theorem r0 (g s c : ByteArray) : optsR nms [LIM, s, c, MAT, g, NX] = (res g s c, true) := by kernel_rfl
theorem r1 (g s c : ByteArray) : optsR nms [LIM, s, c, NX, MAT, g] = (res g s c, true) := by kernel_rfl
theorem r2 (g s c : ByteArray) : optsR nms [MAT, g, LIM, s, c, NX] = (res g s c, true) := by kernel_rfl
theorem r3 (g s c : ByteArray) : optsR nms [MAT, g, NX, LIM, s, c] = (res g s c, true) := by kernel_rfl
theorem r4 (g s c : ByteArray) : optsR nms [NX, LIM, s, c, MAT, g] = (res g s c, true) := by kernel_rfl
theorem r5 (g s c : ByteArray) : optsR nms [NX, MAT, g, LIM, s, c] = (res g s c, true) := by kernel_rfl
theorem rs (g s c : ByteArray) (q : Nat) (hq : q < 6) : optsR nms ((ords g s c).getD q []) = (res g s c, true) := by
  rcases q with _ | _ | _ | _ | _ | _ | q
  · exact r0 g s c
  · exact r1 g s c
  · exact r2 g s c
  · exact r3 g s c
  · exact r4 g s c
  · exact r5 g s c
  · omega
theorem j1 (a b c d e f : ByteArray) : PArgsTurned.mewslaw29_join.f 5 [[a, b, c], [d, e], [f]] = some [a, b, c, d, e, f] := by kernel_rfl
theorem far_ok (g s c : ByteArray) (h0 : g.size ≤ 300) (h1 : s.size ≤ 300) (h2 : c.size ≤ 300) : PArgsTurned.mewslaw29_far.f 5 [g, s, c] = some false := by
  have a0 : ¬ (g.size : Int) > 300 := by omega
  have a1 : ¬ (s.size : Int) > 300 := by omega
  have a2 : ¬ (c.size : Int) > 300 := by omega
  simp [PArgsTurned.mewslaw29_far.f, PArgsTurned.mewslaw29_far.l0, rdOf, wrap64, a0, a1, a2]
theorem far_is (g s c : ByteArray) (h : ¬ (g.size ≤ 300 ∧ s.size ≤ 300 ∧ c.size ≤ 300)) : PArgsTurned.mewslaw29_far.f 5 [g, s, c] = some true := by
  by_cases a0 : (g.size : Int) > 300
  · simp [PArgsTurned.mewslaw29_far.f, PArgsTurned.mewslaw29_far.l0, rdOf, wrap64, a0]
  · by_cases a1 : (s.size : Int) > 300
    · simp [PArgsTurned.mewslaw29_far.f, PArgsTurned.mewslaw29_far.l0, rdOf, wrap64, a0, a1]
    · have a2 : (c.size : Int) > 300 := by omega
      simp [PArgsTurned.mewslaw29_far.f, PArgsTurned.mewslaw29_far.l0, rdOf, wrap64, a0, a1, a2]
set_option maxHeartbeats 8000000 in
set_option maxRecDepth 100000 in
theorem far_way (w : World) (g s c : ByteArray) (h : Int) (hn : ¬ (g.size ≤ 300 ∧ s.size ≤ 300 ∧ c.size ≤ 300)) : Calls Try.prog 3 #[.agg #[.string g, .string s, .string c, .int .i64 h]] w fun e w' => e = .returned (.bool true) ∧ Below w.heap.size w w' := by
  have HF := Aside0.mk (far_is g s c hn)
  clear hn
  go_enter Try.func3, Try.ntmps3
  go_wp2_with (first
    | (go_at_call 10; go_must (refine (PArgsTurned.mewslaw29_far.calls 5 _ _ [g, s, c] true _ (strs_lit _ [g, s, c] _ (by simp) (by simp)) (Nat.le_refl _) HF.out).mono ?_); rintro e w2 ⟨rfl, ⟨q, rfl⟩⟩)
    | (go_at_call 11; go_must (refine (alive _).mono ?_); rintro e w3 ⟨rfl, hB⟩; have HB := Aside0.mk hB; clear hB))
  go_ret
  exact ⟨rfl, below_then (pw_below_drewN (below_alloc (below_alloc (Below.refl _ _) _) _) _) (by simp; omega) HB.out⟩
theorem opt_any (W : World) (A A1 : Option Addr) (c c1 : Nat) (L : List ByteArray) (g s d : ByteArray) (hL : L.length = 6) (hR : optsR nms L = (res g s d, true)) (hC : Kd.C Kd.string W A 6 L) (hc : 6 ≤ c) (hC1 : Kd.C Kd.string W A1 3 nms) (hc1 : 3 ≤ c1) (hl : ∀ x ∈ L, x.size ≤ 9223372036854775807) :
    Calls Try.prog 13 #[.slice A 6 c, .slice A1 3 c1] W fun e w' => ∃ ad c', e = .returned (.tuple #[.slice (some ad) 3 c', .bool true]) ∧ 3 ≤ c' ∧ Kd.C k35 w' (some ad) 3 (res g s d) ∧ Below W.heap.size W w' := by
  have h := options W A A1 c c1 L nms (by rw [hL]; exact hC) (by rw [hL]; exact hc) hC1 hc1 hl (by decide) (by rw [hL]; decide) (by decide)
  rw [hR, hL] at h
  refine h.mono ?_
  rintro e w' ⟨A', c', rfl, h1, h2, h3⟩
  obtain ⟨ad, _, _, rfl, _⟩ := PArgsTurned.at_T35 h2 0 (Int.le_refl 0) (by show (0 : Int) < 3; decide)
  exact ⟨ad, c', rfl, h1, h2, h3⟩
theorem ords_ok (g s c : ByteArray) (h0 : g.size ≤ 300) (h1 : s.size ≤ 300) (h2 : c.size ≤ 300) (q : Nat) (hq : q < 6) : ((ords g s c).getD q []).length = 6 ∧ ∀ x ∈ (ords g s c).getD q [], x.size ≤ 9223372036854775807 := by
  have a : LIM.size ≤ 9223372036854775807 := by decide
  have b : MAT.size ≤ 9223372036854775807 := by decide
  have e : NX.size ≤ 9223372036854775807 := by decide
  rcases q with _ | _ | _ | _ | _ | _ | q
  all_goals first | omega | (refine ⟨rfl, fun x hx => ?_⟩; simp only [ords, List.getD_cons_zero, List.getD_cons_succ, List.mem_cons, List.not_mem_nil, or_false] at hx; rcases hx with rfl | rfl | rfl | rfl | rfl | rfl <;> omega)
theorem pick6 (w : World) (A0 A1 A2 A3 A4 A5 : Option Addr) (c0 c1 c2 c3 c4 c5 : Nat) (g s c : ByteArray) (h0 : Kd.C Kd.string w A0 6 [LIM, s, c, MAT, g, NX]) (h1 : Kd.C Kd.string w A1 6 [LIM, s, c, NX, MAT, g]) (h2 : Kd.C Kd.string w A2 6 [MAT, g, LIM, s, c, NX]) (h3 : Kd.C Kd.string w A3 6 [MAT, g, NX, LIM, s, c]) (h4 : Kd.C Kd.string w A4 6 [NX, LIM, s, c, MAT, g]) (h5 : Kd.C Kd.string w A5 6 [NX, MAT, g, LIM, s, c])
    (d0 : 6 ≤ c0) (d1 : 6 ≤ c1) (d2 : 6 ≤ c2) (d3 : 6 ≤ c3) (d4 : 6 ≤ c4) (d5 : 6 ≤ c5) (q : Nat) (hq : q < 6) :
    ∃ A d, (∀ h, (#[Value.slice A0 6 c0, .slice A1 6 c1, .slice A2 6 c2, .slice A3 6 c3, .slice A4 6 c4, .slice A5 6 c5])[q]'h = .slice A 6 d) ∧ 6 ≤ d ∧ Kd.C Kd.string w A 6 ((ords g s c).getD q []) := by
  rcases q with _ | _ | _ | _ | _ | _ | q
  · exact ⟨A0, c0, fun _ => rfl, d0, h0⟩
  · exact ⟨A1, c1, fun _ => rfl, d1, h1⟩
  · exact ⟨A2, c2, fun _ => rfl, d2, h2⟩
  · exact ⟨A3, c3, fun _ => rfl, d3, h3⟩
  · exact ⟨A4, c4, fun _ => rfl, d4, h4⟩
  · exact ⟨A5, c5, fun _ => rfl, d5, h5⟩
  · omega
theorem modsix (h : Int) : ∃ q : Nat, q < 6 ∧ wrap64 ((IntKind.u64.wrap h).tmod 6) = (q : Int) := by
  have h1 : 0 ≤ IntKind.u64.wrap h ∧ IntKind.u64.wrap h < 18446744073709551616 := by
    simp only [IntKind.wrap, IntKind.signed, IntKind.bits]
    constructor <;> simp <;> omega
  have h2 : (IntKind.u64.wrap h).tmod 6 = IntKind.u64.wrap h % 6 := Int.tmod_eq_emod_of_nonneg h1.1
  refine ⟨(IntKind.u64.wrap h % 6).toNat, by omega, ?_⟩
  rw [h2]
  unfold wrap64
  omega
theorem same_list : ∀ (n : Nat) (xs : List ByteArray) (i : Nat), xs.length ≤ 1000000 → xs.length - i ≤ n → i ≤ xs.length → PArgsTurned.mewsref02_Same.l0 (n + 1) xs xs (i : Int) = some true
  | 0, xs, i, hb, hn, hi => by
    simp only [PArgsTurned.mewsref02_Same.l0]
    rw [if_neg (by omega)]
  | n + 1, xs, i, hb, hn, hi => by
    rw [PArgsTurned.mewsref02_Same.l0]
    by_cases h : i < xs.length
    · have := same_list n xs (i + 1) hb (by omega) (by omega)
      have e : wrap64 ((i : Int) + 1) = ((i + 1 : Nat) : Int) := by unfold wrap64; omega
      rw [if_pos (by omega), if_pos (by omega), if_pos (by omega), if_pos rfl, e]
      exact this
    · rw [if_neg (by omega)]
theorem same_self (k : Nat) (xs : List ByteArray) (hb : xs.length ≤ 1000000) (hk : xs.length < k) : PArgsTurned.mewsref02_Same.f k xs xs = some true := by
  obtain ⟨n, rfl⟩ : ∃ n, k = n + 1 := ⟨k - 1, by omega⟩
  unfold PArgsTurned.mewsref02_Same.f
  rw [if_pos rfl]
  exact same_list n xs 0 hb (by omega) (by omega)
theorem same_res (g s c : ByteArray) : PArgsTurned.mewslaw29_same.f 9 (res g s c) (res g s c) = some true := by
  have a0 := same_self 8 [] (by decide) (by decide)
  have a1 := same_self 7 [s, c] (by simp) (by simp)
  have a2 := same_self 6 [g] (by simp) (by simp)
  simp [PArgsTurned.mewslaw29_same.f, PArgsTurned.mewslaw29_same.l0, rd_T35, res, wrap64, a0, a1, a2]
theorem strs_blk (w : World) (b : Nat) (xs : List ByteArray) (h : w.heap[b]? = some (.cells (xs.map Value.string).toArray 9 (0, 0))) (hl : xs.length ≤ 9223372036854775807) : Kd.C Kd.string w (some ⟨b, 0, none⟩) xs.length xs := by
  refine ⟨rfl, hl, fun _ => ⟨_, rfl, fun j p hj => ⟨[.string p], rfl, rfl, fun i u hu => ?_⟩⟩⟩
  cases i with
  | zero =>
    obtain rfl : Value.string p = u := by simpa using hu
    show w.cell? ((⟨b, 0, none⟩ : Addr).add (j * 1 + 0)) = _
    rw [Nat.mul_one, Nat.add_zero, add_plain]
    unfold World.cell?
    rw [h]
    simp [hj]
  | succ i => simp at hu
theorem join_any (W : World) (b b1 b2 b3 : Nat) (l1 l2 l3 r : List ByteArray) (hb : W.heap.size = b) (h1 : Kd.C Kd.string W (some ⟨b1, 0, none⟩) l1.length l1) (h2 : Kd.C Kd.string W (some ⟨b2, 0, none⟩) l2.length l2) (h3 : Kd.C Kd.string W (some ⟨b3, 0, none⟩) l3.length l3) (hj : PArgsTurned.mewslaw29_join.f 5 [l1, l2, l3] = some r) :
    Calls Try.prog 12 #[.slice (some ⟨b, 0, none⟩) 3 3] (W.alloc (.cells #[.slice (some ⟨b1, 0, none⟩) l1.length l1.length, .slice (some ⟨b2, 0, none⟩) l2.length l2.length, .slice (some ⟨b3, 0, none⟩) l3.length l3.length] 26)) fun e w' => ∃ A c, e = .returned (.slice A r.length c) ∧ r.length ≤ c ∧ Kd.C Kd.string w' A r.length r ∧ Below W.heap.size W w' := by
  have hC := lit1_C (Kd.slice 9 Kd.string) rfl W [.slice (some ⟨b1, 0, none⟩) l1.length l1.length, .slice (some ⟨b2, 0, none⟩) l2.length l2.length, .slice (some ⟨b3, 0, none⟩) l3.length l3.length] [l1, l2, l3] 26 b hb rfl (by simp) (by
    intro j x v hx hv
    rcases j with _ | _ | _ | j
    · simp at hx hv; subst hx; subst hv; exact ⟨_, _, rfl, Nat.le_refl _, h1⟩
    · simp at hx hv; subst hx; subst hv; exact ⟨_, _, rfl, Nat.le_refl _, h2⟩
    · simp at hx hv; subst hx; subst hv; exact ⟨_, _, rfl, Nat.le_refl _, h3⟩
    · simp at hx)
  refine (PArgsTurned.mewslaw29_join.calls 5 _ _ [l1, l2, l3] r _ hC (Nat.le_refl _) hj).mono ?_
  rintro e w' ⟨v, rfl, hR, hB⟩
  obtain ⟨A, c, rfl, hl, hC'⟩ := Kd.R_reads hR
  exact ⟨A, c, rfl, hl, hC', below_then (below_alloc (Below.refl _ _) _) (by simp) hB⟩
set_option maxHeartbeats 8000000 in
set_option maxRecDepth 100000 in
theorem near_way (w : World) (g s c : ByteArray) (h : Int) (h0 : g.size ≤ 300) (h1 : s.size ≤ 300) (h2 : c.size ≤ 300) : Calls Try.prog 3 #[.agg #[.string g, .string s, .string c, .int .i64 h]] w fun e w' => e = .returned (.bool true) ∧ Below w.heap.size w w' := by
  have HF := Aside0.mk (far_ok g s c h0 h1 h2)
  go_enter Try.func3, Try.ntmps3
  go_wp2_with (first
    | (go_at_call 10; go_must (refine (PArgsTurned.mewslaw29_far.calls 5 _ _ [g, s, c] false _ (strs_lit _ [g, s, c] _ (by simp) (by simp)) (Nat.le_refl _) HF.out).mono ?_); rintro e w2 ⟨rfl, ⟨q, rfl⟩⟩))
  refine (join_any _ _ (w.heap.size + 1 + 1) (w.heap.size + 1 + 1 + 1) (w.heap.size + 1 + 1 + 1 + 1) [LIM, s, c] [MAT, g] [NX] [LIM, s, c, MAT, g, NX] (by simp) ?h1 ?h2 ?h3 (j1 LIM s c MAT g NX)).mono ?_
  case h1 => exact Kd.C_below (strs_lit _ [LIM, s, c] _ (by simp) (by simp)) (below_alloc (below_alloc (Below.refl _ _) _) _)
  case h2 => exact Kd.C_below (strs_lit _ [MAT, g] _ (by simp) (by simp)) (below_alloc (Below.refl _ _) _)
  case h3 => exact strs_lit _ [NX] _ (by simp) (by simp)
  rintro e w6 ⟨A0, c0, rfl, hl0, hC0, hB6⟩
  have HL := Aside0.mk (Kd.C_below (Kd.C_below (strs_lit _ [LIM, s, c] _ (by simp) (by simp)) (below_alloc (below_alloc (Below.refl _ _) _) _)) hB6 : Kd.C Kd.string w6 (some ⟨w.heap.size + 1 + 1, 0, none⟩) 3 [LIM, s, c])
  have HM := Aside0.mk (Kd.C_below (Kd.C_below (strs_lit _ [MAT, g] _ (by simp) (by simp)) (below_alloc (Below.refl _ _) _)) hB6 : Kd.C Kd.string w6 (some ⟨w.heap.size + 1 + 1 + 1, 0, none⟩) 2 [MAT, g])
  have HN := Aside0.mk (Kd.C_below (strs_lit _ [NX] _ (by simp) (by simp)) hB6 : Kd.C Kd.string w6 (some ⟨w.heap.size + 1 + 1 + 1 + 1, 0, none⟩) 1 [NX])
  have hBx := below_then (below_alloc (below_alloc (below_alloc (pw_below_drewN (below_alloc (Below.refl _ (w.alloc (.cells #[.string g, .string s, .string c, .int .i64 h] 23))) _) q) _) _) _) (by simp) hB6
  have HX0 := Aside0.mk (pw_cell_below hBx (a := ⟨w.heap.size, 0, none⟩) (v := .string g) (by simp))
  have HX1 := Aside0.mk (pw_cell_below hBx (a := ⟨w.heap.size, 1, none⟩) (v := .string s) (by simp))
  have HX2 := Aside0.mk (pw_cell_below hBx (a := ⟨w.heap.size, 2, none⟩) (v := .string c) (by simp))
  have HX3 := Aside0.mk (pw_cell_below hBx (a := ⟨w.heap.size, 3, none⟩) (v := .int .i64 h) (by simp))
  clear hBx
  have HB0 := Aside0.mk (below_then (below_alloc (below_alloc (below_alloc (pw_below_drewN (below_alloc (below_alloc (Below.refl w.heap.size w) _) _) q) _) _) _) (by simp; omega) hB6)
  have HC0 := Aside0.mk (show Kd.C Kd.string w6 A0 6 [LIM, s, c, MAT, g, NX] from hC0)
  have HD0 := Aside0.mk (show 6 ≤ c0 from hl0)
  have HE0 := Aside0.mk (Below.refl w6.heap.size w6)
  clear hB6 hC0 hl0
  go_wp2_with (fail)
  refine (join_any _ _ (w.heap.size + 1 + 1) (w.heap.size + 1 + 1 + 1 + 1) (w.heap.size + 1 + 1 + 1) [LIM, s, c] [NX] [MAT, g] [LIM, s, c, NX, MAT, g] rfl (Kd.C_below HL.out HE0.out) (Kd.C_below HN.out HE0.out) (Kd.C_below HM.out HE0.out) (by kernel_rfl)).mono ?_
  rintro e w7 ⟨A1, c1, rfl, hl, hC, hB⟩
  have HC1 := Aside0.mk (show Kd.C Kd.string w7 A1 6 [LIM, s, c, NX, MAT, g] from hC)
  have HD1 := Aside0.mk (show 6 ≤ c1 from hl)
  have HE1 := Aside0.mk (below_then HE0.out HE0.out.size hB)
  have HG1 := Aside0.mk hB
  clear hC hl hB
  go_wp2_with (fail)
  refine (join_any _ _ (w.heap.size + 1 + 1 + 1) (w.heap.size + 1 + 1) (w.heap.size + 1 + 1 + 1 + 1) [MAT, g] [LIM, s, c] [NX] [MAT, g, LIM, s, c, NX] rfl (Kd.C_below HM.out HE1.out) (Kd.C_below HL.out HE1.out) (Kd.C_below HN.out HE1.out) (by kernel_rfl)).mono ?_
  rintro e w8 ⟨A2, c2, rfl, hl, hC, hB⟩
  have HC2 := Aside0.mk (show Kd.C Kd.string w8 A2 6 [MAT, g, LIM, s, c, NX] from hC)
  have HD2 := Aside0.mk (show 6 ≤ c2 from hl)
  have HE2 := Aside0.mk (below_then HE1.out HE1.out.size hB)
  have HG2 := Aside0.mk hB
  clear hC hl hB
  go_wp2_with (fail)
  refine (join_any _ _ (w.heap.size + 1 + 1 + 1) (w.heap.size + 1 + 1 + 1 + 1) (w.heap.size + 1 + 1) [MAT, g] [NX] [LIM, s, c] [MAT, g, NX, LIM, s, c] rfl (Kd.C_below HM.out HE2.out) (Kd.C_below HN.out HE2.out) (Kd.C_below HL.out HE2.out) (by kernel_rfl)).mono ?_
  rintro e w9 ⟨A3, c3, rfl, hl, hC, hB⟩
  have HC3 := Aside0.mk (show Kd.C Kd.string w9 A3 6 [MAT, g, NX, LIM, s, c] from hC)
  have HD3 := Aside0.mk (show 6 ≤ c3 from hl)
  have HE3 := Aside0.mk (below_then HE2.out HE2.out.size hB)
  have HG3 := Aside0.mk hB
  clear hC hl hB
  go_wp2_with (fail)
  refine (join_any _ _ (w.heap.size + 1 + 1 + 1 + 1) (w.heap.size + 1 + 1) (w.heap.size + 1 + 1 + 1) [NX] [LIM, s, c] [MAT, g] [NX, LIM, s, c, MAT, g] rfl (Kd.C_below HN.out HE3.out) (Kd.C_below HL.out HE3.out) (Kd.C_below HM.out HE3.out) (by kernel_rfl)).mono ?_
  rintro e w10 ⟨A4, c4, rfl, hl, hC, hB⟩
  have HC4 := Aside0.mk (show Kd.C Kd.string w10 A4 6 [NX, LIM, s, c, MAT, g] from hC)
  have HD4 := Aside0.mk (show 6 ≤ c4 from hl)
  have HE4 := Aside0.mk (below_then HE3.out HE3.out.size hB)
  have HG4 := Aside0.mk hB
  clear hC hl hB
  go_wp2_with (fail)
  refine (join_any _ _ (w.heap.size + 1 + 1 + 1 + 1) (w.heap.size + 1 + 1 + 1) (w.heap.size + 1 + 1) [NX] [MAT, g] [LIM, s, c] [NX, MAT, g, LIM, s, c] rfl (Kd.C_below HN.out HE4.out) (Kd.C_below HM.out HE4.out) (Kd.C_below HL.out HE4.out) (by kernel_rfl)).mono ?_
  rintro e w11 ⟨A5, c5, rfl, hl, hC, hB⟩
  have HC5 := Aside0.mk (show Kd.C Kd.string w11 A5 6 [NX, MAT, g, LIM, s, c] from hC)
  have HD5 := Aside0.mk (show 6 ≤ c5 from hl)
  have HE5 := Aside0.mk (below_then HE4.out HE4.out.size hB)
  have HG5 := Aside0.mk hB
  clear hC hl hB
  have hx3 := fun o => pw_cell_below (below_alloc HE5.out o) HX3.out
  obtain ⟨qq, hq6, hqe⟩ := modsix h
  obtain ⟨Aq, cq, hv, hdq, hCq⟩ := pick6 w11 A0 A1 A2 A3 A4 A5 c0 c1 c2 c3 c4 c5 g s c (Kd.C_below (Kd.C_below (Kd.C_below (Kd.C_below (Kd.C_below HC0.out HG1.out) HG2.out) HG3.out) HG4.out) HG5.out) (Kd.C_below (Kd.C_below (Kd.C_below (Kd.C_below HC1.out HG2.out) HG3.out) HG4.out) HG5.out) (Kd.C_below (Kd.C_below (Kd.C_below HC2.out HG3.out) HG4.out) HG5.out) (Kd.C_below (Kd.C_below HC3.out HG4.out) HG5.out) (Kd.C_below HC4.out HG5.out) HC5.out HD0.out HD1.out HD2.out HD3.out HD4.out HD5.out qq hq6
  obtain ⟨hL6, hLm⟩ := ords_ok g s c h0 h1 h2 qq hq6
  have HCQ := Aside0.mk hCq
  have HRQ := Aside0.mk (rs g s c qq hq6)
  have HDQ := Aside0.mk hdq
  have HL6 := Aside0.mk hL6
  have HLM := Aside0.mk hLm
  have HCZ := Aside0.mk (Kd.C_below (Kd.C_below (Kd.C_below (Kd.C_below (Kd.C_below HC0.out HG1.out) HG2.out) HG3.out) HG4.out) HG5.out)
  have HRZ := Aside0.mk (rs g s c 0 (by omega))
  obtain ⟨hZ6, hZm⟩ := ords_ok g s c h0 h1 h2 0 (by omega)
  have HZ6 := Aside0.mk hZ6
  have HZM := Aside0.mk hZm
  clear hCq hdq hL6 hLm hZ6 hZm
  go_wp2_with (fail)
  refine (opt_any _ Aq _ cq 3 _ g s c HL6.out HRQ.out (Kd.C_below HCQ.out (below_alloc (below_alloc (Below.refl _ _) _) _)) HDQ.out (strs_lit _ nms _ (by simp) (by decide)) (Nat.le_refl _) HLM.out).mono ?_
  rintro e w12 ⟨ad, cc, rfl, hl, hC, hB⟩
  have hcz := pw_cell_below hB (a := ⟨w11.heap.size, 0, none⟩) (v := .slice A0 6 c0) (by simp)
  have hB' := below_then (below_alloc (below_alloc (Below.refl w11.heap.size w11) _) _) (by simp; omega) hB
  have HBC := Aside0.mk hB'
  have HO1 := Aside0.mk hC
  have HCC1 := Aside0.mk (show (res g s c).length ≤ cc from hl)
  clear hB hC hl hB' hv
  go_wp2_with (fail)
  refine (opt_any _ A0 _ c0 3 _ g s c HZ6.out HRZ.out (Kd.C_below HCZ.out (below_alloc HBC.out _)) HD0.out (strs_lit _ nms _ (by simp) (by decide)) (Nat.le_refl _) HZM.out).mono ?_
  rintro e w13 ⟨ad2, cc2, rfl, hl, hC, hB⟩
  have hB' := below_then (below_alloc (Below.refl w12.heap.size w12) _) (by simp) hB
  have HO2 := Aside0.mk hC
  have HCC2 := Aside0.mk (show (res g s c).length ≤ cc2 from hl)
  have HO1' := Aside0.mk (Kd.C_below HO1.out hB')
  have HBD := Aside0.mk (below_then HBC.out HBC.out.size hB')
  clear hB hC hl hB' hcz
  obtain ⟨_, A00, d00, e00, hz00, _, _, _⟩ := PArgsTurned.at_T35 HO1'.out 0 (Int.le_refl 0) (by show (0 : Int) < 3; decide)
  injection e00 with e00
  subst e00
  obtain ⟨_, L1, d1, e01, _, hz11, hl1, hi1⟩ := PArgsTurned.at_T35 HO1'.out 1 (by decide) (by show (1 : Int) < 3; decide)
  injection e01 with e01
  subst e01
  obtain ⟨_, L2, d2, e02, _, hz21, hl2, hi2⟩ := PArgsTurned.at_T35 HO1'.out 2 (by decide) (by show (2 : Int) < 3; decide)
  injection e02 with e02
  subst e02
  have hB6 := below_then HE5.out HE5.out.size HBD.out
  have hS : ∀ w', Below w13.heap.size w13 w' → (Below w13.heap.size w13 w' ∧ w'.cell? ad = some (.bool true) ∧ w'.cell? ⟨ad.block, ad.off + 2 + 1, none⟩ = some (.slice L1 2 d1) ∧ w'.cell? ⟨ad.block, ad.off + 4 + 1, none⟩ = some (.slice L2 1 d2) ∧ w'.cell? ⟨w.heap.size, 0, none⟩ = some (.string g) ∧ w'.cell? ⟨w.heap.size, 1, none⟩ = some (.string s) ∧ w'.cell? ⟨w.heap.size, 2, none⟩ = some (.string c)) := by
    intro w' hb
    have c0 : w13.cell? (ad.add 0) = some (.bool true) := hz00
    have c1 : w13.cell? ⟨(ad.add 2).block, (ad.add 2).off + 1, none⟩ = some (.slice L1 2 d1) := hz11
    have c2 : w13.cell? ⟨(ad.add 4).block, (ad.add 4).off + 1, none⟩ = some (.slice L2 1 d2) := hz21
    exact ⟨hb, pw_cell_below hb (by simpa [Addr.add] using c0), pw_cell_below hb (by simpa [Addr.add] using c1), pw_cell_below hb (by simpa [Addr.add] using c2), pw_cell_below hb (pw_cell_below hB6 HX0.out), pw_cell_below hb (pw_cell_below hB6 HX1.out), pw_cell_below hb (pw_cell_below hB6 HX2.out)⟩
  have HS := Aside0.mk hS
  have HI1 := Aside0.mk (show Kd.C Kd.string w13 L1 2 [s, c] from hi1)
  have HI2 := Aside0.mk (show Kd.C Kd.string w13 L2 1 [g] from hi2)
  have HM1 := Aside0.mk (show 2 ≤ d1 from hl1)
  have HM2 := Aside0.mk (show 1 ≤ d2 from hl2)
  have HK14 := Aside0.mk (fun (W : World) (hW : Below w13.heap.size w13 W) => (show Calls Try.prog 14 #[.slice (some ad) 3 cc, .slice (some ad2) 3 cc2] W fun e w' => e = .returned (.bool true) ∧ Drawn0 W w' from PArgsTurned.mewslaw29_same.calls 9 _ _ (res g s c) _ _ (res g s c) true _ (Kd.C_below HO1'.out hW) HCC1.out (Kd.C_below HO2.out hW) HCC2.out (same_res g s c)))
  have HK15 := Aside0.mk (fun (W : World) (b : Nat) (hW : Below w13.heap.size w13 W) (hl : Kd.C Kd.string W (some ⟨b, 0, none⟩) 2 [s, c]) => (show Calls Try.prog 15 #[.slice L1 2 d1, .slice (some ⟨b, 0, none⟩) 2 2] W fun e w' => e = .returned (.bool true) ∧ Drawn0 W w' from PArgsTurned.mewsref02_Same.calls 5 L1 _ [s, c] _ _ [s, c] true _ (Kd.C_below HI1.out hW) HM1.out hl (Nat.le_refl _) (same_self 5 _ (by simp) (by simp))))
  have HK16 := Aside0.mk (fun (W : World) (b : Nat) (hW : Below w13.heap.size w13 W) (hl : Kd.C Kd.string W (some ⟨b, 0, none⟩) 1 [g]) => (show Calls Try.prog 15 #[.slice L2 1 d2, .slice (some ⟨b, 0, none⟩) 1 1] W fun e w' => e = .returned (.bool true) ∧ Drawn0 W w' from PArgsTurned.mewsref02_Same.calls 5 L2 _ [g] _ _ [g] true _ (Kd.C_below HI2.out hW) HM2.out hl (Nat.le_refl _) (same_self 5 _ (by simp) (by simp))))
  have HTR := Aside0.mk (fun (W W' : World) (h1 : Below w13.heap.size w13 W) (h2 : Below W.heap.size W W') => below_then h1 h1.size h2)
  clear hS hi1 hi2 hl1 hl2 hz00 hz11 hz21
  obtain ⟨hS0, hS1, hS2, hS3, hS4, hS5, hS6⟩ := HS.out w13 (Below.refl _ _)
  go_wp2_with (fail)
  go_region_held3 (fun w' => Below w13.heap.size w13 w' ∧ w'.cell? ad = some (.bool true) ∧ w'.cell? ⟨ad.block, ad.off + 2 + 1, none⟩ = some (.slice L1 2 d1) ∧ w'.cell? ⟨ad.block, ad.off + 4 + 1, none⟩ = some (.slice L2 1 d2) ∧ w'.cell? ⟨w.heap.size, 0, none⟩ = some (.string g) ∧ w'.cell? ⟨w.heap.size, 1, none⟩ = some (.string s) ∧ w'.cell? ⟨w.heap.size, 2, none⟩ = some (.string c))
    (exact HS.out _ (by with_reducible repeat (first | exact hS0 | exact hBb | apply below_alloc | apply pw_below_drewN | apply below_drew)))
    ((first
      | (go_at_call 14; ((with_reducible refine (HK14.out _ (by with_reducible repeat (first | exact hS0 | apply below_alloc | apply pw_below_drewN | apply below_drew))).mono ?_)); rintro e w' ⟨rfl, ⟨q', rfl⟩⟩)
      | (go_at_call 15; ((with_reducible refine (HK15.out _ _ (by with_reducible repeat (first | exact hS0 | apply below_alloc | apply pw_below_drewN | apply below_drew)) (strs_lit _ [s, c] _ (by simp) (by simp))).mono ?_)); rintro e w' ⟨rfl, ⟨q', rfl⟩⟩)
      | (go_at_call 15; ((with_reducible refine (HK16.out _ _ (by with_reducible repeat (first | exact hS0 | apply below_alloc | apply pw_below_drewN | apply below_drew)) (strs_lit _ [g] _ (by simp) (by simp))).mono ?_)); rintro e w' ⟨rfl, ⟨q', rfl⟩⟩)
      | (go_at_call 11; ((with_reducible refine (alive _).mono ?_)); rintro e w' ⟨rfl, hBa⟩; have hBb := HTR.out _ _ (by with_reducible repeat (first | exact hS0 | apply below_alloc | apply pw_below_drewN | apply below_drew)) hBa)))
  go_wp2
  go_ret
  exact ⟨rfl, below_then HB0.out HB0.out.size (below_then hB6 hB6.size hBb)⟩
theorem walk (w : World) (g s c : ByteArray) (h : Int) : Calls Try.prog 3 #[.agg #[.string g, .string s, .string c, .int .i64 h]] w fun e w' => e = .returned (.bool true) ∧ Below w.heap.size w w' := by
  by_cases hn : g.size ≤ 300 ∧ s.size ≤ 300 ∧ c.size ≤ 300
  · exact near_way w g s c h hn.1 hn.2.1 hn.2.2
  · exact far_way w g s c h hn
end Go.Proofs.Ytamdbacmpglbiaa.Turned
