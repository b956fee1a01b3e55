/-
  Transactions: rows of rows are cloned, an open one is executed.
-/
import Derived.Test.YtamdbacmpglbiaaTx
namespace Go.Proofs.Ytamdbacmpglbiaa.Multi

open Go.Shelf Go.RowKit Go.Proofs.YtamdbacmpglbiaaW.PrintWords Go.Proofs.YtamdbacmpglbiaaW.PrintLast Go.Proofs.YtamdbacmpglbiaaW.PrintMore Kit
set_option linter.unusedVariables false
set_option linter.unusedSimpArgs false
/-- A slice's header, as one thing. -/
abbrev Hdr := Option Addr × Nat × Nat
def hdrV (h : Hdr) : Value := .slice h.1 h.2.1 h.2.2
def kHdr : Kd Hdr := Kd.scalar hdrV (fun _ => rfl)
theorem info26 : (Try.prog.info? 26).map (fun i => (i.zero, i.size, i.bytes)) = some (some (.slice none 0 0), 1, 24) := by kernel_rfl
set_option maxHeartbeats 8000000 in
set_option maxRecDepth 100000 in
theorem clone64 (w : World) (A : Option Addr) (n c : Nat) (xs : List Hdr) (hC : Kd.C kHdr w A n xs) (hn : n * 24 ≤ 140737488355328) : Calls Try.prog 64 #[.slice A n c] w fun e w' => ∃ v, e = .returned v ∧ Kd.R kHdr 26 w' w.heap.size (fun _ => True) v xs ∧ Below w.heap.size w w' := by
  have h1 := Lib.run_eql_slice_nil (P := Try.prog) w 28 26 A n c 0 0 Try.underlying28
  cases A with
  | none =>
    have hl := hC.1
    have h0 : n = 0 := by
      rcases Nat.eq_zero_or_pos n with h0 | h0
      · exact h0
      · obtain ⟨ad, h, _⟩ := hC.2.2 h0
        cases h
    subst h0
    obtain rfl : xs = [] := List.eq_nil_of_length_eq_zero hl
    clear hC hl
    go_enter Try.func64, Try.ntmps64
    go_wp2
    go_ret
    exact ⟨_, rfl, Kd.R_nil _ _ _ _ _, Below.refl _ _⟩
  | some a =>
    have HC := Aside0.mk hC
    have HN := Aside0.mk hn
    clear hC hn
    go_enter Try.func64, Try.ntmps64
    go_wp2_with (at_builtin; refine Kd.R_append_rows kHdr (w0 := w) w.heap.size rfl (.tmp 5) (.tmp 6) 28 26 (.slice none 0 0) 24 rfl Try.underlying28 info26 rfl (by decide) (by omega) _ [] xs _ _ _ (fun _ => True) (fun _ => False) rfl rfl ?aO ?aR (fun _ _ h => h) (fun _ h => h.elim) (fun _ _ => trivial) ?aB ?aS ?aL ?_; (case aR => exact Kd.C_below HC.out (below_alloc (Below.refl _ _) _)); (case aB => exact below_alloc (Below.refl _ _) _); (case aO => exact Kd.R_of_own (own_empty _ _ _) (fun _ _ => trivial)); (case aS => simp); (case aL => have := HN.out; simp; omega); intro v1 w1 ho hb _ _; have HO := Aside0.mk ho; have HB := Aside0.mk hb; clear ho hb)
    go_ret
    exact ⟨_, rfl, HO.out, HB.out⟩
/-- What lies behind a place stays as it lay: rows that lie there still read so. -/
theorem hdr_far {W W' : World} {base : Nat} {ok : Nat → Prop} {v : Value} {hs : List Hdr} (h : Kd.R kHdr 26 W base ok v hs) (hk : ∀ k, base ≤ k → W'.heap[k]? = W.heap[k]?) : ∃ A c, v = .slice A hs.length c ∧ hs.length ≤ c ∧ Kd.C kHdr W' A hs.length hs := by
  obtain ⟨A, c, he, hl, hC⟩ := Kd.R_reads h
  refine ⟨A, c, he, hl, hC.1, hC.2.1, fun hn => ?_⟩
  obtain ⟨ad, e, hc⟩ := hC.2.2 hn
  obtain ⟨g, cap, he2, hg, _⟩ := Kd.R_form h hn
  rw [he] at he2
  injection he2 with e1 e2 e3
  rw [e] at e1
  injection e1 with e1
  subst e1
  refine ⟨_, e, fun j p hj => ?_⟩
  obtain ⟨cs, h1, h2, h3⟩ := hc j p hj
  refine ⟨cs, h1, h2, fun i u hu => ?_⟩
  rw [← h3 i u hu]
  have hb : ∀ m, (Addr.add ⟨g, 0, none⟩ m).block = g := fun m => by unfold Addr.add; split <;> rfl
  unfold World.cell?
  rw [hb, hk g hg]
def z41 : Array Value := #[.bool false, .bool false, .bool false, .slice none 0 0, .int .i64 0, .slice none 0 0]
def z44 : Array Value := #[.int .i64 0, .int .i64 0, .string ⟨#[]⟩, .slice none 0 0]
theorem one41 : z41.all (·.oneCell') = true := by simp [z41, Value.oneCell']
theorem one44 : z44.all (·.oneCell') = true := by simp [z44, Value.oneCell']
theorem size41 : (Try.prog.info? 41).map (·.size) = some 6 := by kernel_rfl
theorem size44 : (Try.prog.info? 44).map (·.size) = some 4 := by kernel_rfl
set_option maxHeartbeats 8000000 in
set_option maxRecDepth 100000 in
theorem exec_open (w : World) (A A' : Option Addr) (n n' c c' : Nat) (z : Int) (hs : List Hdr) (hC : Kd.C kHdr w A n hs) (hn : n * 24 ≤ 140737488355328) : Calls Try.prog 27 #[tx true false false (.slice A n c) z (.slice A' n' c')] w fun e w' => ∃ v, e = .returned (.tuple #[tx0, v, rp 0 0 ⟨#[]⟩, .bool true]) ∧ (∃ A2 c2, v = .slice A2 hs.length c2 ∧ hs.length ≤ c2 ∧ Kd.C kHdr w' A2 hs.length hs) ∧ Below w.heap.size w w' := by
  have HC := Aside0.mk hC
  have HN := Aside0.mk hn
  clear hC hn
  unfold tx
  unfold rp
  go_enter Try.func27, Try.ntmps27
  have hz1 : ∀ W o, (W : World).heap.size = w.heap.size + 1 → ((W.alloc (.cells z41 41)).alloc o).heap[w.heap.size + 1]? = some (.cells z41 41 (0, 0)) := fun W o h => by rw [← h]; exact blk_alloc (heap_alloc_new _ _) _
  have HZA := Aside0.mk hz1
  clear hz1
  go_wp2_with (first
    | (go_at_call 64; go_must (refine (clone64 _ A n c hs (Kd.C_below HC.out ?h1) HN.out).mono ?_); (case h1 => repeat (first | exact Below.refl _ _ | apply below_alloc | apply below_drew)); rintro e w2 ⟨v, rfl, hR, hB⟩; have hsz2 := hB.size; have HZ1 : Aside0 (w2.heap[w.heap.size + 1]? = some (.cells z41 41 (0, 0))) := ⟨blk_below (HZA.out _ _ (by simp)) hB⟩; have HZ2 : Aside0 (w2.heap[w.heap.size + 1 + 1]? = some (.cells z44 44 (0, 0))) := ⟨blk_below (by have h := heap_alloc_new ((w.alloc (.cells #[.bool true, .bool false, .bool false, .slice A n c, .int .i64 z, .slice A' n' c'] 41)).alloc (.cells z41 41)) (.cells z44 44); simpa [z41, z44] using h) hB⟩; have HR := Aside0.mk hR; have HB := Aside0.mk hB; have HBW : Aside0 (Below w.heap.size w w2) := ⟨below_then (by repeat (first | exact Below.refl _ _ | apply below_alloc | apply below_drew)) (by simp; omega) hB⟩; clear hR hB)
    | ((with_reducible refine gate_store (t := 41) (p := 2) (v := .tmp 22) rfl ?_); go_must (refine Glob.wpList_store_row rfl 41 (.tmp 2) (.tmp 22) rfl (w.heap.size + 1) z41 z41 41 rfl rfl HZ1.out size41 rfl one41 ?_); intro w9 hg9 ho9 hs9 hb9; have HO9 := Aside0.mk ho9; have HG9 := Aside0.mk hg9; have HZ9 : Aside0 (w9.heap[w.heap.size + 1 + 1]? = some (.cells z44 44 (0, 0))) := ⟨(ho9 _ (by omega)).trans HZ2.out⟩; have HB9 := Aside0.mk hb9; have HS9 := Aside0.mk hs9; clear hg9 ho9 hs9 hb9)
    | ((with_reducible refine gate_store (t := 44) (p := 4) (v := .tmp 26) rfl ?_); go_must (refine Glob.wpList_store_row rfl 44 (.tmp 4) (.tmp 26) rfl (w.heap.size + 1 + 1) z44 z44 44 rfl rfl HZ9.out size44 rfl one44 ?_); intro w10 hg10 ho10 hs10 hb10; have HG10 := Aside0.mk hg10; have HFAR : Aside0 (∀ k, w.heap.size + 3 ≤ k → w10.heap[k]? = w2.heap[k]?) := ⟨fun k hk => (ho10 k (by omega)).trans (HO9.out k (by omega))⟩; have HF9 : Aside0 (w10.heap[w.heap.size + 1]? = some (.cells z41 41 (0, 0))) := ⟨(ho10 _ (by omega)).trans HG9.out⟩; have HB10 := Aside0.mk hb10; clear hg10 ho10 hs10 hb10))
  have hfar := hdr_far HR.out (W' := w10) (fun k hk => HFAR.out k (by simp at hk; omega))
  refine bodyPost_ret (v := .tuple #[tx0, v, rp 0 0 ⟨#[]⟩, .bool true]) ?_ rfl ⟨v, rfl, hfar, ?_⟩
  · have e1 := HF9.out
    have e2 := HG10.out
    have c0 := cell_of_row w10 (w.heap.size + 1) 0 _ _ _ e1
    have c1 := cell_of_row w10 (w.heap.size + 1) 1 _ _ _ e1
    have c2 := cell_of_row w10 (w.heap.size + 1) 2 _ _ _ e1
    have c3 := cell_of_row w10 (w.heap.size + 1) 3 _ _ _ e1
    have c4 := cell_of_row w10 (w.heap.size + 1) 4 _ _ _ e1
    have c5 := cell_of_row w10 (w.heap.size + 1) 5 _ _ _ e1
    have d0 := cell_of_row w10 (w.heap.size + 1 + 1) 0 _ _ _ e2
    have d1 := cell_of_row w10 (w.heap.size + 1 + 1) 1 _ _ _ e2
    have d2 := cell_of_row w10 (w.heap.size + 1 + 1) 2 _ _ _ e2
    have d3 := cell_of_row w10 (w.heap.size + 1 + 1) 3 _ _ _ e2
    simp only [z41, z44] at c0 c1 c2 c3 c4 c5 d0 d1 d2 d3
    simp at c0 c1 c2 c3 c4 c5 d0 d1 d2 d3
    simp [results, Try.results27, go_sem, tx0, tx, rp, c0, c1, c2, c3, c4, c5, d0, d1, d2, d3]
  · exact (HBW.out.trans (HB9.out _ (by omega))).trans (HB10.out _ (by omega))
end Go.Proofs.Ytamdbacmpglbiaa.Multi
