/-
  Small facts that the walks of this seat share: blocks of bytes, rows of strings, an empty row, the first place of which something holds. They hold of any program.
-/
import Derived.Test.YtamdbacmpglbiaaPArgsTurnedx0
import Derived.WalkSpells
import Derived.Outline
import Derived.Shelf.Abstract
namespace Go.Proofs.Ytamdbacmpglbiaa.Kit
open Go.Shelf Go.RowKit Go.Proofs.YtamdbacmpglbiaaW.PrintWords Go.Proofs.YtamdbacmpglbiaaW.PrintLast Go.Proofs.YtamdbacmpglbiaaW.PrintMore
theorem own_empty (w : World) (e : TypeId) (size : Nat) : (w.alloc (.cells #[] e)).ownsRow w.heap.size e size (.slice (some ⟨w.heap.size, 0, none⟩) 0 0) 0 [] := by
  refine ⟨by simp, .inr ⟨w.heap.size, 0, #[], rfl, Nat.le_refl _, heap_alloc_new w _, ?_⟩⟩
  simp
/-- A block of bytes that a conversion has laid: its first n cells. -/
def ByteBlk (w : World) (g n : Nat) (f : Nat → Int) : Prop :=
  ∃ cs, w.heap[g]? = some (.cells cs 5 (cs.size, cs.size + 1)) ∧ n ≤ cs.size ∧ ∀ j, j < n → cs[j]? = some (.int .u8 (f j))
theorem ByteBlk.cell {w : World} {g n : Nat} {f : Nat → Int} (h : ByteBlk w g n f) {j : Nat} (hj : j < n) : w.cell? ⟨g, j, none⟩ = some (.int .u8 (f j)) := by
  obtain ⟨cs, h1, h2, h3⟩ := h
  simp [World.cell?, h1, h3 j hj]
theorem ByteBlk.free {w : World} {g n : Nat} {f : Nat → Int} (h : ByteBlk w g n f) {j : Nat} (hj : j < n) : w.frozen? ⟨g, j, none⟩ = false := by
  obtain ⟨cs, h1, h2, h3⟩ := h
  simp [World.frozen?, h1]; omega
theorem ByteBlk.congr {w : World} {g n : Nat} {f f' : Nat → Int} (h : ByteBlk w g n f) (he : ∀ j, j < n → f j = f' j) : ByteBlk w g n f' := by
  obtain ⟨cs, h1, h2, h3⟩ := h
  exact ⟨cs, h1, h2, fun j hj => by rw [h3 j hj, he j hj]⟩
theorem ByteBlk.set {w : World} {g n : Nat} {f : Nat → Int} (h : ByteBlk w g n f) (i : Nat) (v : Int) : ByteBlk (w.setCell ⟨g, i, none⟩ (.int .u8 v)) g n (fun j => if j = i then v else f j) := by
  obtain ⟨cs, h1, h2, h3⟩ := h
  refine ⟨cs.setIfInBounds i (.int .u8 v), ?_, by simpa using h2, fun j hj => ?_⟩
  · simp [World.setCell, Array.getElem?_modify, h1]
  · rw [Array.getElem?_setIfInBounds]
    by_cases hij : i = j
    · subst hij; simp; omega
    · rw [if_neg hij]; dsimp only; rw [if_neg (Ne.symm hij)]; exact h3 j hj
theorem ByteBlk.lt {w : World} {g n : Nat} {f : Nat → Int} (h : ByteBlk w g n f) : g < w.heap.size := by
  obtain ⟨cs, h1, h2, h3⟩ := h
  exact blk_lt h1
theorem bt_nat (s : ByteArray) (j : Nat) (hj : j < s.size) : (((s.data.toList.getD j 0).toNat : Nat) : Int) = bt s (j : Int) := by
  have h := rd_bytesOf s (j : Int)
  have hl : j < s.data.toList.length := by rw [data_length]; exact hj
  rw [← h]
  simp [rd, bytesOf, List.getD_eq_getElem?_getD, List.getElem?_eq_getElem hl]
theorem ByteBlk.made (w : World) (s : ByteArray) : ByteBlk (Lib.bytesWorld w 5 s) w.heap.size s.size (fun j => bt s (j : Int)) := by
  refine ⟨_, Lib.bytesWorld_at_new w 5 s, ?_, fun j hj => ?_⟩
  · simp [Lib.bytesCells]
  · have h := Lib.bytesWorld_cell w 5 s j hj
    rw [bt_nat s j hj] at h
    simpa [World.cell?, Lib.bytesWorld_at_new] using h
theorem str_at {w : World} {A : Option Addr} {n : Nat} {xs : List ByteArray} (h : Kd.C Kd.string w A n xs) {i : Nat} (hi : i < n) : ∃ ad, A = some ad ∧ w.cell? (ad.add i) = some (.string (xs.getD i ⟨#[]⟩)) := by
  obtain ⟨ad, c, e, _, hK, hc⟩ := Kd.C_get h ⟨#[]⟩ (i : Int) (by omega) (by omega)
  obtain rfl : c = [.string (xs.getD i ⟨#[]⟩)] := hK
  exact ⟨ad, e, by have hq := hc 0 _ rfl; rw [Nat.add_zero, show (i : Int).toNat * Kd.string.sz = i from by simp [Kd.string, Kd.scalar]] at hq; exact hq⟩
/-- The place of the first of which p holds. -/
def idxF (p : ByteArray → Bool) : List ByteArray → Nat → Int
  | [], _ => -1
  | x :: xs, i => if p x then (i : Int) else idxF p xs (i + 1)
theorem drop_get {α : Type} (xs : List α) (d : α) {k : Nat} (h : k < xs.length) : xs.drop k = xs.getD k d :: xs.drop (k + 1) := by
  rw [List.drop_eq_getElem_cons h]
  simp [List.getD_eq_getElem?_getD, List.getElem?_eq_getElem h]
theorem idxF_range (p : ByteArray → Bool) : ∀ (xs : List ByteArray) (k : Nat), idxF p xs k = -1 ∨ ∃ j, idxF p xs k = ((k + j : Nat) : Int) ∧ j < xs.length ∧ p (xs.getD j ⟨#[]⟩) = true
  | [], k => .inl rfl
  | x :: xs, k => by
    by_cases h : p x = true
    · exact .inr ⟨0, by simp [idxF, h], by simp, by simpa using h⟩
    · rcases idxF_range p xs (k + 1) with h1 | ⟨j, h1, h2, h3⟩
      · exact .inl (by simp [idxF, h, h1])
      · refine .inr ⟨j + 1, ?_, by simpa using h2, by simpa using h3⟩
        simp only [idxF, h, if_false, Bool.false_eq_true]
        rw [h1]; congr 1; omega
/-- xs[lo:hi] of a row that is read. -/
theorem cut_mid' {α : Type} {k : Kd α} {P : Program} (t e : TypeId) {i : TypeInfo} (ht : P.underlying t = some (.slice e)) (hi : P.info? e = some i) (hsz : i.size = k.sz) {w : World} {A : Option Addr} {xs : List α} {c lo hi' : Nat} (h : k.C w A xs.length xs) (h1 : lo ≤ hi') (h2 : hi' ≤ xs.length) (hc : xs.length ≤ c) :
    ∃ A' c', (∀ W : World, (Instr.slice t (.slice A xs.length c) (some (.int .i64 (lo : Int))) (some (.int .i64 (hi' : Int))) none).run P W = .ok (.slice A' (hi' - lo) c') W) ∧ ((xs.take hi').drop lo).length = hi' - lo ∧ hi' - lo ≤ c' ∧ k.C w A' ((xs.take hi').drop lo).length ((xs.take hi').drop lo) := by
  have h3 := cut_mid (P := P) t e .i64 .i64 ht hi k.sz hsz A xs.length c (lo : Int) (hi' : Int) (by omega) (by omega) (by omega) hc
  simp only [Int.toNat_natCast] at h3
  exact ⟨_, _, h3, by rw [List.length_drop, List.length_take]; omega, by omega, Kd.C_mid h h1 h2 hc⟩
/-- xs[lo:] of a row that is read. -/
theorem cut_from' {α : Type} {k : Kd α} {P : Program} (t e : TypeId) {i : TypeInfo} (ht : P.underlying t = some (.slice e)) (hi : P.info? e = some i) (hsz : i.size = k.sz) {w : World} {A : Option Addr} {xs : List α} {c lo : Nat} (h : k.C w A xs.length xs) (h1 : lo ≤ xs.length) (hc : xs.length ≤ c) :
    ∃ A' c', (∀ W : World, (Instr.slice t (.slice A xs.length c) (some (.int .i64 (lo : Int))) none none).run P W = .ok (.slice A' (xs.length - lo) c') W) ∧ (xs.drop lo).length = xs.length - lo ∧ xs.length - lo ≤ c' ∧ k.C w A' (xs.drop lo).length (xs.drop lo) := by
  have h3 := cut_from (P := P) t e .i64 ht hi k.sz hsz A xs.length c (lo : Int) (by omega) (by omega)
  simp only [Int.toNat_natCast] at h3
  exact ⟨_, _, h3, List.length_drop .., by omega, Kd.C_drop h h1 hc⟩
theorem strs_lit (W : World) (xs : List ByteArray) (b : Nat) (hb : W.heap.size = b) (h : xs.length ≤ 9223372036854775807) : Kd.C Kd.string (W.alloc (.cells (xs.map Value.string).toArray 9)) (some ⟨b, 0, none⟩) xs.length xs := by
  have h1 := own_lit_of (enc := Value.string) W W.heap.size 9 xs (Nat.le_refl _) h
  have h2 : Kd.R Kd.string 9 _ _ (fun _ => True) _ xs := Kd.R_of_own h1 (fun _ _ => trivial)
  subst hb
  exact (Kd.R_reads' h2).2.2
/-- A literal of one-cell elements reads as the list of what they are. -/
theorem lit1_C {α : Type} (d : Kd α) (hs : d.sz = 1) (W : World) (vs : List Value) (xs : List α) (e b : Nat) (hb : W.heap.size = b) (hl : xs.length = vs.length) (hm : xs.length ≤ 9223372036854775807) (hK : ∀ (j : Nat) x v, xs[j]? = some x → vs[j]? = some v → d.K W x [v]) : d.C (W.alloc (.cells vs.toArray e)) (some ⟨b, 0, none⟩) xs.length xs := by
  subst hb
  refine ⟨rfl, hm, fun _ => ⟨_, rfl, fun j p hj => ?_⟩⟩
  obtain ⟨hjl, _⟩ := List.getElem?_eq_some_iff.1 hj
  refine ⟨[vs[j]'(by omega)], by rw [hs]; rfl, d.K_below (below_alloc (Below.refl _ _) _) (hK j p _ hj (List.getElem?_eq_getElem _)), fun i u hu => ?_⟩
  cases i with
  | zero =>
    obtain rfl : vs[j]'(by omega) = u := by simpa using hu
    rw [hs, Nat.mul_one, Nat.add_zero, add_plain]
    have h := heap_alloc_new W (.cells vs.toArray e)
    unfold World.cell?
    rw [h]
    simp
  | succ i => simp at hu
end Go.Proofs.Ytamdbacmpglbiaa.Kit
