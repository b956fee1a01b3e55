/-
  Transactions: what is far, and what is watched: plain laws.
-/
import Derived.Test.YtamdbacmpglbiaaTc
namespace Go.Proofs.Ytamdbacmpglbiaa.Multi
open Go.Shelf Go.RowKit Go.Proofs.YtamdbacmpglbiaaW.PrintWords Go.Proofs.YtamdbacmpglbiaaW.PrintLast Go.Proofs.YtamdbacmpglbiaaW.PrintMore Kit
open PMultiPlays (S65 k65 k65_mk rd_T65 mewslaw37_far.f mewslaw37_far.l0 mewslaw37_far.mono_l mewsref37_Bytes.f mewsref37_Bytes.l0 mewsref37_Bytes.mono)
set_option linter.unusedVariables false
set_option linter.unusedSimpArgs false
theorem mem_append (x : ByteArray) (a b : List ByteArray) : mem x (a ++ b) = (mem x a || mem x b) := by simp [mem]
theorem mem_same {x y : ByteArray} (h : x.toList = y.toList) (l : List ByteArray) : mem x l = mem y l := by simp [mem, h]
theorem mem_addW (x : ByteArray) : ∀ (l acc : List ByteArray), mem x (addW acc l) = (mem x acc || mem x l)
  | [], acc => by simp [addW, mem]
  | y :: l, acc => by
    rw [addW, mem_addW x l]
    by_cases h : mem y acc = true
    · rw [if_pos h]
      by_cases e : x.toList = y.toList
      · rw [mem_same e, h, Bool.true_or, Bool.true_or]
      · simp [mem, e]
    · rw [if_neg h, mem_append]
      simp [mem, Bool.or_assoc]
/-- Does anything that is watched change? -/
def meets (l1 l2 : List ByteArray) : Bool := l1.any fun x => mem x l2
theorem meets_eq (l1 l2 : List ByteArray) : (l2.any fun x => mem x (addW [] l1)) = meets l1 l2 := by
  have h : ∀ x, mem x (addW [] l1) = mem x l1 := fun x => by rw [mem_addW]; simp [mem]
  simp only [h, meets]
  rw [Bool.eq_iff_iff]
  simp only [List.any_eq_true, mem, decide_eq_true_eq]
  constructor
  · rintro ⟨x, hx, y, hy, e⟩
    exact ⟨y, hy, x, hx, e.symm⟩
  · rintro ⟨x, hx, y, hy, e⟩
    exact ⟨y, hy, x, hx, e.symm⟩
theorem bytes_any_loop : ∀ (n : Nat) (l : List ByteArray) (i : Nat) (x : Int), l.length - i < n → i ≤ l.length → l.length ≤ 9223372036854775807 → ∃ k r, mewsref37_Bytes.l0 k l x (i : Int) = some r
  | 0, l, i, x, h, hi, hl => by omega
  | n + 1, l, i, x, h, hi, hl => by
    have h0 : (0 : Int) ≤ (i : Int) := by omega
    by_cases hlt : i < l.length
    · have hil : (i : Int) < (l.length : Int) := by omega
      have w1 : wrap64 ((i : Int) + 1) = ((i + 1 : Nat) : Int) := by unfold wrap64; omega
      obtain ⟨k, r, hk⟩ := bytes_any_loop n l (i + 1) (wrap64 (x + ((rdOf ByteArray.empty l (i : Int)).size : Int))) (by omega) (by omega) hl
      refine ⟨k + 1, r, ?_⟩
      simp only [mewsref37_Bytes.l0, if_pos hil, if_pos h0, w1]
      exact hk
    · have hil : ¬ ((i : Int) < (l.length : Int)) := by omega
      exact ⟨1, x, by simp only [mewsref37_Bytes.l0, if_neg hil]⟩
theorem bytes_any (l : List ByteArray) (hl : l.length ≤ 9223372036854775807) : ∃ k r, mewsref37_Bytes.f k l = some r := by
  obtain ⟨k, r, h⟩ := bytes_any_loop (l.length + 1) l 0 l.length (by omega) (by omega) hl
  exact ⟨k, r, h⟩
theorem bytes_ge {k k' : Nat} (h : k ≤ k') {l : List ByteArray} {r : Int} (hk : mewsref37_Bytes.f k l = some r) : mewsref37_Bytes.f k' l = some r := by
  induction h with
  | refl => exact hk
  | step _ ih => exact mewsref37_Bytes.mono _ _ _ ih
theorem far_ge {k k' : Nat} (h : k ≤ k') {a : List S65} {n : Int} {b : List S65} {m i : Int} {r : Bool} (hk : mewslaw37_far.l0 k a n b m i = some r) : mewslaw37_far.l0 k' a n b m i = some r := by
  induction h with
  | refl => exact hk
  | step _ ih => exact mewslaw37_far.mono_l _ _ _ _ _ _ _ ih
theorem far_loop : ∀ (n : Nat) (L : List S65) (i : Nat) (x : Int), L.length - i < n → i ≤ L.length → L.length ≤ 9223372036854775807 → (∀ o ∈ L, o.f1.length ≤ 9223372036854775807) →
    ∃ k r, mewslaw37_far.l0 k L x L (L.length : Int) (i : Int) = some r ∧ (r = false → L.length ≤ 300 ∧ ∀ j, i ≤ j → j < L.length → (rd_T65 L (j : Int)).f1.length ≤ 300)
  | 0, L, i, x, h, hi, hl, hE => by omega
  | n + 1, L, i, x, h, hi, hl, hE => by
    have h0 : (0 : Int) ≤ (i : Int) := by omega
    by_cases hlt : i < L.length
    · have hil : (i : Int) < (L.length : Int) := by omega
      have w1 : wrap64 ((i : Int) + 1) = ((i + 1 : Nat) : Int) := by rw [wrap_small _ (by omega) (by omega)]; omega
      have hm : rd_T65 L (i : Int) ∈ L := by
        unfold rd_T65
        rw [List.getD_eq_getElem?_getD, Int.toNat_natCast, List.getElem?_eq_getElem hlt]
        exact List.getElem_mem _
      obtain ⟨kb, hb⟩ := bytes_f (rd_T65 L (i : Int)).f1 (hE _ hm)
      by_cases c1 : wrap64 (x + wrap64 (tot (rd_T65 L (i : Int)).f1)) > 300000
      · refine ⟨kb + 1, true, ?_, fun h => by cases h⟩
        simp only [mewslaw37_far.l0, if_pos hil, if_pos h0, hb, Option.bind_some, if_pos c1]
      · by_cases c2 : ((rd_T65 L (i : Int)).f1.length : Int) > 300
        · refine ⟨kb + 1, true, ?_, fun h => by cases h⟩
          simp only [mewslaw37_far.l0, if_pos hil, if_pos h0, hb, Option.bind_some, if_neg c1, if_pos c2]
        · obtain ⟨k, r, hk, hr⟩ := far_loop n L (i + 1) (wrap64 (x + wrap64 (tot (rd_T65 L (i : Int)).f1))) (by omega) (by omega) hl hE
          refine ⟨max k kb + 1, r, ?_, fun h => ⟨(hr h).1, fun j h1 h2 => ?_⟩⟩
          · simp only [mewslaw37_far.l0, if_pos hil, if_pos h0, bytes_ge (Nat.le_max_right k kb) hb, Option.bind_some, if_neg c1, if_neg c2, w1]
            exact far_ge (Nat.le_max_left k kb) hk
          · by_cases e : j = i
            · subst e; omega
            · exact (hr h).2 j (by omega) h2
    · have hil : ¬ ((i : Int) < (L.length : Int)) := by omega
      refine ⟨1, decide ((L.length : Int) > 300), by simp only [mewslaw37_far.l0, if_neg hil], fun h => ⟨?_, fun j h1 h2 => by omega⟩⟩
      have := of_decide_eq_false h
      omega
theorem far_any (L : List S65) (hl : L.length ≤ 9223372036854775807) (hE : ∀ o ∈ L, o.f1.length ≤ 9223372036854775807) :
    ∃ k r, mewslaw37_far.f k L = some r ∧ (r = false → L.length ≤ 300 ∧ ∀ j, j < L.length → (rd_T65 L (j : Int)).f1.length ≤ 300) := by
  obtain ⟨k, r, h1, h2⟩ := far_loop (L.length + 1) L 0 0 (by omega) (by omega) hl hE
  exact ⟨k, r, h1, fun h => ⟨(h2 h).1, fun j hj => (h2 h).2 j (by omega) hj⟩⟩
/-- Two calls, built where they are asked for. -/
theorem two_C (W : World) (A B : Option Addr) (n m c d g : Nat) (l1 l2 : List ByteArray) (hg : W.heap.size = g) (h1 : Kd.C Kd.string W A n l1) (h2 : Kd.C Kd.string W B m l2) (hn : n ≤ c) (hm : m ≤ d) :
    Kd.C k65 (W.alloc (.cells #[.int .i64 0, .slice A n c, .int .i64 0, .slice B m d] 65)) (some ⟨g, 0, none⟩) 2 [⟨0, l1⟩, ⟨0, l2⟩] := by
  subst hg
  obtain rfl := h1.1
  obtain rfl := h2.1
  have hb : Below W.heap.size W (W.alloc (.cells #[.int .i64 0, .slice A l1.length c, .int .i64 0, .slice B l2.length d] 65)) := below_alloc (Below.refl _ _) _
  have hx := heap_alloc_new W (.cells #[.int .i64 0, .slice A l1.length c, .int .i64 0, .slice B l2.length d] 65)
  have hcell : ∀ i u, (#[Value.int .i64 0, .slice A l1.length c, .int .i64 0, .slice B l2.length d] : Array Value)[i]? = some u → (W.alloc (.cells #[.int .i64 0, .slice A l1.length c, .int .i64 0, .slice B l2.length d] 65)).cell? ((⟨W.heap.size, 0, none⟩ : Addr).add i) = some u := fun i u h => by
    rw [add_plain]
    unfold World.cell?
    rw [hx]
    exact h
  refine ⟨rfl, by decide, fun _ => ⟨_, rfl, fun j p hj => ?_⟩⟩
  match j, hj with
  | 0, hj =>
    obtain rfl : (⟨0, l1⟩ : S65) = p := by simpa using hj
    refine ⟨_, rfl, k65_mk _ (⟨0, l1⟩ : S65) (c1 := c) (A1 := A) hn (Kd.C_below h1 hb), fun i u hu => ?_⟩
    match i, hu with
    | 0, hu => exact hcell 0 u (by simpa using hu)
    | 1, hu => exact hcell 1 u (by simpa using hu)
    | i + 2, hu => simp at hu
  | 1, hj =>
    obtain rfl : (⟨0, l2⟩ : S65) = p := by simpa using hj
    refine ⟨_, rfl, k65_mk _ (⟨0, l2⟩ : S65) (c1 := d) (A1 := B) hm (Kd.C_below h2 hb), fun i u hu => ?_⟩
    match i, hu with
    | 0, hu => exact hcell 2 u (by simpa using hu)
    | 1, hu => exact hcell 3 u (by simpa using hu)
    | i + 2, hu => simp at hu
  | j + 2, hj => simp at hj
end Go.Proofs.Ytamdbacmpglbiaa.Multi
