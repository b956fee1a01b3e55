/-
  Transactions: what stays as it lay, by the types of what lies there.
-/
import Derived.Test.YtamdbacmpglbiaaTd
namespace Go.Proofs.Ytamdbacmpglbiaa.Multi
open Go.Shelf Go.RowKit Go.Proofs.YtamdbacmpglbiaaW.PrintWords Go.Proofs.YtamdbacmpglbiaaW.PrintLast Go.Proofs.YtamdbacmpglbiaaW.PrintMore Kit
open PMultiPlays (mewsref02_Same.f mewsref02_Same.l0 mewsref15_Same.f mewsref15_Same.l0 mewsref15_Same.l1 rd_L1)
set_option linter.unusedVariables false
set_option linter.unusedSimpArgs false
def sK : ByteArray := ⟨#[107]⟩
def sJ : ByteArray := ⟨#[106]⟩
/-- Blocks of type t stay. -/
def Keeps (t : Nat) (W W' : World) : Prop := ∀ (k : Nat) (cells : Array Value), W.heap[k]? = some (.cells cells t (0, 0)) → W'.heap[k]? = W.heap[k]?
theorem Keeps.refl (t : Nat) (W : World) : Keeps t W W := fun _ _ _ => rfl
theorem Keeps.trans {t : Nat} {W W1 W2 : World} (h : Keeps t W W1) (k : Keeps t W1 W2) : Keeps t W W2 := fun i cs hc => (k i cs ((h i cs hc).trans hc)).trans (h i cs hc)
theorem Keeps.below {t : Nat} {W W' : World} (h : Below W.heap.size W W') : Keeps t W W' := fun k cs hc => h.block k (blk_lt hc)
theorem Keeps.alloc (t : Nat) (W : World) (o : Obj) : Keeps t W (W.alloc o) := Keeps.below (below_alloc (Below.refl _ _) _)
theorem Keeps.store {t t' g : Nat} {W W' : World} {old : Array Value} (hg : W.heap[g]? = some (.cells old t' (0, 0))) (ht : t ≠ t') (ho : ∀ k, k ≠ g → W'.heap[k]? = W.heap[k]?) : Keeps t W W' := fun k cs hc => ho k (fun e => by
  subst e
  rw [hg] at hc
  injection hc with hc
  injection hc with _ hc
  exact ht hc.symm)
theorem Keeps.grown {t e base : Nat} {α : Type} {d : Kd α} {ok : Nat → Prop} {v : Value} {xs : List α} {W W' : World} (hR : Kd.R d e W base ok v xs) (hg : W.grownBy W' v.ownBlock) (ht : e ≠ t) : Keeps t W W' := fun k cs hc => hg.block k (blk_lt hc) (Kd.R_ne hR hc ht)
theorem R_keeps {α : Type} {d : Kd α} {e base : Nat} {W W' : World} {v : Value} {xs : List α} (h : Kd.R d e W base (fun _ => True) v xs) (hk : Keeps e W W') (hE : ∀ q, q ∈ d.E → Keeps q W W') : Kd.R d e W' base (fun _ => True) v xs :=
  Kd.R_mono (Kd.R_move (Kd.R_bound h) (fun k hh => by
    obtain ⟨_, _, _, q, hq, cells, hc⟩ := hh
    rcases List.mem_cons.1 hq with rfl | hq
    · exact hk k cells hc
    · exact hE q hq k cells hc)) (fun _ _ => trivial)
theorem R_keeps9 {base : Nat} {W W' : World} {v : Value} {xs : List ByteArray} (h : Kd.R Kd.string 9 W base (fun _ => True) v xs) (hk : Keeps 9 W W') : Kd.R Kd.string 9 W' base (fun _ => True) v xs := R_keeps h hk (fun q hq => by cases hq)
theorem R_keeps26 {base : Nat} {W W' : World} {v : Value} {xs : List Hdr} (h : Kd.R kHdr 26 W base (fun _ => True) v xs) (hk : Keeps 26 W W') : Kd.R kHdr 26 W' base (fun _ => True) v xs := R_keeps h hk (fun q hq => by cases hq)
/-- Headers of rows of the call's own. -/
def HeadsR (W : World) (base : Nat) (hs : List Hdr) (ls : List (List ByteArray)) : Prop := hs.length = ls.length ∧ ∀ (j : Nat) (h : Hdr) (l : List ByteArray), hs[j]? = some h → ls[j]? = some l → HdrR W base h l
theorem HeadsR.keeps {W W' : World} {base : Nat} {hs : List Hdr} {ls : List (List ByteArray)} (h : HeadsR W base hs ls) (hk : Keeps 9 W W') : HeadsR W' base hs ls := ⟨h.1, fun j x l h1 h2 => R_keeps9 (h.2 j x l h1 h2) hk⟩
theorem HeadsR.heads {W : World} {base : Nat} {hs : List Hdr} {ls : List (List ByteArray)} (h : HeadsR W base hs ls) : Heads W hs ls := ⟨h.1, fun j x l h1 h2 => (h.2 j x l h1 h2).ok⟩
theorem HeadsR.nil (W : World) (base : Nat) : HeadsR W base [] [] := ⟨rfl, fun j x l h1 h2 => by simp at h1⟩
theorem Heads.nil (W : World) : Heads W [] [] := ⟨rfl, fun j x l h1 h2 => by simp at h1⟩
theorem HeadsR.snoc {W : World} {base : Nat} {hs : List Hdr} {ls : List (List ByteArray)} (h : HeadsR W base hs ls) {x : Hdr} {l : List ByteArray} (hx : HdrR W base x l) : HeadsR W base (hs ++ [x]) (ls ++ [l]) := by
  refine ⟨by simp [h.1], fun j y m h1 h2 => ?_⟩
  by_cases hj : j < hs.length
  · rw [List.getElem?_append_left hj] at h1
    rw [List.getElem?_append_left (by rw [← h.1]; exact hj)] at h2
    exact h.2 j y m h1 h2
  · rw [List.getElem?_append_right (by omega)] at h1
    rw [List.getElem?_append_right (by rw [← h.1]; omega)] at h2
    rw [h.1] at h1
    cases hk : j - ls.length with
    | zero =>
      rw [hk] at h1 h2
      simp at h1 h2
      subst h1
      subst h2
      exact hx
    | succ k => rw [hk] at h1; simp at h1
/-- A header in its row. -/
theorem hdr_at {w : World} {A : Option Addr} {n : Nat} {hs : List Hdr} (h : Kd.C kHdr w A n hs) {i : Nat} (hi : i < n) : ∃ ad, A = some ad ∧ w.cell? (ad.add i) = some (hdrV (hs.getD i (none, 0, 0))) := by
  obtain ⟨ad, c, e, _, hK, hc⟩ := Kd.C_get h (none, 0, 0) (i : Int) (by omega) (by omega)
  obtain rfl : c = [hdrV (hs.getD i (none, 0, 0))] := hK
  exact ⟨ad, e, by have hq := hc 0 _ rfl; rw [Nat.add_zero, show (i : Int).toNat * kHdr.sz = i from by simp [kHdr, Kd.scalar]] at hq; exact hq⟩
/-- How many bytes calls count. -/
def tots : List (List ByteArray) → Nat
  | [] => 0
  | l :: ls => tot l + tots ls
theorem tot_le {l : List ByteArray} : ∀ {ls : List (List ByteArray)}, l ∈ ls → tot l ≤ tots ls
  | [], h => by cases h
  | x :: ls, h => by
    rcases List.mem_cons.1 h with rfl | h
    · simp only [tots]; omega
    · have := tot_le h; simp only [tots]; omega
theorem len_tot (l : List ByteArray) : l.length ≤ tot l := by have := sizes_tot l; omega
theorem same02_loop : ∀ (n : Nat) (l : List ByteArray) (i : Nat), l.length - i < n → i ≤ l.length → l.length ≤ 9223372036854775807 → ∃ k, mewsref02_Same.l0 k l l (i : Int) = some true
  | 0, l, i, h, hi, hl => by omega
  | n + 1, l, i, h, hi, hl => by
    have h0 : (0 : Int) ≤ (i : Int) := by omega
    by_cases hlt : i < l.length
    · have hil : (i : Int) < (l.length : Int) := by omega
      have w1 : wrap64 ((i : Int) + 1) = ((i + 1 : Nat) : Int) := by rw [wrap_small _ (by omega) (by omega)]; omega
      obtain ⟨k, hk⟩ := same02_loop n l (i + 1) (by omega) (by omega) hl
      exact ⟨k + 1, by simp only [mewsref02_Same.l0, if_pos hil, if_pos h0, if_true, w1]; exact hk⟩
    · have hil : ¬ ((i : Int) < (l.length : Int)) := by omega
      exact ⟨1, by simp only [mewsref02_Same.l0, if_neg hil]⟩
theorem same02_self (l : List ByteArray) (hl : l.length ≤ 9223372036854775807) : ∃ k, mewsref02_Same.f k l l = some true := by
  obtain ⟨k, hk⟩ := same02_loop (l.length + 1) l 0 (by omega) (by omega) hl
  exact ⟨k, by unfold mewsref02_Same.f; rw [if_pos rfl]; exact hk⟩
theorem same15_row : ∀ (n : Nat) (ls : List (List ByteArray)) (i j : Nat), (rd_L1 ls (i : Int)).length - j < n → j ≤ (rd_L1 ls (i : Int)).length → i < ls.length → ls.length ≤ 9223372036854775807 → (rd_L1 ls (i : Int)).length ≤ 9223372036854775807 →
    (∃ k, mewsref15_Same.l0 k ((i + 1 : Nat) : Int) ls ls = some true) → ∃ k, mewsref15_Same.l1 k (i : Int) (j : Int) ls ls = some true
  | 0, ls, i, j, h, hj, hi, hl, hm, hk => by omega
  | n + 1, ls, i, j, h, hj, hi, hl, hm, hk => by
    have h0 : (0 : Int) ≤ (i : Int) := by omega
    have hil : (i : Int) < (ls.length : Int) := by omega
    have j0 : (0 : Int) ≤ (j : Int) := by omega
    have w0 : wrap64 ((i : Int) + 1) = ((i + 1 : Nat) : Int) := by rw [wrap_small _ (by omega) (by omega)]; omega
    by_cases hlt : j < (rd_L1 ls (i : Int)).length
    · have hjl : (j : Int) < ((rd_L1 ls (i : Int)).length : Int) := by omega
      have w1 : wrap64 ((j : Int) + 1) = ((j + 1 : Nat) : Int) := by rw [wrap_small _ (by omega) (by omega)]; omega
      obtain ⟨k, hk'⟩ := same15_row n ls i (j + 1) (by omega) (by omega) hi hl hm hk
      exact ⟨k + 1, by simp only [mewsref15_Same.l1, if_pos hil, if_pos h0, if_pos hjl, if_pos j0, if_true, w1]; exact hk'⟩
    · have hjl : ¬ (j : Int) < ((rd_L1 ls (i : Int)).length : Int) := by omega
      obtain ⟨k, hk'⟩ := hk
      exact ⟨k + 1, by simp only [mewsref15_Same.l1, if_pos hil, if_pos h0, if_neg hjl, w0]; exact hk'⟩
theorem same15_loop : ∀ (n : Nat) (ls : List (List ByteArray)) (i : Nat), ls.length - i < n → i ≤ ls.length → ls.length ≤ 9223372036854775807 → (∀ j : Nat, (rd_L1 ls (j : Int)).length ≤ 9223372036854775807) → ∃ k, mewsref15_Same.l0 k (i : Int) ls ls = some true
  | 0, ls, i, h, hi, hl, hm => by omega
  | n + 1, ls, i, h, hi, hl, hm => by
    have h0 : (0 : Int) ≤ (i : Int) := by omega
    by_cases hlt : i < ls.length
    · have hil : (i : Int) < (ls.length : Int) := by omega
      obtain ⟨k, hk⟩ := same15_row ((rd_L1 ls (i : Int)).length + 1) ls i 0 (by omega) (by omega) hlt hl (hm i) (same15_loop n ls (i + 1) (by omega) (by omega) hl hm)
      exact ⟨k + 1, by simp only [mewsref15_Same.l0, if_pos hil, if_pos h0, if_true]; exact hk⟩
    · have hil : ¬ ((i : Int) < (ls.length : Int)) := by omega
      exact ⟨1, by simp only [mewsref15_Same.l0, if_neg hil]⟩
theorem same15_self (ls : List (List ByteArray)) (hl : ls.length ≤ 9223372036854775807) (hm : ∀ l ∈ ls, l.length ≤ 9223372036854775807) : ∃ k, mewsref15_Same.f k ls ls = some true := by
  obtain ⟨k, hk⟩ := same15_loop (ls.length + 1) ls 0 (by omega) (by omega) hl (fun j => by
    unfold rd_L1
    rw [List.getD_eq_getElem?_getD, Int.toNat_natCast]
    by_cases h : j < ls.length
    · rw [List.getElem?_eq_getElem h]; exact hm _ (List.getElem_mem _)
    · rw [List.getElem?_eq_none (by omega)]; simp)
  exact ⟨k, by unfold mewsref15_Same.f; rw [if_pos rfl]; exact hk⟩
theorem same28 (W : World) (A B : Option Addr) (c d : Nat) (hs ks : List Hdr) (ls : List (List ByteArray)) (h1 : Kd.C kHdr W A hs.length hs) (h2 : Kd.C kHdr W B ks.length ks) (g1 : Heads W hs ls) (g2 : Heads W ks ls) (hc : hs.length ≤ c) (hd : ks.length ≤ d) :
    Calls Try.prog 28 #[.agg #[.slice A hs.length c], .agg #[.slice B ks.length d]] W fun e w' => e = .returned (.bool true) ∧ Below W.heap.size W w' := by
  have e1 := g1.1
  have e2 := g2.1
  have r1 := heads_to h1 g1
  have r2 := heads_to h2 g2
  rw [e1] at r1 hc ⊢
  rw [e2] at r2 hd ⊢
  obtain ⟨k, hk⟩ := same15_self ls r1.2.1 (fun l hl => by
    obtain ⟨j, hj⟩ := List.getElem?_of_mem hl
    have hj2 := (List.getElem?_eq_some_iff.1 hj).1
    exact (g1.2 j _ l (List.getElem?_eq_getElem (by rw [e1]; exact hj2)) hj).2.2.2.1)
  exact PMultiPlays.mewsref15_Same.calls k A c ls B d ls true W r1 hc r2 hd hk
/-- What holds while calls are let wait, one behind the other. -/
structure OInv (w : World) (gx : Nat) (A2 : Option Addr) (c2 : Nat) (W : World) (bq : Bool) (AQ : Option Addr) (cQ : Nat) (z : Nat) (hs : List Hdr) (acc : List (List ByteArray)) (AK : Option Addr) (cK : Nat) (ks : List Hdr) : Prop where
  below : Below w.heap.size w W
  x : W.heap[gx]? = some (.cells #[.bool true, .bool bq, .bool false, .slice AQ hs.length cQ, .int .i64 z, .slice A2 1 c2] 41 (0, 0))
  q : Kd.R kHdr 26 W w.heap.size (fun _ => True) (.slice AQ hs.length cQ) hs
  h : HeadsR W w.heap.size hs acc
  k : Kd.R kHdr 26 W w.heap.size (fun _ => True) (.slice AK ks.length cK) ks
  kh : Heads w ks acc
  wt : Kd.R Kd.string 9 W w.heap.size (fun _ => True) (.slice A2 1 c2) [sK]
  hn : hs.length ≤ 100
  hz : z ≤ 65536
end Go.Proofs.Ytamdbacmpglbiaa.Multi
