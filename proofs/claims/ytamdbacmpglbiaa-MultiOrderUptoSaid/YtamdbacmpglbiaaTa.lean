/-
  Transactions: how many bytes a call counts; rows of rows and the headers that tell them.
-/
import Derived.Test.YtamdbacmpglbiaaTz
import Derived.Test.YtamdbacmpglbiaaMultiMore4
namespace Go.Proofs.Ytamdbacmpglbiaa.Multi
open Go.Shelf Go.RowKit Go.Proofs.YtamdbacmpglbiaaW.PrintWords Go.Proofs.YtamdbacmpglbiaaW.PrintLast Go.Proofs.YtamdbacmpglbiaaW.PrintMore Kit
open PMultiPlays (multi_size.l0 multi_size.f mewsref37_Bytes.l0 mewsref37_Bytes.f)
set_option linter.unusedVariables false
set_option linter.unusedSimpArgs false
theorem wrap_small (z : Int) (h0 : -9223372036854775808 ≤ z) (h1 : z ≤ 9223372036854775807) : wrap64 z = z := by unfold wrap64; omega
theorem wrap_add (a b : Int) : wrap64 (wrap64 a + wrap64 b) = wrap64 (a + b) := by unfold wrap64; omega
theorem wrap_addl (a b : Int) : wrap64 (wrap64 a + b) = wrap64 (a + b) := by unfold wrap64; omega
/-- How many bytes a call counts. -/
def tot : List ByteArray → Nat
  | [] => 0
  | x :: l => 1 + x.size + tot l
theorem tot_drop (l : List ByteArray) (i : Nat) (h : i < l.length) : tot (l.drop i) = 1 + (l.getD i ⟨#[]⟩).size + tot (l.drop (i + 1)) := by
  rw [drop_get l ⟨#[]⟩ h]; rfl
theorem size_loop : ∀ (n : Nat) (l : List ByteArray) (i : Nat) (x : Int), l.length - i < n → i ≤ l.length → l.length ≤ 9223372036854775807 →
    ∃ k, multi_size.l0 k (wrap64 x) l (l.length : Int) (i : Int) = some (wrap64 (x + (tot (l.drop i) : Nat)))
  | 0, l, i, x, h, hi, hl => by omega
  | n + 1, l, i, x, h, hi, hl => by
    have h0 : (0 : Int) ≤ (i : Int) := by omega
    by_cases hlt : i < l.length
    · have hil : (i : Int) < (l.length : Int) := by omega
      have ht := tot_drop l i hlt
      have hrd : rdOf ByteArray.empty l (i : Int) = l.getD i ⟨#[]⟩ := rfl
      have w1 : wrap64 ((i : Int) + 1) = ((i + 1 : Nat) : Int) := by rw [wrap_small _ (by omega) (by omega)]; omega
      obtain ⟨k, hk⟩ := size_loop n l (i + 1) (x + (1 + ((l.getD i ⟨#[]⟩).size : Int))) (by omega) (by omega) hl
      refine ⟨k + 1, ?_⟩
      simp only [multi_size.l0, if_pos hil, if_pos h0, hrd, w1, wrap_add]
      rw [hk, ht]
      congr 2
      push_cast
      omega
    · have hil : ¬ ((i : Int) < (l.length : Int)) := by omega
      refine ⟨1, ?_⟩
      simp only [multi_size.l0, if_neg hil]
      rw [List.drop_of_length_le (by omega)]
      simp [tot]
theorem size_calls (w : World) (A : Option Addr) (c : Nat) (l : List ByteArray) (hC : Kd.C Kd.string w A l.length l) (hc : l.length ≤ c) :
    Calls Try.prog 63 #[.slice A l.length c] w fun e w' => e = .returned (.int .i64 (wrap64 (tot l))) ∧ Drawn0 w w' := by
  obtain ⟨k, hk⟩ := size_loop (l.length + 1) l 0 0 (by omega) (by omega) hC.2.1
  rw [List.drop_zero, Int.zero_add, wrap_small 0 (by omega) (by omega)] at hk
  exact PMultiPlays.multi_size.calls k A c l _ w hC hc hk
def sizes : List ByteArray → Nat
  | [] => 0
  | x :: l => x.size + sizes l
theorem sizes_tot : ∀ l : List ByteArray, tot l = l.length + sizes l
  | [] => rfl
  | x :: l => by have := sizes_tot l; simp only [tot, sizes, List.length_cons]; omega
theorem sizes_drop (l : List ByteArray) (i : Nat) (h : i < l.length) : sizes (l.drop i) = (l.getD i ⟨#[]⟩).size + sizes (l.drop (i + 1)) := by
  rw [drop_get l ⟨#[]⟩ h]; rfl
theorem bytes_loop : ∀ (n : Nat) (l : List ByteArray) (i : Nat) (x : Int), l.length - i < n → i ≤ l.length → l.length ≤ 9223372036854775807 →
    ∃ k, mewsref37_Bytes.l0 k l (wrap64 x) (i : Int) = some (wrap64 (x + (sizes (l.drop i) : Nat)))
  | 0, l, i, x, h, hi, hl => by omega
  | n + 1, l, i, x, h, hi, hl => by
    have h0 : (0 : Int) ≤ (i : Int) := by omega
    by_cases hlt : i < l.length
    · have hil : (i : Int) < (l.length : Int) := by omega
      have ht := sizes_drop l i hlt
      have hrd : rdOf ByteArray.empty l (i : Int) = l.getD i ⟨#[]⟩ := rfl
      have w1 : wrap64 ((i : Int) + 1) = ((i + 1 : Nat) : Int) := by rw [wrap_small _ (by omega) (by omega)]; omega
      obtain ⟨k, hk⟩ := bytes_loop n l (i + 1) (x + ((l.getD i ⟨#[]⟩).size : Int)) (by omega) (by omega) hl
      refine ⟨k + 1, ?_⟩
      simp only [mewsref37_Bytes.l0, if_pos hil, if_pos h0, hrd, w1, wrap_addl]
      rw [hk, ht]
      congr 2
      push_cast
      omega
    · have hil : ¬ ((i : Int) < (l.length : Int)) := by omega
      refine ⟨1, ?_⟩
      simp only [mewsref37_Bytes.l0, if_neg hil]
      rw [List.drop_of_length_le (by omega)]
      simp [sizes]
theorem bytes_f (l : List ByteArray) (hl : l.length ≤ 9223372036854775807) : ∃ k, mewsref37_Bytes.f k l = some (wrap64 (tot l)) := by
  have h1 := sizes_tot l
  obtain ⟨k, hk⟩ := bytes_loop (l.length + 1) l 0 l.length (by omega) (by omega) hl
  refine ⟨k, ?_⟩
  rw [List.drop_zero, wrap_small (l.length : Int) (by omega) (by omega), show (l.length : Int) + (sizes l : Nat) = (tot l : Nat) from by omega] at hk
  exact hk
theorem bytes_calls (w : World) (A : Option Addr) (c : Nat) (l : List ByteArray) (hC : Kd.C Kd.string w A l.length l) (hc : l.length ≤ c) :
    Calls Try.prog 20 #[.slice A l.length c] w fun e w' => e = .returned (.int .i64 (wrap64 (tot l))) ∧ Drawn0 w w' := by
  obtain ⟨k, hk⟩ := bytes_f l hC.2.1
  exact PMultiPlays.mewsref37_Bytes.calls k A c l _ w hC hc hk
/-- What a header tells. -/
def HdrOk (w : World) (h : Hdr) (l : List ByteArray) : Prop := h.2.1 = l.length ∧ l.length ≤ h.2.2 ∧ Kd.C Kd.string w h.1 l.length l
theorem HdrOk.below {w w' : World} {h : Hdr} {l : List ByteArray} (hh : HdrOk w h l) (hb : Below w.heap.size w w') : HdrOk w' h l := ⟨hh.1, hh.2.1, Kd.C_below hh.2.2 hb⟩
/-- What headers tell. -/
def Heads (w : World) (hs : List Hdr) (ls : List (List ByteArray)) : Prop := hs.length = ls.length ∧ ∀ (j : Nat) (h : Hdr) (l : List ByteArray), hs[j]? = some h → ls[j]? = some l → HdrOk w h l
theorem Heads.below {w w' : World} {hs : List Hdr} {ls : List (List ByteArray)} (h : Heads w hs ls) (hb : Below w.heap.size w w') : Heads w' hs ls := ⟨h.1, fun j x l h1 h2 => (h.2 j x l h1 h2).below hb⟩
theorem Heads.snoc {w : World} {hs : List Hdr} {ls : List (List ByteArray)} (h : Heads w hs ls) {x : Hdr} {l : List ByteArray} (hx : HdrOk w x l) : Heads w (hs ++ [x]) (ls ++ [l]) := by
  refine ⟨by simp [h.1], fun j y m h1 h2 => ?_⟩
  by_cases hj : j < hs.length
  · rw [List.getElem?_append_left hj] at h1
    rw [List.getElem?_append_left (by rw [← h.1]; exact hj)] at h2
    exact h.2 j y m h1 h2
  · rw [List.getElem?_append_right (by omega)] at h1
    rw [List.getElem?_append_right (by rw [← h.1]; omega)] at h2
    rw [h.1] at h1
    cases hk : j - ls.length with
    | zero =>
      rw [hk] at h1 h2
      simp at h1 h2
      subst h1
      subst h2
      exact hx
    | succ k => rw [hk] at h1; simp at h1
theorem choose_list {α : Type} (n : Nat) (P : Nat → α → Prop) (h : ∀ j, j < n → ∃ a, P j a) : ∃ xs : List α, xs.length = n ∧ ∀ j a, xs[j]? = some a → P j a := by
  induction n with
  | zero => exact ⟨[], rfl, fun j a h => by simp at h⟩
  | succ n ih =>
    obtain ⟨xs, h1, h2⟩ := ih (fun j hj => h j (by omega))
    obtain ⟨a, ha⟩ := h n (by omega)
    refine ⟨xs ++ [a], by simp [h1], fun j b hb => ?_⟩
    by_cases hj : j < xs.length
    · rw [List.getElem?_append_left hj] at hb; exact h2 j b hb
    · rw [List.getElem?_append_right (by omega)] at hb
      cases hk : j - xs.length with
      | zero =>
        rw [hk] at hb
        simp at hb
        subst hb
        have : j = n := by omega
        rw [this]; exact ha
      | succ k => rw [hk] at hb; simp at hb
/-- A row of rows, read as headers. -/
theorem heads_of {w : World} {A : Option Addr} {n : Nat} {ls : List (List ByteArray)} (h : Kd.C (Kd.slice 9 Kd.string) w A n ls) : ∃ hs, Kd.C kHdr w A n hs ∧ Heads w hs ls := by
  obtain ⟨h1, h2, h3⟩ := h
  by_cases hn : 0 < n
  · obtain ⟨ad, e, hc⟩ := h3 hn
    obtain ⟨hs, hl, hp⟩ := choose_list n (fun j (a : Hdr) => ∃ p, ls[j]? = some p ∧ HdrOk w a p ∧ w.cell? (ad.add (j * 1)) = some (hdrV a)) (fun j hj => by
      obtain ⟨p, hp⟩ : ∃ p, ls[j]? = some p := ⟨_, List.getElem?_eq_getElem (by omega)⟩
      obtain ⟨cs, e1, ⟨B, c, e2, e3, e4⟩, e5⟩ := hc j p hp
      subst e2
      exact ⟨(B, p.length, c), p, hp, ⟨rfl, e3, e4⟩, e5 0 _ rfl⟩)
    refine ⟨hs, ⟨hl, h2, fun _ => ⟨ad, e, fun j a ha => ?_⟩⟩, by rw [hl, ← h1], fun j a l ha hl' => ?_⟩
    · obtain ⟨p, e1, e2, e3⟩ := hp j a ha
      refine ⟨[hdrV a], rfl, rfl, fun i u hu => ?_⟩
      cases i with
      | zero => simp at hu; subst hu; exact e3
      | succ i => simp at hu
    · obtain ⟨p, e1, e2, e3⟩ := hp j a ha
      rw [e1] at hl'
      injection hl' with hl'
      subst hl'
      exact e2
  · have hn0 : n = 0 := by omega
    subst hn0
    have hls : ls = [] := List.eq_nil_of_length_eq_zero h1
    subst hls
    exact ⟨[], ⟨rfl, h2, fun h => absurd h hn⟩, rfl, fun j a l h => by simp at h⟩
theorem heads_to {w : World} {A : Option Addr} {n : Nat} {hs : List Hdr} {ls : List (List ByteArray)} (h : Kd.C kHdr w A n hs) (hh : Heads w hs ls) : Kd.C (Kd.slice 9 Kd.string) w A n ls := by
  obtain ⟨h1, h2, h3⟩ := h
  refine ⟨by rw [← hh.1]; exact h1, h2, fun hn => ?_⟩
  obtain ⟨ad, e, hc⟩ := h3 hn
  refine ⟨ad, e, fun j p hp => ?_⟩
  have hj : j < hs.length := by rw [hh.1]; exact (List.getElem?_eq_some_iff.1 hp).1
  have ha := List.getElem?_eq_getElem hj
  obtain ⟨cs, e1, e2, e3⟩ := hc j _ ha
  have ho := hh.2 j _ p ha hp
  refine ⟨cs, e1, ⟨(hs[j]).1, (hs[j]).2.2, ?_, ho.2.1, ho.2.2⟩, e3⟩
  have e2' : cs = [hdrV hs[j]] := e2
  rw [e2', hdrV, ho.1]
end Go.Proofs.Ytamdbacmpglbiaa.Multi
