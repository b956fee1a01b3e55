/-
  Quoted texts, plain patterns and which of some texts match: what both sides compute is the same.
-/
import Derived.Test.YtamdbacmpglbiaaGlobLawQ
namespace Go.Proofs.Ytamdbacmpglbiaa.Glob.Q
open Go.Shelf Go.RowKit Go.Proofs.YtamdbacmpglbiaaW.PrintWords Go.Proofs.YtamdbacmpglbiaaW.PrintLast Go.Proofs.YtamdbacmpglbiaaW.PrintMore Kit
open PGlobQuotes (glob_Match.f glob_special.f glob_Plain.l0 glob_Plain.j1 glob_Plain.f glob_Quote.l0 glob_Quote.f mewsref02_Quote.l0 mewsref02_Quote.f glob_All.l0 glob_All.f mewsref02_Same.l0 mewsref02_Same.f mewslaw02_far.l0 mewslaw02_far.f)
set_option linter.unusedVariables false
set_option linter.unusedSimpArgs false
theorem hasL_one (n : Nat) : ∀ m, hasL (oneB (n : Int)) m = if n < m then [(n : Int)] else []
  | 0 => by simp [hasL]
  | m + 1 => by
    rw [hasL_succ, hasL_one n m]
    by_cases h : m = n
    · subst h; simp [oneB]
    · have h2 : oneB (n : Int) m = false := by simp [oneB]; omega
      rw [h2]
      by_cases h3 : n < m
      · simp [h3, Nat.lt_succ_of_lt h3]
      · have : ¬ n < m + 1 := by omega
        simp [h3, this]
theorem hasL_byte (b : Int) (h0 : 0 ≤ b) (h1 : b ≤ 255) : hasL (oneB b) 256 = [b] := by
  obtain ⟨n, rfl⟩ : ∃ n : Nat, b = (n : Int) := ⟨b.toNat, (Int.toNat_of_nonneg h0).symm⟩
  rw [hasL_one, if_pos (by omega)]
theorem plain_loop : ∀ (n : Nat) (p : ByteArray) (a : Int) (acc : List Int), (p.size : Int) - a < n → 0 ≤ a → a ≤ (p.size : Int) → p.size ≤ 1000000 → (acc.length : Int) ≤ a →
    ∃ k, glob_Plain.l0 k p acc a = some (strOf ((plainK (pts p a)).map fun r => acc ++ r))
  | 0, p, a, acc, h, h0, h1, hp, hl => by omega
  | n + 1, p, a, acc, h, h0, h1, hp, hl => by
    have w1 : wrap64 (a + 1) = a + 1 := wrap_small (by omega) (by omega)
    have w2 : wrap64 (a + 1 + 1) = a + 1 + 1 := wrap_small (by omega) (by omega)
    have g1 : (0 : Int) ≤ a + 1 := by omega
    have hal : acc.length < 140737488355328 := by omega
    by_cases hlt : a < (p.size : Int)
    · have hpc := pts_cons p a h0 hlt
      have step : ∀ (b : Int), 0 ≤ b → b ≤ 255 → ∀ a', pts p a = ((4, oneB b) : PartT) :: pts p a' → a < a' → a' ≤ (p.size : Int) → ∃ k, glob_Plain.l0 k p (acc ++ [b]) a' = some (strOf ((plainK (pts p a)).map fun r => acc ++ r)) := by
        intro b hb0 hb1 a' he ha1 ha2
        obtain ⟨k, hk⟩ := plain_loop n p a' (acc ++ [b]) (by omega) (by omega) ha2 hp (by simp only [List.length_append, List.length_singleton]; omega)
        refine ⟨k, hk.trans ?_⟩
        rw [he, plainK, if_pos rfl, hasL_byte b hb0 hb1]
        cases plainK (pts p a') <;> simp
      by_cases hesc : bt p a = 92 ∧ a + 1 < (p.size : Int)
      · obtain ⟨h92, hb⟩ := hesc
        have hpa : partAt p a = ((4, oneB (bt p (a + 1))), a + 2) := by
          unfold partAt
          rw [if_neg (by omega), if_neg (by omega), if_neg (by omega), if_pos ⟨h92, hb⟩]
        rw [hpa] at hpc
        simp only at hpc
        have hm : mn (a + 2) (p.size : Int) = a + 1 + 1 := by rw [mn_is]; omega
        rw [hm] at hpc
        obtain ⟨k, hk⟩ := step (bt p (a + 1)) (bt_range p (a + 1)).1 (bt_range p (a + 1)).2 (a + 1 + 1) hpc (by omega) (by omega)
        refine ⟨k + 2, ?_⟩
        simp only [glob_Plain.l0, glob_Plain.j1, if_pos hlt, if_pos h0, if_pos h92, w1, decide_eq_true hb, if_true, if_pos g1, if_pos hb, if_pos hal, w2]
        exact hk
      · have hgo : ∀ k, glob_Plain.l0 (k + 2) p acc a = glob_Plain.j1 (k + 1) p acc a (bt p a) false := by
          intro k
          by_cases h92 : bt p a = 92
          · have hb : ¬ (a + 1 < (p.size : Int)) := fun hb => hesc ⟨h92, hb⟩
            rw [glob_Plain.l0]
            simp only [if_pos hlt, if_pos h0, if_pos h92, w1, decide_eq_false hb]
          · rw [glob_Plain.l0]
            simp only [if_pos hlt, if_pos h0, if_neg h92]
        have hm : mn (a + 1) (p.size : Int) = a + 1 := by rw [mn_is]; omega
        by_cases h42 : bt p a = 42
        · refine ⟨2, ?_⟩
          rw [hgo 0, hpc]
          have : partAt p a = ((1, noB), a + 1) := partAt_run p a h42
          rw [this]
          simp [glob_Plain.j1, glob_special.f, h42, plainK, strOf]
        · by_cases h63 : bt p a = 63
          · refine ⟨2, ?_⟩
            rw [hgo 0, hpc]
            have : partAt p a = ((2, noB), a + 1) := by unfold partAt; rw [if_neg h42, if_pos h63]
            rw [this]
            simp [glob_Plain.j1, glob_special.f, h42, h63, plainK, strOf]
          · by_cases h91 : bt p a = 91
            · refine ⟨2, ?_⟩
              rw [hgo 0, hpc]
              have : partAt p a = ((3, clsF p (a + 1)), clsN p (a + 1)) := by unfold partAt; rw [if_neg h42, if_neg h63, if_pos h91]
              rw [this]
              simp [glob_Plain.j1, glob_special.f, h42, h63, h91, plainK, strOf]
            · have hpa : partAt p a = ((4, oneB (bt p a)), a + 1) := by unfold partAt; rw [if_neg h42, if_neg h63, if_neg h91, if_neg hesc]
              rw [hpa] at hpc
              simp only at hpc
              rw [hm] at hpc
              obtain ⟨k, hk⟩ := step (bt p a) (bt_range p a).1 (bt_range p a).2 (a + 1) hpc (by omega) (by omega)
              refine ⟨k + 2, ?_⟩
              rw [hgo k]
              by_cases h92 : bt p a = 92
              · rw [h92] at hk
                simp only [glob_Plain.j1, glob_special.f, h92, Option.bind_some, Bool.false_eq_true, if_false, if_true, w1, if_pos hal]
                simpa using hk
              · have hs : glob_special.f (bt p a) = some false := by
                  simp only [glob_special.f, if_neg h42, if_neg h63, if_neg h91]
                  have : (bt p a == 92) = false := by simpa using h92
                  rw [this]
                simp only [glob_Plain.j1, hs, Option.bind_some, Bool.false_eq_true, if_false, w1, if_pos hal]
                exact hk
    · refine ⟨1, ?_⟩
      rw [pts_nil p a (by omega)]
      simp only [glob_Plain.l0, if_neg hlt, plainK, Option.map_some, List.append_nil, strOf]
theorem Plain_f (p : ByteArray) (hp : p.size ≤ 1000000) : ∃ k, glob_Plain.f k p = some (strOf (plainK (parts p))) := by
  obtain ⟨k, hk⟩ := plain_loop (p.size + 1) p 0 [] (by omega) (Int.le_refl _) (by omega) hp (by simp)
  refine ⟨k, hk.trans ?_⟩
  have : pts p 0 = parts p := rfl
  rw [this]
  cases plainK (parts p) <;> simp
/-- A text quoted, from a place on. -/
def qFrom : Nat → ByteArray → Int → List Int
  | 0, _, _ => []
  | n + 1, p, i => if i < (p.size : Int) then (if bt p i = 42 ∨ bt p i = 63 ∨ bt p i = 91 ∨ bt p i = 92 then [92, bt p i] else [bt p i]) ++ qFrom n p (i + 1) else []
theorem spec_f (b : Int) : glob_special.f b = some (decide (b = 42 ∨ b = 63 ∨ b = 91 ∨ b = 92)) := by
  unfold glob_special.f
  by_cases h1 : b = 42
  · simp [h1]
  · by_cases h2 : b = 63
    · simp [h2]
    · by_cases h3 : b = 91
      · simp [h3]
      · by_cases h4 : b = 92
        · simp [h4]
        · simp [h1, h2, h3, h4]
theorem quote_loop : ∀ (n : Nat) (p : ByteArray) (i : Int) (acc : List Int), (p.size : Int) - i < n → 0 ≤ i → i ≤ (p.size : Int) → p.size ≤ 1000000 → (acc.length : Int) ≤ 2 * i →
    ∃ k, glob_Quote.l0 k p acc (p.size : Int) i = some (strOfNums (acc ++ qFrom n p i))
  | 0, p, i, acc, h, h0, h1, hp, hl => by omega
  | n + 1, p, i, acc, h, h0, h1, hp, hl => by
    have w1 : wrap64 (i + 1) = i + 1 := wrap_small (by omega) (by omega)
    have hal : acc.length < 140737488355328 := by omega
    have hal2 : (acc ++ [(92 : Int)]).length < 140737488355328 := by simp only [List.length_append, List.length_singleton]; omega
    by_cases hlt : i < (p.size : Int)
    · by_cases hs : bt p i = 42 ∨ bt p i = 63 ∨ bt p i = 91 ∨ bt p i = 92
      · obtain ⟨k, hk⟩ := quote_loop n p (i + 1) ((acc ++ [92]) ++ [bt p i]) (by omega) (by omega) (by omega) hp (by simp only [List.length_append, List.length_singleton]; omega)
        refine ⟨k + 1, ?_⟩
        simp only [glob_Quote.l0, if_pos hlt, if_pos h0, spec_f, decide_eq_true hs, Option.bind_some, if_true, if_pos hal, if_pos hal2, w1]
        refine hk.trans ?_
        rw [qFrom, if_pos hlt, if_pos hs]
        simp
      · obtain ⟨k, hk⟩ := quote_loop n p (i + 1) (acc ++ [bt p i]) (by omega) (by omega) (by omega) hp (by simp only [List.length_append, List.length_singleton]; omega)
        refine ⟨k + 1, ?_⟩
        simp only [glob_Quote.l0, if_pos hlt, if_pos h0, spec_f, decide_eq_false hs, Option.bind_some, Bool.false_eq_true, if_false, if_pos hal, w1]
        refine hk.trans ?_
        rw [qFrom, if_pos hlt, if_neg hs]
        simp
    · refine ⟨1, ?_⟩
      rw [qFrom, if_neg hlt]
      simp only [glob_Quote.l0, if_neg hlt, List.append_nil]
theorem str_app (a b : List Int) : strOfNums a ++ strOfNums b = strOfNums (a ++ b) := by
  apply ByteArray.ext
  simp [strOfNums]
theorem ext_one (p : ByteArray) (i : Int) (h0 : 0 ≤ i) (h1 : i < (p.size : Int)) : p.extract i.toNat (i + 1).toNat = strOfNums [bt p i] := by
  have e : (i + 1).toNat = i.toNat + 1 := by omega
  have hlt : i.toNat < p.data.size := by have : p.data.size = p.size := rfl; omega
  rw [e]
  apply ByteArray.ext
  have hb : bt p i = ((p.data[i.toNat]'hlt).toNat : Int) := by
    unfold bt
    rw [dif_pos (show i.toNat < p.size from hlt)]
    rfl
  rw [hb]
  apply Array.ext'
  simp [strOfNums, ByteArray.data_extract]
  rw [List.drop_eq_getElem_cons (by simpa using hlt)]
  simp
theorem str92 : (⟨#[92]⟩ : ByteArray) = strOfNums [92] := rfl
theorem refQuote_loop : ∀ (n : Nat) (p : ByteArray) (i : Int) (acc : List Int), (p.size : Int) - i < n → 0 ≤ i → i ≤ (p.size : Int) → p.size ≤ 1000000 → (acc.length : Int) ≤ 2 * i →
    ∃ k, mewsref02_Quote.l0 k p (strOfNums acc) i = some (strOfNums (acc ++ qFrom n p i))
  | 0, p, i, acc, h, h0, h1, hp, hl => by omega
  | n + 1, p, i, acc, h, h0, h1, hp, hl => by
    have w1 : wrap64 (i + 1) = i + 1 := wrap_small (by omega) (by omega)
    have s1 : (strOfNums acc).size + 1 ≤ 9223372036854775807 := by rw [strOfNums_size]; omega
    by_cases hlt : i < (p.size : Int)
    · have g1 : i ≤ i + 1 := by omega
      have g2 : i + 1 ≤ (p.size : Int) := by omega
      by_cases hs : bt p i = 42 ∨ bt p i = 63 ∨ bt p i = 91 ∨ bt p i = 92
      · obtain ⟨k, hk⟩ := refQuote_loop n p (i + 1) ((acc ++ [92]) ++ [bt p i]) (by omega) (by omega) (by omega) hp (by simp only [List.length_append, List.length_singleton]; omega)
        have s2 : (strOfNums (acc ++ [92])).size + (strOfNums [bt p i]).size ≤ 9223372036854775807 := by rw [strOfNums_size, strOfNums_size]; simp only [List.length_append, List.length_singleton]; omega
        refine ⟨k + 1, ?_⟩
        have key : mewsref02_Quote.l0 (k + 1) p (strOfNums acc) i = mewsref02_Quote.l0 k p (strOfNums ((acc ++ [92]) ++ [bt p i])) (i + 1) := by
          simp only [mewsref02_Quote.l0, if_pos hlt, if_pos h0, w1, if_pos g1, if_pos g2, ext_one p i h0 hlt, str92, str_app, if_pos s1, if_pos s2]
          rcases hs with h | h | h | h <;> simp [h]
        rw [key]
        refine hk.trans ?_
        rw [qFrom, if_pos hlt, if_pos hs]
        simp
      · obtain ⟨k, hk⟩ := refQuote_loop n p (i + 1) (acc ++ [bt p i]) (by omega) (by omega) (by omega) hp (by simp only [List.length_append, List.length_singleton]; omega)
        have s2 : (strOfNums acc).size + (strOfNums [bt p i]).size ≤ 9223372036854775807 := by rw [strOfNums_size, strOfNums_size]; simp only [List.length_singleton]; omega
        refine ⟨k + 1, ?_⟩
        have n1 : ¬ bt p i = 42 := fun h => hs (Or.inl h)
        have n2 : ¬ bt p i = 63 := fun h => hs (Or.inr (Or.inl h))
        have n3 : ¬ bt p i = 91 := fun h => hs (Or.inr (Or.inr (Or.inl h)))
        have n4 : ¬ bt p i = 92 := fun h => hs (Or.inr (Or.inr (Or.inr h)))
        simp only [mewsref02_Quote.l0, if_pos hlt, if_pos h0, w1, if_pos g1, if_pos g2, ext_one p i h0 hlt, str_app, if_neg n1, if_neg n2, if_neg n3, if_neg n4, if_pos s2]
        refine hk.trans ?_
        rw [qFrom, if_pos hlt, if_neg hs]
        simp
    · refine ⟨1, ?_⟩
      rw [qFrom, if_neg hlt]
      simp only [mewsref02_Quote.l0, if_neg hlt, List.append_nil]
def quoteB (p : ByteArray) : ByteArray := strOfNums (qFrom (p.size + 1) p 0)
theorem Quote_f (p : ByteArray) (hp : p.size ≤ 1000000) : ∃ k, glob_Quote.f k p = some (quoteB p) := quote_loop (p.size + 1) p 0 [] (by omega) (Int.le_refl _) (by omega) hp (by simp)
theorem refQuote_f (p : ByteArray) (hp : p.size ≤ 1000000) : ∃ k, mewsref02_Quote.f k p = some (quoteB p) := refQuote_loop (p.size + 1) p 0 [] (by omega) (Int.le_refl _) (by omega) hp (by simp)
theorem Match_ge {p s : ByteArray} {k : Nat} {b : Bool} (h : glob_Match.f k p s = some b) : ∀ m, k ≤ m → glob_Match.f m p s = some b := fun m hm => l0_ge h m hm
theorem all_loop : ∀ (n : Nat) (p : ByteArray) (l : List ByteArray) (i : Nat), l.length - i < n → i ≤ l.length → l.length ≤ 1000 → p.size ≤ 1000000 → (∀ x ∈ l, x.size ≤ 1000000) →
    ∃ k, glob_All.l0 k p ((l.take i).filter fun x => matchP p x) l (l.length : Int) (i : Int) = some (l.filter fun x => matchP p x)
  | 0, p, l, i, h, hi, hl, hp, hx => by omega
  | n + 1, p, l, i, h, hi, hl, hp, hx => by
    have h0 : (0 : Int) ≤ (i : Int) := by omega
    have w1 : wrap64 ((i : Int) + 1) = ((i + 1 : Nat) : Int) := wrap_nat i (by omega)
    by_cases hlt : i < l.length
    · have hil : (i : Int) < (l.length : Int) := by omega
      obtain ⟨x, hxx⟩ : ∃ x, x = l.getD i ⟨#[]⟩ := ⟨_, rfl⟩
      have hrd : rdOf ByteArray.empty l (i : Int) = x := by rw [hxx]; rfl
      have hmem : x ∈ l := by rw [hxx]; simp only [List.getD_eq_getElem?_getD, List.getElem?_eq_getElem hlt, Option.getD_some]; exact List.getElem_mem _
      have hts := take_snoc l i hlt
      rw [← hxx] at hts
      have hac : ((l.take i).filter fun x => matchP p x).length < 8796093022208 := by
        have := List.length_filter_le (fun x => matchP p x) (l.take i)
        have h2 := List.length_take_le i l
        omega
      obtain ⟨km, hkm⟩ := Match_f p x hp (hx x hmem)
      obtain ⟨k, hk⟩ := all_loop n p l (i + 1) (by omega) (by omega) hl hp hx
      rw [hts, List.filter_append] at hk
      refine ⟨max k km + 1, ?_⟩
      have ge : ∀ m, k ≤ m → glob_All.l0 m p ((l.take i).filter (fun x => matchP p x) ++ [x].filter (fun x => matchP p x)) l (l.length : Int) ((i + 1 : Nat) : Int) = some (l.filter fun x => matchP p x) := by
        intro m hm
        induction m with
        | zero =>
          obtain rfl : k = 0 := by omega
          exact hk
        | succ m ih =>
          by_cases e : k = m + 1
          · subst e; exact hk
          · exact (PGlobQuotes.glob_All.mono_l m) _ _ _ _ _ _ (ih (by omega))
      have hk2 := ge (max k km) (by omega)
      simp only [glob_All.l0, if_pos hil, if_pos h0, hrd, Match_ge hkm (max k km) (by omega), Option.bind_some, w1]
      cases hm : matchP p x with
      | true =>
        simp only [if_true, if_pos hac]
        simpa [hm] using hk2
      | false =>
        simp only [Bool.false_eq_true, if_false]
        simpa [hm] using hk2
    · have hil : ¬ ((i : Int) < (l.length : Int)) := by omega
      refine ⟨1, ?_⟩
      simp only [glob_All.l0, if_neg hil]
      rw [List.take_of_length_le (by omega)]
theorem All_f (p : ByteArray) (l : List ByteArray) (hl : l.length ≤ 1000) (hp : p.size ≤ 1000000) (hx : ∀ x ∈ l, x.size ≤ 1000000) : ∃ k, glob_All.f k p l = some (l.filter fun x => matchP p x) := by
  obtain ⟨k, hk⟩ := all_loop (l.length + 1) p l 0 (by omega) (by omega) hl hp hx
  exact ⟨k, hk⟩
theorem same_loop : ∀ (n : Nat) (l : List ByteArray) (i : Nat), l.length - i < n → i ≤ l.length → l.length ≤ 1000000 → ∃ k, mewsref02_Same.l0 k l l (i : Int) = some true
  | 0, l, i, h, hi, hl => by omega
  | n + 1, l, i, h, hi, hl => by
    have h0 : (0 : Int) ≤ (i : Int) := by omega
    have w1 : wrap64 ((i : Int) + 1) = ((i + 1 : Nat) : Int) := wrap_nat i (by omega)
    by_cases hlt : i < l.length
    · have hil : (i : Int) < (l.length : Int) := by omega
      obtain ⟨k, hk⟩ := same_loop n l (i + 1) (by omega) (by omega) hl
      exact ⟨k + 1, by simp only [mewsref02_Same.l0, if_pos hil, if_pos h0, if_true, w1]; exact hk⟩
    · have hil : ¬ ((i : Int) < (l.length : Int)) := by omega
      exact ⟨1, by simp only [mewsref02_Same.l0, if_neg hil]⟩
theorem Same_f (l : List ByteArray) (hl : l.length ≤ 1000000) : ∃ k, mewsref02_Same.f k l l = some true := by
  obtain ⟨k, hk⟩ := same_loop (l.length + 1) l 0 (by omega) (by omega) hl
  exact ⟨k, by simp only [mewsref02_Same.f, if_true]; exact hk⟩
/-- Too much. -/
def farL (l : List ByteArray) : Bool := decide (∃ x ∈ l, 300 < x.size) || decide (100 < l.length)
theorem far_loop : ∀ (n : Nat) (l : List ByteArray) (i : Nat), l.length - i < n → i ≤ l.length → l.length ≤ 9223372036854775807 → ∃ k, mewslaw02_far.l0 k l l (l.length : Int) (i : Int) = some (decide (∃ x ∈ l.drop i, 300 < x.size) || decide (100 < l.length))
  | 0, l, i, h, hi, hl => by omega
  | n + 1, l, i, h, hi, hl => by
    have h0 : (0 : Int) ≤ (i : Int) := by omega
    by_cases hlt : i < l.length
    · have w1 : wrap64 ((i : Int) + 1) = ((i + 1 : Nat) : Int) := by unfold wrap64; omega
      have hil : (i : Int) < (l.length : Int) := by omega
      obtain ⟨x, hxx⟩ : ∃ x, x = l.getD i ⟨#[]⟩ := ⟨_, rfl⟩
      have hrd : rdOf ByteArray.empty l (i : Int) = x := by rw [hxx]; rfl
      have hdr : l.drop i = x :: l.drop (i + 1) := by rw [hxx, List.drop_eq_getElem_cons hlt]; simp [hlt]
      by_cases hb : 300 < x.size
      · have hb2 : (x.size : Int) > 300 := by omega
        refine ⟨1, ?_⟩
        simp only [mewslaw02_far.l0, if_pos hil, if_pos h0, hrd, if_pos hb2]
        rw [decide_eq_true (show ∃ x ∈ l.drop i, 300 < x.size from ⟨x, by rw [hdr]; simp, hb⟩)]
        rfl
      · have hb2 : ¬ ((x.size : Int) > 300) := by omega
        obtain ⟨k, hk⟩ := far_loop n l (i + 1) (by omega) (by omega) hl
        refine ⟨k + 1, ?_⟩
        simp only [mewslaw02_far.l0, if_pos hil, if_pos h0, hrd, if_neg hb2, w1]
        refine hk.trans ?_
        rw [hdr]
        simp [hb]
    · have hil : ¬ ((i : Int) < (l.length : Int)) := by omega
      refine ⟨1, ?_⟩
      simp only [mewslaw02_far.l0, if_neg hil]
      rw [List.drop_of_length_le (by omega)]
      have : decide ((l.length : Int) > 100) = decide (100 < l.length) := by congr 1; simp; omega
      rw [this]
      simp
theorem far_f (l : List ByteArray) (hl : l.length ≤ 9223372036854775807) : ∃ k, mewslaw02_far.f k l = some (farL l) := by
  obtain ⟨k, hk⟩ := far_loop (l.length + 1) l 0 (by omega) (by omega) hl
  exact ⟨k, hk⟩
end Go.Proofs.Ytamdbacmpglbiaa.Glob.Q
