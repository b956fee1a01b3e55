/-
  Whether a text matches: the run that takes one byte more answers as the parts do, in the words of the other law.
-/
import Derived.Test.YtamdbacmpglbiaaGlobAll
import Derived.Test.YtamdbacmpglbiaaPGlobQuotesx
namespace Go.Proofs.Ytamdbacmpglbiaa.Glob.Q
open Go.Shelf Go.RowKit Go.Proofs.YtamdbacmpglbiaaW.PrintWords Go.Proofs.YtamdbacmpglbiaaW.PrintLast Go.Proofs.YtamdbacmpglbiaaW.PrintMore Kit
open PGlobQuotes (glob_class.l0 glob_class.j0 glob_class.j1 glob_class.j3 glob_class.j4 glob_class.f glob_one.f glob_Match.l0 glob_Match.l1 glob_Match.f)
set_option linter.unusedVariables false
set_option linter.unusedSimpArgs false
theorem beq_single (f : Nat → Bool) (b c : Int) (h0 : 0 ≤ c) : addB b b f c.toNat = (f c.toNat || (b == c)) := by
  unfold addB
  have : ((c.toNat : Nat) : Int) = c := Int.toNat_of_nonneg h0
  rw [this]
  congr 1
  by_cases h : b = c
  · subst h; simp
  · have h2 : (b == c) = false := by simpa using h
    rw [h2]
    by_cases h3 : b ≤ c
    · simp only [h3, decide_true, Bool.true_and, decide_eq_false_iff_not]; omega
    · simp [h3]
theorem class_loop : ∀ (n : Nat) (p : ByteArray) (x1 c : Int) (t : Bool) (f : Nat → Bool), (p.size : Int) - x1 < n → 0 ≤ x1 → x1 ≤ (p.size : Int) → p.size ≤ 1000000 → 0 ≤ c → c ≤ 255 →
    ∃ k, glob_class.l0 k p x1 c t (f c.toNat) = some ((clsS n p x1 f).1 c.toNat != t, mn (wrap64 ((clsS n p x1 f).2 + 1)) (p.size : Int))
  | 0, p, x1, c, t, f, h, h0, h1, hp, hc0, hc1 => by omega
  | n + 1, p, x1, c, t, f, h, h0, h1, hp, hc0, hc1 => by
    have w1 : wrap64 (x1 + 1) = x1 + 1 := wrap_small (by omega) (by omega)
    have w2 : wrap64 (x1 + 2) = x1 + 2 := wrap_small (by omega) (by omega)
    have w3 : wrap64 (x1 + 3) = x1 + 3 := wrap_small (by omega) (by omega)
    have g0 : (0 : Int) ≤ x1 + 1 := by omega
    have g2 : (0 : Int) ≤ x1 + 2 := by omega
    by_cases hlt : x1 < (p.size : Int)
    · by_cases h93 : bt p x1 = 93
      · refine ⟨2, ?_⟩
        unfold clsS
        rw [if_neg (fun h => h.2 h93)]
        simp [glob_class.l0, glob_class.j3, hlt, h0, h93]
      · have hne : (bt p x1 != 93) = true := by simpa using h93
        have hn := itemP_next p x1
        have hr := itemP_range p x1
        obtain ⟨k, hk⟩ := class_loop n p (itemP p x1).2.2 c t (addB (itemP p x1).1 (itemP p x1).2.1 f) (by omega) (by omega) (hn.2.2 hlt) hp hc0 hc1
        refine ⟨k + 3, ?_⟩
        unfold clsS
        rw [if_pos ⟨hlt, h93⟩, ← hk]
        clear hk hn hr
        have hcc : ((c.toNat : Nat) : Int) = c := Int.toNat_of_nonneg hc0
        simp only [glob_class.l0, glob_class.j3, glob_class.j4, hlt, h0, hne, if_true, w1, w2, w3, g0, g2, if_pos]
        unfold itemP
        by_cases hesc : bt p x1 = 92 ∧ x1 + 1 < (p.size : Int)
        · rw [if_pos hesc]
          simp only [beq_single _ _ _ hc0]
          cases hf : f c.toNat <;> simp [hesc.1, hesc.2]
        · rw [if_neg hesc]
          have hD : (decide (x1 + 1 < (p.size : Int)) = true) = (x1 + 1 < (p.size : Int)) := by simp
          by_cases hr2 : x1 + 2 < (p.size : Int) ∧ bt p (x1 + 1) = 45 ∧ bt p (x1 + 2) ≠ 93
          · obtain ⟨r1, r2, r3⟩ := hr2
            have r4 : x1 + 1 < (p.size : Int) := by omega
            have ha : bt p x1 ≠ 92 := fun h => hesc ⟨h, r4⟩
            rw [if_pos (show x1 + 2 < (p.size : Int) ∧ bt p (x1 + 1) = 45 ∧ bt p (x1 + 2) ≠ 93 from ⟨r1, r2, r3⟩)]
            simp only [if_neg ha, Bool.false_eq_true, if_false, if_pos r1, if_pos r4, if_pos r2, if_neg r3, addB, hcc]
            by_cases hlo : bt p x1 < bt p (x1 + 2)
            · have m1 : mn (bt p x1) (bt p (x1 + 2)) = bt p x1 := by unfold mn; rw [if_neg (by omega)]
              have m2 : mx (bt p x1) (bt p (x1 + 2)) = bt p (x1 + 2) := by unfold mx; rw [if_pos hlo]
              rw [m1, m2, if_pos hlo]
              try simp only [hcc]
              cases hf : f c.toNat
              · by_cases hc2 : bt p x1 ≤ c <;> simp [hc2]
              · simp
            · have m1 : mn (bt p x1) (bt p (x1 + 2)) = bt p (x1 + 2) := by
                unfold mn
                by_cases h : bt p (x1 + 2) < bt p x1
                · rw [if_pos h]
                · rw [if_neg h]; omega
              have m2 : mx (bt p x1) (bt p (x1 + 2)) = bt p x1 := by unfold mx; rw [if_neg hlo]
              rw [m1, m2, if_neg hlo]
              try simp only [hcc]
              cases hf : f c.toNat
              · by_cases hc2 : bt p (x1 + 2) ≤ c <;> simp [hc2]
              · simp
          · rw [if_neg hr2]
            simp only [beq_single _ _ _ hc0]
            have e0 : (if f c.toNat = true then glob_class.l0 k p (x1 + 1) c t true else glob_class.l0 k p (x1 + 1) c t (bt p x1 == c)) = glob_class.l0 k p (x1 + 1) c t (f c.toNat || bt p x1 == c) := by cases f c.toNat <;> simp
            by_cases ha : bt p x1 = 92
            · have hb : ¬ x1 + 1 < (p.size : Int) := fun h => hesc ⟨ha, h⟩
              have hb2 : ¬ x1 + 2 < (p.size : Int) := by omega
              simp only [if_pos ha, hD, if_neg hb, if_neg hb2, e0]
            · simp only [if_neg ha, Bool.false_eq_true, if_false]
              by_cases hb2 : x1 + 2 < (p.size : Int)
              · have hb : x1 + 1 < (p.size : Int) := by omega
                simp only [if_pos hb2, if_pos hb]
                by_cases h45 : bt p (x1 + 1) = 45
                · have h93b : bt p (x1 + 2) = 93 := Classical.byContradiction fun h => hr2 ⟨hb2, h45, h⟩
                  simp only [if_pos h45, if_pos h93b, e0]
                · simp only [if_neg h45, e0]
              · simp only [if_neg hb2, e0]
    · refine ⟨2, ?_⟩
      unfold clsS
      rw [if_neg (fun h => hlt h.1)]
      simp [glob_class.l0, glob_class.j3, hlt]
theorem class_f (p : ByteArray) (i c : Int) (h0 : 0 ≤ i) (h1 : i ≤ (p.size : Int)) (hp : p.size ≤ 1000000) (hc0 : 0 ≤ c) (hc1 : c ≤ 255) :
    ∃ k, glob_class.f k p i c = some (clsF p i c.toNat, mn (clsN p i) (p.size : Int)) := by
  have w1 : wrap64 (i + 1) = i + 1 := wrap_small (by omega) (by omega)
  by_cases ht : clsT p i = true
  · have ht' := ht
    simp only [clsT, Bool.and_eq_true, decide_eq_true_eq] at ht'
    obtain ⟨hlt, h94⟩ := ht'
    obtain ⟨k, hk⟩ := class_loop (p.size + 1) p (i + 1) c true noB (by omega) (by omega) (by omega) hp hc0 hc1
    have hr := clsS_range (p.size + 1) p (i + 1) noB (by omega) (by omega)
    refine ⟨k + 2, ?_⟩
    have e : wrap64 ((clsS (p.size + 1) p (i + 1) noB).2 + 1) = (clsS (p.size + 1) p (i + 1) noB).2 + 1 := wrap_small (by omega) (by omega)
    rw [e] at hk
    simp only [glob_class.f, glob_class.j0, glob_class.j1, if_pos hlt, if_pos h0, h94, if_true, w1]
    refine hk.trans ?_
    simp only [clsF, clsN, clsR, clsI, ht, if_true, Bool.bne_true]
    rfl
  · have ht' : clsT p i = false := by simpa using ht
    obtain ⟨k, hk⟩ := class_loop (p.size + 1) p i c false noB (by omega) (by omega) (by omega) hp hc0 hc1
    have hr := clsS_range (p.size + 1) p i noB (by omega) (by omega)
    refine ⟨k + 2, ?_⟩
    have e : wrap64 ((clsS (p.size + 1) p i noB).2 + 1) = (clsS (p.size + 1) p i noB).2 + 1 := wrap_small (by omega) (by omega)
    rw [e] at hk
    have e2 : glob_class.f (k + 2) p i c = glob_class.l0 k p i c false false := by
      by_cases hlt : i < (p.size : Int)
      · have h94 : (bt p i == 94) = false := by simpa [clsT, hlt] using ht'
        simp only [glob_class.f, glob_class.j0, glob_class.j1, if_pos hlt, if_pos h0, h94, Bool.false_eq_true, if_false]
      · simp only [glob_class.f, glob_class.j0, glob_class.j1, if_neg hlt, Bool.false_eq_true, if_false]
    rw [e2]
    refine hk.trans ?_
    simp only [clsF, clsN, clsR, clsI, ht', Bool.false_eq_true, if_false, Bool.bne_false]
    rfl
/-- Whether a byte is what a part is, which is no run. -/
def hit (x : PartT) (c : Int) : Bool := decide (x.1 = 2) || x.2 c.toNat
theorem oneB_is (b c : Int) (hc0 : 0 ≤ c) : oneB b c.toNat = (b == c) := by
  unfold oneB
  rw [Int.toNat_of_nonneg hc0]
  by_cases h : c = b
  · subst h; simp
  · have : (b == c) = false := by simpa using fun h2 => h h2.symm
    rw [this]; simpa using h
theorem one_f (p : ByteArray) (i c : Int) (h0 : 0 ≤ i) (h1 : i < (p.size : Int)) (hp : p.size ≤ 1000000) (hc0 : 0 ≤ c) (hc1 : c ≤ 255) (hs : bt p i ≠ 42) :
    ∃ k, glob_one.f k p i c = some (hit (partAt p i).1 c, mn (partAt p i).2 (p.size : Int)) := by
  have w1 : wrap64 (i + 1) = i + 1 := wrap_small (by omega) (by omega)
  have w2 : wrap64 (i + 2) = i + 2 := wrap_small (by omega) (by omega)
  have g1 : (0 : Int) ≤ i + 1 := by omega
  have m1 : mn (i + 1) (p.size : Int) = i + 1 := by unfold mn; rw [if_neg (by omega)]
  by_cases h63 : bt p i = 63
  · refine ⟨0, ?_⟩
    simp [glob_one.f, partAt, hit, h0, h1, h63, w1, m1]
  · by_cases h91 : bt p i = 91
    · obtain ⟨k, hk⟩ := class_f p (i + 1) c (by omega) (by omega) hp hc0 hc1
      refine ⟨k, ?_⟩
      simp [glob_one.f, partAt, hit, h0, h1, h91, w1, hk]
    · by_cases h92 : bt p i = 92
      · by_cases hb : i + 1 < (p.size : Int)
        · have m2 : mn (i + 2) (p.size : Int) = i + 2 := by unfold mn; rw [if_neg (by omega)]
          refine ⟨0, ?_⟩
          simp [glob_one.f, partAt, hit, h0, h1, h92, w1, w2, hb, g1, m2, oneB_is _ _ hc0]
        · refine ⟨0, ?_⟩
          simp [glob_one.f, partAt, hit, h0, h1, h92, w1, w2, hb, g1, m1, oneB_is _ _ hc0]
      · refine ⟨0, ?_⟩
        simp [glob_one.f, partAt, hit, h0, h1, h92, h63, h91, hs, w1, w2, g1, m1, oneB_is _ _ hc0]
/-- What a list of parts matches: from place i of the text to its end. -/
def Mt : List PartT → ByteArray → Nat → Prop
  | [], s, i => i = s.size
  | x :: l, s, i => if x.1 = 1 then ∃ j, i ≤ j ∧ Mt l s j else i < s.size ∧ hit x (bt s (i : Int)) = true ∧ Mt l s (i + 1)
theorem Mt_le : ∀ (l : List PartT) (s : ByteArray) (i : Nat), Mt l s i → i ≤ s.size
  | [], s, i, h => by simp only [Mt] at h; omega
  | x :: l, s, i, h => by
    unfold Mt at h
    split at h
    · obtain ⟨j, hj, hm⟩ := h
      have := Mt_le l s j hm
      omega
    · omega
theorem Mt_run {x : PartT} (hx : x.1 = 1) (l : List PartT) (s : ByteArray) (i : Nat) : Mt (x :: l) s i ↔ ∃ j, i ≤ j ∧ Mt l s j := by
  rw [Mt, if_pos hx]
theorem Mt_one {x : PartT} (hx : x.1 ≠ 1) (l : List PartT) (s : ByteArray) (i : Nat) : Mt (x :: l) s i ↔ i < s.size ∧ hit x (bt s (i : Int)) = true ∧ Mt l s (i + 1) := by
  rw [Mt, if_neg hx]
theorem nx_run {x : PartT} (hx : x.1 = 1) (s : ByteArray) (r : Nat → Bool) : ∀ j, nx x s r j = true ↔ ∃ i, i ≤ j ∧ r i = true
  | 0 => by
    simp only [nx, if_pos hx]
    constructor
    · intro h; exact ⟨0, Nat.le_refl _, h⟩
    · rintro ⟨i, hi, h⟩
      obtain rfl : i = 0 := by omega
      exact h
  | j + 1 => by
    simp only [nx, if_pos hx, Bool.or_eq_true, nx_run hx s r j]
    constructor
    · rintro (h | ⟨i, hi, h⟩)
      · exact ⟨j + 1, Nat.le_refl _, h⟩
      · exact ⟨i, by omega, h⟩
    · rintro ⟨i, hi, h⟩
      by_cases e : i = j + 1
      · subst e; exact Or.inl h
      · exact Or.inr ⟨i, by omega, h⟩
theorem nx_one {x : PartT} (hx : x.1 ≠ 1) (s : ByteArray) (r : Nat → Bool) (j : Nat) : nx x s r j = true ↔ ∃ i, j = i + 1 ∧ r i = true ∧ hit x (bt s (i : Int)) = true := by
  cases j with
  | zero => simp [nx, hx]
  | succ j =>
    simp only [nx, if_neg hx, Bool.and_eq_true, hit]
    constructor
    · intro h; exact ⟨j, rfl, h.1, h.2⟩
    · rintro ⟨i, e, h1, h2⟩
      obtain rfl : j = i := by omega
      exact ⟨h1, h2⟩
theorem reach_is : ∀ (l : List PartT) (s : ByteArray) (r : Nat → Bool), reach l s r s.size = true ↔ ∃ i, i ≤ s.size ∧ r i = true ∧ Mt l s i
  | [], s, r => by
    simp only [reach, Mt]
    exact ⟨fun h => ⟨s.size, Nat.le_refl _, h, rfl⟩, fun ⟨i, _, h, e⟩ => e ▸ h⟩
  | x :: l, s, r => by
    simp only [reach]
    rw [reach_is l s (nx x s r)]
    by_cases hx : x.1 = 1
    · constructor
      · rintro ⟨j, hj, hn, hm⟩
        obtain ⟨i, hi, hr⟩ := (nx_run hx s r j).1 hn
        exact ⟨i, by omega, hr, (Mt_run hx l s i).2 ⟨j, hi, hm⟩⟩
      · rintro ⟨i, hi, hr, hm⟩
        obtain ⟨j, hj, hm⟩ := (Mt_run hx l s i).1 hm
        exact ⟨j, Mt_le _ _ _ hm, (nx_run hx s r j).2 ⟨i, hj, hr⟩, hm⟩
    · constructor
      · rintro ⟨j, hj, hn, hm⟩
        obtain ⟨i, rfl, hr, hh⟩ := (nx_one hx s r j).1 hn
        exact ⟨i, by omega, hr, (Mt_one hx l s i).2 ⟨by omega, hh, hm⟩⟩
      · rintro ⟨i, hi, hr, hm⟩
        obtain ⟨h1, h2, h3⟩ := (Mt_one hx l s i).1 hm
        exact ⟨i + 1, by omega, (nx_one hx s r (i + 1)).2 ⟨i, rfl, hr, h2⟩, h3⟩
theorem matchP_is (p s : ByteArray) : matchP p s = true ↔ Mt (parts p) s 0 := by
  unfold matchP
  rw [reach_is]
  constructor
  · rintro ⟨i, _, h, hm⟩
    obtain rfl : i = 0 := by simpa [start] using h
    exact hm
  · intro h
    exact ⟨0, by omega, rfl, h⟩
/-- The parts from a place of the pattern on. -/
def pts (p : ByteArray) (a : Int) : List PartT := partsL (p.size + 1) p a
theorem partsL_nil (n : Nat) (p : ByteArray) (a : Int) (h : (p.size : Int) ≤ a) : partsL n p a = [] := by
  cases n with
  | zero => rfl
  | succ n => unfold partsL; rw [if_neg (by omega)]
theorem partsL_fuel : ∀ (n m : Nat) (p : ByteArray) (a : Int), 0 ≤ a → (p.size : Int) - a < n → (p.size : Int) - a < m → partsL n p a = partsL m p a
  | 0, m, p, a, h0, h1, h2 => by rw [partsL_nil _ p a (by omega), partsL_nil _ p a (by omega)]
  | n + 1, 0, p, a, h0, h1, h2 => by rw [partsL_nil _ p a (by omega), partsL_nil _ p a (by omega)]
  | n + 1, m + 1, p, a, h0, h1, h2 => by
    unfold partsL
    by_cases h : a < (p.size : Int)
    · have hn := partAt_next p a h0 h
      rw [if_pos h, if_pos h, partsL_fuel n m p (partAt p a).2 (by omega) (by omega) (by omega)]
    · rw [if_neg h, if_neg h]
theorem pts_nil (p : ByteArray) (a : Int) (h : (p.size : Int) ≤ a) : pts p a = [] := partsL_nil _ p a h
theorem mn_is (a b : Int) : mn a b = min a b := by unfold mn; split <;> omega
theorem pts_cons (p : ByteArray) (a : Int) (h0 : 0 ≤ a) (h : a < (p.size : Int)) : pts p a = (partAt p a).1 :: pts p (mn (partAt p a).2 (p.size : Int)) := by
  have hn := partAt_next p a h0 h
  have hm := mn_is (partAt p a).2 (p.size : Int)
  have e : pts p a = (partAt p a).1 :: partsL p.size p (partAt p a).2 := by
    unfold pts
    rw [partsL, if_pos h]
  rw [e]
  congr 1
  unfold pts
  by_cases hb : (partAt p a).2 ≤ (p.size : Int)
  · rw [hm, show min (partAt p a).2 (p.size : Int) = (partAt p a).2 by omega]
    exact partsL_fuel _ _ p _ (by omega) (by omega) (by omega)
  · rw [partsL_nil _ p _ (by omega), partsL_nil _ p _ (by omega)]
theorem partAt_run (p : ByteArray) (a : Int) (h : bt p a = 42) : partAt p a = ((1, noB), a + 1) := by unfold partAt; rw [if_pos h]
theorem partAt_single (p : ByteArray) (a : Int) (h : bt p a ≠ 42) : (partAt p a).1.1 ≠ 1 := by
  unfold partAt
  rw [if_neg h]
  split
  · simp
  · split
    · simp
    · split <;> simp
theorem one_ge (p : ByteArray) (i c : Int) {k : Nat} {r : Bool × Int} (h : glob_one.f k p i c = some r) : ∀ m, k ≤ m → glob_one.f m p i c = some r := by
  intro m hm
  induction m with
  | zero => obtain rfl : k = 0 := by omega
            exact h
  | succ m ih =>
    by_cases e : k = m + 1
    · subst e; exact h
    · exact PGlobQuotes.glob_one.mono p i c m _ (ih (by omega))
theorem l0_ge {p s : ByteArray} {a i r f : Int} {k : Nat} {b : Bool} (h : glob_Match.l0 k p s a i r f = some b) : ∀ m, k ≤ m → glob_Match.l0 m p s a i r f = some b := by
  intro m hm
  induction m with
  | zero => obtain rfl : k = 0 := by omega
            exact h
  | succ m ih =>
    by_cases e : k = m + 1
    · subst e; exact h
    · exact (PGlobQuotes.glob_Match.mono_l m).1 _ _ _ _ _ _ _ (ih (by omega))
/-- Behind the text: runs alone may follow. -/
theorem tail_is : ∀ (n : Nat) (p s : ByteArray) (a : Int) (b : Bool), (p.size : Int) - a < n → 0 ≤ a → a ≤ (p.size : Int) → p.size ≤ 1000000 → (b = true ↔ Mt (pts p a) s s.size) → ∃ k, glob_Match.l1 k p a = some b
  | 0, p, s, a, b, h, h0, h1, hp, hb => by omega
  | n + 1, p, s, a, b, h, h0, h1, hp, hb => by
    have w1 : wrap64 (a + 1) = a + 1 := wrap_small (by omega) (by omega)
    by_cases hlt : a < (p.size : Int)
    · by_cases h42 : bt p a = 42
      · have e := pts_cons p a h0 hlt
        rw [partAt_run p a h42] at e
        have hm : mn (a + 1) (p.size : Int) = a + 1 := by rw [mn_is]; omega
        simp only [hm] at e
        rw [e, Mt_run rfl] at hb
        obtain ⟨k, hk⟩ := tail_is n p s (a + 1) b (by omega) (by omega) (by omega) hp (hb.trans ⟨fun ⟨j, hj, hm⟩ => by have := Mt_le _ _ _ hm; rw [show s.size = j by omega]; exact hm, fun h => ⟨_, Nat.le_refl _, h⟩⟩)
        exact ⟨k + 1, by simp only [glob_Match.l1, if_pos hlt, if_pos h0, if_pos h42, w1]; exact hk⟩
      · have e := pts_cons p a h0 hlt
        rw [e, Mt_one (partAt_single p a h42)] at hb
        obtain rfl : b = false := by
          cases b with
          | false => rfl
          | true => have := (hb.1 rfl).1; omega
        refine ⟨1, ?_⟩
        simp only [glob_Match.l1, if_pos hlt, if_pos h0, if_neg h42]
        have : (a == (p.size : Int)) = false := by simp; omega
        rw [this]
    · refine ⟨1, ?_⟩
      simp only [glob_Match.l1, if_neg hlt]
      rw [pts_nil p a (by omega)] at hb
      obtain rfl : b = true := hb.2 rfl
      have : (a == (p.size : Int)) = true := by simp; omega
      rw [this]
theorem wrap_nat (x : Nat) (h : x ≤ 2000000) : wrap64 ((x : Int) + 1) = ((x + 1 : Nat) : Int) := by rw [wrap_small (by omega) (by omega)]; omega
/-- With a run behind: what it answers is whether the parts behind the run match from some place on. -/
theorem run_loop (p s : ByteArray) (a i r f : Nat) (b : Bool) (hp : p.size ≤ 1000000) (hs : s.size ≤ 1000000) (ha : a ≤ p.size) (hi : i ≤ s.size) (hr : r ≤ a) (hf : f ≤ i)
    (C1 : ∀ j, Mt (pts p r) s j → Mt (pts p a) s (j + (i - f))) (C2 : Mt (pts p a) s i → Mt (pts p r) s f) (hb : b = true ↔ ∃ j, f ≤ j ∧ Mt (pts p r) s j) :
    ∃ k, glob_Match.l0 k p s a i r f = some b := by
  have h0 : (0 : Int) ≤ (a : Int) := by omega
  have h0i : (0 : Int) ≤ (i : Int) := by omega
  have hrn : ¬ ((r : Int) < 0) := by omega
  have wf : wrap64 ((f : Int) + 1) = ((f + 1 : Nat) : Int) := wrap_nat f (by omega)
  have wa : wrap64 ((a : Int) + 1) = ((a + 1 : Nat) : Int) := wrap_nat a (by omega)
  have wi : wrap64 ((i : Int) + 1) = ((i + 1 : Nat) : Int) := wrap_nat i (by omega)
  by_cases hilt : i < s.size
  · have hil : (i : Int) < (s.size : Int) := by omega
    -- one byte more for the run
    have back : ¬ Mt (pts p a) s i → ∃ k, glob_Match.l0 k p s r (f + 1 : Nat) r (f + 1 : Nat) = some b := by
      intro hno
      refine run_loop p s r (f + 1) r (f + 1) b hp hs (by omega) (by omega) (Nat.le_refl _) (Nat.le_refl _) (fun j hj => by simpa using hj) (fun h => h) ?_
      rw [hb]
      constructor
      · rintro ⟨j, hj, hm⟩
        by_cases e : j = f
        · subst e
          have := C1 j hm
          rw [show j + (i - j) = i by omega] at this
          exact absurd this hno
        · exact ⟨j, by omega, hm⟩
      · rintro ⟨j, hj, hm⟩; exact ⟨j, by omega, hm⟩
    by_cases halt : a < p.size
    · have hal : (a : Int) < (p.size : Int) := by omega
      have hn := partAt_next p a h0 hal
      have hpc := pts_cons p a h0 hal
      by_cases h42 : bt p (a : Int) = 42
      · rw [partAt_run p a h42] at hpc
        have hm : mn ((a : Int) + 1) (p.size : Int) = ((a + 1 : Nat) : Int) := by rw [mn_is]; omega
        simp only [hm] at hpc
        rw [hpc] at C1 C2
        obtain ⟨k, hk⟩ := run_loop p s (a + 1) i (a + 1) i b hp hs (by omega) hi (Nat.le_refl _) (Nat.le_refl _) (fun j hj => by simpa using hj) (fun h => h) (by
          rw [hb]
          constructor
          · rintro ⟨j, hj, hm⟩
            obtain ⟨j2, hj2, hm2⟩ := (Mt_run rfl _ _ _).1 (C1 j hm)
            exact ⟨j2, by omega, hm2⟩
          · rintro ⟨j, hj, hm⟩
            exact ⟨f, Nat.le_refl _, C2 ((Mt_run rfl _ _ _).2 ⟨j, hj, hm⟩)⟩)
        refine ⟨k + 1, ?_⟩
        simp only [glob_Match.l0, if_pos hil, if_pos hal, if_pos h0, if_pos h42, wa]
        exact hk
      · obtain ⟨kc, hc⟩ := one_f p a (bt s i) h0 hal hp (bt_range s i).1 (bt_range s i).2 h42
        obtain ⟨nx', hnx⟩ : ∃ n : Nat, mn (partAt p a).2 (p.size : Int) = (n : Int) := ⟨(mn (partAt p a).2 (p.size : Int)).toNat, by rw [mn_is]; omega⟩
        have hnr : a < nx' ∧ nx' ≤ p.size := by rw [mn_is] at hnx; omega
        rw [hnx] at hpc hc
        have hx := partAt_single p a h42
        cases hh : hit (partAt p a).1 (bt s i) with
        | true =>
          rw [hh] at hc
          obtain ⟨k, hk⟩ := run_loop p s nx' (i + 1) r f b hp hs (by omega) (by omega) (by omega) (by omega)
            (fun j hj => by
              have := C1 j hj
              rw [hpc] at this
              have := ((Mt_one hx _ _ _).1 this).2.2
              rwa [show j + (i + 1 - f) = j + (i - f) + 1 by omega])
            (fun h => C2 (by rw [hpc]; exact (Mt_one hx _ _ _).2 ⟨hilt, hh, h⟩)) hb
          refine ⟨max k kc + 1, ?_⟩
          simp only [glob_Match.l0, if_pos hil, if_pos hal, if_pos h0, if_neg h42, if_pos h0i, one_ge p _ _ hc (max k kc) (by omega), Option.bind_some, if_true, wi]
          exact l0_ge hk _ (by omega)
        | false =>
          rw [hh] at hc
          obtain ⟨k, hk⟩ := back (by rw [hpc]; intro h; have := ((Mt_one hx _ _ _).1 h).2.1; rw [hh] at this; cases this)
          refine ⟨max k kc + 1, ?_⟩
          simp only [glob_Match.l0, if_pos hil, if_pos hal, if_pos h0, if_neg h42, if_pos h0i, one_ge p _ _ hc (max k kc) (by omega), Option.bind_some, Bool.false_eq_true, if_false, if_neg hrn, wf]
          exact l0_ge hk _ (by omega)
    · have hal : ¬ ((a : Int) < (p.size : Int)) := by omega
      obtain ⟨k, hk⟩ := back (by rw [pts_nil p a (by omega)]; intro h; simp only [Mt] at h; omega)
      refine ⟨k + 1, ?_⟩
      simp only [glob_Match.l0, if_pos hil, if_neg hal, if_neg hrn, wf]
      exact hk
  · have hil : ¬ ((i : Int) < (s.size : Int)) := by omega
    have hie : i = s.size := by omega
    obtain ⟨k, hk⟩ := tail_is (p.size + 1) p s a b (by omega) h0 (by omega) hp (by
      rw [hb]
      constructor
      · rintro ⟨j, hj, hm⟩
        have h1 := C1 j hm
        have h2 := Mt_le _ _ _ h1
        rw [show j + (i - f) = s.size by omega] at h1
        exact h1
      · intro h
        exact ⟨f, Nat.le_refl _, C2 (by rw [hie]; exact h)⟩)
    refine ⟨k + 1, ?_⟩
    simp only [glob_Match.l0, if_neg hil]
    exact hk
termination_by (p.size + 1 - r, s.size - f, s.size - i)
decreasing_by
  all_goals simp_wf
  all_goals simp only [Prod.lex_def, true_and]
  all_goals omega
/-- With no run behind. -/
theorem first_loop : ∀ (n : Nat) (p s : ByteArray) (a i f : Nat) (b : Bool) (hn : s.size - i < n) (hp : p.size ≤ 1000000) (hs : s.size ≤ 1000000) (ha : a ≤ p.size) (hi : i ≤ s.size) (hb : b = true ↔ Mt (pts p a) s i),
    ∃ k, glob_Match.l0 k p s a i (-1) f = some b
  | 0, p, s, a, i, f, b, hn, hp, hs, ha, hi, hb => by omega
  | n + 1, p, s, a, i, f, b, hn, hp, hs, ha, hi, hb => by
    have h0 : (0 : Int) ≤ (a : Int) := by omega
    have h0i : (0 : Int) ≤ (i : Int) := by omega
    have hrn : ((-1 : Int) < 0) := by omega
    have wa : wrap64 ((a : Int) + 1) = ((a + 1 : Nat) : Int) := wrap_nat a (by omega)
    have wi : wrap64 ((i : Int) + 1) = ((i + 1 : Nat) : Int) := wrap_nat i (by omega)
    by_cases hilt : i < s.size
    · have hil : (i : Int) < (s.size : Int) := by omega
      by_cases halt : a < p.size
      · have hal : (a : Int) < (p.size : Int) := by omega
        have hnn := partAt_next p a h0 hal
        have hpc := pts_cons p a h0 hal
        by_cases h42 : bt p (a : Int) = 42
        · rw [partAt_run p a h42] at hpc
          have hm : mn ((a : Int) + 1) (p.size : Int) = ((a + 1 : Nat) : Int) := by rw [mn_is]; omega
          simp only [hm] at hpc
          rw [hpc, Mt_run rfl] at hb
          obtain ⟨k, hk⟩ := run_loop p s (a + 1) i (a + 1) i b hp hs (by omega) hi (Nat.le_refl _) (Nat.le_refl _) (fun j hj => by simpa using hj) (fun h => h) hb
          refine ⟨k + 1, ?_⟩
          simp only [glob_Match.l0, if_pos hil, if_pos hal, if_pos h0, if_pos h42, wa]
          exact hk
        · obtain ⟨kc, hc⟩ := one_f p a (bt s i) h0 hal hp (bt_range s i).1 (bt_range s i).2 h42
          obtain ⟨nx', hnx⟩ : ∃ n : Nat, mn (partAt p a).2 (p.size : Int) = (n : Int) := ⟨(mn (partAt p a).2 (p.size : Int)).toNat, by rw [mn_is]; omega⟩
          have hnr : a < nx' ∧ nx' ≤ p.size := by rw [mn_is] at hnx; omega
          rw [hnx] at hpc hc
          have hx := partAt_single p a h42
          rw [hpc, Mt_one hx] at hb
          cases hh : hit (partAt p a).1 (bt s i) with
          | true =>
            rw [hh] at hc
            obtain ⟨k, hk⟩ := first_loop n p s nx' (i + 1) f b (by omega) hp hs (by omega) (by omega) (hb.trans ⟨fun h => h.2.2, fun h => ⟨hilt, hh, h⟩⟩)
            refine ⟨max k kc + 1, ?_⟩
            simp only [glob_Match.l0, if_pos hil, if_pos hal, if_pos h0, if_neg h42, if_pos h0i, one_ge p _ _ hc (max k kc) (by omega), Option.bind_some, if_true, wi]
            exact l0_ge hk _ (by omega)
          | false =>
            rw [hh] at hc hb
            obtain rfl : b = false := by
              cases b with
              | false => rfl
              | true => have := (hb.1 rfl).2.1; cases this
            refine ⟨kc + 1, ?_⟩
            simp only [glob_Match.l0, if_pos hil, if_pos hal, if_pos h0, if_neg h42, if_pos h0i, hc, Option.bind_some, Bool.false_eq_true, if_false, if_pos hrn]
      · have hal : ¬ ((a : Int) < (p.size : Int)) := by omega
        rw [pts_nil p a (by omega)] at hb
        obtain rfl : b = false := by
          cases b with
          | false => rfl
          | true => have := hb.1 rfl; simp only [Mt] at this; omega
        refine ⟨1, ?_⟩
        simp only [glob_Match.l0, if_pos hil, if_neg hal, if_pos hrn]
    · have hil : ¬ ((i : Int) < (s.size : Int)) := by omega
      obtain rfl : i = s.size := by omega
      obtain ⟨k, hk⟩ := tail_is (p.size + 1) p s a b (by omega) h0 (by omega) hp hb
      refine ⟨k + 1, ?_⟩
      simp only [glob_Match.l0, if_neg hil]
      exact hk
/-- Match answers as the parts do. -/
theorem Match_f (p s : ByteArray) (hp : p.size ≤ 1000000) (hs : s.size ≤ 1000000) : ∃ k, glob_Match.f k p s = some (matchP p s) := by
  obtain ⟨k, hk⟩ := first_loop (s.size + 1) p s 0 0 0 (matchP p s) (by omega) hp hs (by omega) (by omega) (by rw [matchP_is]; rfl)
  exact ⟨k, hk⟩
end Go.Proofs.Ytamdbacmpglbiaa.Glob.Q
