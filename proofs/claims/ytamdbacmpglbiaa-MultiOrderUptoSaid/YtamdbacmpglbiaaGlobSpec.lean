/-
  Patterns, plainly: the parts of a pattern, the bytes of a class, the 257 cells of a part.
-/
import Derived.Test.YtamdbacmpglbiaaKit
namespace Go.Proofs.Ytamdbacmpglbiaa.Glob
open Go.Shelf Go.RowKit Go.Proofs.YtamdbacmpglbiaaW.PrintWords Go.Proofs.YtamdbacmpglbiaaW.PrintLast Go.Proofs.YtamdbacmpglbiaaW.PrintMore Kit
set_option linter.unusedVariables false
/-- The cells of a part: its kind, and which bytes it has. -/
def pcL (k : Int) (f : Nat → Bool) : List Value := Value.int .i64 k :: (List.range 256).map fun c => Value.bool (f c)
def pc (k : Int) (f : Nat → Bool) : Array Value := (pcL k f).toArray
theorem pc_size (k : Int) (f : Nat → Bool) : (pc k f).size = 257 := by simp [pc, pcL]
theorem pc_kind (k : Int) (f : Nat → Bool) : (pc k f)[0]? = some (.int .i64 k) := by simp [pc, pcL]
theorem pc_has (k : Int) (f : Nat → Bool) (c : Nat) (hc : c < 256) : (pc k f)[1 + c]? = some (.bool (f c)) := by
  rw [Nat.add_comm]; simp [pc, pcL, hc]
theorem pc_one (k : Int) (f : Nat → Bool) : (pc k f).all (·.oneCell') = true := by
  unfold pc pcL
  rw [List.all_toArray]
  simp [Value.oneCell']
theorem pc_one' (k : Int) (f : Nat → Bool) : ∀ v ∈ (pc k f).toList, v.oneCell' = true := by
  intro v hv
  simp only [pc, pcL, List.mem_cons, List.mem_map] at hv
  rcases hv with rfl | ⟨c, _, rfl⟩ <;> rfl
theorem pc_setKind (k k' : Int) (f : Nat → Bool) : (pc k f).setIfInBounds 0 (.int .i64 k') = pc k' f := by simp [pc, pcL]
theorem pc_put (k : Int) (f : Nat → Bool) (c : Nat) (b : Bool) : (pc k f).setIfInBounds (1 + c) (.bool b) = pc k (fun j => if j = c then b else f j) := by
  rw [Nat.add_comm]
  unfold pc pcL
  rw [List.setIfInBounds_toArray, List.set_cons_succ]
  congr 2
  apply List.ext_getElem
  · simp
  · intro i h1 h2
    simp only [List.getElem_set, List.getElem_map, List.getElem_range]
    by_cases h : c = i
    · subst h; simp
    · rw [if_neg h, if_neg (Ne.symm h)]
theorem pc_congr (k : Int) (f f' : Nat → Bool) (h : ∀ c, c < 256 → f c = f' c) : pc k f = pc k f' := by
  unfold pc pcL
  congr 2
  apply List.map_congr_left
  intro c hc
  rw [h c (by simpa using hc)]
theorem zero97 : Try.zeroCells97 = pc 0 (fun _ => false) := by kernel_rfl
theorem size97 : (Try.prog.info? 97).map (·.size) = some 257 := by kernel_rfl
theorem info97 : (Try.prog.info? 97).map (fun i => (i.zero, i.size, i.bytes)) = some (some (.agg (pc 0 (fun _ => false))), 257, 264) := by kernel_rfl
/-- An item of a class: its bytes, from the one to the other, and where it goes on. -/
def itemP (p : ByteArray) (i : Int) : Int × Int × Int :=
  if bt p i = 92 ∧ i + 1 < (p.size : Int) then (bt p (i + 1), bt p (i + 1), i + 2)
  else if i + 2 < (p.size : Int) ∧ bt p (i + 1) = 45 ∧ bt p (i + 2) ≠ 93 then
    (if bt p i < bt p (i + 2) then (bt p i, bt p (i + 2), i + 3) else (bt p (i + 2), bt p i, i + 3))
  else (bt p i, bt p i, i + 1)
def addB (lo hi : Int) (f : Nat → Bool) : Nat → Bool := fun c => f c || (decide (lo ≤ (c : Int)) && decide ((c : Int) ≤ hi))
def clsS : Nat → ByteArray → Int → (Nat → Bool) → (Nat → Bool) × Int
  | 0, _, i, f => (f, i)
  | n + 1, p, i, f => if i < (p.size : Int) ∧ bt p i ≠ 93 then clsS n p (itemP p i).2.2 (addB (itemP p i).1 (itemP p i).2.1 f) else (f, i)
def clsT (p : ByteArray) (i : Int) : Bool := decide (i < (p.size : Int)) && (bt p i == 94)
def clsI (p : ByteArray) (i : Int) : Int := if clsT p i = true then i + 1 else i
def clsR (p : ByteArray) (i : Int) : (Nat → Bool) × Int := clsS (p.size + 1) p (clsI p i) (fun _ => false)
def clsF (p : ByteArray) (i : Int) : Nat → Bool := fun c => if clsT p i = true then !(clsR p i).1 c else (clsR p i).1 c
def clsN (p : ByteArray) (i : Int) : Int := (clsR p i).2 + 1
theorem itemP_next (p : ByteArray) (i : Int) : i < (itemP p i).2.2 ∧ (itemP p i).2.2 ≤ i + 3 ∧ (i < (p.size : Int) → (itemP p i).2.2 ≤ (p.size : Int)) := by
  unfold itemP
  by_cases h1 : bt p i = 92 ∧ i + 1 < (p.size : Int)
  · rw [if_pos h1]; exact ⟨by simp only; omega, by simp only; omega, fun _ => by simp only; omega⟩
  · rw [if_neg h1]
    by_cases h2 : i + 2 < (p.size : Int) ∧ bt p (i + 1) = 45 ∧ bt p (i + 2) ≠ 93
    · rw [if_pos h2]
      by_cases h3 : bt p i < bt p (i + 2)
      · rw [if_pos h3]; exact ⟨by simp only; omega, by simp only; omega, fun _ => by simp only; omega⟩
      · rw [if_neg h3]; exact ⟨by simp only; omega, by simp only; omega, fun _ => by simp only; omega⟩
    · rw [if_neg h2]; exact ⟨by simp only; omega, by simp only; omega, fun _ => by simp only; omega⟩
theorem itemP_range (p : ByteArray) (i : Int) : 0 ≤ (itemP p i).1 ∧ (itemP p i).1 ≤ 255 ∧ 0 ≤ (itemP p i).2.1 ∧ (itemP p i).2.1 ≤ 255 := by
  have a := bt_range p i
  have b := bt_range p (i + 1)
  have c := bt_range p (i + 2)
  unfold itemP
  split
  · exact ⟨b.1, b.2, b.1, b.2⟩
  · split
    · split
      · exact ⟨a.1, a.2, c.1, c.2⟩
      · exact ⟨c.1, c.2, a.1, a.2⟩
    · exact ⟨a.1, a.2, a.1, a.2⟩
theorem clsS_range : ∀ (n : Nat) (p : ByteArray) (i : Int) (f : Nat → Bool), 0 ≤ i → i ≤ (p.size : Int) → i ≤ (clsS n p i f).2 ∧ (clsS n p i f).2 ≤ (p.size : Int)
  | 0, p, i, f, h0, h1 => ⟨Int.le_refl _, h1⟩
  | n + 1, p, i, f, h0, h1 => by
    unfold clsS
    split
    · rename_i h
      have a := itemP_next p i
      have b := clsS_range n p (itemP p i).2.2 (addB (itemP p i).1 (itemP p i).2.1 f) (by omega) (a.2.2 h.1)
      exact ⟨by omega, b.2⟩
    · exact ⟨Int.le_refl _, h1⟩
/-- A part: its kind, and which bytes it has. -/
abbrev PartT := Int × (Nat → Bool)
def kPart : Kd PartT where
  sz := 257
  E := []
  K := fun _ x cs => cs = pcL x.1 x.2
  M := fun _ _ _ x cs => cs = pcL x.1 x.2
  K_len := fun h => by rw [h]; simp [pcL]
  K_one := fun h u hu => by
    rw [h] at hu
    exact pc_one' _ _ u hu
  K_below := fun _ h => h
  K_of_M := fun h => h
  M_mono := fun _ h => h
  M_bound := fun h => h
  M_move := fun _ h => h
  M_lower := fun _ h => h
def oneB (c : Int) : Nat → Bool := fun j => decide ((j : Int) = c)
def noB : Nat → Bool := fun _ => false
/-- The part at a place of a pattern, and where the next one begins. -/
def partAt (p : ByteArray) (i : Int) : PartT × Int :=
  if bt p i = 42 then ((1, noB), i + 1)
  else if bt p i = 63 then ((2, noB), i + 1)
  else if bt p i = 91 then ((3, clsF p (i + 1)), clsN p (i + 1))
  else if bt p i = 92 ∧ i + 1 < (p.size : Int) then ((4, oneB (bt p (i + 1))), i + 2)
  else ((4, oneB (bt p i)), i + 1)
def partsL : Nat → ByteArray → Int → List PartT
  | 0, _, _ => []
  | n + 1, p, i => if i < (p.size : Int) then (partAt p i).1 :: partsL n p (partAt p i).2 else []
def parts (p : ByteArray) : List PartT := partsL (p.size + 1) p 0
theorem clsN_range (p : ByteArray) (i : Int) (h0 : 0 ≤ i) (h1 : i ≤ (p.size : Int)) : i < clsN p i ∧ clsN p i ≤ (p.size : Int) + 1 := by
  unfold clsN clsR clsI
  split
  · rename_i h
    have hlt : i < (p.size : Int) := by
      simp only [clsT, Bool.and_eq_true, decide_eq_true_eq] at h; exact h.1
    have := clsS_range (p.size + 1) p (i + 1) (fun _ => false) (by omega) (by omega)
    omega
  · have := clsS_range (p.size + 1) p i (fun _ => false) h0 h1
    omega
theorem partAt_next (p : ByteArray) (i : Int) (h0 : 0 ≤ i) (h1 : i < (p.size : Int)) : i < (partAt p i).2 ∧ (partAt p i).2 ≤ (p.size : Int) + 1 := by
  have a := clsN_range p (i + 1) (by omega) (by omega)
  unfold partAt
  split
  · simp only; omega
  · split
    · simp only; omega
    · split
      · simp only; omega
      · split
        · simp only; omega
        · simp only; omega
end Go.Proofs.Ytamdbacmpglbiaa.Glob
