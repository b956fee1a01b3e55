/-
  What a slice of strings that came in holds.
-/
import Derived.Test.YtamdbacmpglbiaaKit
import Derived.Test.YtamdbacmpglbiaaRows
import Derived.WalkKit
import Derived.ProofKit
import Derived.OpenShut
import Derived.Lib.SmallJoins
import Derived.Deep.Slices
import Derived.SliceStrings
import Derived.Carry
namespace Go.Proofs.Ytamdbacmpglbiaa.Kit
open Go.ChangeShapes Go.WideShapes Go.ChangeAt Go.RowKit Go.WideMaps Go.WideElems Go.Joins Go.Deep
open Go.ChangeMaps (open_string shut_string)
open Go.Proofs.YtamdbacmpglbiaaW.PrintWords
/-- What a slice of strings that came in holds. -/
theorem strs_in {H : Type} {enc : TypeId × Value → H} {W : World} {a : Option Addr} {len cap : Nat} {d : DataW H} {ps : List MemPlace} (h : DataW.Trod enc Try.prog W 0 (fun _ => true) true 26 (.slice a len cap) d ps) :
    ∃ l : List ByteArray, l.length = len ∧ l.length ≤ cap ∧ l.length ≤ 9223372036854775807 ∧ Kd.C Kd.string W a len l := by
  obtain ⟨fuel, hf⟩ := h
  rcases open_strings Try.underlying26 Try.underlying9 (by kernel_rfl) hf with ⟨hcs, hx⟩ | ⟨x, l', c', ss, hcs, _, hl, hm, hz, hx, hcell, hws⟩
  · simp [Value.cells] at hcs
    obtain ⟨rfl, rfl, rfl⟩ := hcs
    refine ⟨[], rfl, Nat.le_refl _, by simp, ?_⟩
    exact Kd.C_of_reads (d := (⟨#[]⟩ : ByteArray)) (h1 := fun _ => rfl) ⟨rfl, by simp, fun h => absurd h (by simp)⟩
  · simp [Value.cells] at hcs
    obtain ⟨rfl, rfl, rfl⟩ := hcs
    simp only [if_true] at hz
    have hml : cap ≤ 9223372036854775807 := Nat.le_trans hm (by decide)
    have hlen : (ss.take len).length = len := by simp; omega
    refine ⟨ss.take len, hlen, by omega, by omega, ?_⟩
    refine Kd.C_of_reads (d := (⟨#[]⟩ : ByteArray)) (h1 := fun _ => rfl) ⟨hlen, by omega, fun _ => ⟨x, rfl, fun j hj => ?_⟩⟩
    rw [hcell j (by omega)]
    congr 2
    simp only [List.getD_eq_getElem?_getD, List.getElem?_take, hj, if_true]
    rfl
end Go.Proofs.Ytamdbacmpglbiaa.Kit
