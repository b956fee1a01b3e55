/-
  A parameter that is a row of rows of texts, opened; what its bulk tells of its bytes.
-/
import Derived.Test.YtamdbacmpglbiaaTf
import Derived.Test.YtamdbacmpglbiaaStrsIn
import Derived.Test.YtamdbacmpglbiaaRows
namespace Go.Proofs.Ytamdbacmpglbiaa.Multi
open Go.ChangeShapes Go.WideShapes Go.ChangeAt Go.WideElems Go.Shelf Go.RowKit Go.Deep Go.Proofs.YtamdbacmpglbiaaW.PrintWords Go.Proofs.YtamdbacmpglbiaaW.PrintLast Go.Proofs.YtamdbacmpglbiaaW.PrintMore Kit
set_option linter.unusedVariables false
set_option linter.unusedSimpArgs false
theorem bulk_strs {H : Type} : ∀ l : List ByteArray, tot l = Rows.uptoBulkAll (H := H) (strs l)
  | [] => rfl
  | x :: l => by
    have h := bulk_strs (H := H) l
    have e : x.data.toList.length = x.size := by rw [Array.length_toList]; rfl
    show 1 + x.size + tot l = Rows.uptoBulkAll (DataW.lit (.string x.data.toList) :: strs l)
    simp only [Rows.uptoBulkAll, Rows.uptoBulk]
    omega
theorem bulk_sum {H : Type} : ∀ (ls : List (List ByteArray)) (ds : List (DataW H)), ls.length = ds.length → (∀ (j : Nat) (l : List ByteArray) (d : DataW H), ls[j]? = some l → ds[j]? = some d → tot l ≤ Rows.uptoBulk d) → tots ls ≤ Rows.uptoBulkAll ds
  | [], [], _, _ => Nat.zero_le _
  | [], _ :: _, h, _ => by simp at h
  | _ :: _, [], h, _ => by simp at h
  | l :: ls, d :: ds, h, hh => by
    have h1 := hh 0 l d rfl rfl
    have h2 := bulk_sum ls ds (by simpa using h) (fun j l' d' e1 e2 => hh (j + 1) l' d' (by simpa using e1) (by simpa using e2))
    simp only [tots, Rows.uptoBulkAll]
    omega
theorem strs_at {H : Type} {enc : TypeId × Value → H} {W : World} {n : Nat} {v : Value} {d : DataW H} {ps : List MemPlace} (h : DataW.trod enc Try.prog W 0 (fun _ => true) true n 26 [v] = some (d, ps)) :
    ∃ y : Hdr × List ByteArray, v = hdrV y.1 ∧ HdrOk W y.1 y.2 ∧ tot y.2 ≤ Rows.uptoBulk d := by
  rcases open_strings Try.underlying26 Try.underlying9 (by kernel_rfl) h with ⟨hcs, hx⟩ | ⟨x, l', c', ss, hcs, _, hl, hm, hz, hx, hcell, hws⟩
  · refine ⟨((none, 0, 0), []), by simpa [hdrV] using hcs, ⟨rfl, Nat.le_refl _, ?_⟩, Nat.zero_le _⟩
    exact (Kd.R_reads' (Kd.R_nil Kd.string 9 W 0 (fun _ => True))).2.2
  · simp only [if_true] at hz
    have hml : c' ≤ 9223372036854775807 := Nat.le_trans hm (by decide)
    have hlen : (ss.take l').length = l' := by simp; omega
    obtain ⟨hd, _⟩ := Prod.mk.inj hx
    refine ⟨((some x, l', c'), ss.take l'), by simpa [hdrV] using hcs, ⟨hlen.symm, by rw [hlen]; exact hl, ?_⟩, ?_⟩
    · rw [hlen]
      refine Kd.C_of_reads (d := (⟨#[]⟩ : ByteArray)) (h1 := fun _ => rfl) ⟨hlen, by omega, fun _ => ⟨x, rfl, fun j hj => ?_⟩⟩
      rw [hcell j (by omega)]
      congr 2
      simp only [List.getD_eq_getElem?_getD, List.getElem?_take, hj, if_true]
      rfl
    · rw [hd, bulk_strs (H := H)]
      simp only [Rows.uptoBulk]
      omega
theorem rows_in {H : Type} {enc : TypeId × Value → H} {W : World} {a : Option Addr} {len cap : Nat} {d : DataW H} {ps : List MemPlace} (h : DataW.Trod enc Try.prog W 0 (fun _ => true) true 28 (.slice a len cap) d ps) :
    ∃ (ls : List (List ByteArray)) (hs : List Hdr), ls.length = len ∧ ls.length ≤ cap ∧ Kd.C kHdr W a ls.length hs ∧ Heads W hs ls ∧ tots ls ≤ Rows.uptoBulk d := by
  obtain ⟨fuel, hf⟩ := h
  rcases open_slice1 Try.underlying28 (by kernel_rfl) hf with ⟨hcs, hx⟩ | ⟨x, l', c', m, n, V, D, Pl, hcs, hb, hl, hm, hmm, hx, hcell⟩
  · simp [Value.cells] at hcs
    obtain ⟨rfl, rfl, rfl⟩ := hcs
    exact ⟨[], [], rfl, Nat.le_refl _, (Kd.R_reads' (Kd.R_nil kHdr 26 W 0 (fun _ => True))).2.2, Heads.nil _, Nat.zero_le _⟩
  · simp [Value.cells] at hcs
    obtain ⟨rfl, rfl, rfl⟩ := hcs
    simp only [if_true] at hmm
    have hml : cap ≤ 9223372036854775807 := Nat.le_trans hm (by decide)
    obtain ⟨ys, hy1, hy2⟩ := choose_list len (fun j (y : Hdr × List ByteArray) => V j = hdrV y.1 ∧ HdrOk W y.1 y.2 ∧ tot y.2 ≤ Rows.uptoBulk (D j)) (fun j hj => strs_at (hcell j (by omega)).2)
    obtain ⟨hd, _⟩ := Prod.mk.inj hx
    have e1 : (ys.map (·.2)).length = len := by simp [hy1]
    have e2 : (ys.map (·.1)).length = len := by simp [hy1]
    refine ⟨ys.map (·.2), ys.map (·.1), e1, by rw [e1]; exact hl, ?_, ⟨by simp, fun j h l h1 h2 => ?_⟩, ?_⟩
    · rw [e1]
      refine ⟨e2, by omega, fun _ => ⟨x, rfl, fun j p hj => ⟨[hdrV p], rfl, rfl, fun i u hu => ?_⟩⟩⟩
      cases i with
      | zero =>
        obtain rfl : hdrV p = u := by simpa using hu
        rw [List.getElem?_map] at hj
        obtain ⟨y, hy, rfl⟩ := Option.map_eq_some_iff.1 hj
        have hjl : j < len := by rw [← hy1]; exact (List.getElem?_eq_some_iff.1 hy).1
        have hc := (hcell j (by omega)).1
        rw [(hy2 j y hy).1] at hc
        show W.cell? (x.add (j * 1 + 0)) = _
        rw [Nat.mul_one, Nat.add_zero]
        exact hc
      | succ i => simp at hu
    · rw [List.getElem?_map] at h1 h2
      obtain ⟨y, hy, rfl⟩ := Option.map_eq_some_iff.1 h1
      rw [hy] at h2
      obtain rfl : y.2 = l := by simpa using h2
      exact (hy2 j y hy).2.1
    · rw [hd]
      have hs := bulk_sum (H := H) (ys.map (·.2)) ((List.range len).map D) (by simp [hy1]) (fun j l d' h1 h2 => by
        rw [List.getElem?_map] at h1
        obtain ⟨y, hy, rfl⟩ := Option.map_eq_some_iff.1 h1
        have hjl : j < len := by rw [← hy1]; exact (List.getElem?_eq_some_iff.1 hy).1
        rw [List.getElem?_map, List.getElem?_range hjl] at h2
        obtain rfl : D j = d' := by simpa using h2
        exact (hy2 j y hy).2.2)
      simp only [Rows.uptoBulk]
      omega
end Go.Proofs.Ytamdbacmpglbiaa.Multi
