/-
  Which texts match, as the document tells it: the walk of the reference's All and Plain.
-/
import Derived.Test.YtamdbacmpglbiaaGlobMatch
import Derived.Test.YtamdbacmpglbiaaArgs
namespace Go.Proofs.Ytamdbacmpglbiaa.Glob
open Go.Shelf Go.RowKit Go.Proofs.YtamdbacmpglbiaaW.PrintWords Go.Proofs.YtamdbacmpglbiaaW.PrintLast Go.Proofs.YtamdbacmpglbiaaW.PrintMore Kit
set_option linter.unusedVariables false
set_option linter.unusedSimpArgs false
theorem take_snoc (l : List ByteArray) (i : Nat) (h : i < l.length) : l.take (i + 1) = l.take i ++ [l.getD i ⟨#[]⟩] := by
  rw [List.take_add_one]
  congr 1
  simp [h]
set_option maxHeartbeats 8000000 in
set_option maxRecDepth 100000 in
theorem refAll (w : World) (p : ByteArray) (A : Option Addr) (c : Nat) (l : List ByteArray) (hC : Kd.C Kd.string w A l.length l) (hp : p.size ≤ 1000000) (hn : l.length ≤ 1000) (hl : ∀ x ∈ l, x.size ≤ 1000000) :
    Calls Try.prog 34 #[.string p, .slice A l.length c] w fun e w' => ∃ v, e = .returned v ∧ Kd.R Kd.string 9 w' w.heap.size (fun _ => True) v (l.filter fun x => matchP p x) ∧ Below w.heap.size w w' := by
  have HP := Aside0.mk hp
  have HN := Aside0.mk hn
  have HL := Aside0.mk hl
  have HC := Aside0.mk hC
  clear hC hp hl
  go_enter Try.func34, Try.ntmps34
  go_wp2
  go_loopg [5, 6] (l.length + 1) (fun gq v5 v6 wr => ∃ i : Nat, v6 = .int .i64 i ∧ i ≤ l.length ∧ Aside0 (Kd.R Kd.string 9 wr w.heap.size (fun _ => True) v5 ((l.take i).filter fun x => matchP p x)) ∧ Aside0 (Below w.heap.size w wr) ∧ Aside0 (l.length - i < gq))
  case atStart => exact ⟨0, rfl, Nat.zero_le _, ⟨Kd.R_nil _ _ _ _ _⟩, ⟨Below.refl _ _⟩, ⟨by omega⟩⟩
  case round =>
    obtain ⟨i, rfl, hi, HR, HB, HM⟩ := hrel
    by_cases hlt : i < l.length
    · obtain ⟨x, hx⟩ : ∃ x, x = l.getD i ⟨#[]⟩ := ⟨_, rfl⟩
      obtain ⟨acc, hacc⟩ : ∃ acc, acc = (l.take i).filter fun x => matchP p x := ⟨_, rfl⟩
      rw [← hacc] at HR
      have hal : acc.length ≤ i := by rw [hacc]; exact Nat.le_trans (List.length_filter_le _ _) (by simp; omega)
      have HAL := Aside0.mk hal
      have hts := take_snoc l i hlt
      have hxs : x.size ≤ 1000000 := HL.out x (by rw [hx]; simp only [List.getD_eq_getElem?_getD, List.getElem?_eq_getElem hlt, Option.getD_some]; exact List.getElem_mem _)
      rw [← hx] at hts
      have hsa := str_at HC.out hlt
      rw [← hx] at hsa
      obtain ⟨a, hA, hcell⟩ := hsa
      subst hA
      have hcell := pw_cell_below HB.out hcell
      cases hm : matchP p x with
      | true =>
        have hnx : (l.take (i + 1)).filter (fun x => matchP p x) = acc ++ [x] := by rw [hts, List.filter_append, ← hacc]; simp [hm]
        have HNX := Aside0.mk hnx
        have HMC : Aside0 (∀ W, Calls Try.prog 19 #[.string p, .string x] W fun e w' => e = .returned (.bool true) ∧ Below W.heap.size W w') := ⟨fun W => by have h := match_calls W p x (by have := HP.out; omega) hxs; rw [hm] at h; exact h⟩
        clear hnx hts hm hx hxs hacc hal
        go_wp2_with (first
          | (go_at_call 19; go_must (refine (HMC.out _).mono ?_); rintro e w3 ⟨rfl, hB3⟩; have HB3 := Aside0.mk hB3; have hcell3 := pw_cell_below hB3 hcell; clear hB3)
          | (at_builtin; go_must (refine Kd.R_append Kd.string (w0 := w) w.heap.size rfl (.tmp 19) (.tmp 24) 26 9 _ 16 rfl Try.underlying26 Args.info9 rfl (by decide) (by omega) u5 acc x [.string x] (fun _ => True) (fun _ => False) rfl rfl rfl (fun _ h => h.elim) (fun _ _ => trivial) ?aO ?aB ?aS ?aL ?_); (case aO => exact Kd.R_below HR.out HB3.out); (case aB => exact below_then HB.out HB.out.size HB3.out); (case aS => have h := HB.out.size; have h2 := HB3.out.size; omega); (case aL => have := HAL.out; omega); intro v9 w9 hR9 hB9 _ _; have HR9 := Aside0.mk hR9; have HB9 := Aside0.mk hB9; clear hR9 hB9))
        go_roundg (l.length - i)
        case measure => exact HM.out
        case rel => exact ⟨i + 1, by go_num, by omega, ⟨by rw [HNX.out]; exact HR9.out⟩, HB9, ⟨by omega⟩⟩
      | false =>
        have hnx : (l.take (i + 1)).filter (fun x => matchP p x) = acc := by rw [hts, List.filter_append, ← hacc]; simp [hm]
        have HNX := Aside0.mk hnx
        have HMC : Aside0 (∀ W, Calls Try.prog 19 #[.string p, .string x] W fun e w' => e = .returned (.bool false) ∧ Below W.heap.size W w') := ⟨fun W => by have h := match_calls W p x (by have := HP.out; omega) hxs; rw [hm] at h; exact h⟩
        clear hnx hts hm hx hxs hacc hal
        go_wp2_with (go_at_call 19; go_must (refine (HMC.out _).mono ?_); rintro e w3 ⟨rfl, hB3⟩; have HB3 := Aside0.mk hB3; clear hB3)
        go_roundg (l.length - i)
        case measure => exact HM.out
        case rel => exact ⟨i + 1, by go_num, by omega, ⟨by rw [HNX.out]; exact Kd.R_below HR.out HB3.out⟩, ⟨below_then HB.out HB.out.size HB3.out⟩, ⟨by omega⟩⟩
    · have he : l.take i = l := List.take_of_length_le (by omega)
      rw [he] at HR
      have hd : (decide (i < l.length)) = false := decide_eq_false hlt
      go_wp2
      go_ret
      exact ⟨_, rfl, HR.out, HB.out⟩
/-- The bytes below n that a part has. -/
def hasL (f : Nat → Bool) (n : Nat) : List Int := ((List.range n).filter f).map Int.ofNat
theorem hasL_succ (f : Nat → Bool) (n : Nat) : hasL f (n + 1) = if f n = true then hasL f n ++ [(n : Int)] else hasL f n := by
  unfold hasL
  rw [List.range_succ, List.filter_append, List.map_append]
  by_cases h : f n = true
  · rw [if_pos h]; simp [h]
  · rw [if_neg h]; simp [h]
theorem hasL_length (f : Nat → Bool) (n : Nat) : (hasL f n).length ≤ n := by
  unfold hasL
  rw [List.length_map]
  exact Nat.le_trans (List.length_filter_le _ _) (by simp)
/-- The bytes of parts that are all of one byte's kind. -/
def plainK : List PartT → Option (List Int)
  | [] => some []
  | x :: l => if x.1 = 4 then (plainK l).map (fun r => hasL x.2 256 ++ r) else none
def strOf : Option (List Int) → ByteArray × Bool
  | some l => (strOfNums l, true)
  | none => (⟨#[]⟩, false)
theorem info5 : (Try.prog.info? 5).map (fun i => (i.zero, i.size, i.bytes)) = some (some (.int .u8 0), 1, 1) := by kernel_rfl
theorem u8_small (c : Nat) (h : c < 256) : IntKind.u8.wrap (c : Int) = c := by rw [IntKind.wrap_u8]; omega
set_option maxHeartbeats 8000000 in
set_option maxRecDepth 100000 in
theorem refPlain (w : World) (p : ByteArray) (hp : p.size ≤ 1000000) : Calls Try.prog 30 #[.string p] w fun e w' => e = .returned (.tuple #[.string (strOf (plainK (parts p))).1, .bool (strOf (plainK (parts p))).2]) ∧ Below w.heap.size w w' := by
  go_enter Try.func30, Try.ntmps30
  go_wp2_with (go_at_call 58; go_must (refine (parts_calls _ p hp).mono ?_); rintro e w2 ⟨A, c, rfl, hl, hC, hB⟩; have HL := Aside0.mk hl; have HC := Aside0.mk hC; have HB0 := Aside0.mk hB; clear hl hC hB)
  obtain ⟨L, hL⟩ : ∃ L, L = parts p := ⟨_, rfl⟩
  rw [← hL] at HL HC ⊢
  have HLL := Aside0.mk hL
  have hLs : L.length ≤ 1000001 := by have := partsL_length (p.size + 1) p 0; rw [hL]; unfold parts; omega
  clear hL
  go_loopg [5, 6] (L.length + 1) (fun gq v5 v6 wr => ∃ (k : Nat) (acc : List Int), v6 = .int .i64 k ∧ k ≤ L.length ∧ Aside0 (Kd.R (Kd.int .u8) 5 wr w2.heap.size (fun _ => True) v5 acc) ∧ Aside0 (plainK L = (plainK (L.drop k)).map (fun r => acc ++ r)) ∧ Aside0 (acc.length ≤ k * 256) ∧ Aside0 (Below w2.heap.size w2 wr) ∧ Aside0 (L.length - k < gq))
  case atStart => exact ⟨0, [], rfl, Nat.zero_le _, ⟨Kd.R_nil _ _ _ _ _⟩, ⟨by simp [List.drop_zero]⟩, ⟨Nat.zero_le _⟩, ⟨Below.refl _ _⟩, ⟨by omega⟩⟩
  case round =>
    obtain ⟨k, acc, rfl, hk, HR, HE, HLN, HB, HM⟩ := hrel
    by_cases hlt : k < L.length
    · obtain ⟨x, hx⟩ : ∃ x, x = L.getD k (0, noB) := ⟨_, rfl⟩
      obtain ⟨b, o, hA, hc0, hc1⟩ := part_at HC.out k hlt
      subst hA
      rw [← hx] at hc0 hc1
      have hc0 := pw_cell_below HB.out hc0
      have hdr := drop_at L k hlt
      rw [← hx] at hdr
      have HDR := Aside0.mk hdr
      have HCS := Aside0.mk hc1
      clear hdr hc1 hx
      by_cases hk4 : x.1 = 4
      · have d4 : (x.1 != 4) = false := by simp [hk4]
        obtain ⟨wo, hwo⟩ : ∃ wo : World, wo = wr := ⟨_, rfl⟩
        subst hwo
        go_wp2
        go_loopg [5, 7] (257) (fun gq v5 v7 wr => ∃ (n : Nat), v7 = .int .i64 n ∧ n ≤ 256 ∧ Aside0 (Kd.R (Kd.int .u8) 5 wr w2.heap.size (fun _ => True) v5 (acc ++ hasL x.2 n)) ∧ Aside0 (Below w2.heap.size w2 wr) ∧ Aside0 (256 - n < gq))
        case atStart => exact ⟨0, rfl, Nat.zero_le _, ⟨by simpa [hasL] using HR.out⟩, HB, ⟨by omega⟩⟩
        case round =>
          obtain ⟨n, rfl, hn, HR2, HB2, HM2⟩ := hrel
          by_cases hn2 : n < 256
          · have hcell := pw_cell_below HB2.out (HCS.out n hn2)
            have hn3 : (n : Int) < 256 := by omega
            have hu8 := u8_small n hn2
            have hsucc := hasL_succ x.2 n
            have HAL : Aside0 ((acc ++ hasL x.2 n).length ≤ k * 256 + 256) := ⟨by have h1 := HLN.out; have h2 := hasL_length x.2 n; simp only [List.length_append]; omega⟩
            obtain ⟨acc2, hacc2⟩ : ∃ l, l = acc ++ hasL x.2 n := ⟨_, rfl⟩
            rw [← hacc2] at HR2 HAL
            cases hf : x.2 n with
            | true =>
              rw [hf] at hcell
              rw [if_pos hf] at hsucc
              have HNX : Aside0 (acc ++ hasL x.2 (n + 1) = acc2 ++ [(n : Int)]) := ⟨by rw [hsucc, hacc2, List.append_assoc]⟩
              clear hsucc hf hacc2
              go_wp2_with (first
                | (at_builtin; go_must (refine Kd.R_append (Kd.int .u8) (w0 := w2) w2.heap.size rfl (.tmp 33) (.tmp 36) 103 5 _ 1 rfl Try.underlying103 info5 rfl (by decide) (by omega) u5 acc2 (n : Int) [.int .u8 (n : Int)] (fun _ => True) (fun _ => False) rfl rfl rfl (fun _ h => h.elim) (fun _ _ => trivial) ?aO ?aB ?aS ?aL ?_); (case aO => exact HR2.out); (case aB => exact HB2.out); (case aS => exact HB2.out.size); (case aL => have := HAL.out; omega); intro v9 w9 hR9 hB9 hg9 hk9; have HR9 := Aside0.mk hR9; have HB9 := Aside0.mk hB9; clear hR9 hB9))
              go_roundg (256 - n)
              case measure => exact HM2.out
              case rel => exact ⟨n + 1, by go_num, by omega, ⟨by rw [HNX.out]; exact HR9.out⟩, HB9, ⟨by omega⟩⟩
            | false =>
              rw [hf] at hcell
              rw [if_neg (by rw [hf]; simp)] at hsucc
              have HNX : Aside0 (acc ++ hasL x.2 (n + 1) = acc2) := ⟨by rw [hsucc, hacc2]⟩
              clear hsucc hf hacc2
              go_wp2
              go_roundg (256 - n)
              case measure => exact HM2.out
              case rel => exact ⟨n + 1, by go_num, by omega, ⟨by rw [HNX.out]; exact HR2.out⟩, HB2, ⟨by omega⟩⟩
          · obtain rfl : n = 256 := by omega
            have HEE : Aside0 (plainK L = (plainK (L.drop (k + 1))).map (fun r => (acc ++ hasL x.2 256) ++ r)) := ⟨by
              rw [HE.out, HDR.out, plainK, if_pos hk4]
              cases plainK (L.drop (k + 1)) <;> simp⟩
            have HAL : Aside0 ((acc ++ hasL x.2 256).length ≤ (k + 1) * 256) := ⟨by have h1 := HLN.out; have h2 := hasL_length x.2 256; simp only [List.length_append]; omega⟩
            go_wp2
            go_roundg (L.length - k)
            case measure => exact HM.out
            case rel => exact ⟨k + 1, acc ++ hasL x.2 256, by go_num, by omega, HR2, HEE, HAL, HB2, ⟨by omega⟩⟩
      · have d4 : (x.1 != 4) = true := by simpa using hk4
        have hE : plainK L = none := by rw [HE.out, HDR.out, plainK, if_neg hk4]; rfl
        have hfin : Below w.heap.size w wr := below_then HB0.out HB0.out.size HB.out
        go_wp2
        go_ret2
        rw [← HLL.out, hE]
        exact ⟨rfl, hfin⟩
    · have hE : plainK L = some acc := by rw [HE.out, List.drop_of_length_le (by omega)]; simp [plainK]
      have hfin : Below w.heap.size w wr := below_then HB0.out HB0.out.size HB.out
      have hcv := own_string (P := Try.prog) Try.underlying103 Try.underlying5 Try.underlying9 (Kd.own_of_R HR.out)
      go_wp2
      go_ret2
      rw [← HLL.out, hE]
      exact ⟨rfl, hfin⟩
end Go.Proofs.Ytamdbacmpglbiaa.Glob
