/-
  What table.Upper, slices.Clone, slices.IndexFunc and args.Options return, for every input of at most some length.
-/
import Derived.Test.YtamdbacmpglbiaaKit
namespace Go.Proofs.Ytamdbacmpglbiaa.Args
open Go.Shelf Go.RowKit Go.Proofs.YtamdbacmpglbiaaW.PrintWords Go.Proofs.YtamdbacmpglbiaaW.PrintLast Go.Proofs.YtamdbacmpglbiaaW.PrintMore Kit
set_option linter.unusedVariables false
set_option linter.unusedSimpArgs false
open PArgsTurned (S35 z35 k35 rd_T35 k35_mk k35_openF k35_mkF)
theorem info9 : (Try.prog.info? 9).map (fun i => (i.zero, i.size, i.bytes)) = some (some (.string ⟨#[]⟩), 1, 16) := by kernel_rfl
/-- A byte in great letters. -/
def upI (c : Int) : Int := if 97 ≤ c ∧ c ≤ 122 then c - 32 else c
def upperB (s : ByteArray) : ByteArray := strOfNums ((bytesOf s).map upI)
def upAt (s : ByteArray) (k : Nat) (j : Nat) : Int := if j < k then upI (bt s (j : Int)) else bt s (j : Int)
theorem upAt_zero (s : ByteArray) : upAt s 0 = fun j : Nat => bt s (j : Int) := by funext j; simp [upAt]
theorem upAt_same (s : ByteArray) (k : Nat) : upAt s k k = bt s (k : Int) := by simp [upAt]
theorem upAt_put (s : ByteArray) (k : Nat) (v : Int) (hv : v = upI (bt s (k : Int))) : (fun j => if j = k then v else upAt s k j) = upAt s (k + 1) := by
  funext j
  unfold upAt
  by_cases h : j = k
  · subst h; simp [hv]
  · rw [if_neg h]
    by_cases h2 : j < k
    · rw [if_pos h2, if_pos (by omega)]
    · rw [if_neg h2, if_neg (by omega)]
theorem upAt_skip (s : ByteArray) (k : Nat) (hv : bt s (k : Int) = upI (bt s (k : Int))) : upAt s k = upAt s (k + 1) := by
  rw [← upAt_put s k (bt s (k : Int)) hv]
  funext j
  by_cases h : j = k
  · subst h; simp [upAt]
  · rw [if_neg h]
set_option maxHeartbeats 8000000 in
set_option maxRecDepth 100000 in
theorem upper (w : World) (s : ByteArray) (hs : s.size ≤ 9223372036854775807) : Calls Try.prog 53 #[.string s] w fun e w' => e = .returned (.string (upperB s))  ∧ Below w.heap.size w w' := by
  have kb := fun W => print_bytes (P := Try.prog) 9 103 5 Try.underlying9 Try.underlying103 Try.underlying5 s W
  go_enter Try.func53, Try.ntmps53
  go_wp2
  go_loopw [10] (fun i wr => ∃ k : Nat, k ≤ s.size ∧ i = .int .i64 k ∧ Aside0 (ByteBlk wr w.heap.size s.size (upAt s k)) ∧ Aside0 (Below w.heap.size w wr)) (fun i _ => s.size - (intOf i).toNat)
  case atStart => exact ⟨0, Nat.zero_le _, rfl, ⟨by rw [upAt_zero]; exact ByteBlk.made w s⟩, ⟨bytes_below (Below.refl _ _) (Nat.le_refl _) _ _⟩⟩
  case round =>
    obtain ⟨k, hk, rfl, HY, HB⟩ := hrel
    by_cases hlt : k < s.size
    · have hc := HY.out.cell hlt
      rw [upAt_same] at hc
      have hf := HY.out.free hlt
      have hr := bt_range s (k : Int)
      obtain ⟨hr0, hr1⟩ := hr
      by_cases h1 : 97 ≤ bt s (k : Int)
      · by_cases h2 : bt s (k : Int) ≤ 122
        · go_wp2
          go_roundw
          case rel => exact ⟨k + 1, by omega, by go_num, ⟨by have h := HY.out.set k (bt s ↑k - 97 + 65); rw [upAt_put s k _ (by unfold upI; rw [if_pos ⟨h1, h2⟩]; omega)] at h; exact h⟩, ⟨HB.out.setCell (Nat.le_refl _) _⟩⟩
          case measure => simp [intOf]; omega
        · go_wp2
          go_roundw
          case rel => exact ⟨k + 1, by omega, by go_num, ⟨by rw [← upAt_skip s k (by unfold upI; rw [if_neg (fun h => h2 h.2)])]; exact HY.out⟩, HB⟩
          case measure => simp [intOf]; omega
      · go_wp2
        go_roundw
        case rel => exact ⟨k + 1, by omega, by go_num, ⟨by rw [← upAt_skip s k (by unfold upI; rw [if_neg (fun h => h1 h.1)])]; exact HY.out⟩, HB⟩
        case measure => simp [intOf]; omega
    · have hks : k = s.size := by omega
      have kr := run_convert_bytes_arg (P := Try.prog) wr 103 5 Try.underlying103 Try.underlying5 w.heap.size 0 s.size (grownCap w s.size 0 5) ((bytesOf s).map upI) (by rw [List.length_map, bytesOf_length])
        (fun i hi => by
          have h := HY.out.cell hi
          rw [Nat.zero_add, h]
          have hl : i < s.data.toList.length := by rw [data_length]; exact hi
          have he : ((bytesOf s).map upI).getD i 0 = upI (bt s (i : Int)) := by
            rw [← bt_nat s i hi]
            simp [bytesOf, List.getD_eq_getElem?_getD, List.getElem?_eq_getElem hl]
          rw [he]; unfold upAt; rw [if_pos (by omega)]) 9 Try.underlying9
      clear hks
      go_wp2
      go_ret
      exact ⟨rfl, HB.out⟩
set_option maxHeartbeats 8000000 in
set_option maxRecDepth 100000 in
theorem clone (w : World) (A : Option Addr) (n c : Nat) (xs : List ByteArray) (hC : Kd.C Kd.string w A n xs) (hn : n * 16 ≤ 140737488355328) : Calls Try.prog 56 #[.slice A n c] w fun e w' => ∃ v, e = .returned v ∧ Kd.R Kd.string 9 w' w.heap.size (fun _ => True) v xs ∧ Below w.heap.size w w' := by
  have h1 := Lib.run_eql_slice_nil (P := Try.prog) w 26 9 A n c 0 0 Try.underlying26
  cases A with
  | none =>
    have hl := hC.1
    have h0 : n = 0 := by
      rcases Nat.eq_zero_or_pos n with h0 | h0
      · exact h0
      · obtain ⟨ad, h, _⟩ := hC.2.2 h0
        cases h
    subst h0
    obtain rfl : xs = [] := List.eq_nil_of_length_eq_zero hl
    clear hC hl
    go_enter Try.func56, Try.ntmps56
    go_wp2
    go_ret
    exact ⟨_, rfl, Kd.R_nil _ _ _ _ _, Below.refl _ _⟩
  | some a =>
    have HC := Aside0.mk hC
    have HN := Aside0.mk hn
    clear hC hn
    go_enter Try.func56, Try.ntmps56
    go_wp2_with (at_builtin; refine Kd.R_append_rows Kd.string (w0 := w) w.heap.size rfl (.tmp 5) (.tmp 6) 26 9 (.string ⟨#[]⟩) 16 rfl Try.underlying26 info9 rfl (by decide) (by omega) _ [] xs _ _ _ (fun _ => True) (fun _ => False) rfl rfl ?aO ?aR (fun _ _ h => h) (fun _ h => h.elim) (fun _ _ => trivial) ?aB ?aS ?aL ?_; (case aR => exact Kd.C_below HC.out (below_alloc (Below.refl _ _) _)); (case aB => exact below_alloc (Below.refl _ _) _); (case aO => exact Kd.R_of_own (own_empty _ _ _) (fun _ _ => trivial)); (case aS => simp); (case aL => have := HN.out; simp; omega); intro v1 w1 ho hb _ _; have HO := Aside0.mk ho; have HB := Aside0.mk hb; clear ho hb)
    go_ret
    exact ⟨_, rfl, HO.out, HB.out⟩
/-- Is this the name of an option, with its digit? -/
def optIs (is name : ByteArray) : Bool := decide (2 < name.size) && ((name.extract 0 (name.size - 2)).toList == is.toList)
set_option maxHeartbeats 8000000 in
set_option maxRecDepth 100000 in
theorem opt1_long (w : World) (a : Addr) (is name : ByteArray) (hc : w.cell? a = some (.string is)) (hs : name.size ≤ 9223372036854775807) (h2 : 2 < name.size) : Calls Try.prog 55 #[.string name, .pointer (some a)] w fun e w' => e = .returned (.bool ((name.extract 0 (name.size - 2)).toList == is.toList)) ∧ ∃ q, w' = w.drewN q := by
  have hd : decide ((2 : Int) < name.size) = true := by simpa using (by omega : (2 : Int) < name.size)
  go_enter Try.func55, Try.ntmps55
  go_wp2
  go_quiet (fail)
  go_wp2
  go_ret
  exact ⟨rfl, _, rfl⟩
set_option maxHeartbeats 8000000 in
set_option maxRecDepth 100000 in
theorem opt1_short (w : World) (a : Addr) (is name : ByteArray) (h2 : ¬ 2 < name.size) : Calls Try.prog 55 #[.string name, .pointer (some a)] w fun e w' => e = .returned (.bool false) ∧ ∃ q, w' = w.drewN q := by
  have hd : decide ((2 : Int) < name.size) = false := by simpa using (by omega : ¬ (2 : Int) < name.size)
  go_enter Try.func55, Try.ntmps55
  go_wp2
  go_quiet (fail)
  go_wp2
  go_ret
  exact ⟨rfl, _, rfl⟩
theorem opt1 (w : World) (a : Addr) (is name : ByteArray) (hc : w.cell? a = some (.string is)) (hs : name.size ≤ 9223372036854775807) : Calls Try.prog 55 #[.string name, .pointer (some a)] w fun e w' => e = .returned (.bool (optIs is name)) ∧ ∃ q, w' = w.drewN q := by
  by_cases h : 2 < name.size
  · have he : optIs is name = ((name.extract 0 (name.size - 2)).toList == is.toList) := by simp [optIs, h]
    rw [he]; exact opt1_long w a is name hc hs h
  · have he : optIs is name = false := by simp [optIs, h]
    rw [he]; exact opt1_short w a is name h
set_option maxHeartbeats 8000000 in
set_option maxRecDepth 100000 in
theorem indexFunc (w : World) (A : Option Addr) (n c : Nat) (names : List ByteArray) (a : Addr) (is : ByteArray) (hC : Kd.C Kd.string w A n names) (hc : w.cell? a = some (.string is)) (hl : ∀ x ∈ names, x.size ≤ 9223372036854775807) :
    Calls Try.prog 54 #[.slice A n c, .func (.func 55) #[] #[.pointer (some a)]] w fun e w' => e = .returned (.int .i64 (idxF (optIs is) names 0)) ∧ ∃ q, w' = w.drewN q := by
  have eg := enters_of Try.func55 (by kernel_rfl) rfl
  have hm := hC.2.1
  have hn := hC.1
  have HC := Aside0.mk hC
  have HL := Aside0.mk hl
  have HN := Aside0.mk hn
  have hop : ∀ (q : Nat) (name : ByteArray), name.size ≤ 9223372036854775807 → Calls Try.prog 55 #[.string name, .pointer (some a)] (w.drewN q) fun e w' => e = .returned (.bool (optIs is name)) ∧ ∃ q', w' = (w.drewN q).drewN q' := fun q name h => opt1 _ a is name hc h
  have HOP := Aside0.mk hop
  clear hC hl hn hop hc
  go_enter Try.func54, Try.ntmps54
  go_wp2
  go_loopw [8] (fun i wr => ∃ k q : Nat, k ≤ n ∧ i = .int .i64 k ∧ wr = w.drewN q ∧ Aside0 (idxF (optIs is) names 0 = idxF (optIs is) (names.drop k) k)) (fun i _ => n - (intOf i).toNat)
  case atStart => exact ⟨0, 0, Nat.zero_le _, rfl, rfl, ⟨rfl⟩⟩
  case round =>
    obtain ⟨k, q, hk, rfl, rfl, HI⟩ := hrel
    by_cases hlt : k < n
    · obtain ⟨ad, rfl, hcell⟩ := str_at HC.out hlt
      have hcall := HOP.out q (names.getD k ⟨#[]⟩) (by
        rw [List.getD_eq_getElem?_getD, List.getElem?_eq_getElem (by rw [HN.out]; exact hlt)]
        exact HL.out _ (List.getElem_mem _))
      have hd := Aside0.mk (drop_get names ⟨#[]⟩ (k := k) (by rw [HN.out]; exact hlt))
      generalize names.getD k ⟨#[]⟩ = x at hcell hcall hd
      cases hp : optIs is x with
      | true =>
        rw [hp] at hcall
        have HP := Aside0.mk hp
        clear hp
        go_wp2_with (go_at_call 55; go_must (refine hcall.mono ?_); rintro e w' ⟨rfl, q', rfl⟩)
        go_ret
        refine ⟨?_, _, rfl⟩
        rw [HI.out, hd.out, idxF, if_pos HP.out]
        rfl
      | false =>
        rw [hp] at hcall
        have HP := Aside0.mk hp
        clear hp
        go_wp2_with (go_at_call 55; go_must (refine hcall.mono ?_); rintro e w' ⟨rfl, q', rfl⟩)
        go_roundw
        case rel => exact ⟨k + 1, _, by omega, by go_num, rfl, ⟨by rw [HI.out, hd.out, idxF, if_neg (by rw [HP.out]; simp)]⟩⟩
        case measure => simp [intOf]; omega
    · go_wp2
      go_ret
      refine ⟨?_, q, rfl⟩
      rw [HI.out, List.drop_of_length_le (by have := HN.out; omega)]
      rfl
end Go.Proofs.Ytamdbacmpglbiaa.Args
