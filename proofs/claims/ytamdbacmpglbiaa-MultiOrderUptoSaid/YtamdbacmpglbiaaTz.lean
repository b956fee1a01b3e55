/-
  Transactions: what has changed marks one that watches it.
-/
import Derived.Test.YtamdbacmpglbiaaTw
namespace Go.Proofs.Ytamdbacmpglbiaa.Multi
open Go.Shelf Go.RowKit Go.Proofs.YtamdbacmpglbiaaW.PrintWords Go.Proofs.YtamdbacmpglbiaaW.PrintLast Go.Proofs.YtamdbacmpglbiaaW.PrintMore Kit
set_option linter.unusedVariables false
set_option linter.unusedSimpArgs false
theorem idxF_any (p : ByteArray → Bool) : ∀ (xs : List ByteArray) (k : Nat), decide (0 ≤ idxF p xs k) = xs.any p
  | [], k => by simp [idxF]
  | x :: xs, k => by
    by_cases h : p x = true
    · simp [idxF, h]
    · have hi := idxF_any p xs (k + 1)
      simp only [idxF, if_neg h, List.any_cons, eq_false_of_ne_true h, Bool.false_or]
      exact hi
set_option maxHeartbeats 8000000 in
set_option maxRecDepth 100000 in
theorem mark1 (w : World) (g : Nat) (A : Option Addr) (n c : Nat) (xs : List ByteArray) (x : ByteArray) (hc : w.cell? ⟨g, 5, none⟩ = some (.slice A n c)) (hC : Kd.C Kd.string w A n xs) (hn : n ≤ c) (hl : n ≤ 1000000) : Calls Try.prog 65 #[.string x, .pointer (some ⟨g, 0, none⟩)] w fun e w' => e = .returned (.bool (mem x xs)) ∧ ∃ q, w' = w.drewN q := by
  have HCT : Aside0 (∀ W, Kd.C Kd.string W A n xs → Calls Try.prog 61 #[.slice A n c, .string x] W fun e w' => e = .returned (.bool (mem x xs)) ∧ Drawn0 W w') := ⟨fun W hW => contains_calls W A n c xs x hW hW.1.symm hn hl⟩
  have HC := Aside0.mk hC
  clear hC
  go_enter Try.func65, Try.ntmps65
  go_wp2_with (go_at_call 61; ((with_reducible refine (HCT.out _ ?h1).mono ?_)); (case h1 => exact HC.out); rintro e w3 ⟨rfl, ⟨q, rfl⟩⟩)
  go_ret
  exact ⟨rfl, _, rfl⟩
set_option maxHeartbeats 8000000 in
set_option maxRecDepth 100000 in
theorem index65 (w : World) (B : Option Addr) (m cb : Nat) (names : List ByteArray) (g : Nat) (A : Option Addr) (n c : Nat) (xs : List ByteArray) (hB : Kd.C Kd.string w B m names) (hc : w.cell? ⟨g, 5, none⟩ = some (.slice A n c)) (hC : Kd.C Kd.string w A n xs) (hn : n ≤ c) (hl : n ≤ 1000000) :
    Calls Try.prog 54 #[.slice B m cb, .func (.func 65) #[] #[.pointer (some ⟨g, 0, none⟩)]] w fun e w' => e = .returned (.int .i64 (idxF (fun x => mem x xs) names 0)) ∧ ∃ q, w' = w.drewN q := by
  have eg := enters_of Try.func65 (by kernel_rfl) rfl
  have hm := hB.2.1
  have hn := hB.1
  have HC := Aside0.mk hB
  have HN := Aside0.mk hn
  have hop : ∀ (q : Nat) (name : ByteArray), Calls Try.prog 65 #[.string name, .pointer (some ⟨g, 0, none⟩)] (w.drewN q) fun e w' => e = .returned (.bool (mem name xs)) ∧ ∃ q', w' = (w.drewN q).drewN q' := fun q name => mark1 _ g A n c xs name hc hC (by assumption) hl
  have HOP := Aside0.mk hop
  clear hC hl hn hop hc hB
  go_enter Try.func54, Try.ntmps54
  go_wp2
  go_loopw [8] (fun i wr => ∃ k q : Nat, k ≤ m ∧ i = .int .i64 k ∧ wr = w.drewN q ∧ Aside0 (idxF (fun x => mem x xs) names 0 = idxF (fun x => mem x xs) (names.drop k) k)) (fun i _ => m - (intOf i).toNat)
  case atStart => exact ⟨0, 0, Nat.zero_le _, rfl, rfl, ⟨rfl⟩⟩
  case round =>
    obtain ⟨k, q, hk, rfl, rfl, HI⟩ := hrel
    by_cases hlt : k < m
    · obtain ⟨ad, rfl, hcell⟩ := str_at HC.out hlt
      have hcall := HOP.out q (names.getD k ⟨#[]⟩)
      have hd := Aside0.mk (drop_get names ⟨#[]⟩ (k := k) (by rw [HN.out]; exact hlt))
      generalize names.getD k ⟨#[]⟩ = x at hcell hcall hd
      cases hp : mem x xs with
      | true =>
        rw [hp] at hcall
        have HP := Aside0.mk hp
        clear hp
        go_wp2_with (go_at_call 65; go_must (refine hcall.mono ?_); rintro e w' ⟨rfl, q', rfl⟩)
        go_ret
        refine ⟨?_, _, rfl⟩
        rw [HI.out, hd.out, idxF, if_pos HP.out]
        rfl
      | false =>
        rw [hp] at hcall
        have HP := Aside0.mk hp
        clear hp
        go_wp2_with (go_at_call 65; go_must (refine hcall.mono ?_); rintro e w' ⟨rfl, q', rfl⟩)
        go_roundw
        case rel => exact ⟨k + 1, _, by omega, by go_num, rfl, ⟨by rw [HI.out, hd.out, idxF, if_neg (by simp [HP.out])]⟩⟩
        case measure => simp [intOf]; omega
    · go_wp2
      go_ret
      refine ⟨?_, q, rfl⟩
      rw [HI.out, List.drop_of_length_le (by have := HN.out; omega)]
      rfl
set_option maxHeartbeats 8000000 in
set_option maxRecDepth 100000 in
theorem any66 (w : World) (B : Option Addr) (m cb : Nat) (names : List ByteArray) (g : Nat) (A : Option Addr) (n c : Nat) (xs : List ByteArray) (hB : Kd.C Kd.string w B m names) (hc : w.cell? ⟨g, 5, none⟩ = some (.slice A n c)) (hC : Kd.C Kd.string w A n xs) (hn : n ≤ c) (hl : n ≤ 1000000) :
    Calls Try.prog 66 #[.slice B m cb, .func (.func 65) #[] #[.pointer (some ⟨g, 0, none⟩)]] w fun e w' => e = .returned (.bool (names.any fun x => mem x xs)) ∧ ∃ q, w' = w.drewN q := by
  have HCT : Aside0 (Calls Try.prog 54 #[.slice B m cb, .func (.func 65) #[] #[.pointer (some ⟨g, 0, none⟩)]] w fun e w' => e = .returned (.int .i64 (idxF (fun x => mem x xs) names 0)) ∧ ∃ q', w' = w.drewN q') := ⟨index65 _ B m cb names g A n c xs hB hc hC hn hl⟩
  have HA := Aside0.mk (idxF_any (fun x => mem x xs) names 0)
  clear hB hC hc
  generalize idxF (fun x => mem x xs) names 0 = r at HCT HA
  go_enter Try.func66, Try.ntmps66
  go_wp2_with (go_at_call 54; ((with_reducible refine HCT.out.mono ?_)); rintro e w3 ⟨rfl, ⟨q, rfl⟩⟩)
  go_ret
  refine ⟨?_, _, rfl⟩
  rw [← HA.out]
  rfl
set_option maxHeartbeats 8000000 in
set_option maxRecDepth 100000 in
theorem mark (w : World) (o b d : Bool) (A A' K : Option Addr) (n n' c c' ck : Nat) (z : Int) (xs l : List ByteArray) (hK : Kd.C Kd.string w K l.length l) (hX : Kd.C Kd.string w A' n' xs) (hc : n' ≤ c') (hn : n' ≤ 1000000) :
    Calls Try.prog 26 #[tx o b d (.slice A n c) z (.slice A' n' c'), .slice K l.length ck] w fun e w' => e = .returned (tx o b (d || l.any fun x => mem x xs) (.slice A n c) z (.slice A' n' c')) ∧ Below w.heap.size w w' := by
  have HK := Aside0.mk hK
  have HX := Aside0.mk hX
  have HN := Aside0.mk hn
  have HC := Aside0.mk hc
  clear hK hX hn hc
  unfold tx
  cases d
  · go_enter Try.func26, Try.ntmps26
    have HCT : Aside0 (∀ W, Kd.C Kd.string W K l.length l → W.cell? ⟨w.heap.size, 5, none⟩ = some (.slice A' n' c') → Kd.C Kd.string W A' n' xs → Calls Try.prog 66 #[.slice K l.length ck, .func (.func 65) #[] #[.pointer (some ⟨w.heap.size, 0, none⟩)]] W fun e w' => e = .returned (.bool (l.any fun x => mem x xs)) ∧ ∃ q, w' = W.drewN q) := ⟨fun W h1 h2 h3 => any66 W K l.length ck l w.heap.size A' n' c' xs h1 h2 h3 HC.out HN.out⟩
    generalize (l.any fun x => mem x xs) = m at HCT ⊢
    go_wp2_with (go_at_call 66; ((with_reducible refine (HCT.out _ ?h1 ?h2 ?h3).mono ?_)); (case h1 => exact Kd.C_below HK.out (below_alloc (below_alloc (Below.refl _ _) _) _)); (case h3 => exact Kd.C_below HX.out (below_alloc (below_alloc (Below.refl _ _) _) _)); (case h2 => exact (cell_of_row _ _ 5 _ _ _ (blk_alloc (heap_alloc_new _ _) _)).trans rfl); rintro e w3 ⟨rfl, ⟨q, rfl⟩⟩)
    refine bodyPost_ret (v := tx o b m (.slice A n c) z (.slice A' n' c')) ?_ rfl ⟨by simp [tx], ?_⟩
    · simp [results, Try.results26, go_sem, tx]
    · have z0 : w.heap.size ≤ w.heap.size := Nat.le_refl _
      with_reducible repeat (first | exact Below.refl _ _ | apply below_alloc | apply below_drew | apply pw_below_drewN | refine Below.setCell ?_ z0 _ | refine Below.setCell ?_ (Nat.le_add_right _ _) _)
  · go_enter Try.func26, Try.ntmps26
    go_wp2_with (fail)
    refine bodyPost_ret (v := tx o b true (.slice A n c) z (.slice A' n' c')) ?_ rfl ⟨by simp [tx], ?_⟩
    · simp [results, Try.results26, go_sem, tx]
    · exact below_alloc (below_alloc (Below.refl _ _) _) _
end Go.Proofs.Ytamdbacmpglbiaa.Multi
