/-
  The parts of a pattern, as the document reads them.
-/
import Derived.Test.YtamdbacmpglbiaaGlobClass
namespace Go.Proofs.Ytamdbacmpglbiaa.Glob
open Go.Shelf Go.RowKit Go.Proofs.YtamdbacmpglbiaaW.PrintWords Go.Proofs.YtamdbacmpglbiaaW.PrintLast Go.Proofs.YtamdbacmpglbiaaW.PrintMore Kit
set_option linter.unusedVariables false
set_option linter.unusedSimpArgs false
theorem foldl_put : ∀ (l : List Value) (k : Nat) (b : Array Value), k + l.length ≤ b.size → ((l.zipIdx k).foldl (fun cs x => cs.setIfInBounds (0 + x.2) x.1) b).toList = b.toList.take k ++ l ++ b.toList.drop (k + l.length)
  | [], k, b, _ => by simp
  | v :: l, k, b, h => by
    have hk : k < b.toList.length := by simp at h ⊢; omega
    rw [List.zipIdx_cons, List.foldl_cons, foldl_put l (k + 1) _ (by simp at h ⊢; omega)]
    simp only [Nat.zero_add, Array.toList_setIfInBounds]
    rw [List.take_set, List.take_succ_eq_append_getElem hk, List.drop_set_of_lt (by omega)]
    rw [List.set_append_right _ _ (by simp; omega)]
    have e : k - (b.toList.take k).length = 0 := by simp; omega
    rw [e]
    simp [Nat.add_assoc, Nat.add_comm 1]
theorem run_buildSlice_one {P : Program} (t e : TypeId) (z : Value) (size bytes : Nat) (ht : P.underlying t = some (.slice e)) (hinfo : (P.info? e).map (fun i => (i.zero, i.size, i.bytes)) = some (some z, size, bytes)) (cs : Array Value) (hs : cs.size = size) (h0 : 0 < size) (h1 : size ≤ 16777216) (W : World) :
    (Instr.buildSlice t 1 #[(0, .agg cs)]).run P W = .ok (.slice (some ⟨W.heap.size, 0, none⟩) 1 1) (W.alloc (.cells cs e)) := by
  obtain ⟨i0, hi, hzz⟩ := Option.map_eq_some_iff.1 hinfo
  simp only [Prod.mk.injEq] at hzz
  obtain ⟨hz0, hz1, hz2⟩ := hzz
  have hf : ∀ b : Array Value, b.size = size → Instr.fill (fun i => some (i * size, size)) b [(0, .agg cs)] = some cs := by
    intro b hb
    simp only [Instr.fill]
    have hsz : (Value.agg cs).cells = cs := rfl
    rw [hsz, if_neg (by simp; omega)]
    congr 1
    have h2 := foldl_put cs.toList 0 b (by simp; omega)
    apply Array.ext'
    rw [← Array.foldl_toList, Array.toList_zipIdx]
    simp only [Nat.zero_mul]
    rw [h2]
    simp
    omega
  simp [Instr.buildSlice, run_underlying ht, sizeOf, typeInfo, hi, hz0, hz1, zeroValue, newRow, hf]
  exact h1

section
variable {P : Program}
theorem wpList_buildSlice_one {ops : Array Oper} {rest : List Oper} {op : Oper} {a : Act} {W : World} {Q : Exit → Act → World → Prop} (hgd : op.guard = none) (t e : TypeId) (x : Operand) (ho : op.op = .buildSlice t 1 #[(0, x)]) (z : Value) (size bytes : Nat) (ht : P.underlying t = some (.slice e)) (hinfo : (P.info? e).map (fun i => (i.zero, i.size, i.bytes)) = some (some z, size, bytes)) (cs : Array Value) (hx : a.eval x = .agg cs) (hs : cs.size = size) (h0 : 0 < size) (h1 : size ≤ 16777216)
    (h : wpList P ops Q rest (a.put op.dst (.slice (some ⟨W.heap.size, 0, none⟩) 1 1)) (W.alloc (.cells cs e))) : wpList P ops Q (op :: rest) a W := by
  refine wpList_plain hgd fun _ hK => ?_
  have h2 := hK _ _ h
  unfold Oper.wp execOp
  simp only [ho, List.map_toArray, List.map_cons, List.map_nil, hx, Sem.run_bind, run_buildSlice_one t e z size bytes ht hinfo cs hs h0 h1, Result.andThen_ok, Sem.run_pure]
  exact h2
end
theorem bs97 (k : Int) (f : Nat → Bool) (W : World) : (Instr.buildSlice 93 1 #[(0, .agg (pc k f))]).run Try.prog W = .ok (.slice (some ⟨W.heap.size, 0, none⟩) 1 1) (W.alloc (.cells (pc k f) 97)) :=
  run_buildSlice_one 93 97 _ 257 264 Try.underlying93 info97 (pc k f) (pc_size _ _) (by decide) (by decide) W
theorem st97 (W : World) (k : Int) : Sem.run Try.prog (storeCells ⟨W.heap.size, 0, none⟩ (Try.zeroCells97.toList.set 0 (.int .i64 k))) (W.alloc (.cells Try.zeroCells97 97)) = .ok () (W.alloc (.cells (pc k noB) 97)) := by
  have hst := run_storeCells_new (P := Try.prog) W 97 Try.zeroCells97 (Try.zeroCells97.setIfInBounds 0 (.int .i64 k)) (by rw [size97, Array.size_setIfInBounds, zero97, pc_size]) (by simp) (by rw [zero97, pc_setKind]; exact pc_one _ _)
  rw [Array.toList_setIfInBounds, show Try.zeroCells97.setIfInBounds 0 (.int .i64 k) = pc k noB from by rw [zero97, pc_setKind]; rfl] at hst
  exact hst
theorem put_one (k : Int) (c : Nat) (x : Int) (hx : x = (c : Int)) : (pc k noB).setIfInBounds (1 + c) (.bool true) = pc k (oneB x) := by
  rw [pc_put]
  apply pc_congr
  intro j _
  subst hx
  unfold oneB noB
  by_cases h : j = c
  · subst h; simp
  · rw [if_neg h]; simp; omega
set_option maxHeartbeats 8000000 in
set_option maxRecDepth 100000 in
theorem parts_calls (w : World) (p : ByteArray) (hp : p.size ≤ 1000000) : Calls Try.prog 58 #[.string p] w fun e w' => ∃ A c, e = .returned (.slice A (parts p).length c) ∧ (parts p).length ≤ c ∧ Kd.C kPart w' A (parts p).length (parts p) ∧ Below w.heap.size w w' := by
  have HP := Aside0.mk hp
  go_enter Try.func58, Try.ntmps58
  go_wp2
  go_loopg [3, 4] (p.size + 1) (fun gq v3 v4 wr => ∃ (i : Int) (acc : List PartT), v4 = .int .i64 i ∧ 0 ≤ i ∧ i ≤ (p.size : Int) + 1 ∧ Aside0 (parts p = acc ++ partsL gq p i) ∧ Aside0 (Kd.R kPart 97 wr w.heap.size (fun _ => True) v3 acc) ∧ Aside0 (Below w.heap.size w wr) ∧ Aside0 ((acc.length : Int) ≤ i) ∧ Aside0 ((p.size : Int) - i < (gq : Int)))
  case atStart => exact ⟨0, [], rfl, Int.le_refl _, by omega, ⟨rfl⟩, ⟨Kd.R_nil _ _ _ _ _⟩, ⟨Below.refl _ _⟩, ⟨Int.le_refl _⟩, ⟨by omega⟩⟩
  case round =>
    obtain ⟨i, acc, rfl, hi0, hi1, HE, HR, HB, HL, HM⟩ := hrel
    by_cases hlt : i < (p.size : Int)
    · obtain ⟨k1, rfl⟩ : ∃ k1, gk = k1 + 1 := ⟨gk - 1, by have := HM.out; omega⟩
      have hst := st97 wr 4
      have hbi := bt_at p i
      have hbr := bt_range p i
      obtain ⟨hbr0, hbr1⟩ := hbr
      have hk0 := pc_kind 4 noB
      have hk1 := pc_setKind 4 1 noB
      have hk2 := pc_setKind 4 2 noB
      have hpn := partAt_next p i hi0 hlt
      have HPN := Aside0.mk hpn
      clear hpn
      by_cases h42 : bt p i = 42
      · have d42 : (bt p i == 42) = true := by simp [h42]
        go_wp2_with (first
          | ((with_reducible refine gate_ (.buildSlice 93 1 #[(0, .tmp 67)]) rfl ?_); go_must (refine wpList_buildSlice_one rfl 93 97 (.tmp 67) rfl _ 257 264 Try.underlying93 info97 (pc 1 noB) rfl (pc_size _ _) (by decide) (by decide) ?_); simp only [Act.put, List.setIfInBounds_toArray, List.set_cons_zero, List.set_cons_succ])
          | ((with_reducible refine gate_ (.load 97 (.tmp 5)) rfl ?_); go_must (refine wpList_load_row rfl 97 (.tmp 5) rfl wr.heap.size rfl 97 (pc 1 noB) (0, 0) _ (heap_alloc_new _ _) Try.underlying97 rfl (by rw [size97, pc_size]) ?_); simp only [Act.put, List.setIfInBounds_toArray, List.set_cons_zero, List.set_cons_succ])
          | (at_builtin; go_must (refine Kd.R_append kPart (w0 := w) w.heap.size rfl (.tmp 66) (.tmp 68) 93 97 _ 264 rfl Try.underlying93 info97 (by exact pc_size _ _) (by decide) (by omega) u3 acc ((1, noB) : PartT) (pcL 1 noB) (fun _ => True) (fun _ => False) rfl rfl rfl (fun _ h => h.elim) (fun _ _ => trivial) ?aO ?aB ?aS ?aL ?_); (case aO => exact Kd.R_below HR.out (below_alloc (Below.refl _ _) _)); (case aB => exact below_alloc HB.out _); (case aS => have := HB.out.size; simp; omega); (case aL => have := HL.out; have := HP.out; omega); intro v9 w9 hR9 hB9 _ _; have HR9 := Aside0.mk hR9; have HB9 := Aside0.mk hB9; clear hR9 hB9))
        go_roundg k1
        case measure => omega
        case rel =>
          have hq : partAt p i = (((1, noB) : PartT), (i + 1)) := by unfold partAt; rw [if_pos h42]
          have h5 := HPN.out
          rw [hq] at h5
          obtain ⟨h5, h6⟩ := h5
          exact ⟨(i + 1), acc ++ [((1, noB) : PartT)], by rfl, by simp only at h5; omega, h6, ⟨by rw [HE.out, partsL, if_pos hlt, hq, List.append_assoc]; rfl⟩, HR9, HB9, ⟨by have := HL.out; simp only [List.length_append, List.length_singleton] at *; omega⟩, ⟨by have := HM.out; simp only at h5; omega⟩⟩
      · have d42 : (bt p i == 42) = false := by simpa using h42
        by_cases h63 : bt p i = 63
        · have d63 : (bt p i == 63) = true := by simp [h63]
          go_wp2_with (first
            | ((with_reducible refine gate_ (.buildSlice 93 1 #[(0, .tmp 67)]) rfl ?_); go_must (refine wpList_buildSlice_one rfl 93 97 (.tmp 67) rfl _ 257 264 Try.underlying93 info97 (pc 2 noB) rfl (pc_size _ _) (by decide) (by decide) ?_); simp only [Act.put, List.setIfInBounds_toArray, List.set_cons_zero, List.set_cons_succ])
            | ((with_reducible refine gate_ (.load 97 (.tmp 5)) rfl ?_); go_must (refine wpList_load_row rfl 97 (.tmp 5) rfl wr.heap.size rfl 97 (pc 2 noB) (0, 0) _ (heap_alloc_new _ _) Try.underlying97 rfl (by rw [size97, pc_size]) ?_); simp only [Act.put, List.setIfInBounds_toArray, List.set_cons_zero, List.set_cons_succ])
            | (at_builtin; go_must (refine Kd.R_append kPart (w0 := w) w.heap.size rfl (.tmp 66) (.tmp 68) 93 97 _ 264 rfl Try.underlying93 info97 (by exact pc_size _ _) (by decide) (by omega) u3 acc ((2, noB) : PartT) (pcL 2 noB) (fun _ => True) (fun _ => False) rfl rfl rfl (fun _ h => h.elim) (fun _ _ => trivial) ?aO ?aB ?aS ?aL ?_); (case aO => exact Kd.R_below HR.out (below_alloc (Below.refl _ _) _)); (case aB => exact below_alloc HB.out _); (case aS => have := HB.out.size; simp; omega); (case aL => have := HL.out; have := HP.out; omega); intro v9 w9 hR9 hB9 _ _; have HR9 := Aside0.mk hR9; have HB9 := Aside0.mk hB9; clear hR9 hB9))
          go_roundg k1
          case measure => omega
          case rel =>
            have hq : partAt p i = (((2, noB) : PartT), (i + 1)) := by unfold partAt; rw [if_neg h42, if_pos h63]
            have h5 := HPN.out
            rw [hq] at h5
            obtain ⟨h5, h6⟩ := h5
            exact ⟨(i + 1), acc ++ [((2, noB) : PartT)], by rfl, by simp only at h5; omega, h6, ⟨by rw [HE.out, partsL, if_pos hlt, hq, List.append_assoc]; rfl⟩, HR9, HB9, ⟨by have := HL.out; simp only [List.length_append, List.length_singleton] at *; omega⟩, ⟨by have := HM.out; simp only at h5; omega⟩⟩
        · have d63 : (bt p i == 63) = false := by simpa using h63
          by_cases h91 : bt p i = 91
          · have d91 : (bt p i == 91) = true := by simp [h91]
            obtain ⟨n, hn⟩ : ∃ n : Nat, i + 1 = (n : Int) := ⟨_, (Int.toNat_of_nonneg (by omega)).symm⟩
            have hcl : ∀ W, Calls Try.prog 79 #[.string p, .int .i64 (i + 1)] W fun e w' => e = .returned (.tuple #[.agg (pc 3 (clsF p (i + 1))), .int .i64 (clsN p (i + 1))]) ∧ Below W.heap.size W w' := fun W => by
              have h := class_calls W p n (by omega) (by omega)
              rw [← hn] at h; exact h
            have HCLS := Aside0.mk hcl
            clear hcl hn
            go_wp2_with (first
              | ((with_reducible refine gate_ (.buildSlice 93 1 #[(0, .tmp 67)]) rfl ?_); go_must (refine wpList_buildSlice_one rfl 93 97 (.tmp 67) rfl _ 257 264 Try.underlying93 info97 (pc 3 (clsF p (i + 1))) rfl (pc_size _ _) (by decide) (by decide) ?_); simp only [Act.put, List.setIfInBounds_toArray, List.set_cons_zero, List.set_cons_succ])
              | ((with_reducible refine gate_ (.load 97 (.tmp 5)) rfl ?_); go_must (refine wpList_load_row rfl 97 (.tmp 5) rfl wr.heap.size rfl 97 (pc 3 (clsF p (i + 1))) (0, 0) _ HG5.out Try.underlying97 rfl (by rw [size97, pc_size]) ?_); simp only [Act.put, List.setIfInBounds_toArray, List.set_cons_zero, List.set_cons_succ])
              | (at_builtin; go_must (refine Kd.R_append kPart (w0 := w) w.heap.size rfl (.tmp 66) (.tmp 68) 93 97 _ 264 rfl Try.underlying93 info97 (by exact pc_size _ _) (by decide) (by omega) u3 acc ((3, clsF p (i + 1)) : PartT) (pcL 3 (clsF p (i + 1))) (fun _ => True) (fun _ => False) rfl rfl rfl (fun _ h => h.elim) (fun _ _ => trivial) ?aO ?aB ?aS ?aL ?_); (case aO => exact Kd.R_below HR.out HW5.out); (case aB => exact below_then HB.out HB.out.size HW5.out); (case aS => have h := HB.out.size; have h2 := HW5.out.size; omega); (case aL => have := HL.out; have := HP.out; omega); intro v9 w9 hR9 hB9 _ _; have HR9 := Aside0.mk hR9; have HB9 := Aside0.mk hB9; clear hR9 hB9)
              | (go_at_call 79; go_must (refine (HCLS.out _).mono ?_); rintro e w4 ⟨rfl, hB4⟩; have HB4 := Aside0.mk hB4; have HG4 := Aside0.mk (blk_below (heap_alloc_new wr (.cells (pc 4 noB) 97)) hB4); clear hB4)
              | ((with_reducible refine gate_store (t := 97) (p := 5) (v := .tmp 44) rfl ?_); go_must (refine wpList_store_row rfl 97 (.tmp 5) (.tmp 44) rfl wr.heap.size (pc 3 (clsF p (i + 1))) (pc 4 noB) 97 rfl rfl HG4.out (by rw [size97, pc_size]) (by rw [pc_size, pc_size]) (pc_one _ _) ?_); intro w5 hg5 _ _ hb5; have HG5 := Aside0.mk hg5; have HW5 := Aside0.mk ((below_then (below_alloc (Below.refl wr.heap.size wr) _) (by simp) HB4.out).trans (hb5 _ (Nat.le_refl _))); clear hg5 hb5))
            go_roundg k1
            case measure => omega
            case rel =>
              have hq : partAt p i = (((3, clsF p (i + 1)) : PartT), (clsN p (i + 1))) := by unfold partAt; rw [if_neg h42, if_neg h63, if_pos h91]
              have h5 := HPN.out
              rw [hq] at h5
              obtain ⟨h5, h6⟩ := h5
              exact ⟨(clsN p (i + 1)), acc ++ [((3, clsF p (i + 1)) : PartT)], by rfl, by simp only at h5; omega, h6, ⟨by rw [HE.out, partsL, if_pos hlt, hq, List.append_assoc]; rfl⟩, HR9, HB9, ⟨by have := HL.out; simp only [List.length_append, List.length_singleton] at *; omega⟩, ⟨by have := HM.out; simp only at h5; omega⟩⟩
          · have d91 : (bt p i == 91) = false := by simpa using h91
            by_cases h92 : bt p i = 92 ∧ i + 1 < (p.size : Int)
            · have d92 : (bt p i == 92) = true := by simp [h92.1]
              have hi2 : i + 1 < (p.size : Int) := h92.2
              have hbi2 := bt_at p (i + 1)
              obtain ⟨c, hc⟩ : ∃ c : Nat, bt p (i + 1) = (c : Int) := ⟨_, (Int.toNat_of_nonneg (bt_range p (i + 1)).1).symm⟩
              have hc256 : c < 256 := by have := (bt_range p (i + 1)).2; omega
              have hpc := pc_has 4 noB c hc256
              have hpp := put_one 4 c _ hc
              rw [show noB c = false from rfl] at hpc
              have HC := Aside0.mk hc
              have hc3 : ∀ h : (i + 1).toNat < p.size, ((p[(i + 1).toNat]'h).toNat : Int) = (c : Int) := fun h => by rw [hbi2, hc]
              have hlo : (c : Int) ≤ 255 := by omega
              have H92 := Aside0.mk h92
              clear h92 hbi2 hc
              go_wp2_with (first
                | ((with_reducible refine gate_ (.buildSlice 93 1 #[(0, .tmp 67)]) rfl ?_); go_must (refine wpList_buildSlice_one rfl 93 97 (.tmp 67) rfl _ 257 264 Try.underlying93 info97 (pc 4 (oneB (bt p (i + 1)))) rfl (pc_size _ _) (by decide) (by decide) ?_); simp only [Act.put, List.setIfInBounds_toArray, List.set_cons_zero, List.set_cons_succ])
                | ((with_reducible refine gate_ (.load 97 (.tmp 5)) rfl ?_); go_must (refine wpList_load_row rfl 97 (.tmp 5) rfl wr.heap.size rfl 97 (pc 4 (oneB (bt p (i + 1)))) (0, 0) _ (heap_alloc_new _ _) Try.underlying97 rfl (by rw [size97, pc_size]) ?_); simp only [Act.put, List.setIfInBounds_toArray, List.set_cons_zero, List.set_cons_succ])
                | (at_builtin; go_must (refine Kd.R_append kPart (w0 := w) w.heap.size rfl (.tmp 66) (.tmp 68) 93 97 _ 264 rfl Try.underlying93 info97 (by exact pc_size _ _) (by decide) (by omega) u3 acc ((4, oneB (bt p (i + 1))) : PartT) (pcL 4 (oneB (bt p (i + 1)))) (fun _ => True) (fun _ => False) rfl rfl rfl (fun _ h => h.elim) (fun _ _ => trivial) ?aO ?aB ?aS ?aL ?_); (case aO => exact Kd.R_below HR.out (below_alloc (Below.refl _ _) _)); (case aB => exact below_alloc HB.out _); (case aS => have := HB.out.size; simp; omega); (case aL => have := HL.out; have := HP.out; omega); intro v9 w9 hR9 hB9 _ _; have HR9 := Aside0.mk hR9; have HB9 := Aside0.mk hB9; clear hR9 hB9))
              go_roundg k1
              case measure => omega
              case rel =>
                have hq : partAt p i = (((4, oneB (bt p (i + 1))) : PartT), (i + 2)) := by unfold partAt; rw [if_neg h42, if_neg h63, if_neg h91, if_pos H92.out]
                have h5 := HPN.out
                rw [hq] at h5
                obtain ⟨h5, h6⟩ := h5
                exact ⟨(i + 2), acc ++ [((4, oneB (bt p (i + 1))) : PartT)], by rfl, by simp only at h5; omega, h6, ⟨by rw [HE.out, partsL, if_pos hlt, hq, List.append_assoc]; rfl⟩, HR9, HB9, ⟨by have := HL.out; simp only [List.length_append, List.length_singleton] at *; omega⟩, ⟨by have := HM.out; simp only at h5; omega⟩⟩
            · obtain ⟨c, hc⟩ : ∃ c : Nat, bt p i = (c : Int) := ⟨_, (Int.toNat_of_nonneg (bt_range p i).1).symm⟩
              have hc256 : c < 256 := by omega
              have hpc := pc_has 4 noB c hc256
              have hpp := put_one 4 c _ hc
              rw [show noB c = false from rfl] at hpc
              have H92 := Aside0.mk h92
              have key : ((bt p i == 92) = true ∧ ¬ i + 1 < (p.size : Int)) ∨ (bt p i == 92) = false := by
                by_cases h : bt p i = 92
                · exact .inl ⟨by simp [h], fun h2 => h92 ⟨h, h2⟩⟩
                · exact .inr (by simpa using h)
              clear h92
              have H42 := Aside0.mk h42
              have H63 := Aside0.mk h63
              have H91 := Aside0.mk h91
              have HCC := Aside0.mk hc
              rcases key with ⟨d92, hi2⟩ | d92
              all_goals
                rw [hc] at d42 d63 d91 d92 hbi hbr0 hbr1
                clear h42 h63 h91 hc
                go_wp2_with (first
                  | ((with_reducible refine gate_ (.buildSlice 93 1 #[(0, .tmp 67)]) rfl ?_); go_must (refine wpList_buildSlice_one rfl 93 97 (.tmp 67) rfl _ 257 264 Try.underlying93 info97 (pc 4 (oneB (bt p i))) rfl (pc_size _ _) (by decide) (by decide) ?_); simp only [Act.put, List.setIfInBounds_toArray, List.set_cons_zero, List.set_cons_succ])
                  | ((with_reducible refine gate_ (.load 97 (.tmp 5)) rfl ?_); go_must (refine wpList_load_row rfl 97 (.tmp 5) rfl wr.heap.size rfl 97 (pc 4 (oneB (bt p i))) (0, 0) _ (heap_alloc_new _ _) Try.underlying97 rfl (by rw [size97, pc_size]) ?_); simp only [Act.put, List.setIfInBounds_toArray, List.set_cons_zero, List.set_cons_succ])
                  | (at_builtin; go_must (refine Kd.R_append kPart (w0 := w) w.heap.size rfl (.tmp 66) (.tmp 68) 93 97 _ 264 rfl Try.underlying93 info97 (by exact pc_size _ _) (by decide) (by omega) u3 acc ((4, oneB (bt p i)) : PartT) (pcL 4 (oneB (bt p i))) (fun _ => True) (fun _ => False) rfl rfl rfl (fun _ h => h.elim) (fun _ _ => trivial) ?aO ?aB ?aS ?aL ?_); (case aO => exact Kd.R_below HR.out (below_alloc (Below.refl _ _) _)); (case aB => exact below_alloc HB.out _); (case aS => have := HB.out.size; simp; omega); (case aL => have := HL.out; have := HP.out; omega); intro v9 w9 hR9 hB9 _ _; have HR9 := Aside0.mk hR9; have HB9 := Aside0.mk hB9; clear hR9 hB9))
                go_roundg k1
                case measure => omega
                case rel =>
                  have hq : partAt p i = (((4, oneB (bt p i)) : PartT), (i + 1)) := by unfold partAt; rw [if_neg H42.out, if_neg H63.out, if_neg H91.out, if_neg H92.out]
                  have h5 := HPN.out
                  rw [hq] at h5
                  obtain ⟨h5, h6⟩ := h5
                  exact ⟨(i + 1), acc ++ [((4, oneB (bt p i)) : PartT)], by rfl, by simp only at h5; omega, h6, ⟨by rw [HE.out, partsL, if_pos hlt, hq, List.append_assoc]; rfl⟩, HR9, HB9, ⟨by have := HL.out; simp only [List.length_append, List.length_singleton] at *; omega⟩, ⟨by have := HM.out; simp only at h5; omega⟩⟩
    · obtain ⟨A, c, e3, hl3, hC3⟩ := Kd.R_reads HR.out
      subst e3
      have hE : parts p = acc := by
        rw [HE.out]
        cases gk with
        | zero => simp [partsL]
        | succ n => rw [partsL, if_neg (by omega), List.append_nil]
      go_wp2
      go_ret
      exact ⟨A, c, rfl, hl3, hC3, HB.out⟩
end Go.Proofs.Ytamdbacmpglbiaa.Glob
