/-
  What the class of a pattern is, in the document: its bytes, and where the pattern goes on.
-/
import Derived.Test.YtamdbacmpglbiaaGlobSpec
import Derived.Test.YtamdbacmpglbiaaPGlobMatchesx
import Derived.Deep.WholeRow
namespace Go.Proofs.Ytamdbacmpglbiaa.Glob
open Go.Shelf Go.RowKit Go.Proofs.YtamdbacmpglbiaaW.PrintWords Go.Proofs.YtamdbacmpglbiaaW.PrintLast Go.Proofs.YtamdbacmpglbiaaW.PrintMore Kit
open PGlobMatches (mewsref02_item.f mewsref02_item.j0 mewsref02_item.j1)
set_option linter.unusedVariables false
set_option linter.unusedSimpArgs false
theorem wrap_small {i : Int} (h0 : -1000 ≤ i) (h1 : i ≤ 9223372036854775000) : wrap64 i = i := by unfold wrap64; omega
theorem item_is (p : ByteArray) (i : Int) (h0 : 0 ≤ i) (h1 : i < (p.size : Int)) (hp : p.size ≤ 9223372036854770000) : mewsref02_item.f 2 p i = some (itemP p i) := by
  have w1 : wrap64 (i + 1) = i + 1 := wrap_small (by omega) (by omega)
  have w2 : wrap64 (i + 2) = i + 2 := wrap_small (by omega) (by omega)
  have w3 : wrap64 (i + 3) = i + 3 := wrap_small (by omega) (by omega)
  unfold mewsref02_item.f itemP
  simp only [mewsref02_item.j0, mewsref02_item.j1, w1, w2, w3]
  rw [if_pos h0, if_pos h1]
  have e1 : (0 : Int) ≤ i + 1 := by omega
  have e2 : (0 : Int) ≤ i + 2 := by omega
  by_cases a : bt p i = 92
  · by_cases b : i + 1 < (p.size : Int)
    · simp [a, b, e1]
    · have c : ¬ i + 2 < (p.size : Int) := by omega
      simp [a, b, c, h0, h1]
  · by_cases c : i + 2 < (p.size : Int)
    · have b : i + 1 < (p.size : Int) := by omega
      by_cases d : bt p (i + 1) = 45
      · by_cases e : bt p (i + 2) = 93
        · simp [a, b, c, d, e, h0, h1, e1, e2]
        · by_cases g : bt p i < bt p (i + 2)
          · simp [a, b, c, d, e, g, h0, h1, e1, e2]
          · simp [a, b, c, d, e, g, h0, h1, e1, e2]
      · simp [a, b, c, d, h0, h1, e1, e2]
    · simp [a, c, h0, h1]
theorem itemP_le (p : ByteArray) (i : Int) : (itemP p i).1 ≤ (itemP p i).2.1 := by
  unfold itemP
  split
  · exact Int.le_refl _
  · split
    · split
      · simp only; omega
      · simp only; omega
    · exact Int.le_refl _
section
variable {P : Program}
/-- A whole block is written. -/
theorem wpList_store_row {ops : Array Oper} {rest : List Oper} {op : Oper} {a : Act} {w : World} {Q : Exit → Act → World → Prop} (hgd : op.guard = none) (ty : TypeId) (x y : Operand) (ho : op.op = .store ty x y)
    (g : Nat) (cells old : Array Value) (t : TypeId) (hx : a.eval x = .pointer (some ⟨g, 0, none⟩)) (hy : a.eval y = .agg cells) (hg : w.heap[g]? = some (.cells old t (0, 0)))
    (hi : (P.info? ty).map (·.size) = some cells.size) (hs : old.size = cells.size) (h1 : cells.all (·.oneCell') = true)
    (h : ∀ w1, w1.heap[g]? = some (.cells cells t (0, 0)) → (∀ k, k ≠ g → w1.heap[k]? = w.heap[k]?) → w1.heap.size = w.heap.size → (∀ B, B ≤ g → Below B w w1) → wpList P ops Q rest (a.put op.dst undef) w1) : wpList P ops Q (op :: rest) a w := by
  refine wpList_plain hgd fun _ hK => ?_
  have hb : ∀ B, B ≤ g → Below B w (w.setRow g cells) := fun B hB => ⟨rfl, rfl, rfl, by rw [setRow_size]; exact Nat.le_refl _, fun k hk => setRow_other w g k cells (by omega)⟩
  have h2 := hK _ _ (h (w.setRow g cells) (setRow_heap w g old cells t (0, 0) hg) (fun k hk => setRow_other w g k cells hk) (setRow_size w g cells) hb)
  unfold Oper.wp execOp
  simp only [ho, hx, hy, Instr.storeAt, Instr.sureAddr, Sem.run_bind, Sem.run_pure, Result.andThen_ok, run_storeVar_row w g t ty old cells hg hi hs h1]
  exact h2
end
theorem addB_snoc (lo : Nat) (n : Nat) (f : Nat → Bool) (h : lo ≤ n) : (fun j => if j = n then true else addB (lo : Int) ((n : Int) - 1) f j) = addB (lo : Int) (n : Int) f := by
  funext j
  unfold addB
  by_cases e : j = n
  · subst e
    have a : decide ((lo : Int) ≤ (j : Int)) = true := by simpa using h
    simp [a]
    omega
  · rw [if_neg e]
    have : decide ((j : Int) ≤ (n : Int) - 1) = decide ((j : Int) ≤ (n : Int)) := by
      apply decide_eq_decide.2; omega
    rw [this]
theorem addB_none (lo : Nat) (f : Nat → Bool) : addB (lo : Int) ((lo : Int) - 1) f = f := by
  funext j
  unfold addB
  have : (decide ((lo : Int) ≤ (j : Int)) && decide ((j : Int) ≤ (lo : Int) - 1)) = false := by
    simp only [Bool.and_eq_false_iff, decide_eq_false_iff_not]
    omega
  rw [this, Bool.or_false]
theorem cell_row {w : World} {g t : Nat} {k : Int} {f : Nat → Bool} (h : w.heap[g]? = some (.cells (pc k f) t (0, 0))) (n : Nat) (hn : n < 256) : w.cell? ⟨g, 1 + n, none⟩ = some (.bool (f n)) := by
  rw [cell_of_row w g (1 + n) _ t (0, 0) h]; exact pc_has k f n hn
theorem put_row {w : World} {g t : Nat} {k : Int} {f : Nat → Bool} (h : w.heap[g]? = some (.cells (pc k f) t (0, 0))) (n : Nat) (b : Bool) : (w.setCell ⟨g, 1 + n, none⟩ (.bool b)).heap[g]? = some (.cells (pc k (fun j => if j = n then b else f j)) t (0, 0)) := by
  rw [← pc_put]; exact blk_set h _ _
set_option maxHeartbeats 8000000 in
set_option maxRecDepth 100000 in
theorem class_calls (w : World) (p : ByteArray) (i : Nat) (hi : i ≤ p.size) (hp : p.size ≤ 9223372036854770000) : Calls Try.prog 79 #[.string p, .int .i64 i] w fun e w' => e = .returned (.tuple #[.agg (pc 3 (clsF p i)), .int .i64 (clsN p i)]) ∧ Below w.heap.size w w' := by
  have hst := run_storeCells_new (P := Try.prog) (w.alloc (.cells Try.zeroCells97 97)) 97 Try.zeroCells97 (Try.zeroCells97.setIfInBounds 0 (.int .i64 3)) (by rw [size97, Array.size_setIfInBounds, zero97, pc_size]) (by simp) (by rw [zero97, pc_setKind]; exact pc_one _ _)
  rw [Array.toList_setIfInBounds, show (w.alloc (.cells Try.zeroCells97 97)).heap.size = w.heap.size + 1 from by simp] at hst
  rw [show Try.zeroCells97.setIfInBounds 0 (.int .i64 3) = pc 3 (fun _ => false) from by rw [zero97, pc_setKind]] at hst
  have hbt : ∀ h : i < p.size, ((p[i]'h).toNat : Int) = bt p i := fun h => by have := bt_at p (i : Int) (by simpa using h); simpa using this
  have key : (i < p.size ∧ (bt p i == 94) = true) ∨ (i < p.size ∧ (bt p i == 94) = false) ∨ ¬ i < p.size := by
    by_cases h : i < p.size
    · cases h2 : (bt p i == 94)
      · exact .inr (.inl ⟨h, rfl⟩)
      · exact .inl ⟨h, rfl⟩
    · exact .inr (.inr h)
  obtain ⟨tt, htt⟩ : ∃ tt, tt = clsT p i := ⟨_, rfl⟩
  obtain ⟨ii, hii⟩ : ∃ ii, ii = clsI p i := ⟨_, rfl⟩
  have HTT := Aside0.mk htt
  have HII := Aside0.mk hii
  rcases key with ⟨hlt, h94⟩ | ⟨hlt, h94⟩ | hlt
  · have h1 : tt = true := by rw [htt]; unfold clsT; rw [h94]; simpa using hlt
    have h2 : ii = (i : Int) + 1 := by rw [hii]; unfold clsI; rw [← htt, h1]; rfl
    have HI2 := Aside0.mk h2
    clear h2 htt hii
    go_enter Try.func79, Try.ntmps79
    go_wp2_with fail
    clear hst
    go_loopg [1] (p.size + 1) (fun gq v1 wr => ∃ (j : Int) (f : Nat → Bool), v1 = .int .i64 j ∧ 0 ≤ j ∧ j ≤ (p.size : Int) ∧ Aside0 (clsR p i = clsS gq p j f) ∧ Aside0 (wr.heap[w.heap.size + 1]? = some (.cells (pc 3 f) 97 (0, 0))) ∧ Aside0 (wr.heap[w.heap.size]? = some (.cells Try.zeroCells97 97 (0, 0))) ∧ Aside0 (Below w.heap.size w wr) ∧ Aside0 ((p.size : Int) - j < (gq : Int)))
    case atStart => exact ⟨ii, fun _ => false, by rw [HI2.out], by rw [HI2.out]; omega, by rw [HI2.out]; omega, ⟨by unfold clsR; rw [← HII.out]⟩, ⟨heap_alloc2_new _ _ _ |> fun h => by simpa using h⟩, ⟨heap_alloc2_old _ _ _⟩, ⟨below_alloc (below_alloc (Below.refl _ _) _) _⟩, ⟨by rw [HI2.out]; omega⟩⟩
    case round =>
      obtain ⟨j, f, rfl, hj0, hj1, HE, HG, HZ, HB, HM⟩ := hrel
      obtain ⟨k1, rfl⟩ : ∃ k1, gk = k1 + 1 := ⟨gk - 1, by have := HM.out; omega⟩
      by_cases hj : j < (p.size : Int) ∧ bt p j ≠ 93
      · obtain ⟨hj2, hj3⟩ := hj
        obtain ⟨lo, hlo⟩ : ∃ lo : Nat, (itemP p j).1 = (lo : Int) := ⟨_, (Int.toNat_of_nonneg (itemP_range p j).1).symm⟩
        obtain ⟨hi2, hhi⟩ : ∃ hi2 : Nat, (itemP p j).2.1 = (hi2 : Int) := ⟨_, (Int.toNat_of_nonneg (itemP_range p j).2.2.1).symm⟩
        obtain ⟨nx, hnx⟩ : ∃ nx : Int, (itemP p j).2.2 = nx := ⟨_, rfl⟩
        have hrg := itemP_range p j
        have hnn := itemP_next p j
        rw [hlo, hhi] at hrg
        rw [hnx] at hnn
        have hit := item_is p j hj0 hj2 hp
        have hcall := fun W => PGlobMatches.mewsref02_item.calls 2 p j lo hi2 nx W (by rw [hit, ← hlo, ← hhi, ← hnx])
        have HCALL := Aside0.mk hcall
        have HLO := Aside0.mk hlo
        have HHI := Aside0.mk hhi
        have HNX := Aside0.mk hnx
        obtain ⟨hl0, hl1, hh0, hh1⟩ := hrg
        have hle := itemP_le p j
        rw [HLO.out, HHI.out] at hle
        obtain ⟨hn0, hn1, hn2⟩ := hnn
        have hn2' := hn2 hj2
        clear hcall hit hlo hhi hnx hn2
        have hbj := bt_at p j
        have hne : (bt p j != 93) = true := by simpa using hj3
        have hbr := bt_range p j
        obtain ⟨hbr0, hbr1⟩ := hbr
        go_wp2_with ((go_at_call 82; ((with_reducible refine (HCALL.out _).mono ?_)); rintro e w3 ⟨rfl, ⟨q3, rfl⟩⟩))
        obtain ⟨wo, hwo⟩ : ∃ wo : World, wo = wr := ⟨_, rfl⟩
        subst hwo
        go_loopg [11] (hi2 + 2) (fun gq v11 wr => ∃ n : Nat, v11 = .int .i64 n ∧ lo ≤ n ∧ n ≤ hi2 + 1 ∧ Aside0 (wr.heap[w.heap.size + 1]? = some (.cells (pc 3 (addB (lo : Int) ((n : Int) - 1) f)) 97 (0, 0))) ∧ Aside0 (wr.heap[w.heap.size]? = some (.cells Try.zeroCells97 97 (0, 0))) ∧ Aside0 (Below w.heap.size w wr) ∧ Aside0 (hi2 + 1 - n < gq))
        case atStart => exact ⟨lo, rfl, Nat.le_refl _, by omega, ⟨by rw [addB_none]; exact HG.out⟩, HZ, ⟨pw_below_drewN HB.out _⟩, ⟨by omega⟩⟩
        case round =>
          clear HG HZ HB
          obtain ⟨n, rfl, hnl, hnh, HG, HZ, HB, HM2⟩ := hrel
          by_cases hin : n < hi2 + 1
          · have hc := cell_row HG.out n (by omega)
            have hf := blk_frozen HG.out (1 + n)
            have hin' : (n : Int) ≤ (hi2 : Int) := by omega
            go_wp2
            go_roundg (hi2 + 1 - n)
            case measure => exact HM2.out
            case rel => exact ⟨n + 1, by go_num, by omega, by omega, ⟨by have h := put_row HG.out n true; rw [addB_snoc lo n f hnl] at h; rw [show ((n + 1 : Nat) : Int) - 1 = (n : Int) from by omega]; exact h⟩, ⟨blk_far HZ.out (by simp) _⟩, ⟨HB.out.setCell (by simp) _⟩, ⟨by omega⟩⟩
          · have hin' : ¬ (n : Int) ≤ (hi2 : Int) := by omega
            obtain rfl : n = hi2 + 1 := by omega
            go_wp2
            go_roundg k1
            case measure => omega
            case rel => exact ⟨nx, addB (lo : Int) (hi2 : Int) f, rfl, by omega, by omega, ⟨by rw [HE.out, clsS, if_pos ⟨hj2, hj3⟩, HLO.out, HHI.out, HNX.out]⟩, ⟨by have h := HG.out; rwa [show ((hi2 + 1 : Nat) : Int) - 1 = (hi2 : Int) from by omega] at h⟩, HZ, HB, ⟨by have := HM.out; omega⟩⟩
      · have hE2 : clsR p i = (f, j) := by rw [HE.out, clsS, if_neg hj]
        have HE2 := Aside0.mk hE2
        have key2 : (j < (p.size : Int) ∧ (bt p j != 93) = false) ∨ ¬ j < (p.size : Int) := by
          by_cases h : j < (p.size : Int)
          · exact .inl ⟨h, by
              by_cases h3 : bt p j = 93
              · simp [h3]
              · exact absurd ⟨h, h3⟩ hj⟩
          · exact .inr h
        clear hE2 hj
        have hbj := bt_at p j
        have hbr := bt_range p j
        obtain ⟨hbr0, hbr1⟩ := hbr
        rcases key2 with ⟨hj2, hj3⟩ | hj2
        all_goals
          obtain ⟨wo, hwo⟩ : ∃ wo : World, wo = wr := ⟨_, rfl⟩
          subst hwo
          go_wp2
          go_loopg [12] 257 (fun gq v12 wr => ∃ (n : Nat) (h : Nat → Bool), v12 = .int .i64 n ∧ n ≤ 256 ∧ Aside0 (256 - n < gq) ∧ Aside0 (∀ c, h c = if c < n then !f c else f c) ∧ Aside0 (tt = false → n = 0) ∧ Aside0 (wr.heap[w.heap.size + 1]? = some (.cells (pc 3 h) 97 (0, 0))) ∧ Aside0 (wr.heap[w.heap.size]? = some (.cells Try.zeroCells97 97 (0, 0))) ∧ Aside0 (Below w.heap.size w wr))
          case atStart => exact ⟨0, f, rfl, by omega, ⟨by omega⟩, ⟨fun c => by simp⟩, ⟨fun _ => rfl⟩, HG, HZ, HB⟩
          case round =>
            clear HG HZ HB
            obtain ⟨n, h, rfl, hn, HM3, HH, HT0, HG, HZ, HB⟩ := hrel
            by_cases hn2 : n < 256
            · have hc := cell_row HG.out n hn2
              have hf := blk_frozen HG.out (1 + n)
              go_wp2
              go_roundg (256 - n)
              case measure => exact HM3.out
              case rel =>
                exact ⟨n + 1, fun c => if c = n then !h n else h c, by go_num, by omega, ⟨by omega⟩, ⟨fun c => by
                  dsimp only
                  by_cases e : c = n
                  · subst e; rw [if_pos rfl, if_pos (by omega), HH.out c, if_neg (by omega)]
                  · rw [if_neg e, HH.out c]
                    by_cases e2 : c < n
                    · rw [if_pos e2, if_pos (by omega)]
                    · rw [if_neg e2, if_neg (by omega)]⟩, ⟨fun ht => by rw [h1] at ht; cases ht⟩, ⟨put_row HG.out n (!h n)⟩, ⟨blk_far HZ.out (by simp) _⟩, ⟨HB.out.setCell (by simp) _⟩⟩
            · obtain rfl : n = 256 := by omega
              go_wp2_with (first
                | ((with_reducible refine gate_ (.load 97 (.tmp 6)) rfl ?_); go_must (refine wpList_load_row rfl 97 (.tmp 6) rfl (w.heap.size + 1) rfl 97 (pc 3 h) (0, 0) _ HG.out Try.underlying97 rfl (by rw [size97, pc_size]) ?_))
                | ((with_reducible refine gate_store (t := 97) (p := 4) (v := .tmp 71) rfl ?_); go_must (refine wpList_store_row rfl 97 (.tmp 4) (.tmp 71) rfl w.heap.size (pc 3 h) Try.zeroCells97 97 rfl rfl HZ.out (by rw [size97, pc_size]) (by rw [zero97, pc_size, pc_size]) (pc_one _ _) ?_); intro w9 hg9 _ _ hb9; have HG9 := Aside0.mk hg9; have HB9 := Aside0.mk (HB.out.trans (hb9 _ (Nat.le_refl _))); clear hg9 hb9))
              have hF : pc 3 h = pc 3 (clsF p i) := pc_congr 3 _ _ (fun c hc => by
                rw [HH.out c]
                unfold clsF
                rw [← HTT.out, HE2.out]
                rw [h1, if_pos hc]; rfl)
              have hN : clsN p i = j + 1 := by unfold clsN; rw [HE2.out]
              refine bodyPost_ret (v := .tuple #[.agg (pc 3 (clsF p i)), .int .i64 (clsN p i)]) ?_ rfl ⟨rfl, HB9.out⟩
              rw [← hF, hN]
              exact results_ct Try.results79 _ w9 w.heap.size 97 (pc 3 h) (0, 0) _ rfl HG9.out Try.underlying97 rfl (by rw [size97, pc_size])
  · have h1 : tt = false := by rw [htt]; unfold clsT; rw [h94]; simp
    have h2 : ii = (i : Int) := by rw [hii]; unfold clsI; rw [← htt, h1]; rfl
    have HI2 := Aside0.mk h2
    clear h2 htt hii
    go_enter Try.func79, Try.ntmps79
    go_wp2_with fail
    clear hst
    go_loopg [1] (p.size + 1) (fun gq v1 wr => ∃ (j : Int) (f : Nat → Bool), v1 = .int .i64 j ∧ 0 ≤ j ∧ j ≤ (p.size : Int) ∧ Aside0 (clsR p i = clsS gq p j f) ∧ Aside0 (wr.heap[w.heap.size + 1]? = some (.cells (pc 3 f) 97 (0, 0))) ∧ Aside0 (wr.heap[w.heap.size]? = some (.cells Try.zeroCells97 97 (0, 0))) ∧ Aside0 (Below w.heap.size w wr) ∧ Aside0 ((p.size : Int) - j < (gq : Int)))
    case atStart => exact ⟨ii, fun _ => false, by rw [HI2.out], by rw [HI2.out]; omega, by rw [HI2.out]; omega, ⟨by unfold clsR; rw [← HII.out]⟩, ⟨heap_alloc2_new _ _ _ |> fun h => by simpa using h⟩, ⟨heap_alloc2_old _ _ _⟩, ⟨below_alloc (below_alloc (Below.refl _ _) _) _⟩, ⟨by rw [HI2.out]; omega⟩⟩
    case round =>
      obtain ⟨j, f, rfl, hj0, hj1, HE, HG, HZ, HB, HM⟩ := hrel
      obtain ⟨k1, rfl⟩ : ∃ k1, gk = k1 + 1 := ⟨gk - 1, by have := HM.out; omega⟩
      by_cases hj : j < (p.size : Int) ∧ bt p j ≠ 93
      · obtain ⟨hj2, hj3⟩ := hj
        obtain ⟨lo, hlo⟩ : ∃ lo : Nat, (itemP p j).1 = (lo : Int) := ⟨_, (Int.toNat_of_nonneg (itemP_range p j).1).symm⟩
        obtain ⟨hi2, hhi⟩ : ∃ hi2 : Nat, (itemP p j).2.1 = (hi2 : Int) := ⟨_, (Int.toNat_of_nonneg (itemP_range p j).2.2.1).symm⟩
        obtain ⟨nx, hnx⟩ : ∃ nx : Int, (itemP p j).2.2 = nx := ⟨_, rfl⟩
        have hrg := itemP_range p j
        have hnn := itemP_next p j
        rw [hlo, hhi] at hrg
        rw [hnx] at hnn
        have hit := item_is p j hj0 hj2 hp
        have hcall := fun W => PGlobMatches.mewsref02_item.calls 2 p j lo hi2 nx W (by rw [hit, ← hlo, ← hhi, ← hnx])
        have HCALL := Aside0.mk hcall
        have HLO := Aside0.mk hlo
        have HHI := Aside0.mk hhi
        have HNX := Aside0.mk hnx
        obtain ⟨hl0, hl1, hh0, hh1⟩ := hrg
        have hle := itemP_le p j
        rw [HLO.out, HHI.out] at hle
        obtain ⟨hn0, hn1, hn2⟩ := hnn
        have hn2' := hn2 hj2
        clear hcall hit hlo hhi hnx hn2
        have hbj := bt_at p j
        have hne : (bt p j != 93) = true := by simpa using hj3
        have hbr := bt_range p j
        obtain ⟨hbr0, hbr1⟩ := hbr
        go_wp2_with ((go_at_call 82; ((with_reducible refine (HCALL.out _).mono ?_)); rintro e w3 ⟨rfl, ⟨q3, rfl⟩⟩))
        obtain ⟨wo, hwo⟩ : ∃ wo : World, wo = wr := ⟨_, rfl⟩
        subst hwo
        go_loopg [11] (hi2 + 2) (fun gq v11 wr => ∃ n : Nat, v11 = .int .i64 n ∧ lo ≤ n ∧ n ≤ hi2 + 1 ∧ Aside0 (wr.heap[w.heap.size + 1]? = some (.cells (pc 3 (addB (lo : Int) ((n : Int) - 1) f)) 97 (0, 0))) ∧ Aside0 (wr.heap[w.heap.size]? = some (.cells Try.zeroCells97 97 (0, 0))) ∧ Aside0 (Below w.heap.size w wr) ∧ Aside0 (hi2 + 1 - n < gq))
        case atStart => exact ⟨lo, rfl, Nat.le_refl _, by omega, ⟨by rw [addB_none]; exact HG.out⟩, HZ, ⟨pw_below_drewN HB.out _⟩, ⟨by omega⟩⟩
        case round =>
          clear HG HZ HB
          obtain ⟨n, rfl, hnl, hnh, HG, HZ, HB, HM2⟩ := hrel
          by_cases hin : n < hi2 + 1
          · have hc := cell_row HG.out n (by omega)
            have hf := blk_frozen HG.out (1 + n)
            have hin' : (n : Int) ≤ (hi2 : Int) := by omega
            go_wp2
            go_roundg (hi2 + 1 - n)
            case measure => exact HM2.out
            case rel => exact ⟨n + 1, by go_num, by omega, by omega, ⟨by have h := put_row HG.out n true; rw [addB_snoc lo n f hnl] at h; rw [show ((n + 1 : Nat) : Int) - 1 = (n : Int) from by omega]; exact h⟩, ⟨blk_far HZ.out (by simp) _⟩, ⟨HB.out.setCell (by simp) _⟩, ⟨by omega⟩⟩
          · have hin' : ¬ (n : Int) ≤ (hi2 : Int) := by omega
            obtain rfl : n = hi2 + 1 := by omega
            go_wp2
            go_roundg k1
            case measure => omega
            case rel => exact ⟨nx, addB (lo : Int) (hi2 : Int) f, rfl, by omega, by omega, ⟨by rw [HE.out, clsS, if_pos ⟨hj2, hj3⟩, HLO.out, HHI.out, HNX.out]⟩, ⟨by have h := HG.out; rwa [show ((hi2 + 1 : Nat) : Int) - 1 = (hi2 : Int) from by omega] at h⟩, HZ, HB, ⟨by have := HM.out; omega⟩⟩
      · have hE2 : clsR p i = (f, j) := by rw [HE.out, clsS, if_neg hj]
        have HE2 := Aside0.mk hE2
        have key2 : (j < (p.size : Int) ∧ (bt p j != 93) = false) ∨ ¬ j < (p.size : Int) := by
          by_cases h : j < (p.size : Int)
          · exact .inl ⟨h, by
              by_cases h3 : bt p j = 93
              · simp [h3]
              · exact absurd ⟨h, h3⟩ hj⟩
          · exact .inr h
        clear hE2 hj
        have hbj := bt_at p j
        have hbr := bt_range p j
        obtain ⟨hbr0, hbr1⟩ := hbr
        rcases key2 with ⟨hj2, hj3⟩ | hj2
        all_goals
          obtain ⟨wo, hwo⟩ : ∃ wo : World, wo = wr := ⟨_, rfl⟩
          subst hwo
          go_wp2
          go_loopg [12] 257 (fun gq v12 wr => ∃ (n : Nat) (h : Nat → Bool), v12 = .int .i64 n ∧ n ≤ 256 ∧ Aside0 (256 - n < gq) ∧ Aside0 (∀ c, h c = if c < n then !f c else f c) ∧ Aside0 (tt = false → n = 0) ∧ Aside0 (wr.heap[w.heap.size + 1]? = some (.cells (pc 3 h) 97 (0, 0))) ∧ Aside0 (wr.heap[w.heap.size]? = some (.cells Try.zeroCells97 97 (0, 0))) ∧ Aside0 (Below w.heap.size w wr))
          case atStart => exact ⟨0, f, rfl, by omega, ⟨by omega⟩, ⟨fun c => by simp⟩, ⟨fun _ => rfl⟩, HG, HZ, HB⟩
          case round =>
            clear HG HZ HB
            obtain ⟨n, h, rfl, hn, HM3, HH, HT0, HG, HZ, HB⟩ := hrel
            obtain rfl : n = 0 := HT0.out h1
            go_wp2_with (first
              | ((with_reducible refine gate_ (.load 97 (.tmp 6)) rfl ?_); go_must (refine wpList_load_row rfl 97 (.tmp 6) rfl (w.heap.size + 1) rfl 97 (pc 3 h) (0, 0) _ HG.out Try.underlying97 rfl (by rw [size97, pc_size]) ?_))
              | ((with_reducible refine gate_store (t := 97) (p := 4) (v := .tmp 71) rfl ?_); go_must (refine wpList_store_row rfl 97 (.tmp 4) (.tmp 71) rfl w.heap.size (pc 3 h) Try.zeroCells97 97 rfl rfl HZ.out (by rw [size97, pc_size]) (by rw [zero97, pc_size, pc_size]) (pc_one _ _) ?_); intro w9 hg9 _ _ hb9; have HG9 := Aside0.mk hg9; have HB9 := Aside0.mk (HB.out.trans (hb9 _ (Nat.le_refl _))); clear hg9 hb9))
            have hF : pc 3 h = pc 3 (clsF p i) := pc_congr 3 _ _ (fun c hc => by
              rw [HH.out c]
              unfold clsF
              rw [← HTT.out, HE2.out]
              rw [h1]; simp)
            have hN : clsN p i = j + 1 := by unfold clsN; rw [HE2.out]
            refine bodyPost_ret (v := .tuple #[.agg (pc 3 (clsF p i)), .int .i64 (clsN p i)]) ?_ rfl ⟨rfl, HB9.out⟩
            rw [← hF, hN]
            exact results_ct Try.results79 _ w9 w.heap.size 97 (pc 3 h) (0, 0) _ rfl HG9.out Try.underlying97 rfl (by rw [size97, pc_size])
  · have h1 : tt = false := by rw [htt]; unfold clsT; rw [show decide ((i : Int) < (p.size : Int)) = false from by simpa using hlt]; rfl
    have h2 : ii = (i : Int) := by rw [hii]; unfold clsI; rw [← htt, h1]; rfl
    have HI2 := Aside0.mk h2
    clear h2 htt hii
    go_enter Try.func79, Try.ntmps79
    go_wp2_with fail
    clear hst
    go_loopg [1] (p.size + 1) (fun gq v1 wr => ∃ (j : Int) (f : Nat → Bool), v1 = .int .i64 j ∧ 0 ≤ j ∧ j ≤ (p.size : Int) ∧ Aside0 (clsR p i = clsS gq p j f) ∧ Aside0 (wr.heap[w.heap.size + 1]? = some (.cells (pc 3 f) 97 (0, 0))) ∧ Aside0 (wr.heap[w.heap.size]? = some (.cells Try.zeroCells97 97 (0, 0))) ∧ Aside0 (Below w.heap.size w wr) ∧ Aside0 ((p.size : Int) - j < (gq : Int)))
    case atStart => exact ⟨ii, fun _ => false, by rw [HI2.out], by rw [HI2.out]; omega, by rw [HI2.out]; omega, ⟨by unfold clsR; rw [← HII.out]⟩, ⟨heap_alloc2_new _ _ _ |> fun h => by simpa using h⟩, ⟨heap_alloc2_old _ _ _⟩, ⟨below_alloc (below_alloc (Below.refl _ _) _) _⟩, ⟨by rw [HI2.out]; omega⟩⟩
    case round =>
      obtain ⟨j, f, rfl, hj0, hj1, HE, HG, HZ, HB, HM⟩ := hrel
      obtain ⟨k1, rfl⟩ : ∃ k1, gk = k1 + 1 := ⟨gk - 1, by have := HM.out; omega⟩
      by_cases hj : j < (p.size : Int) ∧ bt p j ≠ 93
      · obtain ⟨hj2, hj3⟩ := hj
        obtain ⟨lo, hlo⟩ : ∃ lo : Nat, (itemP p j).1 = (lo : Int) := ⟨_, (Int.toNat_of_nonneg (itemP_range p j).1).symm⟩
        obtain ⟨hi2, hhi⟩ : ∃ hi2 : Nat, (itemP p j).2.1 = (hi2 : Int) := ⟨_, (Int.toNat_of_nonneg (itemP_range p j).2.2.1).symm⟩
        obtain ⟨nx, hnx⟩ : ∃ nx : Int, (itemP p j).2.2 = nx := ⟨_, rfl⟩
        have hrg := itemP_range p j
        have hnn := itemP_next p j
        rw [hlo, hhi] at hrg
        rw [hnx] at hnn
        have hit := item_is p j hj0 hj2 hp
        have hcall := fun W => PGlobMatches.mewsref02_item.calls 2 p j lo hi2 nx W (by rw [hit, ← hlo, ← hhi, ← hnx])
        have HCALL := Aside0.mk hcall
        have HLO := Aside0.mk hlo
        have HHI := Aside0.mk hhi
        have HNX := Aside0.mk hnx
        obtain ⟨hl0, hl1, hh0, hh1⟩ := hrg
        have hle := itemP_le p j
        rw [HLO.out, HHI.out] at hle
        obtain ⟨hn0, hn1, hn2⟩ := hnn
        have hn2' := hn2 hj2
        clear hcall hit hlo hhi hnx hn2
        have hbj := bt_at p j
        have hne : (bt p j != 93) = true := by simpa using hj3
        have hbr := bt_range p j
        obtain ⟨hbr0, hbr1⟩ := hbr
        go_wp2_with ((go_at_call 82; ((with_reducible refine (HCALL.out _).mono ?_)); rintro e w3 ⟨rfl, ⟨q3, rfl⟩⟩))
        obtain ⟨wo, hwo⟩ : ∃ wo : World, wo = wr := ⟨_, rfl⟩
        subst hwo
        go_loopg [11] (hi2 + 2) (fun gq v11 wr => ∃ n : Nat, v11 = .int .i64 n ∧ lo ≤ n ∧ n ≤ hi2 + 1 ∧ Aside0 (wr.heap[w.heap.size + 1]? = some (.cells (pc 3 (addB (lo : Int) ((n : Int) - 1) f)) 97 (0, 0))) ∧ Aside0 (wr.heap[w.heap.size]? = some (.cells Try.zeroCells97 97 (0, 0))) ∧ Aside0 (Below w.heap.size w wr) ∧ Aside0 (hi2 + 1 - n < gq))
        case atStart => exact ⟨lo, rfl, Nat.le_refl _, by omega, ⟨by rw [addB_none]; exact HG.out⟩, HZ, ⟨pw_below_drewN HB.out _⟩, ⟨by omega⟩⟩
        case round =>
          clear HG HZ HB
          obtain ⟨n, rfl, hnl, hnh, HG, HZ, HB, HM2⟩ := hrel
          by_cases hin : n < hi2 + 1
          · have hc := cell_row HG.out n (by omega)
            have hf := blk_frozen HG.out (1 + n)
            have hin' : (n : Int) ≤ (hi2 : Int) := by omega
            go_wp2
            go_roundg (hi2 + 1 - n)
            case measure => exact HM2.out
            case rel => exact ⟨n + 1, by go_num, by omega, by omega, ⟨by have h := put_row HG.out n true; rw [addB_snoc lo n f hnl] at h; rw [show ((n + 1 : Nat) : Int) - 1 = (n : Int) from by omega]; exact h⟩, ⟨blk_far HZ.out (by simp) _⟩, ⟨HB.out.setCell (by simp) _⟩, ⟨by omega⟩⟩
          · have hin' : ¬ (n : Int) ≤ (hi2 : Int) := by omega
            obtain rfl : n = hi2 + 1 := by omega
            go_wp2
            go_roundg k1
            case measure => omega
            case rel => exact ⟨nx, addB (lo : Int) (hi2 : Int) f, rfl, by omega, by omega, ⟨by rw [HE.out, clsS, if_pos ⟨hj2, hj3⟩, HLO.out, HHI.out, HNX.out]⟩, ⟨by have h := HG.out; rwa [show ((hi2 + 1 : Nat) : Int) - 1 = (hi2 : Int) from by omega] at h⟩, HZ, HB, ⟨by have := HM.out; omega⟩⟩
      · have hE2 : clsR p i = (f, j) := by rw [HE.out, clsS, if_neg hj]
        have HE2 := Aside0.mk hE2
        have key2 : (j < (p.size : Int) ∧ (bt p j != 93) = false) ∨ ¬ j < (p.size : Int) := by
          by_cases h : j < (p.size : Int)
          · exact .inl ⟨h, by
              by_cases h3 : bt p j = 93
              · simp [h3]
              · exact absurd ⟨h, h3⟩ hj⟩
          · exact .inr h
        clear hE2 hj
        have hbj := bt_at p j
        have hbr := bt_range p j
        obtain ⟨hbr0, hbr1⟩ := hbr
        rcases key2 with ⟨hj2, hj3⟩ | hj2
        all_goals
          obtain ⟨wo, hwo⟩ : ∃ wo : World, wo = wr := ⟨_, rfl⟩
          subst hwo
          go_wp2
          go_loopg [12] 257 (fun gq v12 wr => ∃ (n : Nat) (h : Nat → Bool), v12 = .int .i64 n ∧ n ≤ 256 ∧ Aside0 (256 - n < gq) ∧ Aside0 (∀ c, h c = if c < n then !f c else f c) ∧ Aside0 (tt = false → n = 0) ∧ Aside0 (wr.heap[w.heap.size + 1]? = some (.cells (pc 3 h) 97 (0, 0))) ∧ Aside0 (wr.heap[w.heap.size]? = some (.cells Try.zeroCells97 97 (0, 0))) ∧ Aside0 (Below w.heap.size w wr))
          case atStart => exact ⟨0, f, rfl, by omega, ⟨by omega⟩, ⟨fun c => by simp⟩, ⟨fun _ => rfl⟩, HG, HZ, HB⟩
          case round =>
            clear HG HZ HB
            obtain ⟨n, h, rfl, hn, HM3, HH, HT0, HG, HZ, HB⟩ := hrel
            obtain rfl : n = 0 := HT0.out h1
            go_wp2_with (first
              | ((with_reducible refine gate_ (.load 97 (.tmp 6)) rfl ?_); go_must (refine wpList_load_row rfl 97 (.tmp 6) rfl (w.heap.size + 1) rfl 97 (pc 3 h) (0, 0) _ HG.out Try.underlying97 rfl (by rw [size97, pc_size]) ?_))
              | ((with_reducible refine gate_store (t := 97) (p := 4) (v := .tmp 71) rfl ?_); go_must (refine wpList_store_row rfl 97 (.tmp 4) (.tmp 71) rfl w.heap.size (pc 3 h) Try.zeroCells97 97 rfl rfl HZ.out (by rw [size97, pc_size]) (by rw [zero97, pc_size, pc_size]) (pc_one _ _) ?_); intro w9 hg9 _ _ hb9; have HG9 := Aside0.mk hg9; have HB9 := Aside0.mk (HB.out.trans (hb9 _ (Nat.le_refl _))); clear hg9 hb9))
            have hF : pc 3 h = pc 3 (clsF p i) := pc_congr 3 _ _ (fun c hc => by
              rw [HH.out c]
              unfold clsF
              rw [← HTT.out, HE2.out]
              rw [h1]; simp)
            have hN : clsN p i = j + 1 := by unfold clsN; rw [HE2.out]
            refine bodyPost_ret (v := .tuple #[.agg (pc 3 (clsF p i)), .int .i64 (clsN p i)]) ?_ rfl ⟨rfl, HB9.out⟩
            rw [← hF, hN]
            exact results_ct Try.results79 _ w9 w.heap.size 97 (pc 3 h) (0, 0) _ rfl HG9.out Try.underlying97 rfl (by rw [size97, pc_size])
end Go.Proofs.Ytamdbacmpglbiaa.Glob
