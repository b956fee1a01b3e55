/-
  Whether a text matches, as the document tells it: which beginnings of the text the parts so far may have.
-/
import Derived.Test.YtamdbacmpglbiaaGlobParts
import Derived.StillTailTactics
import Derived.Deep.MidRow
namespace Go.Proofs.Ytamdbacmpglbiaa.Glob
open Go.Shelf Go.RowKit Go.Proofs.YtamdbacmpglbiaaW.PrintWords Go.Proofs.YtamdbacmpglbiaaW.PrintLast Go.Proofs.YtamdbacmpglbiaaW.PrintMore Kit
set_option linter.unusedVariables false
set_option linter.unusedSimpArgs false
/-- A row of bools. -/
def bcL (n : Nat) (f : Nat → Bool) : List Value := (List.range n).map fun i => Value.bool (f i)
def bc (n : Nat) (f : Nat → Bool) : Array Value := (bcL n f).toArray
theorem bc_size (n : Nat) (f : Nat → Bool) : (bc n f).size = n := by simp [bc, bcL]
theorem bc_at (n : Nat) (f : Nat → Bool) (i : Nat) (h : i < n) : (bc n f)[i]? = some (.bool (f i)) := by simp [bc, bcL, h]
theorem bc_put (n : Nat) (f : Nat → Bool) (i : Nat) (b : Bool) : (bc n f).setIfInBounds i (.bool b) = bc n (fun j => if j = i then b else f j) := by
  unfold bc bcL
  rw [List.setIfInBounds_toArray]
  congr 1
  apply List.ext_getElem
  · simp
  · intro j h1 h2
    simp only [List.getElem_set, List.getElem_map, List.getElem_range]
    by_cases h : i = j
    · subst h; simp
    · rw [if_neg h, if_neg (Ne.symm h)]
theorem bc_made (n : Nat) : madeCells #[Value.bool false] n = bc n noB := by
  apply Array.ext'
  apply List.ext_getElem
  · simp [bc, bcL, madeCells]
  · intro i h1 h2
    simp [bc, bcL, madeCells, noB, Nat.mod_one]
theorem info4 : (Try.prog.info? 4).map (fun i => (i.zero, i.size, i.bytes)) = some (some (.bool false), 1, 1) := by kernel_rfl
theorem mk4 (m : Nat) (hm : m ≤ 1000000000) (W : World) : (Instr.makeSlice 92 (.int .i64 (m : Int)) (.int .i64 (m : Int))).run Try.prog W = .ok (.slice (some ⟨W.heap.size, 0, none⟩) m m) (W.alloc (.cells (bc m noB) 4)) := by
  have h := print_make_of (P := Try.prog) 92 4 (.bool false) 1 Try.underlying92 info4 rfl (by decide) m (by omega) W
  rw [bc_made] at h
  exact h
/-- Which beginnings the next part leads to. -/
def nx (x : PartT) (s : ByteArray) (r : Nat → Bool) : Nat → Bool
  | 0 => if x.1 = 1 then r 0 else false
  | i + 1 => if x.1 = 1 then (r (i + 1) || nx x s r i) else (r i && (decide (x.1 = 2) || x.2 (bt s (i : Int)).toNat))
def reach : List PartT → ByteArray → (Nat → Bool) → (Nat → Bool)
  | [], _, r => r
  | x :: l, s, r => reach l s (nx x s r)
def start : Nat → Bool := fun i => decide (i = 0)
def matchP (p s : ByteArray) : Bool := reach (parts p) s start s.size
theorem cell_bc {w : World} {g n : Nat} {f : Nat → Bool} (h : w.heap[g]? = some (.cells (bc n f) 4 (0, 0))) (i : Nat) (hi : i < n) : w.cell? ⟨g, i, none⟩ = some (.bool (f i)) := by
  rw [cell_of_row w g i _ 4 (0, 0) h]; exact bc_at n f i hi
theorem put_bc {w : World} {g n : Nat} {f : Nat → Bool} (h : w.heap[g]? = some (.cells (bc n f) 4 (0, 0))) (i : Nat) (b : Bool) : (w.setCell ⟨g, i, none⟩ (.bool b)).heap[g]? = some (.cells (bc n (fun j => if j = i then b else f j)) 4 (0, 0)) := by
  rw [← bc_put]; exact blk_set h _ _
/-- Part k of the parts, as it lies. -/
theorem part_at {w : World} {A : Option Addr} {l : List PartT} (h : Kd.C kPart w A l.length l) (k : Nat) (hk : k < l.length) : ∃ b o, A = some ⟨b, o, none⟩ ∧ w.cell? ⟨b, o + k * 257, none⟩ = some (.int .i64 (l.getD k (0, noB)).1) ∧ ∀ c, c < 256 → w.cell? ⟨b, o + k * 257 + 1 + c, none⟩ = some (.bool ((l.getD k (0, noB)).2 c)) := by
  have hsz : kPart.sz = 257 := rfl
  obtain ⟨ad, cs, e, _, hK, hc⟩ := Kd.C_get h (0, noB) (k : Int) (by omega) (by omega)
  simp only [Int.toNat_natCast] at hK hc
  rw [hsz] at hc
  obtain rfl : cs = pcL (l.getD k (0, noB)).1 (l.getD k (0, noB)).2 := hK
  obtain ⟨b, o, sp⟩ := ad
  have hsp : sp = none := by
    obtain ⟨ad2, cs2, e2, _, hK2, hc2⟩ := Kd.C_get h (0, noB) 0 (by omega) (by omega)
    have e3 : ad2 = ⟨b, o, sp⟩ := by rw [e] at e2; injection e2 with e2; exact e2.symm
    subst e3
    obtain rfl : cs2 = pcL _ _ := hK2
    have h2 := hc2 0 (.int .i64 (l.getD (0 : Int).toNat (0, noB)).1) rfl
    exact World.cell?_spot (by simpa [Addr.add] using h2)
  subst hsp
  refine ⟨b, o, e, ?_, fun c hc' => ?_⟩
  · have h0 := hc 0 (.int .i64 (l.getD k (0, noB)).1) rfl
    rw [Nat.add_zero, Addr.add_mid] at h0; exact h0
  · have h1 := hc (c + 1) (.bool ((l.getD k (0, noB)).2 c)) (by simp [pcL, hc'])
    rw [Addr.add_mid] at h1
    rw [show o + k * 257 + 1 + c = o + (k * 257 + (c + 1)) by omega]
    exact h1
theorem bc_congr (n : Nat) (f g : Nat → Bool) (h : ∀ j, j < n → f j = g j) : bc n f = bc n g := by
  unfold bc bcL
  congr 1
  apply List.map_congr_left
  intro j hj
  rw [h j (List.mem_range.1 hj)]
theorem partsL_length : ∀ (n : Nat) (p : ByteArray) (i : Int), (partsL n p i).length ≤ n
  | 0, _, _ => by simp [partsL]
  | n + 1, p, i => by
    unfold partsL
    split
    · have := partsL_length n p (partAt p i).2
      simp only [List.length_cons]; omega
    · simp
def upTo (x : PartT) (s : ByteArray) (r : Nat → Bool) (i : Nat) : Nat → Bool := fun j => if j < i then nx x s r j else false
theorem upTo_put (x : PartT) (s : ByteArray) (r : Nat → Bool) (i : Nat) (v : Bool) (hv : v = nx x s r i) : (fun j => if j = i then v else upTo x s r i j) = upTo x s r (i + 1) := by
  funext j
  unfold upTo
  by_cases h : j = i
  · subst h; simp [hv]
  · rw [if_neg h]
    by_cases h2 : j < i
    · rw [if_pos h2, if_pos (by omega)]
    · rw [if_neg h2, if_neg (by omega)]
theorem upTo_skip (x : PartT) (s : ByteArray) (r : Nat → Bool) (i : Nat) (hv : nx x s r i = false) : upTo x s r i = upTo x s r (i + 1) := by
  rw [← upTo_put x s r i false hv.symm]
  funext j
  by_cases h : j = i
  · subst h; simp [upTo]
  · rw [if_neg h]
theorem upTo_zero (x : PartT) (s : ByteArray) (r : Nat → Bool) : upTo x s r 0 = noB := by funext j; simp [upTo, noB]
theorem drop_at (l : List PartT) (k : Nat) (hk : k < l.length) : l.drop k = l.getD k (0, noB) :: l.drop (k + 1) := drop_get l _ hk
theorem wpStill_skip {P : Program} {ops : Array Oper} {w : World} {Q : Act → Prop} {a : Act} {o : Oper} {rest : List Oper} (hw : Region.wanted o (yielded ops a.tmps) = false) (h : wpStill P ops w Q rest (a.put o.dst undef)) : wpStill P ops w Q (o :: rest) a := by
  show (if _ then _ else _)
  rw [if_neg (by rw [hw]; simp)]
  exact h
theorem wpStill_take {P : Program} {ops : Array Oper} {w : World} {Q : Act → Prop} {a : Act} {o : Oper} {rest : List Oper} (hw : Region.wanted o (yielded ops a.tmps) = true) (h : ∀ K : Act → Prop, (∀ a, wpStill P ops w Q rest a → K a) → o.still P a w K) : wpStill P ops w Q (o :: rest) a := by
  show (if _ then _ else _)
  rw [if_pos hw]
  exact h _ (fun _ h => h)
set_option maxHeartbeats 8000000 in
set_option maxRecDepth 100000 in
theorem match_calls (w : World) (p s : ByteArray) (hp : p.size ≤ 1000000) (hs : s.size ≤ 1000000) : Calls Try.prog 19 #[.string p, .string s] w fun e w' => e = .returned (.bool (matchP p s)) ∧ Below w.heap.size w w' := by
  have hmk := mk4 (s.size + 1) (by omega)
  rw [show ((s.size + 1 : Nat) : Int) = (s.size : Int) + 1 from rfl] at hmk
  have hb0 := bc_at (s.size + 1) noB 0 (by omega)
  have hb1 := bc_put (s.size + 1) noB 0 true
  rw [show (fun j => if j = 0 then true else noB j) = start from by funext j; unfold start noB; by_cases h : j = 0 <;> simp [h]] at hb1
  have HP := Aside0.mk hp
  go_enter Try.func19, Try.ntmps19
  go_wp2_with (go_at_call 58; go_must (refine (parts_calls _ p HP.out).mono ?_); rintro e w2 ⟨A, c, rfl, hl, hC, hB⟩; have HL := Aside0.mk hl; have HC := Aside0.mk hC; have HB := Aside0.mk hB; clear hl hC hB)
  obtain ⟨L, hL⟩ : ∃ L, L = parts p := ⟨_, rfl⟩
  rw [← hL]
  have HLL := Aside0.mk hL
  have hLs : L.length ≤ 1000001 := by have := partsL_length (p.size + 1) p 0; rw [hL]; unfold parts; omega
  have HL1 := Aside0.mk (by rw [hL]; exact HL.out : L.length ≤ c)
  have HC1 := Aside0.mk (by rw [hL]; exact HC.out : Kd.C kPart w2 A L.length L)
  have hs0 := HB.out.size
  have HR0 := Aside0.mk (blk_below (heap_alloc_new w (.cells (bc (s.size + 1) start) 4)) HB.out)
  have HBW := Aside0.mk (below_then (below_alloc (Below.refl w.heap.size w) _) (by simp) HB.out)
  clear HL HC hb0 hb1 hL HB
  go_loopg [5, 7] (L.length + 1) (fun gq v5 v7 wr => ∃ (k gr : Nat) (r : Nat → Bool), v7 = .int .i64 k ∧ k ≤ L.length ∧ v5 = .slice (some ⟨gr, 0, none⟩) (s.size + 1) (s.size + 1) ∧ Aside0 (w.heap.size ≤ gr) ∧ Aside0 (wr.heap[gr]? = some (.cells (bc (s.size + 1) r) 4 (0, 0))) ∧ Aside0 (reach L s start = reach (L.drop k) s r) ∧ Aside0 (Below w2.heap.size w2 wr) ∧ Aside0 (L.length - k < gq))
  case atStart => exact ⟨0, w.heap.size, start, rfl, Nat.zero_le _, rfl, ⟨Nat.le_refl _⟩, HR0, ⟨rfl⟩, ⟨Below.refl _ _⟩, ⟨by omega⟩⟩
  case round =>
    clear HR0
    obtain ⟨k, gr, r, rfl, hk, rfl, HGR, HR, HE, HB, HM⟩ := hrel
    by_cases hlt : k < L.length
    · obtain ⟨x, hx⟩ : ∃ x, x = L.getD k (0, noB) := ⟨_, rfl⟩
      obtain ⟨b, o, hA, hc0, hc1⟩ := part_at (Kd.C_below HC1.out HB.out) k hlt
      subst hA
      rw [← hx] at hc0 hc1
      have hdr := drop_at L k hlt
      rw [← hx] at hdr
      have HDR := Aside0.mk hdr
      have HCS := Aside0.mk hc1
      have HC0 := Aside0.mk hc0
      clear hdr hc1 hc0 hx
      obtain ⟨wo, hwo⟩ : ∃ wo : World, wo = wr := ⟨_, rfl⟩
      subst hwo
      go_wp2
      go_loopg [9] (s.size + 2) (fun gq v9 wr => ∃ i : Nat, v9 = .int .i64 i ∧ i ≤ s.size + 1 ∧ Aside0 (wr.heap[gr]? = some (.cells (bc (s.size + 1) r) 4 (0, 0))) ∧ Aside0 (wr.heap[wo.heap.size]? = some (.cells (bc (s.size + 1) (upTo x s r i)) 4 (0, 0))) ∧ Aside0 (Below wo.heap.size wo wr) ∧ Aside0 (s.size + 1 - i < gq))
      case atStart => exact ⟨0, rfl, Nat.zero_le _, ⟨blk_alloc HR.out _⟩, ⟨by rw [upTo_zero]; exact heap_alloc_new _ _⟩, ⟨below_alloc (Below.refl _ _) _⟩, ⟨by omega⟩⟩
      case round =>
        obtain ⟨i, rfl, hi, HR2, HN, HB2, HM2⟩ := hrel
        by_cases hin : i ≤ s.size
        · have hc0 := pw_cell_below HB2.out HC0.out
          have hne : gr ≠ wo.heap.size := by have := blk_lt HR.out; omega
          have HNE := Aside0.mk hne
          clear hne
          have hci := cell_bc HN.out i (by omega)
          have hfi := blk_frozen HN.out i
          by_cases hk1 : x.1 = 1
          · have d1 : (x.1 == 1) = true := by simp [hk1]
            have hri := cell_bc HR2.out i (by omega)
            cases hrb : r i with
            | true =>
              rw [hrb] at hri
              have hv : true = nx x s r i := by cases i <;> simp [nx, hk1, hrb]
              have HV := Aside0.mk hv
              clear hv hrb
              go_wp2
              go_roundg (s.size + 1 - i)
              case measure => exact HM2.out
              case rel => exact ⟨i + 1, by go_num, by omega, ⟨blk_far HR2.out (by simpa using HNE.out) _⟩, ⟨by have h := put_bc HN.out i true; rw [upTo_put x s r i _ HV.out] at h; exact h⟩, ⟨HB2.out.setCell (by simp) _⟩, ⟨by omega⟩⟩
            | false =>
              rw [hrb] at hri
              rcases i with _ | m
              · have hv : false = nx x s r 0 := by simp [nx, hk1, hrb]
                have HV := Aside0.mk hv
                clear hv hrb
                go_wp2
                go_roundg (s.size + 1 - 0)
                case measure => exact HM2.out
                case rel => exact ⟨0 + 1, by go_num, by omega, ⟨blk_far HR2.out (by simpa using HNE.out) _⟩, ⟨by have h := put_bc HN.out 0 false; rw [upTo_put x s r 0 _ HV.out] at h; exact h⟩, ⟨HB2.out.setCell (by simp) _⟩, ⟨by omega⟩⟩
              · have hv : nx x s r m = nx x s r (m + 1) := by simp [nx, hk1, hrb]
                have HV := Aside0.mk hv
                have hcm := cell_bc HN.out m (by omega)
                rw [show upTo x s r (m + 1) m = nx x s r m from by simp [upTo]] at hcm
                clear hv hrb
                go_wp2
                go_roundg (s.size + 1 - (m + 1))
                case measure => exact HM2.out
                case rel => exact ⟨(m + 1) + 1, by go_num, by omega, ⟨blk_far HR2.out (by simpa using HNE.out) _⟩, ⟨by have h := put_bc HN.out (m + 1) (nx x s r m); rw [upTo_put x s r (m + 1) _ HV.out] at h; exact h⟩, ⟨HB2.out.setCell (by simp) _⟩, ⟨by omega⟩⟩
          · have d1 : (x.1 == 1) = false := by simpa using hk1
            rcases i with _ | m
            · have hv : nx x s r 0 = false := by simp [nx, hk1]
              have HV := Aside0.mk hv
              clear hv
              go_wp2
              go_roundg (s.size + 1 - 0)
              case measure => exact HM2.out
              case rel => exact ⟨0 + 1, by go_num, by omega, HR2, ⟨by have h := HN.out; rw [upTo_skip x s r 0 HV.out] at h; exact h⟩, HB2, ⟨by omega⟩⟩
            · have hrm := cell_bc HR2.out m (by omega)
              cases hrb : r m with
              | false =>
                rw [hrb] at hrm
                have hv : nx x s r (m + 1) = false := by simp [nx, hk1, hrb]
                have HV := Aside0.mk hv
                clear hv hrb
                go_wp2
                go_roundg (s.size + 1 - (m + 1))
                case measure => exact HM2.out
                case rel => exact ⟨(m + 1) + 1, by go_num, by omega, HR2, ⟨by have h := HN.out; rw [upTo_skip x s r (m + 1) HV.out] at h; exact h⟩, HB2, ⟨by omega⟩⟩
              | true =>
                rw [hrb] at hrm
                have hbs := bt_at s (m : Int)
                simp only [Int.toNat_natCast] at hbs
                obtain ⟨c0, hc0'⟩ : ∃ c0 : Nat, bt s (m : Int) = (c0 : Int) := ⟨_, (Int.toNat_of_nonneg (bt_range s (m : Int)).1).symm⟩
                have hc256 : c0 < 256 := by have := (bt_range s (m : Int)).2; omega
                rw [hc0'] at hbs
                by_cases hk2 : x.1 = 2
                · have d2 : (x.1 == 2) = true := by simp [hk2]
                  have hv : true = nx x s r (m + 1) := by simp [nx, hk1, hrb, hk2]
                  have HV := Aside0.mk hv
                  rw [hk2] at hc0
                  clear hv hrb
                  go_wp2
                  have hm1 : (0 : Int) ≤ (m : Int) + 1 := by omega
                  have hm2 : m < s.size := by omega
                  have hwr : IntKind.i64.wrap (m : Int) = m := by rw [IntKind.wrap_i64]; omega
                  have hc9 : (c0 : Int) < 256 := by omega
                  refine wp_region_still_tail 21 (by kernel_rfl) (by kernel_rfl) ?_
                  simp only [List.take_succ_cons, List.take_zero, List.drop_succ_cons, List.drop_zero]
                  iterate 9 still_step
                  iterate 9 ((with_reducible refine wpStill_skip ?_ ?_); kernel_rfl)
                  simp only [Act.put, List.setIfInBounds_toArray, List.set_cons_zero, List.set_cons_succ]
                  iterate 3 still_step
                  with_reducible refine wpStill_nil ?_
                  go_wp2
                  go_roundg (s.size + 1 - (m + 1))
                  case measure => exact HM2.out
                  case rel => exact ⟨(m + 1) + 1, by go_num, by omega, ⟨blk_far HR2.out (by simpa using HNE.out) _⟩, ⟨by have h := put_bc HN.out (m + 1) (true); rw [upTo_put x s r (m + 1) _ HV.out] at h; exact h⟩, ⟨(HB2.out.setCell (by simp) _).drew⟩, ⟨by omega⟩⟩
                · have d2 : (x.1 == 2) = false := by simpa using hk2
                  have hv : x.2 c0 = nx x s r (m + 1) := by simp [nx, hk1, hrb, hk2, hc0']
                  have HV := Aside0.mk hv
                  have hcs := pw_cell_below HB2.out (HCS.out c0 hc256)
                  clear hv hrb
                  go_wp2
                  have hm1 : (0 : Int) ≤ (m : Int) + 1 := by omega
                  have hm2 : m < s.size := by omega
                  have hwr : IntKind.i64.wrap (m : Int) = m := by rw [IntKind.wrap_i64]; omega
                  have hc9 : (c0 : Int) < 256 := by omega
                  refine wp_region_still_tail 21 (by kernel_rfl) (by kernel_rfl) ?_
                  simp only [List.take_succ_cons, List.take_zero, List.drop_succ_cons, List.drop_zero]
                  iterate 9 still_step
                  iterate 9 ((with_reducible refine wpStill_take ?_ (fun K hK => ?_)); (focus kernel_rfl); go_simp; refine hK _ ?_; clear hK K)
                  iterate 3 still_step
                  with_reducible refine wpStill_nil ?_
                  go_wp2
                  go_roundg (s.size + 1 - (m + 1))
                  case measure => exact HM2.out
                  case rel => exact ⟨(m + 1) + 1, by go_num, by omega, ⟨blk_far HR2.out (by simpa using HNE.out) _⟩, ⟨by have h := put_bc HN.out (m + 1) (x.2 c0); rw [upTo_put x s r (m + 1) _ HV.out] at h; exact h⟩, ⟨(HB2.out.setCell (by simp) _).drew⟩, ⟨by omega⟩⟩
        · have hsz : i = s.size + 1 := by omega
          subst hsz
          have hN2 : wr.heap[wo.heap.size]? = some (.cells (bc (s.size + 1) (nx x s r)) 4 (0, 0)) := by
            rw [HN.out, bc_congr (s.size + 1) (upTo x s r (s.size + 1)) (nx x s r) (fun j hj => by simp [upTo, hj])]
          have hE3 : reach L s start = reach (L.drop (k + 1)) s (nx x s r) := by rw [HE.out, HDR.out]; rfl
          have HN2 := Aside0.mk hN2
          have HE3 := Aside0.mk hE3
          have hle : w.heap.size ≤ wo.heap.size := by have h1 := HB.out.size; have h2 := HBW.out.size; omega
          have HLE := Aside0.mk hle
          have HB3 := Aside0.mk (below_then HB.out HB.out.size HB2.out)
          clear hN2 hE3 hle
          go_wp2
          go_roundg (L.length - k)
          case measure => exact HM.out
          case rel => exact ⟨k + 1, wo.heap.size, nx x s r, by go_num, by omega, rfl, HLE, HN2, HE3, HB3, ⟨by omega⟩⟩
    · have hE : matchP p s = r s.size := by
        unfold matchP
        rw [← HLL.out, HE.out, List.drop_of_length_le (by omega)]
        rfl
      have hr := cell_bc HR.out s.size (by omega)
      rw [← hE] at hr
      have HB' := Aside0.mk (below_then HBW.out HBW.out.size HB.out)
      clear hE
      go_wp2
      go_ret
      exact ⟨rfl, HB'.out⟩
end Go.Proofs.Ytamdbacmpglbiaa.Glob

