/-
  Transactions: what the small calls on one answer.
-/
import Derived.Test.YtamdbacmpglbiaaKit
import Derived.Test.YtamdbacmpglbiaaArgs
import Derived.Test.YtamdbacmpglbiaaGlobClass
import Derived.Deep.RegionHeld3
import Derived.Deep.RegionWith
namespace Go.Proofs.Ytamdbacmpglbiaa.Multi
open Go.Shelf Go.RowKit Go.Proofs.YtamdbacmpglbiaaW.PrintWords Go.Proofs.YtamdbacmpglbiaaW.PrintLast Go.Proofs.YtamdbacmpglbiaaW.PrintMore Kit
set_option linter.unusedVariables false
set_option linter.unusedSimpArgs false
def tx (o b d : Bool) (q : Value) (n : Int) (l : Value) : Value := .agg #[.bool o, .bool b, .bool d, q, .int .i64 n, l]
def rp (k n : Int) (s : ByteArray) : Value := .agg #[.int .i64 k, .int .i64 n, .string s, .slice none 0 0]
set_option maxHeartbeats 8000000 in
set_option maxRecDepth 100000 in
theorem fail (w : World) (s : ByteArray) : Calls Try.prog 60 #[.string s] w fun e w' => e = .returned (rp 2 0 s) ∧ w' = w.alloc (.cells #[.int .i64 2, .int .i64 0, .string s, .slice none 0 0] 44) := by
  go_enter Try.func60, Try.ntmps60
  go_wp2
  refine bodyPost_ret (v := rp 2 0 s) ?_ rfl ⟨rfl, rfl⟩
  simp [results, Try.results60, go_sem, rp, tx]
set_option maxHeartbeats 8000000 in
set_option maxRecDepth 100000 in
theorem okay (w : World) : Calls Try.prog 62 #[] w fun e w' => e = .returned (rp 1 0 ⟨#[79, 75]⟩) ∧ w' = w.alloc (.cells #[.int .i64 1, .int .i64 0, .string ⟨#[79, 75]⟩, .slice none 0 0] 44) := by
  go_enter Try.func62, Try.ntmps62
  go_wp2
  refine bodyPost_ret (v := rp 1 0 ⟨#[79, 75]⟩) ?_ rfl ⟨rfl, rfl⟩
  simp [results, Try.results62, go_sem, rp, tx]
set_option maxHeartbeats 8000000 in
set_option maxRecDepth 100000 in
theorem spoil (w : World) (o b d : Bool) (A A' : Option Addr) (n n' c c' : Nat) (z : Int) : Calls Try.prog 25 #[tx o b d (.slice A n c) z (.slice A' n' c')] w fun e w' => e = .returned (tx o (b || o) d (.slice A n c) z (.slice A' n' c')) ∧ ∃ r1 r2, w' = (w.alloc (.cells r1 41)).alloc (.cells r2 41) := by
  unfold tx
  cases b <;> cases o
  all_goals
    go_enter Try.func25, Try.ntmps25
    go_wp2
    refine bodyPost_ret (v := tx _ _ d (.slice A n c) z (.slice A' n' c')) ?_ rfl ⟨rfl, _, _, rfl⟩
    simp [results, Try.results25, go_sem, tx]
set_option maxHeartbeats 8000000 in
set_option maxRecDepth 100000 in
theorem unwatch (w : World) (o b d : Bool) (A A' : Option Addr) (n n' c c' : Nat) (z : Int) : Calls Try.prog 36 #[tx o b d (.slice A n c) z (.slice A' n' c')] w fun e w' => e = .returned (tx o b false (.slice A n c) z (.slice none 0 0)) ∧ Below w.heap.size w w' := by
  unfold tx
  go_enter Try.func36, Try.ntmps36
  go_wp2
  refine bodyPost_ret (v := tx o b false (.slice A n c) z (.slice none 0 0)) ?_ rfl ⟨rfl, below_alloc (below_alloc (Below.refl _ _) _) _⟩
  simp [results, Try.results36, go_sem, rp, tx]
def sNest : ByteArray := ⟨#[69, 82, 82, 32, 77, 85, 76, 84, 73, 32, 99, 97, 108, 108, 115, 32, 99, 97, 110, 32, 110, 111, 116, 32, 98, 101, 32, 110, 101, 115, 116, 101, 100]⟩
set_option maxHeartbeats 8000000 in
set_option maxRecDepth 100000 in
theorem begin_ (w : World) (o b d : Bool) (A A' : Option Addr) (n n' c c' : Nat) (z : Int) : Calls Try.prog 23 #[tx o b d (.slice A n c) z (.slice A' n' c')] w fun e w' => e = .returned (.tuple #[tx true (b || o) d (.slice A n c) z (.slice A' n' c'), if o = true then rp 2 0 sNest else rp 1 0 ⟨#[79, 75]⟩]) ∧ Below w.heap.size w w' := by
  have HS := Aside0.mk (fun W => spoil W o b d A A' n n' c c' z)
  unfold tx at HS ⊢
  unfold rp
  cases o
  · go_enter Try.func23, Try.ntmps23
    go_wp2_with (fail)
    go_region_with (first | (go_at_call 62; go_must (refine (okay _).mono ?_); unfold rp; rintro e w2 ⟨rfl, rfl⟩))
    all_goals
      go_wp2
      refine bodyPost_ret (v := .tuple #[tx true (b || false) d (.slice A n c) z (.slice A' n' c'), rp 1 0 ⟨#[79, 75]⟩]) ?_ rfl ⟨by simp [tx, rp], ?_⟩
      · simp [results, Try.results23, go_sem, tx, rp]
      · exact below_drew (below_alloc (below_alloc (below_alloc (below_alloc (Below.refl _ _) _) _) _) _)
  · go_enter Try.func23, Try.ntmps23
    go_wp2_with (first
      | (go_at_call 25; go_must (refine (HS.out _).mono ?_); rintro e w2 ⟨rfl, r1, r2, rfl⟩)
      | (go_at_call 60; go_must (refine (fail _ _).mono ?_); unfold rp; rintro e w3 ⟨rfl, rfl⟩))
    refine bodyPost_ret (v := .tuple #[tx true (b || true) d (.slice A n c) z (.slice A' n' c'), rp 2 0 sNest]) ?_ rfl ⟨by simp [tx, rp], ?_⟩
    · simp [results, Try.results23, go_sem, tx, rp, sNest]
    · repeat (first | exact Below.refl _ _ | apply below_alloc | apply below_drew)
def sNoM : ByteArray := ⟨#[69, 82, 82, 32, 69, 88, 69, 67, 32, 119, 105, 116, 104, 111, 117, 116, 32, 77, 85, 76, 84, 73]⟩
set_option maxHeartbeats 8000000 in
set_option maxRecDepth 100000 in
theorem exec_shut (w : World) (b d : Bool) (A A' : Option Addr) (n n' c c' : Nat) (z : Int) : Calls Try.prog 27 #[tx false b d (.slice A n c) z (.slice A' n' c')] w fun e w' => e = .returned (.tuple #[tx false b d (.slice A n c) z (.slice A' n' c'), .slice none 0 0, rp 2 0 sNoM, .bool false]) ∧ Below w.heap.size w w' := by
  unfold tx
  unfold rp
  go_enter Try.func27, Try.ntmps27
  go_wp2_with (fail)
  go_region_with (first | (go_at_call 60; go_must (refine (fail _ _).mono ?_); unfold rp; rintro e w2 ⟨rfl, rfl⟩))
  all_goals
    go_wp2
    refine bodyPost_ret (v := .tuple #[tx false b d (.slice A n c) z (.slice A' n' c'), .slice none 0 0, rp 2 0 sNoM, .bool false]) ?_ rfl ⟨by simp [tx, rp], ?_⟩
    · simp [results, Try.results27, go_sem, tx, rp, sNoM]
    · repeat (first | exact Below.refl _ _ | apply below_alloc | apply below_drew)
def sAbort : ByteArray := ⟨#[69, 88, 69, 67, 65, 66, 79, 82, 84, 32, 84, 114, 97, 110, 115, 97, 99, 116, 105, 111, 110, 32, 100, 105, 115, 99, 97, 114, 100, 101, 100, 32, 98, 101, 99, 97, 117, 115, 101, 32, 111, 102, 32, 112, 114, 101, 118, 105, 111, 117, 115, 32, 101, 114, 114, 111, 114, 115]⟩
def tx0 : Value := tx false false false (.slice none 0 0) 0 (.slice none 0 0)
set_option maxHeartbeats 8000000 in
set_option maxRecDepth 100000 in
theorem exec_bad (w : World) (d : Bool) (A A' : Option Addr) (n n' c c' : Nat) (z : Int) : Calls Try.prog 27 #[tx true true d (.slice A n c) z (.slice A' n' c')] w fun e w' => e = .returned (.tuple #[tx0, .slice none 0 0, rp 2 0 sAbort, .bool false]) ∧ Below w.heap.size w w' := by
  unfold tx
  unfold rp
  go_enter Try.func27, Try.ntmps27
  go_wp2_with (first | (go_at_call 60; go_must (refine (fail _ _).mono ?_); unfold rp; rintro e w2 ⟨rfl, rfl⟩))
  refine bodyPost_ret (v := .tuple #[tx0, .slice none 0 0, rp 2 0 sAbort, .bool false]) ?_ rfl ⟨by simp [tx, tx0, rp], ?_⟩
  · simp [results, Try.results27, go_sem, tx, tx0, rp, sAbort]
  · repeat (first | exact Below.refl _ _ | apply below_alloc | apply below_drew)
set_option maxHeartbeats 8000000 in
set_option maxRecDepth 100000 in
theorem exec_dirty (w : World) (A A' : Option Addr) (n n' c c' : Nat) (z : Int) : Calls Try.prog 27 #[tx true false true (.slice A n c) z (.slice A' n' c')] w fun e w' => e = .returned (.tuple #[tx0, .slice none 0 0, rp 7 0 ⟨#[]⟩, .bool false]) ∧ Below w.heap.size w w' := by
  unfold tx
  unfold rp
  go_enter Try.func27, Try.ntmps27
  go_wp2
  refine bodyPost_ret (v := .tuple #[tx0, .slice none 0 0, rp 7 0 ⟨#[]⟩, .bool false]) ?_ rfl ⟨by simp [tx, tx0, rp], ?_⟩
  · simp [results, Try.results27, go_sem, tx, tx0, rp]
  · repeat (first | exact Below.refl _ _ | apply below_alloc | apply below_drew)
end Go.Proofs.Ytamdbacmpglbiaa.Multi
