/- bits.OnesCount32: walk, for sets of ten teams. -/
import Derived.Test.YtecgklfcblpkdaaOfP
import Derived.Test.YtecgklfcblpkdaaXCallF
import Derived.Test.YtecgklfcblpkdaaXGuard
namespace Go.Proofs.Ytecgklfcblpkdaa.P
open Go.RowKit Go.Proofs.YtecgklfcblpkdaaW.PrintWords Go.Proofs.YtecgklfcblpkdaaW.PrintLast Go.Proofs.YtecgklfcblpkdaaW.PrintMore
open XW RegInv
attribute [local irreducible] Addr.add
set_option linter.unusedSimpArgs false
set_option linter.unusedVariables false

def popTab : ByteArray := ByteArray.mk (List.toArray [0, 1, 1, 2, 1, 2, 2, 3, 1, 2, 2, 3, 2, 3, 3, 4, 1, 2, 2, 3, 2, 3, 3, 4, 2, 3, 3, 4, 3, 4, 4, 5, 1, 2, 2, 3, 2, 3, 3, 4, 2, 3, 3, 4, 3, 4, 4, 5, 2, 3, 3, 4, 3, 4, 4, 5, 3, 4, 4, 5, 4, 5, 5, 6, 1, 2, 2, 3, 2, 3, 3, 4, 2, 3, 3, 4, 3, 4, 4, 5, 2, 3, 3, 4, 3, 4, 4, 5, 3, 4, 4, 5, 4, 5, 5, 6, 2, 3, 3, 4, 3, 4, 4, 5, 3, 4, 4, 5, 4, 5, 5, 6, 3, 4, 4, 5, 4, 5, 5, 6, 4, 5, 5, 6, 5, 6, 6, 7, 1, 2, 2, 3, 2, 3, 3, 4, 2, 3, 3, 4, 3, 4, 4, 5, 2, 3, 3, 4, 3, 4, 4, 5, 3, 4, 4, 5, 4, 5, 5, 6, 2, 3, 3, 4, 3, 4, 4, 5, 3, 4, 4, 5, 4, 5, 5, 6, 3, 4, 4, 5, 4, 5, 5, 6, 4, 5, 5, 6, 5, 6, 6, 7, 2, 3, 3, 4, 3, 4, 4, 5, 3, 4, 4, 5, 4, 5, 5, 6, 3, 4, 4, 5, 4, 5, 5, 6, 4, 5, 5, 6, 5, 6, 6, 7, 3, 4, 4, 5, 4, 5, 5, 6, 4, 5, 5, 6, 5, 6, 6, 7, 4, 5, 5, 6, 5, 6, 6, 7, 5, 6, 6, 7, 6, 7, 7, 8])
def tb (i : Nat) : Int := ((popTab[i]!).toNat : Int)
set_option maxRecDepth 100000 in
theorem tab_at : ∀ i, i < 256 → popTab[i]? = some (popTab[i]!) := by decide +kernel
def popc (x : Nat) : Nat := ((List.range 10).filter fun t => x.testBit t).length
def ocE (x : Nat) : Int := IntKind.i64.wrap (IntKind.u8.wrap (IntKind.u8.wrap (IntKind.u8.wrap (tb (x / 2 ^ 24) + tb (x / 2 ^ 16 &&& 255)) + tb (x / 2 ^ 8 &&& 255)) + tb (x &&& 255)))
set_option maxRecDepth 100000 in
theorem ocE_eq : ∀ x, x < 1024 → ocE x = (popc x : Int) := by decide +kernel
theorem and255 (x : Nat) : x &&& 255 < 256 := Nat.lt_of_le_of_lt Nat.and_le_right (by decide)
set_option maxRecDepth 100000 in
set_option maxHeartbeats 4000000 in
theorem ones_rets (x : Nat) (hx : x < 1024) (w : World) : Rets Try.prog 28 #[.int .u32 x] w fun u w' => u = .int .i64 (popc x : Nat) ∧ Below w.heap.size w w' := by
  have hF := wide_wide
  have d24 : x / 2 ^ 24 = 0 := Nat.div_eq_of_lt (by omega)
  have a1 := and255 (x / 2 ^ 16)
  have a2 := and255 (x / 2 ^ 8)
  have a3 := and255 x
  have q1 : x / 2 ^ 16 < 4294967296 := Nat.lt_of_le_of_lt (Nat.div_le_self ..) (by omega)
  have q2 : x / 2 ^ 8 < 4294967296 := Nat.lt_of_le_of_lt (Nat.div_le_self ..) (by omega)
  refine rets_at (n := 21) Try.func28 rfl Try.ntmps28 (by simp) ?_
  (repeat (first | ((with_reducible refine is_AL ?_); (first | ((with_reducible refine is_assign ?_); (refine At_plain hF (by (exact (rfl : _ = some (Value.int _ _)))) ?_)) | with_reducible refine At_nil ?_)) | ((with_reducible refine is_At ?_); (first | with_reducible refine At_seq ?_; intro K hK | with_reducible refine At_region ?_ | with_reducible refine At_then_n ?_ | with_reducible refine At_go (by assumption) ?_))))
  refine At_draw hF 18 (by kernel_rfl) (by decide +kernel) ?_; simp only [List.take_succ_cons, List.take_zero, List.drop_succ_cons, List.drop_zero]; (repeat ((with_reducible refine is_AQc ?_); refine AQ_cons (by intro K Q hK; (repeat ((with_reducible refine is_move ?_); (refine At_plain hF (by (exact (rfl : _ = some (Value.int _ _)))) ?_))); exact At_nilK hK) ?_))
  refine AQ_cons (by intro K Q hK; refine At_shr (a := x) (b := 24) hF (by exact rfl) (by exact rfl) (by decide) ?_; exact At_nilK hK) ?_
  refine AQ_cons (by intro K Q hK; refine At_indexStr (s := popTab) (i := x / 2 ^ 24) hF Try.underlying9 (by exact rfl) (by exact rfl) (by exact tab_at _ (by omega)) ?_; exact At_nilK hK) ?_
  (repeat ((with_reducible refine is_AQc ?_); refine AQ_cons (by intro K Q hK; (repeat ((with_reducible refine is_move ?_); (refine At_plain hF (by (exact (rfl : _ = some (Value.int _ _)))) ?_))); exact At_nilK hK) ?_))
  refine AQ_cons (by intro K Q hK; refine At_shr (a := x) (b := 16) hF (by exact rfl) (by exact rfl) (by decide) ?_; exact At_nilK hK) ?_
  refine AQ_cons (by intro K Q hK; refine At_and (a := x / 2 ^ 16) (b := 255) hF (by exact rfl) (by exact rfl) q1 (by decide) ?_; exact At_nilK hK) ?_
  refine AQ_cons (by intro K Q hK; refine At_indexStr (s := popTab) (i := x / 2 ^ 16 &&& 255) hF Try.underlying9 (by exact rfl) (by exact rfl) (by exact tab_at _ a1) ?_; exact At_nilK hK) ?_
  (repeat ((with_reducible refine is_AQc ?_); refine AQ_cons (by intro K Q hK; (repeat (first | ((with_reducible refine is_move ?_); (refine At_plain hF (by (exact (rfl : _ = some (Value.int _ _)))) ?_)) | ((with_reducible refine is_bin ?_); (refine At_plain hF (by (exact (rfl : _ = some (Value.int _ _)))) ?_)))); exact At_nilK hK) ?_))
  refine AQ_cons (by intro K Q hK; refine At_shr (a := x) (b := 8) hF (by exact rfl) (by exact rfl) (by decide) ?_; exact At_nilK hK) ?_
  refine AQ_cons (by intro K Q hK; refine At_and (a := x / 2 ^ 8) (b := 255) hF (by exact rfl) (by exact rfl) q2 (by decide) ?_; exact At_nilK hK) ?_
  refine AQ_cons (by intro K Q hK; refine At_indexStr (s := popTab) (i := x / 2 ^ 8 &&& 255) hF Try.underlying9 (by exact rfl) (by exact rfl) (by exact tab_at _ a2) ?_; exact At_nilK hK) ?_
  (repeat ((with_reducible refine is_AQc ?_); refine AQ_cons (by intro K Q hK; (repeat (first | ((with_reducible refine is_move ?_); (refine At_plain hF (by (exact (rfl : _ = some (Value.int _ _)))) ?_)) | ((with_reducible refine is_bin ?_); (refine At_plain hF (by (exact (rfl : _ = some (Value.int _ _)))) ?_)))); exact At_nilK hK) ?_))
  refine AQ_cons (by intro K Q hK; refine At_and (a := x) (b := 255) hF (by exact rfl) (by exact rfl) (by omega) (by decide) ?_; exact At_nilK hK) ?_
  refine AQ_cons (by intro K Q hK; refine At_indexStr (s := popTab) (i := x &&& 255) hF Try.underlying9 (by exact rfl) (by exact rfl) (by exact tab_at _ a3) ?_; exact At_nilK hK) ?_
  (repeat ((with_reducible refine is_AQc ?_); refine AQ_cons (by intro K Q hK; (repeat ((with_reducible refine is_bin ?_); (refine At_plain hF (by (exact (rfl : _ = some (Value.int _ _)))) ?_))); exact At_nilK hK) ?_))
  refine AQ_cons (by intro K Q hK; refine At_conv hF Try.underlying5 Try.underlying3 (by exact rfl) ?_; exact At_nilK hK) ?_
  (repeat ((with_reducible refine is_AQc ?_); refine AQ_cons (by intro K Q hK; skip; exact At_nilK hK) ?_)); refine AQ_done ?_
  (repeat (first | ((with_reducible refine is_AL ?_); (first | ((with_reducible refine is_assign ?_); (refine At_plain hF (by (exact (rfl : _ = some (Value.int _ _)))) ?_)) | with_reducible refine At_nil ?_)) | ((with_reducible refine is_At ?_); (first | with_reducible refine At_ret ?_ | with_reducible refine At_then_n ?_ | with_reducible refine At_go (by assumption) ?_))))
  refine At_ret1 rfl (rv_tmp (by decide)) (fun w' hw' => ⟨_, rfl, ?_, hw'.below⟩)
  rw [← ocE_eq x hx]
  rfl
end Go.Proofs.Ytecgklfcblpkdaa.P
