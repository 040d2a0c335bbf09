/- Violates: contract. -/
import Derived.Test.YtecgklfcblpkdaaVioW
import Derived.Test.YtecgklfcblpkdaaGOf
namespace Go.Proofs.Ytecgklfcblpkdaa.P
open Go.RowKit Go.Proofs.YtecgklfcblpkdaaW.PrintWords Go.Proofs.YtecgklfcblpkdaaW.PrintLast Go.Proofs.YtecgklfcblpkdaaW.PrintMore
open XW
set_option linter.unusedSimpArgs false
set_option linter.unusedVariables false
def patterns_Violates.f (l0 : List (List Int)) : Option (List Int × Bool × Int) := some (vioF l0)
theorem R_of_row {w w' : World} {A : Option Nat} {c : Nat} {l : List Int} (hmem : Mem w w' [.row 3 1 (sc (Value.int .i64)) A c l]) : Kd.R (Kd.int .i64) 3 w' w.heap.size (fun _ => True) (rowV A l.length c) l := by
  have h0 : RowOk 3 1 (sc (Value.int .i64)) A c l w' := hmem.ok _ (List.mem_cons_self ..)
  have h2 := ownsRow_of (B := w.heap.size) h0 (fun k hk => (hmem.bd _ (List.mem_cons_self ..) k hk).1)
  rw [flat_int] at h2
  exact Kd.R_of_own h2 (fun _ _ => trivial)
theorem patterns_Violates.calls (A0 : Option Addr) (c0 : Nat) (l0 : List (List Int)) (r1 : List Int) (r2 : Bool) (r3 : Int) (w : World) (hr0 : Kd.C (Kd.slice 3 (Kd.int .i64)) w A0 l0.length l0) (hc0 : l0.length ≤ c0) (h : patterns_Violates.f l0 = some (r1, r2, r3)) :
    Calls Try.prog 20 #[.slice A0 l0.length c0] w fun e w' => ∃ v0_ : Value, e = .returned (.tuple #[v0_, .bool r2, .int .i64 r3]) ∧ Kd.R (Kd.int .i64) 3 w' w.heap.size (fun _ => True) v0_ r1 ∧ Below w.heap.size w w' := by
  have hv : vioF l0 = (r1, r2, r3) := Option.some.inj h
  refine (vio_rets A0 c0 l0 w hr0 hc0).mono ?_
  rintro e w' ⟨u, rfl, Rs, hp, hmem⟩
  unfold vioPost at hp
  rw [hv] at hp
  obtain ⟨A, c, rfl, rfl⟩ := hp
  exact ⟨_, rfl, R_of_row hmem, hmem.below⟩
end Go.Proofs.Ytecgklfcblpkdaa.P
