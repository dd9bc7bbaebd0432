-- Printed by a program of this session's own (wip/mkprint.py): contracts of the functions that a law uses. Not trusted: Lean checks it.
import Derived.Test.YtndhkgfeknkfdaaGreatDoorMPacketChecksx0
namespace Go.Proofs.YtndhkgfeknkfdaaGreatDoor.MPacketChecks
open Go.RowKit Go.Proofs.YtndhkgfeknkfdaaGreatDoorW.PrintWords Go.Proofs.YtndhkgfeknkfdaaGreatDoorW.PrintLast Go.Proofs.YtndhkgfeknkfdaaGreatDoorW.PrintMore
attribute [local go_sem] max2_int min2_int max_two min_two max_three min_three max_four min_four   -- for this text's walks alone
set_option linter.unusedVariables false
set_option linter.unusedSimpArgs false

theorem eqA140 (d : Nat) (w : World) (x0 y0 : ByteArray) (x1 y1 : Int) (x2 y2 : Bool) :
  (Op.equalIn (d + 2) 140 (.agg #[.string x0, .int .i64 x1, .bool x2]) (.agg #[.string y0, .int .i64 y1, .bool y2])).run Tryz.prog w = .ok (x0.toList == y0.toList && (x1 == y1 && (x2 == y2))) w := by
 refine eqA_of Tryz.underlying140 (by kernel_rfl) ?_
 refine eqf_cons (by rfl) (by go_simp; rfl) (by go_simp; rfl) (by go_simp) ?_
 refine eqf_cons (by rfl) (by go_simp; rfl) (by go_simp; rfl) (by go_simp) ?_
 exact eqf_last (by rfl) (by go_simp; rfl) (by go_simp; rfl) (by go_simp)
end Go.Proofs.YtndhkgfeknkfdaaGreatDoor.MPacketChecks
