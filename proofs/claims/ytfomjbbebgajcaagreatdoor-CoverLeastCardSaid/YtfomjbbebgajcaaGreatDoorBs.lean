/- crierkept.sameBytes, sameInts, sameTexts: of two lists that read alike: true. -/
import Derived.Test.YtfomjbbebgajcaaGreatDoorBx
namespace Go.Proofs.YtfomjbbebgajcaaGreatDoor.Rm
open Go.RowKit Go.Proofs.YtfomjbbebgajcaaGreatDoorW.PrintWords Go.Proofs.YtfomjbbebgajcaaGreatDoorW.PrintLast Go.Proofs.YtfomjbbebgajcaaGreatDoorW.PrintMore Go.Proofs.YtfomjbbebgajcaaGreatDoor.MCoverLeast
set_option linter.unusedVariables false
set_option linter.unusedSimpArgs false
set_option maxHeartbeats 4000000
set_option maxRecDepth 100000

theorem sameTexts_calls (A B : Option Addr) (c e : Nat) (l : List ByteArray) (w : World) (ha : Kd.C Kd.string w A l.length l) (hb : Kd.C Kd.string w B l.length l) (hl : l.length ≤ 1073741824) :
  Calls Tryz.prog 66 #[.slice A l.length c, .slice B l.length e] w fun r w' => r = .returned (.bool true) ∧ Below w.heap.size w w' := by
 have HA := Aside0.mk ha; have HC := Aside0.mk hb; have HB := Aside0.mk (Below.refl w.heap.size w)
 clear ha hb
 go_enter Tryz.func66, Tryz.ntmps66
 go_wp2
 go_loopw [5, 6, 7] (fun v5 v6 v7 wr => ∃ k : Nat, k ≤ l.length ∧ v5 = .int .i64 k ∧ Aside0 (Below w.heap.size w wr)) (fun v5 _ _ _ => l.length - (intOf v5).toNat)
 case atStart => exact ⟨0, Nat.zero_le _, rfl, HB⟩
 case round =>
  clear HB
  obtain ⟨k, hk, rfl, HB⟩ := hrel
  obtain ⟨wo, hwo⟩ : ∃ x, x = wr := ⟨_, rfl⟩; subst hwo
  by_cases hlt : k < l.length
  ·obtain ⟨ad0, e_, x0⟩ := Kd.at_string (Kd.C_below HA.out HB.out) (k : Int) (by omega) (by omega); subst e_; rw [Int.toNat_natCast] at x0
   obtain ⟨ad1, e_, y0⟩ := Kd.at_string (Kd.C_below HC.out HB.out) (k : Int) (by omega) (by omega); subst e_; rw [Int.toNat_natCast] at y0
   go_wp2
   go_roundw
   case rel => exact ⟨k + 1, by omega, by go_num, HB⟩
   case measure => simp [intOf]; omega
  ·obtain rfl : k = l.length := by omega
   go_wp2
   go_ret
   exact ⟨rfl, HB.out⟩
end Go.Proofs.YtfomjbbebgajcaaGreatDoor.Rm
