/- crierkept.sameBytes, sameInts, sameTexts: of two lists that read alike: true. -/
import Derived.Test.YtndhkgfeknkfdaaGreatDoorBx
namespace Go.Proofs.YtndhkgfeknkfdaaGreatDoor.Rm
open Go.RowKit Go.Proofs.YtndhkgfeknkfdaaGreatDoorW.PrintWords Go.Proofs.YtndhkgfeknkfdaaGreatDoorW.PrintLast Go.Proofs.YtndhkgfeknkfdaaGreatDoorW.PrintMore Go.Proofs.YtndhkgfeknkfdaaGreatDoor.MPacketChecks
open Go.Proofs.YtndhkgfeknkfdaaGreatDoorW.PrintWords.Aside0 renaming mk → am
set_option linter.unusedVariables false
set_option linter.unusedSimpArgs false
set_option maxHeartbeats 4000000
set_option maxRecDepth 100000

theorem sameBytes_calls (A B : Option Addr) (c e : Nat) (l : List Int) (w : World) (ha : Kd.C (Kd.int .u8) w A l.length l) (hb : Kd.C (Kd.int .u8) w B l.length l) (hl : l.length ≤ 1073741824) :
  Calls Tryz.prog 116 #[.slice A l.length c, .slice B l.length e] w fun r w' => r = .returned (.bool true) ∧ Below w.heap.size w w' := by
 have HA := am ha; have HC := am hb; have HB := am (Below.refl w.heap.size w)
 clear ha hb
 go_enter Tryz.func116, Tryz.ntmps116
 go_wp2
 go_loopw [5, 6, 7] (fun v5 v6 v7 wr => ∃ k : Nat, k ≤ l.length ∧ v5 = .int .i64 k ∧ Aside0 (Below w.heap.size w wr)) (fun v5 _ _ _ => l.length - (intOf v5).toNat)
 case atStart => exact ⟨0, Nat.zero_le _, rfl, HB⟩
 case round =>
  clear HB
  obtain ⟨k, hk, rfl, HB⟩ := hrel
  obtain ⟨wo, hwo⟩ : ∃ x, x = wr := ⟨_, rfl⟩; subst hwo
  by_cases hlt : k < l.length
  ·obtain ⟨ad0, c_, e_, _, hK_, hc_⟩ := Kd.C_get (Kd.C_below HA.out HB.out) (0 : Int) (k : Int) (by omega) (by omega); subst e_; obtain rfl : c_ = _ := hK_; have x0 := hc_ 0 _ rfl; rw [show (Kd.int .u8).sz = 1 from rfl, Nat.mul_one, Nat.add_zero, Int.toNat_natCast] at x0; clear hc_
   obtain ⟨ad1, c_, e_, _, hK_, hc_⟩ := Kd.C_get (Kd.C_below HC.out HB.out) (0 : Int) (k : Int) (by omega) (by omega); subst e_; obtain rfl : c_ = _ := hK_; have y0 := hc_ 0 _ rfl; rw [show (Kd.int .u8).sz = 1 from rfl, Nat.mul_one, Nat.add_zero, Int.toNat_natCast] at y0; clear hc_
   go_wp2
   go_roundw
   case rel => exact ⟨k + 1, by omega, by go_num, HB⟩
   case measure => simp [intOf]; omega
  ·obtain rfl : k = l.length := by omega
   go_wp2
   go_ret
   exact ⟨rfl, HB.out⟩
theorem sameInts_calls (A B : Option Addr) (c e : Nat) (l : List Int) (w : World) (ha : Kd.C (Kd.int .i64) w A l.length l) (hb : Kd.C (Kd.int .i64) w B l.length l) (hl : l.length ≤ 1073741824) :
  Calls Tryz.prog 117 #[.slice A l.length c, .slice B l.length e] w fun r w' => r = .returned (.bool true) ∧ Below w.heap.size w w' := by
 have HA := am ha; have HC := am hb; have HB := am (Below.refl w.heap.size w)
 clear ha hb
 go_enter Tryz.func117, Tryz.ntmps117
 go_wp2
 go_loopw [5, 6, 7] (fun v5 v6 v7 wr => ∃ k : Nat, k ≤ l.length ∧ v5 = .int .i64 k ∧ Aside0 (Below w.heap.size w wr)) (fun v5 _ _ _ => l.length - (intOf v5).toNat)
 case atStart => exact ⟨0, Nat.zero_le _, rfl, HB⟩
 case round =>
  clear HB
  obtain ⟨k, hk, rfl, HB⟩ := hrel
  obtain ⟨wo, hwo⟩ : ∃ x, x = wr := ⟨_, rfl⟩; subst hwo
  by_cases hlt : k < l.length
  ·obtain ⟨ad0, c_, e_, _, hK_, hc_⟩ := Kd.C_get (Kd.C_below HA.out HB.out) (0 : Int) (k : Int) (by omega) (by omega); subst e_; obtain rfl : c_ = _ := hK_; have x0 := hc_ 0 _ rfl; rw [show (Kd.int .i64).sz = 1 from rfl, Nat.mul_one, Nat.add_zero, Int.toNat_natCast] at x0; clear hc_
   obtain ⟨ad1, c_, e_, _, hK_, hc_⟩ := Kd.C_get (Kd.C_below HC.out HB.out) (0 : Int) (k : Int) (by omega) (by omega); subst e_; obtain rfl : c_ = _ := hK_; have y0 := hc_ 0 _ rfl; rw [show (Kd.int .i64).sz = 1 from rfl, Nat.mul_one, Nat.add_zero, Int.toNat_natCast] at y0; clear hc_
   go_wp2
   go_roundw
   case rel => exact ⟨k + 1, by omega, by go_num, HB⟩
   case measure => simp [intOf]; omega
  ·obtain rfl : k = l.length := by omega
   go_wp2
   go_ret
   exact ⟨rfl, HB.out⟩
theorem sameTexts_calls (A B : Option Addr) (c e : Nat) (l : List ByteArray) (w : World) (ha : Kd.C Kd.string w A l.length l) (hb : Kd.C Kd.string w B l.length l) (hl : l.length ≤ 1073741824) :
  Calls Tryz.prog 118 #[.slice A l.length c, .slice B l.length e] w fun r w' => r = .returned (.bool true) ∧ Below w.heap.size w w' := by
 have HA := am ha; have HC := am hb; have HB := am (Below.refl w.heap.size w)
 clear ha hb
 go_enter Tryz.func118, Tryz.ntmps118
 go_wp2
 go_loopw [5, 6, 7] (fun v5 v6 v7 wr => ∃ k : Nat, k ≤ l.length ∧ v5 = .int .i64 k ∧ Aside0 (Below w.heap.size w wr)) (fun v5 _ _ _ => l.length - (intOf v5).toNat)
 case atStart => exact ⟨0, Nat.zero_le _, rfl, HB⟩
 case round =>
  clear HB
  obtain ⟨k, hk, rfl, HB⟩ := hrel
  obtain ⟨wo, hwo⟩ : ∃ x, x = wr := ⟨_, rfl⟩; subst hwo
  by_cases hlt : k < l.length
  ·obtain ⟨ad0, e_, x0⟩ := Kd.at_string (Kd.C_below HA.out HB.out) (k : Int) (by omega) (by omega); subst e_; rw [Int.toNat_natCast] at x0
   obtain ⟨ad1, e_, y0⟩ := Kd.at_string (Kd.C_below HC.out HB.out) (k : Int) (by omega) (by omega); subst e_; rw [Int.toNat_natCast] at y0
   go_wp2
   go_roundw
   case rel => exact ⟨k + 1, by omega, by go_num, HB⟩
   case measure => simp [intOf]; omega
  ·obtain rfl : k = l.length := by omega
   go_wp2
   go_ret
   exact ⟨rfl, HB.out⟩
theorem eqA82 (d : Nat) (w : World) (x0 y0 : ByteArray) (x1 y1 : Int) :
  (Op.equalIn (d + 2) 82 (.agg #[.string x0, .int .i64 x1]) (.agg #[.string y0, .int .i64 y1])).run Tryz.prog w = .ok (x0.toList == y0.toList && (x1 == y1)) w := by
 refine eqA_of Tryz.underlying82 (by kernel_rfl) ?_
 refine eqf_cons (by rfl) (by go_simp; rfl) (by go_simp; rfl) (by go_simp) ?_
 exact eqf_last (by rfl) (by go_simp; rfl) (by go_simp; rfl) (by go_simp)
attribute [local go_sem high] eqA82
theorem sameAsks_calls (A B : Option Addr) (c e : Nat) (l : List S82) (w : World) (ha : Kd.C k82 w A l.length l) (hb : Kd.C k82 w B l.length l) (hl : l.length ≤ 1073741824) :
  Calls Tryz.prog 120 #[.slice A l.length c, .slice B l.length e] w fun r w' => r = .returned (.bool true) ∧ Below w.heap.size w w' := by
 have hu82 := Tryz.underlying82
 have HA := am ha; have HC := am hb; have HB := am (Below.refl w.heap.size w)
 clear ha hb
 go_enter Tryz.func120, Tryz.ntmps120
 go_wp2
 go_loopw [5, 6, 7] (fun v5 v6 v7 wr => ∃ k : Nat, k ≤ l.length ∧ v5 = .int .i64 k ∧ Aside0 (Below w.heap.size w wr)) (fun v5 _ _ _ => l.length - (intOf v5).toNat)
 case atStart => exact ⟨0, Nat.zero_le _, rfl, HB⟩
 case round =>
  clear HB
  obtain ⟨k, hk, rfl, HB⟩ := hrel
  obtain ⟨wo, hwo⟩ : ∃ x, x = wr := ⟨_, rfl⟩; subst hwo
  by_cases hlt : k < l.length
  ·obtain ⟨ad0, e_, x0, x1⟩ := at_T82 (Kd.C_below HA.out HB.out) (k : Int) (by omega) (by omega); subst e_; rw [Int.toNat_natCast] at x0 x1; have X0 := am x0; have X1 := am x1
   obtain ⟨ad1, e_, y0, y1⟩ := at_T82 (Kd.C_below HC.out HB.out) (k : Int) (by omega) (by omega); subst e_; rw [Int.toNat_natCast] at y0 y1; have Y0 := am y0; have Y1 := am y1
   have HBo := am (Below.refl wo.heap.size wo)
   go_wp2_with (first | ((with_reducible refine gate_dst (N := 6) rfl ?_); refine box_event ?hg6 (N := 6) ?hd6 (cs := #[.string ⟨#[]⟩, .int .i64 0]) (t := 82) ?hr6 ?_; (case hd6 => rfl); (case hg6 => rfl); (case hr6 => first | (go_simp; done) | (go_simp; rfl)); intro g6 hg w6 hbox hb; have B6 := am hbox; have G6 := am (show wo.heap.size ≤ g6 by rw [hg]; exact HBo.out.size); have n0_ := am (below_step HBo.out hb); clear x0 x1 y0 y1; clear HBo; have HBo := n0_; clear n0_ hg hbox hb) | ((with_reducible refine gate_st (y := .tmp 22) rfl ?_); refine ev_store rfl rfl 82 (.tmp 6) (.tmp 22) rfl g6 0 rfl 82 _ _ B6.out rfl (by kernel_rfl) (Nat.le_of_ble_eq_true rfl) rfl ?_; intro w7 hx hk; have B6' := am hx; have n0_ := am (hk.below HBo.out G6.out); have y0 := pw_cell_below n0_.out Y0.out; have y1 := pw_cell_below n0_.out Y1.out; clear HBo B6; have HBo := n0_; clear n0_ hx hk) | ((with_reducible refine gate_dst (N := 7) rfl ?_); refine box_event ?hg7 (N := 7) ?hd7 (cs := #[.string ⟨#[]⟩, .int .i64 0]) (t := 82) ?hr7 ?_; (case hd7 => rfl); (case hg7 => rfl); (case hr7 => first | (go_simp; done) | (go_simp; rfl)); intro g7 hg w8 hbox hb; have B7 := am hbox; have H7 := am (show g6 ≠ g7 by rw [hg]; exact Nat.ne_of_lt (blk_lt B6'.out)); have G7 := am (show wo.heap.size ≤ g7 by rw [hg]; exact HBo.out.size); have n0_ := am (below_step HBo.out hb); have n1_ := am (blk_below B6'.out hb); clear B6' y0 y1; have B6' := n1_; clear n1_; clear HBo; have HBo := n0_; clear n0_ hg hbox hb) | ((with_reducible refine gate_st (y := .tmp 26) rfl ?_); refine ev_store rfl rfl 82 (.tmp 7) (.tmp 26) rfl g7 0 rfl 82 _ _ B7.out rfl (by kernel_rfl) (Nat.le_of_ble_eq_true rfl) rfl ?_; intro w9 hx hk; have B7' := am hx; have n0_ := am (hk.below HBo.out G7.out); have n1_ := am ((hk.keep g6 H7.out).trans B6'.out); clear B6'; have p0 : w9.cell? ⟨g6, 0, none⟩ = some (.string (rd_T82 l k).f0) := (blk_cell n1_.out 0).trans rfl; have p1 : w9.cell? ⟨g6, 1, none⟩ = some (.int .i64 (rd_T82 l k).f1) := (blk_cell n1_.out 1).trans rfl; have q0 : w9.cell? ⟨g7, 0, none⟩ = some (.string (rd_T82 l k).f0) := (blk_cell B7'.out 0).trans rfl; have q1 : w9.cell? ⟨g7, 1, none⟩ = some (.int .i64 (rd_T82 l k).f1) := (blk_cell B7'.out 1).trans rfl; clear HBo B7; have HBo := n0_; clear n0_ hx hk))
   skip
   go_roundw
   case rel => exact ⟨k + 1, by omega, by go_num, ⟨below_step HB.out HBo.out⟩⟩
   case measure => simp [intOf]; omega
  ·obtain rfl : k = l.length := by omega
   go_wp2
   go_ret
   exact ⟨rfl, HB.out⟩
end Go.Proofs.YtndhkgfeknkfdaaGreatDoor.Rm
