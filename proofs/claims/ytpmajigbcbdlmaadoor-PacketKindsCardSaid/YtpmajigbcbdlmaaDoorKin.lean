/- Kinds: what packet.May and packet.Name tell, out of the two tables that the program's text lays. -/
import Derived.Test.YtpmajigbcbdlmaaDoorPPacketKindsx1
namespace Go.Proofs.YtpmajigbcbdlmaaDoor.Kin
open Go.RowKit Go.Proofs.YtpmajigbcbdlmaaDoorW.PrintWords Go.Proofs.YtpmajigbcbdlmaaDoorW.PrintLast Go.Proofs.YtpmajigbcbdlmaaDoorW.PrintMore Go.Proofs.YtpmajigbcbdlmaaDoor.PPacketKinds
set_option linter.unusedVariables false
set_option linter.unusedSimpArgs false
set_option maxHeartbeats 8000000
set_option maxRecDepth 100000

def flagsL : List Int := [0, 0, 0, 0, 0, 0, 2, 0, 2, 0, 2, 0, 0, 0, 0]
def namesL : List ByteArray := [(⟨#[]⟩ : ByteArray), (⟨#[67, 111, 110, 110, 101, 99, 116]⟩ : ByteArray), (⟨#[67, 111, 110, 110, 97, 99, 107]⟩ : ByteArray), (⟨#[80, 117, 98, 108, 105, 115, 104]⟩ : ByteArray), (⟨#[80, 117, 98, 97, 99, 107]⟩ : ByteArray), (⟨#[80, 117, 98, 114, 101, 99]⟩ : ByteArray), (⟨#[80, 117, 98, 114, 101, 108]⟩ : ByteArray), (⟨#[80, 117, 98, 99, 111, 109, 112]⟩ : ByteArray), (⟨#[83, 117, 98, 115, 99, 114, 105, 98, 101]⟩ : ByteArray), (⟨#[83, 117, 98, 97, 99, 107]⟩ : ByteArray), (⟨#[85, 110, 115, 117, 98, 115, 99, 114, 105, 98, 101]⟩ : ByteArray), (⟨#[85, 110, 115, 117, 98, 97, 99, 107]⟩ : ByteArray), (⟨#[80, 105, 110, 103, 114, 101, 113]⟩ : ByteArray), (⟨#[80, 105, 110, 103, 114, 101, 115, 112]⟩ : ByteArray), (⟨#[68, 105, 115, 99, 111, 110, 110, 101, 99, 116]⟩ : ByteArray)]
def pubL : List Bool := [true, true, true, true, true, true, false, false, false, false, true, true, true, true, false, false]
/-- may a first byte be -/
def mayV (kd f : Int) : Bool := if kd < 1 then false else if 14 < kd then false else if kd = 3 then (if 0 ≤ f ∧ f < 16 then pubL.getD f.toNat false else false) else f == flagsL.getD kd.toNat 0
def nameV (kd : Int) : ByteArray := if kd < 1 then ⟨#[]⟩ else if 14 < kd then ⟨#[]⟩ else namesL.getD kd.toNat ⟨#[]⟩
/-- the two variables hold their tables -/
def Tabs (w : World) : Prop := (∀ i, i < 15 → w.cell? ⟨0, i, none⟩ = some (.int .i64 (flagsL.getD i 0))) ∧ (∀ i, i < 15 → w.cell? ⟨1, i, none⟩ = some (.string (namesL.getD i ⟨#[]⟩)))
theorem Tabs.drewN {w : World} (h : Tabs w) (n : Nat) : Tabs (w.drewN n) := h

theorem may_1 (f : Int) (w : World) (hc : ∀ m, (w.drewN m).cell? ⟨0, 1, none⟩ = some (.int .i64 0)) :
    Calls Tryd.prog 4 #[.int .i64 1, .int .i64 f] w fun e w' => e = .returned (.bool (f == 0)) ∧ Drawn0 w w' := by
  go_enter Tryd.func4, Tryd.ntmps4
  go_wp2_with (first | (go_at_call 8; (with_reducible refine (packet_isKind.calls 1 true _ rfl).mono ?_); rintro e w' ⟨rfl, ⟨nd, rfl⟩⟩))
  go_ret
  exact ⟨by first | rfl | (simp; done) | (simp [*]; done), by repeat (first | exact Drawn0.refl _ | apply Drawn0.step)⟩
theorem name_1 (s : ByteArray) (w : World) (hc : ∀ m, (w.drewN m).cell? ⟨1, 1, none⟩ = some (.string s)) :
    Calls Tryd.prog 6 #[.int .i64 1] w fun e w' => e = .returned (.string s) ∧ Drawn0 w w' := by
  go_enter Tryd.func6, Tryd.ntmps6
  go_wp2_with (first | (go_at_call 8; (with_reducible refine (packet_isKind.calls 1 true _ rfl).mono ?_); rintro e w' ⟨rfl, ⟨nd, rfl⟩⟩))
  go_ret
  exact ⟨by first | rfl | (simp; done) | (simp [*]; done), by repeat (first | exact Drawn0.refl _ | apply Drawn0.step)⟩
theorem may_2 (f : Int) (w : World) (hc : ∀ m, (w.drewN m).cell? ⟨0, 2, none⟩ = some (.int .i64 0)) :
    Calls Tryd.prog 4 #[.int .i64 2, .int .i64 f] w fun e w' => e = .returned (.bool (f == 0)) ∧ Drawn0 w w' := by
  go_enter Tryd.func4, Tryd.ntmps4
  go_wp2_with (first | (go_at_call 8; (with_reducible refine (packet_isKind.calls 2 true _ rfl).mono ?_); rintro e w' ⟨rfl, ⟨nd, rfl⟩⟩))
  go_ret
  exact ⟨by first | rfl | (simp; done) | (simp [*]; done), by repeat (first | exact Drawn0.refl _ | apply Drawn0.step)⟩
theorem name_2 (s : ByteArray) (w : World) (hc : ∀ m, (w.drewN m).cell? ⟨1, 2, none⟩ = some (.string s)) :
    Calls Tryd.prog 6 #[.int .i64 2] w fun e w' => e = .returned (.string s) ∧ Drawn0 w w' := by
  go_enter Tryd.func6, Tryd.ntmps6
  go_wp2_with (first | (go_at_call 8; (with_reducible refine (packet_isKind.calls 2 true _ rfl).mono ?_); rintro e w' ⟨rfl, ⟨nd, rfl⟩⟩))
  go_ret
  exact ⟨by first | rfl | (simp; done) | (simp [*]; done), by repeat (first | exact Drawn0.refl _ | apply Drawn0.step)⟩
theorem name_3 (s : ByteArray) (w : World) (hc : ∀ m, (w.drewN m).cell? ⟨1, 3, none⟩ = some (.string s)) :
    Calls Tryd.prog 6 #[.int .i64 3] w fun e w' => e = .returned (.string s) ∧ Drawn0 w w' := by
  go_enter Tryd.func6, Tryd.ntmps6
  go_wp2_with (first | (go_at_call 8; (with_reducible refine (packet_isKind.calls 3 true _ rfl).mono ?_); rintro e w' ⟨rfl, ⟨nd, rfl⟩⟩))
  go_ret
  exact ⟨by first | rfl | (simp; done) | (simp [*]; done), by repeat (first | exact Drawn0.refl _ | apply Drawn0.step)⟩
theorem may_4 (f : Int) (w : World) (hc : ∀ m, (w.drewN m).cell? ⟨0, 4, none⟩ = some (.int .i64 0)) :
    Calls Tryd.prog 4 #[.int .i64 4, .int .i64 f] w fun e w' => e = .returned (.bool (f == 0)) ∧ Drawn0 w w' := by
  go_enter Tryd.func4, Tryd.ntmps4
  go_wp2_with (first | (go_at_call 8; (with_reducible refine (packet_isKind.calls 4 true _ rfl).mono ?_); rintro e w' ⟨rfl, ⟨nd, rfl⟩⟩))
  go_ret
  exact ⟨by first | rfl | (simp; done) | (simp [*]; done), by repeat (first | exact Drawn0.refl _ | apply Drawn0.step)⟩
theorem name_4 (s : ByteArray) (w : World) (hc : ∀ m, (w.drewN m).cell? ⟨1, 4, none⟩ = some (.string s)) :
    Calls Tryd.prog 6 #[.int .i64 4] w fun e w' => e = .returned (.string s) ∧ Drawn0 w w' := by
  go_enter Tryd.func6, Tryd.ntmps6
  go_wp2_with (first | (go_at_call 8; (with_reducible refine (packet_isKind.calls 4 true _ rfl).mono ?_); rintro e w' ⟨rfl, ⟨nd, rfl⟩⟩))
  go_ret
  exact ⟨by first | rfl | (simp; done) | (simp [*]; done), by repeat (first | exact Drawn0.refl _ | apply Drawn0.step)⟩
theorem may_5 (f : Int) (w : World) (hc : ∀ m, (w.drewN m).cell? ⟨0, 5, none⟩ = some (.int .i64 0)) :
    Calls Tryd.prog 4 #[.int .i64 5, .int .i64 f] w fun e w' => e = .returned (.bool (f == 0)) ∧ Drawn0 w w' := by
  go_enter Tryd.func4, Tryd.ntmps4
  go_wp2_with (first | (go_at_call 8; (with_reducible refine (packet_isKind.calls 5 true _ rfl).mono ?_); rintro e w' ⟨rfl, ⟨nd, rfl⟩⟩))
  go_ret
  exact ⟨by first | rfl | (simp; done) | (simp [*]; done), by repeat (first | exact Drawn0.refl _ | apply Drawn0.step)⟩
theorem name_5 (s : ByteArray) (w : World) (hc : ∀ m, (w.drewN m).cell? ⟨1, 5, none⟩ = some (.string s)) :
    Calls Tryd.prog 6 #[.int .i64 5] w fun e w' => e = .returned (.string s) ∧ Drawn0 w w' := by
  go_enter Tryd.func6, Tryd.ntmps6
  go_wp2_with (first | (go_at_call 8; (with_reducible refine (packet_isKind.calls 5 true _ rfl).mono ?_); rintro e w' ⟨rfl, ⟨nd, rfl⟩⟩))
  go_ret
  exact ⟨by first | rfl | (simp; done) | (simp [*]; done), by repeat (first | exact Drawn0.refl _ | apply Drawn0.step)⟩
theorem may_6 (f : Int) (w : World) (hc : ∀ m, (w.drewN m).cell? ⟨0, 6, none⟩ = some (.int .i64 2)) :
    Calls Tryd.prog 4 #[.int .i64 6, .int .i64 f] w fun e w' => e = .returned (.bool (f == 2)) ∧ Drawn0 w w' := by
  go_enter Tryd.func4, Tryd.ntmps4
  go_wp2_with (first | (go_at_call 8; (with_reducible refine (packet_isKind.calls 6 true _ rfl).mono ?_); rintro e w' ⟨rfl, ⟨nd, rfl⟩⟩))
  go_ret
  exact ⟨by first | rfl | (simp; done) | (simp [*]; done), by repeat (first | exact Drawn0.refl _ | apply Drawn0.step)⟩
theorem name_6 (s : ByteArray) (w : World) (hc : ∀ m, (w.drewN m).cell? ⟨1, 6, none⟩ = some (.string s)) :
    Calls Tryd.prog 6 #[.int .i64 6] w fun e w' => e = .returned (.string s) ∧ Drawn0 w w' := by
  go_enter Tryd.func6, Tryd.ntmps6
  go_wp2_with (first | (go_at_call 8; (with_reducible refine (packet_isKind.calls 6 true _ rfl).mono ?_); rintro e w' ⟨rfl, ⟨nd, rfl⟩⟩))
  go_ret
  exact ⟨by first | rfl | (simp; done) | (simp [*]; done), by repeat (first | exact Drawn0.refl _ | apply Drawn0.step)⟩
theorem may_7 (f : Int) (w : World) (hc : ∀ m, (w.drewN m).cell? ⟨0, 7, none⟩ = some (.int .i64 0)) :
    Calls Tryd.prog 4 #[.int .i64 7, .int .i64 f] w fun e w' => e = .returned (.bool (f == 0)) ∧ Drawn0 w w' := by
  go_enter Tryd.func4, Tryd.ntmps4
  go_wp2_with (first | (go_at_call 8; (with_reducible refine (packet_isKind.calls 7 true _ rfl).mono ?_); rintro e w' ⟨rfl, ⟨nd, rfl⟩⟩))
  go_ret
  exact ⟨by first | rfl | (simp; done) | (simp [*]; done), by repeat (first | exact Drawn0.refl _ | apply Drawn0.step)⟩
theorem name_7 (s : ByteArray) (w : World) (hc : ∀ m, (w.drewN m).cell? ⟨1, 7, none⟩ = some (.string s)) :
    Calls Tryd.prog 6 #[.int .i64 7] w fun e w' => e = .returned (.string s) ∧ Drawn0 w w' := by
  go_enter Tryd.func6, Tryd.ntmps6
  go_wp2_with (first | (go_at_call 8; (with_reducible refine (packet_isKind.calls 7 true _ rfl).mono ?_); rintro e w' ⟨rfl, ⟨nd, rfl⟩⟩))
  go_ret
  exact ⟨by first | rfl | (simp; done) | (simp [*]; done), by repeat (first | exact Drawn0.refl _ | apply Drawn0.step)⟩
theorem may_8 (f : Int) (w : World) (hc : ∀ m, (w.drewN m).cell? ⟨0, 8, none⟩ = some (.int .i64 2)) :
    Calls Tryd.prog 4 #[.int .i64 8, .int .i64 f] w fun e w' => e = .returned (.bool (f == 2)) ∧ Drawn0 w w' := by
  go_enter Tryd.func4, Tryd.ntmps4
  go_wp2_with (first | (go_at_call 8; (with_reducible refine (packet_isKind.calls 8 true _ rfl).mono ?_); rintro e w' ⟨rfl, ⟨nd, rfl⟩⟩))
  go_ret
  exact ⟨by first | rfl | (simp; done) | (simp [*]; done), by repeat (first | exact Drawn0.refl _ | apply Drawn0.step)⟩
theorem name_8 (s : ByteArray) (w : World) (hc : ∀ m, (w.drewN m).cell? ⟨1, 8, none⟩ = some (.string s)) :
    Calls Tryd.prog 6 #[.int .i64 8] w fun e w' => e = .returned (.string s) ∧ Drawn0 w w' := by
  go_enter Tryd.func6, Tryd.ntmps6
  go_wp2_with (first | (go_at_call 8; (with_reducible refine (packet_isKind.calls 8 true _ rfl).mono ?_); rintro e w' ⟨rfl, ⟨nd, rfl⟩⟩))
  go_ret
  exact ⟨by first | rfl | (simp; done) | (simp [*]; done), by repeat (first | exact Drawn0.refl _ | apply Drawn0.step)⟩
theorem may_9 (f : Int) (w : World) (hc : ∀ m, (w.drewN m).cell? ⟨0, 9, none⟩ = some (.int .i64 0)) :
    Calls Tryd.prog 4 #[.int .i64 9, .int .i64 f] w fun e w' => e = .returned (.bool (f == 0)) ∧ Drawn0 w w' := by
  go_enter Tryd.func4, Tryd.ntmps4
  go_wp2_with (first | (go_at_call 8; (with_reducible refine (packet_isKind.calls 9 true _ rfl).mono ?_); rintro e w' ⟨rfl, ⟨nd, rfl⟩⟩))
  go_ret
  exact ⟨by first | rfl | (simp; done) | (simp [*]; done), by repeat (first | exact Drawn0.refl _ | apply Drawn0.step)⟩
theorem name_9 (s : ByteArray) (w : World) (hc : ∀ m, (w.drewN m).cell? ⟨1, 9, none⟩ = some (.string s)) :
    Calls Tryd.prog 6 #[.int .i64 9] w fun e w' => e = .returned (.string s) ∧ Drawn0 w w' := by
  go_enter Tryd.func6, Tryd.ntmps6
  go_wp2_with (first | (go_at_call 8; (with_reducible refine (packet_isKind.calls 9 true _ rfl).mono ?_); rintro e w' ⟨rfl, ⟨nd, rfl⟩⟩))
  go_ret
  exact ⟨by first | rfl | (simp; done) | (simp [*]; done), by repeat (first | exact Drawn0.refl _ | apply Drawn0.step)⟩
theorem may_10 (f : Int) (w : World) (hc : ∀ m, (w.drewN m).cell? ⟨0, 10, none⟩ = some (.int .i64 2)) :
    Calls Tryd.prog 4 #[.int .i64 10, .int .i64 f] w fun e w' => e = .returned (.bool (f == 2)) ∧ Drawn0 w w' := by
  go_enter Tryd.func4, Tryd.ntmps4
  go_wp2_with (first | (go_at_call 8; (with_reducible refine (packet_isKind.calls 10 true _ rfl).mono ?_); rintro e w' ⟨rfl, ⟨nd, rfl⟩⟩))
  go_ret
  exact ⟨by first | rfl | (simp; done) | (simp [*]; done), by repeat (first | exact Drawn0.refl _ | apply Drawn0.step)⟩
theorem name_10 (s : ByteArray) (w : World) (hc : ∀ m, (w.drewN m).cell? ⟨1, 10, none⟩ = some (.string s)) :
    Calls Tryd.prog 6 #[.int .i64 10] w fun e w' => e = .returned (.string s) ∧ Drawn0 w w' := by
  go_enter Tryd.func6, Tryd.ntmps6
  go_wp2_with (first | (go_at_call 8; (with_reducible refine (packet_isKind.calls 10 true _ rfl).mono ?_); rintro e w' ⟨rfl, ⟨nd, rfl⟩⟩))
  go_ret
  exact ⟨by first | rfl | (simp; done) | (simp [*]; done), by repeat (first | exact Drawn0.refl _ | apply Drawn0.step)⟩
theorem may_11 (f : Int) (w : World) (hc : ∀ m, (w.drewN m).cell? ⟨0, 11, none⟩ = some (.int .i64 0)) :
    Calls Tryd.prog 4 #[.int .i64 11, .int .i64 f] w fun e w' => e = .returned (.bool (f == 0)) ∧ Drawn0 w w' := by
  go_enter Tryd.func4, Tryd.ntmps4
  go_wp2_with (first | (go_at_call 8; (with_reducible refine (packet_isKind.calls 11 true _ rfl).mono ?_); rintro e w' ⟨rfl, ⟨nd, rfl⟩⟩))
  go_ret
  exact ⟨by first | rfl | (simp; done) | (simp [*]; done), by repeat (first | exact Drawn0.refl _ | apply Drawn0.step)⟩
theorem name_11 (s : ByteArray) (w : World) (hc : ∀ m, (w.drewN m).cell? ⟨1, 11, none⟩ = some (.string s)) :
    Calls Tryd.prog 6 #[.int .i64 11] w fun e w' => e = .returned (.string s) ∧ Drawn0 w w' := by
  go_enter Tryd.func6, Tryd.ntmps6
  go_wp2_with (first | (go_at_call 8; (with_reducible refine (packet_isKind.calls 11 true _ rfl).mono ?_); rintro e w' ⟨rfl, ⟨nd, rfl⟩⟩))
  go_ret
  exact ⟨by first | rfl | (simp; done) | (simp [*]; done), by repeat (first | exact Drawn0.refl _ | apply Drawn0.step)⟩
theorem may_12 (f : Int) (w : World) (hc : ∀ m, (w.drewN m).cell? ⟨0, 12, none⟩ = some (.int .i64 0)) :
    Calls Tryd.prog 4 #[.int .i64 12, .int .i64 f] w fun e w' => e = .returned (.bool (f == 0)) ∧ Drawn0 w w' := by
  go_enter Tryd.func4, Tryd.ntmps4
  go_wp2_with (first | (go_at_call 8; (with_reducible refine (packet_isKind.calls 12 true _ rfl).mono ?_); rintro e w' ⟨rfl, ⟨nd, rfl⟩⟩))
  go_ret
  exact ⟨by first | rfl | (simp; done) | (simp [*]; done), by repeat (first | exact Drawn0.refl _ | apply Drawn0.step)⟩
theorem name_12 (s : ByteArray) (w : World) (hc : ∀ m, (w.drewN m).cell? ⟨1, 12, none⟩ = some (.string s)) :
    Calls Tryd.prog 6 #[.int .i64 12] w fun e w' => e = .returned (.string s) ∧ Drawn0 w w' := by
  go_enter Tryd.func6, Tryd.ntmps6
  go_wp2_with (first | (go_at_call 8; (with_reducible refine (packet_isKind.calls 12 true _ rfl).mono ?_); rintro e w' ⟨rfl, ⟨nd, rfl⟩⟩))
  go_ret
  exact ⟨by first | rfl | (simp; done) | (simp [*]; done), by repeat (first | exact Drawn0.refl _ | apply Drawn0.step)⟩
theorem may_13 (f : Int) (w : World) (hc : ∀ m, (w.drewN m).cell? ⟨0, 13, none⟩ = some (.int .i64 0)) :
    Calls Tryd.prog 4 #[.int .i64 13, .int .i64 f] w fun e w' => e = .returned (.bool (f == 0)) ∧ Drawn0 w w' := by
  go_enter Tryd.func4, Tryd.ntmps4
  go_wp2_with (first | (go_at_call 8; (with_reducible refine (packet_isKind.calls 13 true _ rfl).mono ?_); rintro e w' ⟨rfl, ⟨nd, rfl⟩⟩))
  go_ret
  exact ⟨by first | rfl | (simp; done) | (simp [*]; done), by repeat (first | exact Drawn0.refl _ | apply Drawn0.step)⟩
theorem name_13 (s : ByteArray) (w : World) (hc : ∀ m, (w.drewN m).cell? ⟨1, 13, none⟩ = some (.string s)) :
    Calls Tryd.prog 6 #[.int .i64 13] w fun e w' => e = .returned (.string s) ∧ Drawn0 w w' := by
  go_enter Tryd.func6, Tryd.ntmps6
  go_wp2_with (first | (go_at_call 8; (with_reducible refine (packet_isKind.calls 13 true _ rfl).mono ?_); rintro e w' ⟨rfl, ⟨nd, rfl⟩⟩))
  go_ret
  exact ⟨by first | rfl | (simp; done) | (simp [*]; done), by repeat (first | exact Drawn0.refl _ | apply Drawn0.step)⟩
theorem may_14 (f : Int) (w : World) (hc : ∀ m, (w.drewN m).cell? ⟨0, 14, none⟩ = some (.int .i64 0)) :
    Calls Tryd.prog 4 #[.int .i64 14, .int .i64 f] w fun e w' => e = .returned (.bool (f == 0)) ∧ Drawn0 w w' := by
  go_enter Tryd.func4, Tryd.ntmps4
  go_wp2_with (first | (go_at_call 8; (with_reducible refine (packet_isKind.calls 14 true _ rfl).mono ?_); rintro e w' ⟨rfl, ⟨nd, rfl⟩⟩))
  go_ret
  exact ⟨by first | rfl | (simp; done) | (simp [*]; done), by repeat (first | exact Drawn0.refl _ | apply Drawn0.step)⟩
theorem name_14 (s : ByteArray) (w : World) (hc : ∀ m, (w.drewN m).cell? ⟨1, 14, none⟩ = some (.string s)) :
    Calls Tryd.prog 6 #[.int .i64 14] w fun e w' => e = .returned (.string s) ∧ Drawn0 w w' := by
  go_enter Tryd.func6, Tryd.ntmps6
  go_wp2_with (first | (go_at_call 8; (with_reducible refine (packet_isKind.calls 14 true _ rfl).mono ?_); rintro e w' ⟨rfl, ⟨nd, rfl⟩⟩))
  go_ret
  exact ⟨by first | rfl | (simp; done) | (simp [*]; done), by repeat (first | exact Drawn0.refl _ | apply Drawn0.step)⟩
theorem may_3_0 (w : World) :
    Calls Tryd.prog 4 #[.int .i64 3, .int .i64 0] w fun e w' => e = .returned (.bool true) ∧ Drawn0 w w' := by
  go_enter Tryd.func4, Tryd.ntmps4
  go_wp2_with (first | (go_at_call 8; (with_reducible refine (packet_isKind.calls 3 true _ rfl).mono ?_); rintro e w' ⟨rfl, ⟨nd, rfl⟩⟩))
  go_ret
  exact ⟨by first | rfl | (simp; done) | (simp [*]; done), by repeat (first | exact Drawn0.refl _ | apply Drawn0.step)⟩
theorem may_3_1 (w : World) :
    Calls Tryd.prog 4 #[.int .i64 3, .int .i64 1] w fun e w' => e = .returned (.bool true) ∧ Drawn0 w w' := by
  go_enter Tryd.func4, Tryd.ntmps4
  go_wp2_with (first | (go_at_call 8; (with_reducible refine (packet_isKind.calls 3 true _ rfl).mono ?_); rintro e w' ⟨rfl, ⟨nd, rfl⟩⟩))
  go_ret
  exact ⟨by first | rfl | (simp; done) | (simp [*]; done), by repeat (first | exact Drawn0.refl _ | apply Drawn0.step)⟩
theorem may_3_2 (w : World) :
    Calls Tryd.prog 4 #[.int .i64 3, .int .i64 2] w fun e w' => e = .returned (.bool true) ∧ Drawn0 w w' := by
  go_enter Tryd.func4, Tryd.ntmps4
  go_wp2_with (first | (go_at_call 8; (with_reducible refine (packet_isKind.calls 3 true _ rfl).mono ?_); rintro e w' ⟨rfl, ⟨nd, rfl⟩⟩))
  go_ret
  exact ⟨by first | rfl | (simp; done) | (simp [*]; done), by repeat (first | exact Drawn0.refl _ | apply Drawn0.step)⟩
theorem may_3_3 (w : World) :
    Calls Tryd.prog 4 #[.int .i64 3, .int .i64 3] w fun e w' => e = .returned (.bool true) ∧ Drawn0 w w' := by
  go_enter Tryd.func4, Tryd.ntmps4
  go_wp2_with (first | (go_at_call 8; (with_reducible refine (packet_isKind.calls 3 true _ rfl).mono ?_); rintro e w' ⟨rfl, ⟨nd, rfl⟩⟩))
  go_ret
  exact ⟨by first | rfl | (simp; done) | (simp [*]; done), by repeat (first | exact Drawn0.refl _ | apply Drawn0.step)⟩
theorem may_3_4 (w : World) :
    Calls Tryd.prog 4 #[.int .i64 3, .int .i64 4] w fun e w' => e = .returned (.bool true) ∧ Drawn0 w w' := by
  go_enter Tryd.func4, Tryd.ntmps4
  go_wp2_with (first | (go_at_call 8; (with_reducible refine (packet_isKind.calls 3 true _ rfl).mono ?_); rintro e w' ⟨rfl, ⟨nd, rfl⟩⟩))
  go_ret
  exact ⟨by first | rfl | (simp; done) | (simp [*]; done), by repeat (first | exact Drawn0.refl _ | apply Drawn0.step)⟩
theorem may_3_5 (w : World) :
    Calls Tryd.prog 4 #[.int .i64 3, .int .i64 5] w fun e w' => e = .returned (.bool true) ∧ Drawn0 w w' := by
  go_enter Tryd.func4, Tryd.ntmps4
  go_wp2_with (first | (go_at_call 8; (with_reducible refine (packet_isKind.calls 3 true _ rfl).mono ?_); rintro e w' ⟨rfl, ⟨nd, rfl⟩⟩))
  go_ret
  exact ⟨by first | rfl | (simp; done) | (simp [*]; done), by repeat (first | exact Drawn0.refl _ | apply Drawn0.step)⟩
theorem may_3_6 (w : World) :
    Calls Tryd.prog 4 #[.int .i64 3, .int .i64 6] w fun e w' => e = .returned (.bool false) ∧ Drawn0 w w' := by
  go_enter Tryd.func4, Tryd.ntmps4
  go_wp2_with (first | (go_at_call 8; (with_reducible refine (packet_isKind.calls 3 true _ rfl).mono ?_); rintro e w' ⟨rfl, ⟨nd, rfl⟩⟩))
  go_ret
  exact ⟨by first | rfl | (simp; done) | (simp [*]; done), by repeat (first | exact Drawn0.refl _ | apply Drawn0.step)⟩
theorem may_3_7 (w : World) :
    Calls Tryd.prog 4 #[.int .i64 3, .int .i64 7] w fun e w' => e = .returned (.bool false) ∧ Drawn0 w w' := by
  go_enter Tryd.func4, Tryd.ntmps4
  go_wp2_with (first | (go_at_call 8; (with_reducible refine (packet_isKind.calls 3 true _ rfl).mono ?_); rintro e w' ⟨rfl, ⟨nd, rfl⟩⟩))
  go_ret
  exact ⟨by first | rfl | (simp; done) | (simp [*]; done), by repeat (first | exact Drawn0.refl _ | apply Drawn0.step)⟩
theorem may_3_8 (w : World) :
    Calls Tryd.prog 4 #[.int .i64 3, .int .i64 8] w fun e w' => e = .returned (.bool false) ∧ Drawn0 w w' := by
  go_enter Tryd.func4, Tryd.ntmps4
  go_wp2_with (first | (go_at_call 8; (with_reducible refine (packet_isKind.calls 3 true _ rfl).mono ?_); rintro e w' ⟨rfl, ⟨nd, rfl⟩⟩))
  go_ret
  exact ⟨by first | rfl | (simp; done) | (simp [*]; done), by repeat (first | exact Drawn0.refl _ | apply Drawn0.step)⟩
theorem may_3_9 (w : World) :
    Calls Tryd.prog 4 #[.int .i64 3, .int .i64 9] w fun e w' => e = .returned (.bool false) ∧ Drawn0 w w' := by
  go_enter Tryd.func4, Tryd.ntmps4
  go_wp2_with (first | (go_at_call 8; (with_reducible refine (packet_isKind.calls 3 true _ rfl).mono ?_); rintro e w' ⟨rfl, ⟨nd, rfl⟩⟩))
  go_ret
  exact ⟨by first | rfl | (simp; done) | (simp [*]; done), by repeat (first | exact Drawn0.refl _ | apply Drawn0.step)⟩
theorem may_3_10 (w : World) :
    Calls Tryd.prog 4 #[.int .i64 3, .int .i64 10] w fun e w' => e = .returned (.bool true) ∧ Drawn0 w w' := by
  go_enter Tryd.func4, Tryd.ntmps4
  go_wp2_with (first | (go_at_call 8; (with_reducible refine (packet_isKind.calls 3 true _ rfl).mono ?_); rintro e w' ⟨rfl, ⟨nd, rfl⟩⟩))
  go_ret
  exact ⟨by first | rfl | (simp; done) | (simp [*]; done), by repeat (first | exact Drawn0.refl _ | apply Drawn0.step)⟩
theorem may_3_11 (w : World) :
    Calls Tryd.prog 4 #[.int .i64 3, .int .i64 11] w fun e w' => e = .returned (.bool true) ∧ Drawn0 w w' := by
  go_enter Tryd.func4, Tryd.ntmps4
  go_wp2_with (first | (go_at_call 8; (with_reducible refine (packet_isKind.calls 3 true _ rfl).mono ?_); rintro e w' ⟨rfl, ⟨nd, rfl⟩⟩))
  go_ret
  exact ⟨by first | rfl | (simp; done) | (simp [*]; done), by repeat (first | exact Drawn0.refl _ | apply Drawn0.step)⟩
theorem may_3_12 (w : World) :
    Calls Tryd.prog 4 #[.int .i64 3, .int .i64 12] w fun e w' => e = .returned (.bool true) ∧ Drawn0 w w' := by
  go_enter Tryd.func4, Tryd.ntmps4
  go_wp2_with (first | (go_at_call 8; (with_reducible refine (packet_isKind.calls 3 true _ rfl).mono ?_); rintro e w' ⟨rfl, ⟨nd, rfl⟩⟩))
  go_ret
  exact ⟨by first | rfl | (simp; done) | (simp [*]; done), by repeat (first | exact Drawn0.refl _ | apply Drawn0.step)⟩
theorem may_3_13 (w : World) :
    Calls Tryd.prog 4 #[.int .i64 3, .int .i64 13] w fun e w' => e = .returned (.bool true) ∧ Drawn0 w w' := by
  go_enter Tryd.func4, Tryd.ntmps4
  go_wp2_with (first | (go_at_call 8; (with_reducible refine (packet_isKind.calls 3 true _ rfl).mono ?_); rintro e w' ⟨rfl, ⟨nd, rfl⟩⟩))
  go_ret
  exact ⟨by first | rfl | (simp; done) | (simp [*]; done), by repeat (first | exact Drawn0.refl _ | apply Drawn0.step)⟩
theorem may_3_14 (w : World) :
    Calls Tryd.prog 4 #[.int .i64 3, .int .i64 14] w fun e w' => e = .returned (.bool false) ∧ Drawn0 w w' := by
  go_enter Tryd.func4, Tryd.ntmps4
  go_wp2_with (first | (go_at_call 8; (with_reducible refine (packet_isKind.calls 3 true _ rfl).mono ?_); rintro e w' ⟨rfl, ⟨nd, rfl⟩⟩))
  go_ret
  exact ⟨by first | rfl | (simp; done) | (simp [*]; done), by repeat (first | exact Drawn0.refl _ | apply Drawn0.step)⟩
theorem may_3_15 (w : World) :
    Calls Tryd.prog 4 #[.int .i64 3, .int .i64 15] w fun e w' => e = .returned (.bool false) ∧ Drawn0 w w' := by
  go_enter Tryd.func4, Tryd.ntmps4
  go_wp2_with (first | (go_at_call 8; (with_reducible refine (packet_isKind.calls 3 true _ rfl).mono ?_); rintro e w' ⟨rfl, ⟨nd, rfl⟩⟩))
  go_ret
  exact ⟨by first | rfl | (simp; done) | (simp [*]; done), by repeat (first | exact Drawn0.refl _ | apply Drawn0.step)⟩
theorem may_3_out (f : Int) (w : World) (hf : ¬ (0 ≤ f ∧ f < 16)) :
    Calls Tryd.prog 4 #[.int .i64 3, .int .i64 f] w fun e w' => e = .returned (.bool false) ∧ Drawn0 w w' := by
  by_cases h0 : 0 ≤ f
  · have c1 : decide (0 ≤ f) = true := decide_eq_true h0
    have c2 : decide (f < 16) = false := decide_eq_false (by omega)
    clear h0 hf
    go_enter Tryd.func4, Tryd.ntmps4
    go_wp2_with (first | (go_at_call 8; (with_reducible refine (packet_isKind.calls 3 true _ rfl).mono ?_); rintro e w' ⟨rfl, ⟨nd, rfl⟩⟩))
    go_ret
    exact ⟨by first | rfl | (simp; done) | (simp [*]; done), by repeat (first | exact Drawn0.refl _ | apply Drawn0.step)⟩
  · have c1 : decide (0 ≤ f) = false := decide_eq_false h0
    clear h0 hf
    go_enter Tryd.func4, Tryd.ntmps4
    go_wp2_with (first | (go_at_call 8; (with_reducible refine (packet_isKind.calls 3 true _ rfl).mono ?_); rintro e w' ⟨rfl, ⟨nd, rfl⟩⟩))
    go_ret
    exact ⟨by first | rfl | (simp; done) | (simp [*]; done), by repeat (first | exact Drawn0.refl _ | apply Drawn0.step)⟩
theorem may_out (kd f : Int) (w : World) (hk : packet_isKind.f kd = some false) :
    Calls Tryd.prog 4 #[.int .i64 kd, .int .i64 f] w fun e w' => e = .returned (.bool false) ∧ Drawn0 w w' := by
  go_enter Tryd.func4, Tryd.ntmps4
  go_wp2_with (first | (go_at_call 8; (with_reducible refine (packet_isKind.calls kd false _ hk).mono ?_); rintro e w' ⟨rfl, ⟨nd, rfl⟩⟩))
  go_ret
  exact ⟨by first | rfl | (simp; done) | (simp [*]; done), by repeat (first | exact Drawn0.refl _ | apply Drawn0.step)⟩
theorem name_out (kd : Int) (w : World) (hk : packet_isKind.f kd = some false) :
    Calls Tryd.prog 6 #[.int .i64 kd] w fun e w' => e = .returned (.string ⟨#[]⟩) ∧ Drawn0 w w' := by
  go_enter Tryd.func6, Tryd.ntmps6
  go_wp2_with (first | (go_at_call 8; (with_reducible refine (packet_isKind.calls kd false _ hk).mono ?_); rintro e w' ⟨rfl, ⟨nd, rfl⟩⟩))
  go_ret
  exact ⟨by first | rfl | (simp; done) | (simp [*]; done), by repeat (first | exact Drawn0.refl _ | apply Drawn0.step)⟩
theorem kind_no {kd : Int} (h : kd < 1 ∨ 14 < kd) : packet_isKind.f kd = some false := by
  unfold packet_isKind.f
  by_cases h1 : kd ≥ 1
  · rw [if_pos h1, decide_eq_false (by omega)]
  · rw [if_neg h1]
theorem kind_cases {kd : Int} (h1 : ¬ kd < 1) (h2 : ¬ 14 < kd) : kd = 1 ∨ kd = 2 ∨ kd = 3 ∨ kd = 4 ∨ kd = 5 ∨ kd = 6 ∨ kd = 7 ∨ kd = 8 ∨ kd = 9 ∨ kd = 10 ∨ kd = 11 ∨ kd = 12 ∨ kd = 13 ∨ kd = 14 := by omega
theorem f_cases {f : Int} (h : 0 ≤ f ∧ f < 16) : f = 0 ∨ f = 1 ∨ f = 2 ∨ f = 3 ∨ f = 4 ∨ f = 5 ∨ f = 6 ∨ f = 7 ∨ f = 8 ∨ f = 9 ∨ f = 10 ∨ f = 11 ∨ f = 12 ∨ f = 13 ∨ f = 14 ∨ f = 15 := by omega
/-- what packet.May tells -/
theorem May_calls (kd f : Int) (w : World) (hT : Tabs w) : Calls Tryd.prog 4 #[.int .i64 kd, .int .i64 f] w fun e w' => e = .returned (.bool (mayV kd f)) ∧ Drawn0 w w' := by
  unfold mayV
  by_cases h1 : kd < 1
  · rw [if_pos h1]; exact may_out kd f w (kind_no (.inl h1))
  rw [if_neg h1]
  by_cases h2 : 14 < kd
  · rw [if_pos h2]; exact may_out kd f w (kind_no (.inr h2))
  rw [if_neg h2]
  by_cases h3 : kd = 3
  · subst h3
    rw [if_pos rfl]
    by_cases hf : 0 ≤ f ∧ f < 16
    · rw [if_pos hf]
      rcases f_cases hf with rfl | rfl | rfl | rfl | rfl | rfl | rfl | rfl | rfl | rfl | rfl | rfl | rfl | rfl | rfl | rfl
      · exact may_3_0 w
      · exact may_3_1 w
      · exact may_3_2 w
      · exact may_3_3 w
      · exact may_3_4 w
      · exact may_3_5 w
      · exact may_3_6 w
      · exact may_3_7 w
      · exact may_3_8 w
      · exact may_3_9 w
      · exact may_3_10 w
      · exact may_3_11 w
      · exact may_3_12 w
      · exact may_3_13 w
      · exact may_3_14 w
      · exact may_3_15 w
    · rw [if_neg hf]; exact may_3_out f w hf
  rw [if_neg h3]
  rcases kind_cases h1 h2 with rfl | rfl | rfl | rfl | rfl | rfl | rfl | rfl | rfl | rfl | rfl | rfl | rfl | rfl
  · exact may_1 f w (fun m => hT.1 1 (by decide))
  · exact may_2 f w (fun m => hT.1 2 (by decide))
  · exact absurd rfl h3
  · exact may_4 f w (fun m => hT.1 4 (by decide))
  · exact may_5 f w (fun m => hT.1 5 (by decide))
  · exact may_6 f w (fun m => hT.1 6 (by decide))
  · exact may_7 f w (fun m => hT.1 7 (by decide))
  · exact may_8 f w (fun m => hT.1 8 (by decide))
  · exact may_9 f w (fun m => hT.1 9 (by decide))
  · exact may_10 f w (fun m => hT.1 10 (by decide))
  · exact may_11 f w (fun m => hT.1 11 (by decide))
  · exact may_12 f w (fun m => hT.1 12 (by decide))
  · exact may_13 f w (fun m => hT.1 13 (by decide))
  · exact may_14 f w (fun m => hT.1 14 (by decide))
/-- what packet.Name tells -/
theorem Name_calls (kd : Int) (w : World) (hT : Tabs w) : Calls Tryd.prog 6 #[.int .i64 kd] w fun e w' => e = .returned (.string (nameV kd)) ∧ Drawn0 w w' := by
  unfold nameV
  by_cases h1 : kd < 1
  · rw [if_pos h1]; exact name_out kd w (kind_no (.inl h1))
  rw [if_neg h1]
  by_cases h2 : 14 < kd
  · rw [if_pos h2]; exact name_out kd w (kind_no (.inr h2))
  rw [if_neg h2]
  rcases kind_cases h1 h2 with rfl | rfl | rfl | rfl | rfl | rfl | rfl | rfl | rfl | rfl | rfl | rfl | rfl | rfl
  · exact name_1 _ w (fun m => hT.2 1 (by decide))
  · exact name_2 _ w (fun m => hT.2 2 (by decide))
  · exact name_3 _ w (fun m => hT.2 3 (by decide))
  · exact name_4 _ w (fun m => hT.2 4 (by decide))
  · exact name_5 _ w (fun m => hT.2 5 (by decide))
  · exact name_6 _ w (fun m => hT.2 6 (by decide))
  · exact name_7 _ w (fun m => hT.2 7 (by decide))
  · exact name_8 _ w (fun m => hT.2 8 (by decide))
  · exact name_9 _ w (fun m => hT.2 9 (by decide))
  · exact name_10 _ w (fun m => hT.2 10 (by decide))
  · exact name_11 _ w (fun m => hT.2 11 (by decide))
  · exact name_12 _ w (fun m => hT.2 12 (by decide))
  · exact name_13 _ w (fun m => hT.2 13 (by decide))
  · exact name_14 _ w (fun m => hT.2 14 (by decide))
/-! the document's own -/
theorem ref_May (kd f : Int) : crierref2_May.f 1 kd f = some (mayV kd f) := by
  unfold crierref2_May.f mayV
  by_cases h1 : kd < 1
  · rw [if_pos h1, if_pos h1, crierref2_May.j0, if_pos rfl]
  rw [if_neg h1, if_neg h1]
  by_cases h2 : 14 < kd
  · rw [if_pos h2, decide_eq_true (show kd > 14 from h2), crierref2_May.j0, if_pos rfl]
  rw [if_neg h2, decide_eq_false (show ¬ kd > 14 from h2), crierref2_May.j0, if_neg (by decide)]
  by_cases h3 : kd = 3
  · rw [if_pos h3, if_pos h3]
    unfold crierref2_within.f
    by_cases hf : 0 ≤ f ∧ f < 16
    · rw [if_pos hf, if_pos (show f ≥ 0 from hf.1), decide_eq_true (show f ≤ 15 by omega)]
      rcases f_cases hf with rfl | rfl | rfl | rfl | rfl | rfl | rfl | rfl | rfl | rfl | rfl | rfl | rfl | rfl | rfl | rfl <;> (clear h1 h2 h3 hf; decide +kernel)
    · rw [if_neg hf]
      by_cases h0 : f ≥ 0
      · rw [if_pos h0, decide_eq_false (show ¬ f ≤ 15 by omega)]; rfl
      · rw [if_neg h0]; rfl
  rw [if_neg h3, if_neg h3]
  rcases kind_cases h1 h2 with rfl | rfl | rfl | rfl | rfl | rfl | rfl | rfl | rfl | rfl | rfl | rfl | rfl | rfl
  · rfl
  · rfl
  · exact absurd rfl h3
  · rfl
  · rfl
  · rfl
  · rfl
  · rfl
  · rfl
  · rfl
  · rfl
  · rfl
  · rfl
  · rfl
theorem ref_Name (kd : Int) : crierref2_Name.f kd = some (nameV kd) := by
  unfold crierref2_Name.f nameV
  simp only [Option.bind_some]
  by_cases h1 : kd < 1
  · rw [if_pos h1]
    by_cases h0 : kd < 0
    · rw [if_pos h0]
    · have : kd = 0 := by omega
      subst this; rfl
  rw [if_neg h1, if_neg (show ¬ kd < 0 by omega)]
  by_cases h2 : 14 < kd
  · rw [if_pos h2, if_pos (show kd > 14 from h2)]
  rw [if_neg h2, if_neg (show ¬ kd > 14 from h2)]
  rcases kind_cases h1 h2 with rfl | rfl | rfl | rfl | rfl | rfl | rfl | rfl | rfl | rfl | rfl | rfl | rfl | rfl <;> rfl

/-- the law's walk -/
theorem walk (kd f : Int) (w : World) (hT : Tabs w) : Calls Tryd.prog 3 #[.int .i64 kd, .int .i64 f] w fun e w' => e = .returned (.bool true) ∧ Below w.heap.size w w' := by
  have HT := Aside0.mk hT
  clear hT
  have HB := Aside0.mk (Below.refl w.heap.size w)
  obtain ⟨m, hm⟩ : ∃ m, m = mayV kd f := ⟨_, rfl⟩
  obtain ⟨s, hs⟩ : ∃ s, s = nameV kd := ⟨_, rfl⟩
  have HM := Aside0.mk hm
  have HS := Aside0.mk hs
  clear hm hs
  have se : (s.toList == s.toList) = true := beq_self_eq_true _
  have me : (m == m) = true := beq_self_eq_true _
  go_enter Tryd.func3, Tryd.ntmps3
  go_wp2_with (first | (go_at_call 4; (with_reducible refine (May_calls kd f _ HT.out).mono ?_); rw [← HM.out]; rintro e w' ⟨rfl, ⟨nd, rfl⟩⟩) | (go_at_call 5; (with_reducible refine (crierref2_May.calls 1 kd f m _ (by rw [HM.out]; exact ref_May kd f)).mono ?_); rintro e w' ⟨rfl, ⟨nd2, rfl⟩⟩) | (go_at_call 6; (with_reducible refine (Name_calls kd _ (HT.out.drewN _)).mono ?_); rw [← HS.out]; rintro e w' ⟨rfl, ⟨nd3, rfl⟩⟩) | (go_at_call 7; (with_reducible refine (crierref2_Name.calls kd s _ (by rw [HS.out]; exact ref_Name kd)).mono ?_); rintro e w1 ⟨rfl, hb⟩; have HB1 := Aside0.mk (below_step (by repeat (first | (with_reducible first | exact HB.out | apply below_alloc | apply pw_below_drewN | apply below_drew1) | exact HB.out)) hb); clear HB; have HB := HB1; clear HB1; clear hb))
  go_ret
  exact ⟨by first | rfl | (simp; done) | (simp [*]; done), by repeat (first | (with_reducible first | exact HB.out | apply below_alloc | apply pw_below_drewN | apply below_drew1) | exact HB.out)⟩
end Go.Proofs.YtpmajigbcbdlmaaDoor.Kin
