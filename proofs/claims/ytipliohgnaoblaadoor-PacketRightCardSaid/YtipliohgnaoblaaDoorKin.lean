/- Kinds: what packet.May and packet.Name tell, out of the two tables that the program's text lays. -/
import Derived.Test.YtipliohgnaoblaaDoorMPacketStaysx2
namespace Go.Proofs.YtipliohgnaoblaaDoor.Kin
open Go.RowKit Go.Proofs.YtipliohgnaoblaaDoorW.PrintWords Go.Proofs.YtipliohgnaoblaaDoorW.PrintLast Go.Proofs.YtipliohgnaoblaaDoorW.PrintMore Go.Proofs.YtipliohgnaoblaaDoor.MPacketStays
set_option linter.unusedVariables false
set_option linter.unusedSimpArgs false
set_option maxHeartbeats 8000000
set_option maxRecDepth 100000

def flagsL : List Int := [0, 0, 0, 0, 0, 0, 2, 0, 2, 0, 2, 0, 0, 0, 0]
def namesL : List ByteArray := [(⟨#[]⟩ : ByteArray), (⟨#[67, 111, 110, 110, 101, 99, 116]⟩ : ByteArray), (⟨#[67, 111, 110, 110, 97, 99, 107]⟩ : ByteArray), (⟨#[80, 117, 98, 108, 105, 115, 104]⟩ : ByteArray), (⟨#[80, 117, 98, 97, 99, 107]⟩ : ByteArray), (⟨#[80, 117, 98, 114, 101, 99]⟩ : ByteArray), (⟨#[80, 117, 98, 114, 101, 108]⟩ : ByteArray), (⟨#[80, 117, 98, 99, 111, 109, 112]⟩ : ByteArray), (⟨#[83, 117, 98, 115, 99, 114, 105, 98, 101]⟩ : ByteArray), (⟨#[83, 117, 98, 97, 99, 107]⟩ : ByteArray), (⟨#[85, 110, 115, 117, 98, 115, 99, 114, 105, 98, 101]⟩ : ByteArray), (⟨#[85, 110, 115, 117, 98, 97, 99, 107]⟩ : ByteArray), (⟨#[80, 105, 110, 103, 114, 101, 113]⟩ : ByteArray), (⟨#[80, 105, 110, 103, 114, 101, 115, 112]⟩ : ByteArray), (⟨#[68, 105, 115, 99, 111, 110, 110, 101, 99, 116]⟩ : ByteArray)]
def pubL : List Bool := [true, true, true, true, true, true, false, false, false, false, true, true, true, true, false, false]
/-- may a first byte be -/
def mayV (kd f : Int) : Bool := if kd < 1 then false else if 14 < kd then false else if kd = 3 then (if 0 ≤ f ∧ f < 16 then pubL.getD f.toNat false else false) else f == flagsL.getD kd.toNat 0
def nameV (kd : Int) : ByteArray := if kd < 1 then ⟨#[]⟩ else if 14 < kd then ⟨#[]⟩ else namesL.getD kd.toNat ⟨#[]⟩
/-- the two variables hold their tables -/
def FlagsT (w : World) : Prop := ∀ i, i < 15 → w.cell? ⟨1, i, none⟩ = some (.int .i64 (flagsL.getD i 0))
def Tabs (w : World) : Prop := FlagsT w ∧ (∀ i, i < 15 → w.cell? ⟨2, i, none⟩ = some (.string (namesL.getD i ⟨#[]⟩)))
theorem Tabs.drewN {w : World} (h : Tabs w) (n : Nat) : Tabs (w.drewN n) := h

theorem may_1 (f : Int) (w : World) (hc : ∀ m, (w.drewN m).cell? ⟨1, 1, none⟩ = some (.int .i64 0)) :
    Calls Tryd.prog 11 #[.int .i64 1, .int .i64 f] w fun e w' => e = .returned (.bool (f == 0)) ∧ Drawn0 w w' := by
  go_enter Tryd.func11, Tryd.ntmps11
  go_wp2_with (first | (go_at_call 20; (with_reducible refine (packet_isKind.calls 1 true _ rfl).mono ?_); rintro e w' ⟨rfl, ⟨nd, rfl⟩⟩))
  go_ret
  exact ⟨by first | rfl | (simp; done) | (simp [*]; done), by repeat (first | exact Drawn0.refl _ | apply Drawn0.step)⟩
theorem name_1 (s : ByteArray) (w : World) (hc : ∀ m, (w.drewN m).cell? ⟨2, 1, none⟩ = some (.string s)) :
    Calls Tryd.prog 13 #[.int .i64 1] w fun e w' => e = .returned (.string s) ∧ Drawn0 w w' := by
  go_enter Tryd.func13, Tryd.ntmps13
  go_wp2_with (first | (go_at_call 20; (with_reducible refine (packet_isKind.calls 1 true _ rfl).mono ?_); rintro e w' ⟨rfl, ⟨nd, rfl⟩⟩))
  go_ret
  exact ⟨by first | rfl | (simp; done) | (simp [*]; done), by repeat (first | exact Drawn0.refl _ | apply Drawn0.step)⟩
theorem may_2 (f : Int) (w : World) (hc : ∀ m, (w.drewN m).cell? ⟨1, 2, none⟩ = some (.int .i64 0)) :
    Calls Tryd.prog 11 #[.int .i64 2, .int .i64 f] w fun e w' => e = .returned (.bool (f == 0)) ∧ Drawn0 w w' := by
  go_enter Tryd.func11, Tryd.ntmps11
  go_wp2_with (first | (go_at_call 20; (with_reducible refine (packet_isKind.calls 2 true _ rfl).mono ?_); rintro e w' ⟨rfl, ⟨nd, rfl⟩⟩))
  go_ret
  exact ⟨by first | rfl | (simp; done) | (simp [*]; done), by repeat (first | exact Drawn0.refl _ | apply Drawn0.step)⟩
theorem name_2 (s : ByteArray) (w : World) (hc : ∀ m, (w.drewN m).cell? ⟨2, 2, none⟩ = some (.string s)) :
    Calls Tryd.prog 13 #[.int .i64 2] w fun e w' => e = .returned (.string s) ∧ Drawn0 w w' := by
  go_enter Tryd.func13, Tryd.ntmps13
  go_wp2_with (first | (go_at_call 20; (with_reducible refine (packet_isKind.calls 2 true _ rfl).mono ?_); rintro e w' ⟨rfl, ⟨nd, rfl⟩⟩))
  go_ret
  exact ⟨by first | rfl | (simp; done) | (simp [*]; done), by repeat (first | exact Drawn0.refl _ | apply Drawn0.step)⟩
theorem name_3 (s : ByteArray) (w : World) (hc : ∀ m, (w.drewN m).cell? ⟨2, 3, none⟩ = some (.string s)) :
    Calls Tryd.prog 13 #[.int .i64 3] w fun e w' => e = .returned (.string s) ∧ Drawn0 w w' := by
  go_enter Tryd.func13, Tryd.ntmps13
  go_wp2_with (first | (go_at_call 20; (with_reducible refine (packet_isKind.calls 3 true _ rfl).mono ?_); rintro e w' ⟨rfl, ⟨nd, rfl⟩⟩))
  go_ret
  exact ⟨by first | rfl | (simp; done) | (simp [*]; done), by repeat (first | exact Drawn0.refl _ | apply Drawn0.step)⟩
theorem may_4 (f : Int) (w : World) (hc : ∀ m, (w.drewN m).cell? ⟨1, 4, none⟩ = some (.int .i64 0)) :
    Calls Tryd.prog 11 #[.int .i64 4, .int .i64 f] w fun e w' => e = .returned (.bool (f == 0)) ∧ Drawn0 w w' := by
  go_enter Tryd.func11, Tryd.ntmps11
  go_wp2_with (first | (go_at_call 20; (with_reducible refine (packet_isKind.calls 4 true _ rfl).mono ?_); rintro e w' ⟨rfl, ⟨nd, rfl⟩⟩))
  go_ret
  exact ⟨by first | rfl | (simp; done) | (simp [*]; done), by repeat (first | exact Drawn0.refl _ | apply Drawn0.step)⟩
theorem name_4 (s : ByteArray) (w : World) (hc : ∀ m, (w.drewN m).cell? ⟨2, 4, none⟩ = some (.string s)) :
    Calls Tryd.prog 13 #[.int .i64 4] w fun e w' => e = .returned (.string s) ∧ Drawn0 w w' := by
  go_enter Tryd.func13, Tryd.ntmps13
  go_wp2_with (first | (go_at_call 20; (with_reducible refine (packet_isKind.calls 4 true _ rfl).mono ?_); rintro e w' ⟨rfl, ⟨nd, rfl⟩⟩))
  go_ret
  exact ⟨by first | rfl | (simp; done) | (simp [*]; done), by repeat (first | exact Drawn0.refl _ | apply Drawn0.step)⟩
theorem may_5 (f : Int) (w : World) (hc : ∀ m, (w.drewN m).cell? ⟨1, 5, none⟩ = some (.int .i64 0)) :
    Calls Tryd.prog 11 #[.int .i64 5, .int .i64 f] w fun e w' => e = .returned (.bool (f == 0)) ∧ Drawn0 w w' := by
  go_enter Tryd.func11, Tryd.ntmps11
  go_wp2_with (first | (go_at_call 20; (with_reducible refine (packet_isKind.calls 5 true _ rfl).mono ?_); rintro e w' ⟨rfl, ⟨nd, rfl⟩⟩))
  go_ret
  exact ⟨by first | rfl | (simp; done) | (simp [*]; done), by repeat (first | exact Drawn0.refl _ | apply Drawn0.step)⟩
theorem name_5 (s : ByteArray) (w : World) (hc : ∀ m, (w.drewN m).cell? ⟨2, 5, none⟩ = some (.string s)) :
    Calls Tryd.prog 13 #[.int .i64 5] w fun e w' => e = .returned (.string s) ∧ Drawn0 w w' := by
  go_enter Tryd.func13, Tryd.ntmps13
  go_wp2_with (first | (go_at_call 20; (with_reducible refine (packet_isKind.calls 5 true _ rfl).mono ?_); rintro e w' ⟨rfl, ⟨nd, rfl⟩⟩))
  go_ret
  exact ⟨by first | rfl | (simp; done) | (simp [*]; done), by repeat (first | exact Drawn0.refl _ | apply Drawn0.step)⟩
theorem may_6 (f : Int) (w : World) (hc : ∀ m, (w.drewN m).cell? ⟨1, 6, none⟩ = some (.int .i64 2)) :
    Calls Tryd.prog 11 #[.int .i64 6, .int .i64 f] w fun e w' => e = .returned (.bool (f == 2)) ∧ Drawn0 w w' := by
  go_enter Tryd.func11, Tryd.ntmps11
  go_wp2_with (first | (go_at_call 20; (with_reducible refine (packet_isKind.calls 6 true _ rfl).mono ?_); rintro e w' ⟨rfl, ⟨nd, rfl⟩⟩))
  go_ret
  exact ⟨by first | rfl | (simp; done) | (simp [*]; done), by repeat (first | exact Drawn0.refl _ | apply Drawn0.step)⟩
theorem name_6 (s : ByteArray) (w : World) (hc : ∀ m, (w.drewN m).cell? ⟨2, 6, none⟩ = some (.string s)) :
    Calls Tryd.prog 13 #[.int .i64 6] w fun e w' => e = .returned (.string s) ∧ Drawn0 w w' := by
  go_enter Tryd.func13, Tryd.ntmps13
  go_wp2_with (first | (go_at_call 20; (with_reducible refine (packet_isKind.calls 6 true _ rfl).mono ?_); rintro e w' ⟨rfl, ⟨nd, rfl⟩⟩))
  go_ret
  exact ⟨by first | rfl | (simp; done) | (simp [*]; done), by repeat (first | exact Drawn0.refl _ | apply Drawn0.step)⟩
theorem may_7 (f : Int) (w : World) (hc : ∀ m, (w.drewN m).cell? ⟨1, 7, none⟩ = some (.int .i64 0)) :
    Calls Tryd.prog 11 #[.int .i64 7, .int .i64 f] w fun e w' => e = .returned (.bool (f == 0)) ∧ Drawn0 w w' := by
  go_enter Tryd.func11, Tryd.ntmps11
  go_wp2_with (first | (go_at_call 20; (with_reducible refine (packet_isKind.calls 7 true _ rfl).mono ?_); rintro e w' ⟨rfl, ⟨nd, rfl⟩⟩))
  go_ret
  exact ⟨by first | rfl | (simp; done) | (simp [*]; done), by repeat (first | exact Drawn0.refl _ | apply Drawn0.step)⟩
theorem name_7 (s : ByteArray) (w : World) (hc : ∀ m, (w.drewN m).cell? ⟨2, 7, none⟩ = some (.string s)) :
    Calls Tryd.prog 13 #[.int .i64 7] w fun e w' => e = .returned (.string s) ∧ Drawn0 w w' := by
  go_enter Tryd.func13, Tryd.ntmps13
  go_wp2_with (first | (go_at_call 20; (with_reducible refine (packet_isKind.calls 7 true _ rfl).mono ?_); rintro e w' ⟨rfl, ⟨nd, rfl⟩⟩))
  go_ret
  exact ⟨by first | rfl | (simp; done) | (simp [*]; done), by repeat (first | exact Drawn0.refl _ | apply Drawn0.step)⟩
theorem may_8 (f : Int) (w : World) (hc : ∀ m, (w.drewN m).cell? ⟨1, 8, none⟩ = some (.int .i64 2)) :
    Calls Tryd.prog 11 #[.int .i64 8, .int .i64 f] w fun e w' => e = .returned (.bool (f == 2)) ∧ Drawn0 w w' := by
  go_enter Tryd.func11, Tryd.ntmps11
  go_wp2_with (first | (go_at_call 20; (with_reducible refine (packet_isKind.calls 8 true _ rfl).mono ?_); rintro e w' ⟨rfl, ⟨nd, rfl⟩⟩))
  go_ret
  exact ⟨by first | rfl | (simp; done) | (simp [*]; done), by repeat (first | exact Drawn0.refl _ | apply Drawn0.step)⟩
theorem name_8 (s : ByteArray) (w : World) (hc : ∀ m, (w.drewN m).cell? ⟨2, 8, none⟩ = some (.string s)) :
    Calls Tryd.prog 13 #[.int .i64 8] w fun e w' => e = .returned (.string s) ∧ Drawn0 w w' := by
  go_enter Tryd.func13, Tryd.ntmps13
  go_wp2_with (first | (go_at_call 20; (with_reducible refine (packet_isKind.calls 8 true _ rfl).mono ?_); rintro e w' ⟨rfl, ⟨nd, rfl⟩⟩))
  go_ret
  exact ⟨by first | rfl | (simp; done) | (simp [*]; done), by repeat (first | exact Drawn0.refl _ | apply Drawn0.step)⟩
theorem may_9 (f : Int) (w : World) (hc : ∀ m, (w.drewN m).cell? ⟨1, 9, none⟩ = some (.int .i64 0)) :
    Calls Tryd.prog 11 #[.int .i64 9, .int .i64 f] w fun e w' => e = .returned (.bool (f == 0)) ∧ Drawn0 w w' := by
  go_enter Tryd.func11, Tryd.ntmps11
  go_wp2_with (first | (go_at_call 20; (with_reducible refine (packet_isKind.calls 9 true _ rfl).mono ?_); rintro e w' ⟨rfl, ⟨nd, rfl⟩⟩))
  go_ret
  exact ⟨by first | rfl | (simp; done) | (simp [*]; done), by repeat (first | exact Drawn0.refl _ | apply Drawn0.step)⟩
theorem name_9 (s : ByteArray) (w : World) (hc : ∀ m, (w.drewN m).cell? ⟨2, 9, none⟩ = some (.string s)) :
    Calls Tryd.prog 13 #[.int .i64 9] w fun e w' => e = .returned (.string s) ∧ Drawn0 w w' := by
  go_enter Tryd.func13, Tryd.ntmps13
  go_wp2_with (first | (go_at_call 20; (with_reducible refine (packet_isKind.calls 9 true _ rfl).mono ?_); rintro e w' ⟨rfl, ⟨nd, rfl⟩⟩))
  go_ret
  exact ⟨by first | rfl | (simp; done) | (simp [*]; done), by repeat (first | exact Drawn0.refl _ | apply Drawn0.step)⟩
theorem may_10 (f : Int) (w : World) (hc : ∀ m, (w.drewN m).cell? ⟨1, 10, none⟩ = some (.int .i64 2)) :
    Calls Tryd.prog 11 #[.int .i64 10, .int .i64 f] w fun e w' => e = .returned (.bool (f == 2)) ∧ Drawn0 w w' := by
  go_enter Tryd.func11, Tryd.ntmps11
  go_wp2_with (first | (go_at_call 20; (with_reducible refine (packet_isKind.calls 10 true _ rfl).mono ?_); rintro e w' ⟨rfl, ⟨nd, rfl⟩⟩))
  go_ret
  exact ⟨by first | rfl | (simp; done) | (simp [*]; done), by repeat (first | exact Drawn0.refl _ | apply Drawn0.step)⟩
theorem name_10 (s : ByteArray) (w : World) (hc : ∀ m, (w.drewN m).cell? ⟨2, 10, none⟩ = some (.string s)) :
    Calls Tryd.prog 13 #[.int .i64 10] w fun e w' => e = .returned (.string s) ∧ Drawn0 w w' := by
  go_enter Tryd.func13, Tryd.ntmps13
  go_wp2_with (first | (go_at_call 20; (with_reducible refine (packet_isKind.calls 10 true _ rfl).mono ?_); rintro e w' ⟨rfl, ⟨nd, rfl⟩⟩))
  go_ret
  exact ⟨by first | rfl | (simp; done) | (simp [*]; done), by repeat (first | exact Drawn0.refl _ | apply Drawn0.step)⟩
theorem may_11 (f : Int) (w : World) (hc : ∀ m, (w.drewN m).cell? ⟨1, 11, none⟩ = some (.int .i64 0)) :
    Calls Tryd.prog 11 #[.int .i64 11, .int .i64 f] w fun e w' => e = .returned (.bool (f == 0)) ∧ Drawn0 w w' := by
  go_enter Tryd.func11, Tryd.ntmps11
  go_wp2_with (first | (go_at_call 20; (with_reducible refine (packet_isKind.calls 11 true _ rfl).mono ?_); rintro e w' ⟨rfl, ⟨nd, rfl⟩⟩))
  go_ret
  exact ⟨by first | rfl | (simp; done) | (simp [*]; done), by repeat (first | exact Drawn0.refl _ | apply Drawn0.step)⟩
theorem name_11 (s : ByteArray) (w : World) (hc : ∀ m, (w.drewN m).cell? ⟨2, 11, none⟩ = some (.string s)) :
    Calls Tryd.prog 13 #[.int .i64 11] w fun e w' => e = .returned (.string s) ∧ Drawn0 w w' := by
  go_enter Tryd.func13, Tryd.ntmps13
  go_wp2_with (first | (go_at_call 20; (with_reducible refine (packet_isKind.calls 11 true _ rfl).mono ?_); rintro e w' ⟨rfl, ⟨nd, rfl⟩⟩))
  go_ret
  exact ⟨by first | rfl | (simp; done) | (simp [*]; done), by repeat (first | exact Drawn0.refl _ | apply Drawn0.step)⟩
theorem may_12 (f : Int) (w : World) (hc : ∀ m, (w.drewN m).cell? ⟨1, 12, none⟩ = some (.int .i64 0)) :
    Calls Tryd.prog 11 #[.int .i64 12, .int .i64 f] w fun e w' => e = .returned (.bool (f == 0)) ∧ Drawn0 w w' := by
  go_enter Tryd.func11, Tryd.ntmps11
  go_wp2_with (first | (go_at_call 20; (with_reducible refine (packet_isKind.calls 12 true _ rfl).mono ?_); rintro e w' ⟨rfl, ⟨nd, rfl⟩⟩))
  go_ret
  exact ⟨by first | rfl | (simp; done) | (simp [*]; done), by repeat (first | exact Drawn0.refl _ | apply Drawn0.step)⟩
theorem name_12 (s : ByteArray) (w : World) (hc : ∀ m, (w.drewN m).cell? ⟨2, 12, none⟩ = some (.string s)) :
    Calls Tryd.prog 13 #[.int .i64 12] w fun e w' => e = .returned (.string s) ∧ Drawn0 w w' := by
  go_enter Tryd.func13, Tryd.ntmps13
  go_wp2_with (first | (go_at_call 20; (with_reducible refine (packet_isKind.calls 12 true _ rfl).mono ?_); rintro e w' ⟨rfl, ⟨nd, rfl⟩⟩))
  go_ret
  exact ⟨by first | rfl | (simp; done) | (simp [*]; done), by repeat (first | exact Drawn0.refl _ | apply Drawn0.step)⟩
theorem may_13 (f : Int) (w : World) (hc : ∀ m, (w.drewN m).cell? ⟨1, 13, none⟩ = some (.int .i64 0)) :
    Calls Tryd.prog 11 #[.int .i64 13, .int .i64 f] w fun e w' => e = .returned (.bool (f == 0)) ∧ Drawn0 w w' := by
  go_enter Tryd.func11, Tryd.ntmps11
  go_wp2_with (first | (go_at_call 20; (with_reducible refine (packet_isKind.calls 13 true _ rfl).mono ?_); rintro e w' ⟨rfl, ⟨nd, rfl⟩⟩))
  go_ret
  exact ⟨by first | rfl | (simp; done) | (simp [*]; done), by repeat (first | exact Drawn0.refl _ | apply Drawn0.step)⟩
theorem name_13 (s : ByteArray) (w : World) (hc : ∀ m, (w.drewN m).cell? ⟨2, 13, none⟩ = some (.string s)) :
    Calls Tryd.prog 13 #[.int .i64 13] w fun e w' => e = .returned (.string s) ∧ Drawn0 w w' := by
  go_enter Tryd.func13, Tryd.ntmps13
  go_wp2_with (first | (go_at_call 20; (with_reducible refine (packet_isKind.calls 13 true _ rfl).mono ?_); rintro e w' ⟨rfl, ⟨nd, rfl⟩⟩))
  go_ret
  exact ⟨by first | rfl | (simp; done) | (simp [*]; done), by repeat (first | exact Drawn0.refl _ | apply Drawn0.step)⟩
theorem may_14 (f : Int) (w : World) (hc : ∀ m, (w.drewN m).cell? ⟨1, 14, none⟩ = some (.int .i64 0)) :
    Calls Tryd.prog 11 #[.int .i64 14, .int .i64 f] w fun e w' => e = .returned (.bool (f == 0)) ∧ Drawn0 w w' := by
  go_enter Tryd.func11, Tryd.ntmps11
  go_wp2_with (first | (go_at_call 20; (with_reducible refine (packet_isKind.calls 14 true _ rfl).mono ?_); rintro e w' ⟨rfl, ⟨nd, rfl⟩⟩))
  go_ret
  exact ⟨by first | rfl | (simp; done) | (simp [*]; done), by repeat (first | exact Drawn0.refl _ | apply Drawn0.step)⟩
theorem name_14 (s : ByteArray) (w : World) (hc : ∀ m, (w.drewN m).cell? ⟨2, 14, none⟩ = some (.string s)) :
    Calls Tryd.prog 13 #[.int .i64 14] w fun e w' => e = .returned (.string s) ∧ Drawn0 w w' := by
  go_enter Tryd.func13, Tryd.ntmps13
  go_wp2_with (first | (go_at_call 20; (with_reducible refine (packet_isKind.calls 14 true _ rfl).mono ?_); rintro e w' ⟨rfl, ⟨nd, rfl⟩⟩))
  go_ret
  exact ⟨by first | rfl | (simp; done) | (simp [*]; done), by repeat (first | exact Drawn0.refl _ | apply Drawn0.step)⟩
theorem may_3_0 (w : World) :
    Calls Tryd.prog 11 #[.int .i64 3, .int .i64 0] w fun e w' => e = .returned (.bool true) ∧ Drawn0 w w' := by
  go_enter Tryd.func11, Tryd.ntmps11
  go_wp2_with (first | (go_at_call 20; (with_reducible refine (packet_isKind.calls 3 true _ rfl).mono ?_); rintro e w' ⟨rfl, ⟨nd, rfl⟩⟩))
  go_ret
  exact ⟨by first | rfl | (simp; done) | (simp [*]; done), by repeat (first | exact Drawn0.refl _ | apply Drawn0.step)⟩
theorem may_3_1 (w : World) :
    Calls Tryd.prog 11 #[.int .i64 3, .int .i64 1] w fun e w' => e = .returned (.bool true) ∧ Drawn0 w w' := by
  go_enter Tryd.func11, Tryd.ntmps11
  go_wp2_with (first | (go_at_call 20; (with_reducible refine (packet_isKind.calls 3 true _ rfl).mono ?_); rintro e w' ⟨rfl, ⟨nd, rfl⟩⟩))
  go_ret
  exact ⟨by first | rfl | (simp; done) | (simp [*]; done), by repeat (first | exact Drawn0.refl _ | apply Drawn0.step)⟩
theorem may_3_2 (w : World) :
    Calls Tryd.prog 11 #[.int .i64 3, .int .i64 2] w fun e w' => e = .returned (.bool true) ∧ Drawn0 w w' := by
  go_enter Tryd.func11, Tryd.ntmps11
  go_wp2_with (first | (go_at_call 20; (with_reducible refine (packet_isKind.calls 3 true _ rfl).mono ?_); rintro e w' ⟨rfl, ⟨nd, rfl⟩⟩))
  go_ret
  exact ⟨by first | rfl | (simp; done) | (simp [*]; done), by repeat (first | exact Drawn0.refl _ | apply Drawn0.step)⟩
theorem may_3_3 (w : World) :
    Calls Tryd.prog 11 #[.int .i64 3, .int .i64 3] w fun e w' => e = .returned (.bool true) ∧ Drawn0 w w' := by
  go_enter Tryd.func11, Tryd.ntmps11
  go_wp2_with (first | (go_at_call 20; (with_reducible refine (packet_isKind.calls 3 true _ rfl).mono ?_); rintro e w' ⟨rfl, ⟨nd, rfl⟩⟩))
  go_ret
  exact ⟨by first | rfl | (simp; done) | (simp [*]; done), by repeat (first | exact Drawn0.refl _ | apply Drawn0.step)⟩
theorem may_3_4 (w : World) :
    Calls Tryd.prog 11 #[.int .i64 3, .int .i64 4] w fun e w' => e = .returned (.bool true) ∧ Drawn0 w w' := by
  go_enter Tryd.func11, Tryd.ntmps11
  go_wp2_with (first | (go_at_call 20; (with_reducible refine (packet_isKind.calls 3 true _ rfl).mono ?_); rintro e w' ⟨rfl, ⟨nd, rfl⟩⟩))
  go_ret
  exact ⟨by first | rfl | (simp; done) | (simp [*]; done), by repeat (first | exact Drawn0.refl _ | apply Drawn0.step)⟩
theorem may_3_5 (w : World) :
    Calls Tryd.prog 11 #[.int .i64 3, .int .i64 5] w fun e w' => e = .returned (.bool true) ∧ Drawn0 w w' := by
  go_enter Tryd.func11, Tryd.ntmps11
  go_wp2_with (first | (go_at_call 20; (with_reducible refine (packet_isKind.calls 3 true _ rfl).mono ?_); rintro e w' ⟨rfl, ⟨nd, rfl⟩⟩))
  go_ret
  exact ⟨by first | rfl | (simp; done) | (simp [*]; done), by repeat (first | exact Drawn0.refl _ | apply Drawn0.step)⟩
theorem may_3_6 (w : World) :
    Calls Tryd.prog 11 #[.int .i64 3, .int .i64 6] w fun e w' => e = .returned (.bool false) ∧ Drawn0 w w' := by
  go_enter Tryd.func11, Tryd.ntmps11
  go_wp2_with (first | (go_at_call 20; (with_reducible refine (packet_isKind.calls 3 true _ rfl).mono ?_); rintro e w' ⟨rfl, ⟨nd, rfl⟩⟩))
  go_ret
  exact ⟨by first | rfl | (simp; done) | (simp [*]; done), by repeat (first | exact Drawn0.refl _ | apply Drawn0.step)⟩
theorem may_3_7 (w : World) :
    Calls Tryd.prog 11 #[.int .i64 3, .int .i64 7] w fun e w' => e = .returned (.bool false) ∧ Drawn0 w w' := by
  go_enter Tryd.func11, Tryd.ntmps11
  go_wp2_with (first | (go_at_call 20; (with_reducible refine (packet_isKind.calls 3 true _ rfl).mono ?_); rintro e w' ⟨rfl, ⟨nd, rfl⟩⟩))
  go_ret
  exact ⟨by first | rfl | (simp; done) | (simp [*]; done), by repeat (first | exact Drawn0.refl _ | apply Drawn0.step)⟩
theorem may_3_8 (w : World) :
    Calls Tryd.prog 11 #[.int .i64 3, .int .i64 8] w fun e w' => e = .returned (.bool false) ∧ Drawn0 w w' := by
  go_enter Tryd.func11, Tryd.ntmps11
  go_wp2_with (first | (go_at_call 20; (with_reducible refine (packet_isKind.calls 3 true _ rfl).mono ?_); rintro e w' ⟨rfl, ⟨nd, rfl⟩⟩))
  go_ret
  exact ⟨by first | rfl | (simp; done) | (simp [*]; done), by repeat (first | exact Drawn0.refl _ | apply Drawn0.step)⟩
theorem may_3_9 (w : World) :
    Calls Tryd.prog 11 #[.int .i64 3, .int .i64 9] w fun e w' => e = .returned (.bool false) ∧ Drawn0 w w' := by
  go_enter Tryd.func11, Tryd.ntmps11
  go_wp2_with (first | (go_at_call 20; (with_reducible refine (packet_isKind.calls 3 true _ rfl).mono ?_); rintro e w' ⟨rfl, ⟨nd, rfl⟩⟩))
  go_ret
  exact ⟨by first | rfl | (simp; done) | (simp [*]; done), by repeat (first | exact Drawn0.refl _ | apply Drawn0.step)⟩
theorem may_3_10 (w : World) :
    Calls Tryd.prog 11 #[.int .i64 3, .int .i64 10] w fun e w' => e = .returned (.bool true) ∧ Drawn0 w w' := by
  go_enter Tryd.func11, Tryd.ntmps11
  go_wp2_with (first | (go_at_call 20; (with_reducible refine (packet_isKind.calls 3 true _ rfl).mono ?_); rintro e w' ⟨rfl, ⟨nd, rfl⟩⟩))
  go_ret
  exact ⟨by first | rfl | (simp; done) | (simp [*]; done), by repeat (first | exact Drawn0.refl _ | apply Drawn0.step)⟩
theorem may_3_11 (w : World) :
    Calls Tryd.prog 11 #[.int .i64 3, .int .i64 11] w fun e w' => e = .returned (.bool true) ∧ Drawn0 w w' := by
  go_enter Tryd.func11, Tryd.ntmps11
  go_wp2_with (first | (go_at_call 20; (with_reducible refine (packet_isKind.calls 3 true _ rfl).mono ?_); rintro e w' ⟨rfl, ⟨nd, rfl⟩⟩))
  go_ret
  exact ⟨by first | rfl | (simp; done) | (simp [*]; done), by repeat (first | exact Drawn0.refl _ | apply Drawn0.step)⟩
theorem may_3_12 (w : World) :
    Calls Tryd.prog 11 #[.int .i64 3, .int .i64 12] w fun e w' => e = .returned (.bool true) ∧ Drawn0 w w' := by
  go_enter Tryd.func11, Tryd.ntmps11
  go_wp2_with (first | (go_at_call 20; (with_reducible refine (packet_isKind.calls 3 true _ rfl).mono ?_); rintro e w' ⟨rfl, ⟨nd, rfl⟩⟩))
  go_ret
  exact ⟨by first | rfl | (simp; done) | (simp [*]; done), by repeat (first | exact Drawn0.refl _ | apply Drawn0.step)⟩
theorem may_3_13 (w : World) :
    Calls Tryd.prog 11 #[.int .i64 3, .int .i64 13] w fun e w' => e = .returned (.bool true) ∧ Drawn0 w w' := by
  go_enter Tryd.func11, Tryd.ntmps11
  go_wp2_with (first | (go_at_call 20; (with_reducible refine (packet_isKind.calls 3 true _ rfl).mono ?_); rintro e w' ⟨rfl, ⟨nd, rfl⟩⟩))
  go_ret
  exact ⟨by first | rfl | (simp; done) | (simp [*]; done), by repeat (first | exact Drawn0.refl _ | apply Drawn0.step)⟩
theorem may_3_14 (w : World) :
    Calls Tryd.prog 11 #[.int .i64 3, .int .i64 14] w fun e w' => e = .returned (.bool false) ∧ Drawn0 w w' := by
  go_enter Tryd.func11, Tryd.ntmps11
  go_wp2_with (first | (go_at_call 20; (with_reducible refine (packet_isKind.calls 3 true _ rfl).mono ?_); rintro e w' ⟨rfl, ⟨nd, rfl⟩⟩))
  go_ret
  exact ⟨by first | rfl | (simp; done) | (simp [*]; done), by repeat (first | exact Drawn0.refl _ | apply Drawn0.step)⟩
theorem may_3_15 (w : World) :
    Calls Tryd.prog 11 #[.int .i64 3, .int .i64 15] w fun e w' => e = .returned (.bool false) ∧ Drawn0 w w' := by
  go_enter Tryd.func11, Tryd.ntmps11
  go_wp2_with (first | (go_at_call 20; (with_reducible refine (packet_isKind.calls 3 true _ rfl).mono ?_); rintro e w' ⟨rfl, ⟨nd, rfl⟩⟩))
  go_ret
  exact ⟨by first | rfl | (simp; done) | (simp [*]; done), by repeat (first | exact Drawn0.refl _ | apply Drawn0.step)⟩
theorem may_3_out (f : Int) (w : World) (hf : ¬ (0 ≤ f ∧ f < 16)) :
    Calls Tryd.prog 11 #[.int .i64 3, .int .i64 f] w fun e w' => e = .returned (.bool false) ∧ Drawn0 w w' := by
  by_cases h0 : 0 ≤ f
  · have c1 : decide (0 ≤ f) = true := decide_eq_true h0
    have c2 : decide (f < 16) = false := decide_eq_false (by omega)
    clear h0 hf
    go_enter Tryd.func11, Tryd.ntmps11
    go_wp2_with (first | (go_at_call 20; (with_reducible refine (packet_isKind.calls 3 true _ rfl).mono ?_); rintro e w' ⟨rfl, ⟨nd, rfl⟩⟩))
    go_ret
    exact ⟨by first | rfl | (simp; done) | (simp [*]; done), by repeat (first | exact Drawn0.refl _ | apply Drawn0.step)⟩
  · have c1 : decide (0 ≤ f) = false := decide_eq_false h0
    clear h0 hf
    go_enter Tryd.func11, Tryd.ntmps11
    go_wp2_with (first | (go_at_call 20; (with_reducible refine (packet_isKind.calls 3 true _ rfl).mono ?_); rintro e w' ⟨rfl, ⟨nd, rfl⟩⟩))
    go_ret
    exact ⟨by first | rfl | (simp; done) | (simp [*]; done), by repeat (first | exact Drawn0.refl _ | apply Drawn0.step)⟩
theorem may_out (kd f : Int) (w : World) (hk : packet_isKind.f kd = some false) :
    Calls Tryd.prog 11 #[.int .i64 kd, .int .i64 f] w fun e w' => e = .returned (.bool false) ∧ Drawn0 w w' := by
  go_enter Tryd.func11, Tryd.ntmps11
  go_wp2_with (first | (go_at_call 20; (with_reducible refine (packet_isKind.calls kd false _ hk).mono ?_); rintro e w' ⟨rfl, ⟨nd, rfl⟩⟩))
  go_ret
  exact ⟨by first | rfl | (simp; done) | (simp [*]; done), by repeat (first | exact Drawn0.refl _ | apply Drawn0.step)⟩
theorem name_out (kd : Int) (w : World) (hk : packet_isKind.f kd = some false) :
    Calls Tryd.prog 13 #[.int .i64 kd] w fun e w' => e = .returned (.string ⟨#[]⟩) ∧ Drawn0 w w' := by
  go_enter Tryd.func13, Tryd.ntmps13
  go_wp2_with (first | (go_at_call 20; (with_reducible refine (packet_isKind.calls kd false _ hk).mono ?_); rintro e w' ⟨rfl, ⟨nd, rfl⟩⟩))
  go_ret
  exact ⟨by first | rfl | (simp; done) | (simp [*]; done), by repeat (first | exact Drawn0.refl _ | apply Drawn0.step)⟩
theorem kind_no {kd : Int} (h : kd < 1 ∨ 14 < kd) : packet_isKind.f kd = some false := by
  unfold packet_isKind.f
  by_cases h1 : kd ≥ 1
  · rw [if_pos h1, decide_eq_false (by omega)]
  · rw [if_neg h1]
theorem kind_cases {kd : Int} (h1 : ¬ kd < 1) (h2 : ¬ 14 < kd) : kd = 1 ∨ kd = 2 ∨ kd = 3 ∨ kd = 4 ∨ kd = 5 ∨ kd = 6 ∨ kd = 7 ∨ kd = 8 ∨ kd = 9 ∨ kd = 10 ∨ kd = 11 ∨ kd = 12 ∨ kd = 13 ∨ kd = 14 := by omega
theorem f_cases {f : Int} (h : 0 ≤ f ∧ f < 16) : f = 0 ∨ f = 1 ∨ f = 2 ∨ f = 3 ∨ f = 4 ∨ f = 5 ∨ f = 6 ∨ f = 7 ∨ f = 8 ∨ f = 9 ∨ f = 10 ∨ f = 11 ∨ f = 12 ∨ f = 13 ∨ f = 14 ∨ f = 15 := by omega
/-- what packet.May tells -/
theorem May_calls (kd f : Int) (w : World) (hT : FlagsT w) : Calls Tryd.prog 11 #[.int .i64 kd, .int .i64 f] w fun e w' => e = .returned (.bool (mayV kd f)) ∧ Drawn0 w w' := by
  unfold mayV
  by_cases h1 : kd < 1
  · rw [if_pos h1]; exact may_out kd f w (kind_no (.inl h1))
  rw [if_neg h1]
  by_cases h2 : 14 < kd
  · rw [if_pos h2]; exact may_out kd f w (kind_no (.inr h2))
  rw [if_neg h2]
  by_cases h3 : kd = 3
  · subst h3
    rw [if_pos rfl]
    by_cases hf : 0 ≤ f ∧ f < 16
    · rw [if_pos hf]
      rcases f_cases hf with rfl | rfl | rfl | rfl | rfl | rfl | rfl | rfl | rfl | rfl | rfl | rfl | rfl | rfl | rfl | rfl
      · exact may_3_0 w
      · exact may_3_1 w
      · exact may_3_2 w
      · exact may_3_3 w
      · exact may_3_4 w
      · exact may_3_5 w
      · exact may_3_6 w
      · exact may_3_7 w
      · exact may_3_8 w
      · exact may_3_9 w
      · exact may_3_10 w
      · exact may_3_11 w
      · exact may_3_12 w
      · exact may_3_13 w
      · exact may_3_14 w
      · exact may_3_15 w
    · rw [if_neg hf]; exact may_3_out f w hf
  rw [if_neg h3]
  rcases kind_cases h1 h2 with rfl | rfl | rfl | rfl | rfl | rfl | rfl | rfl | rfl | rfl | rfl | rfl | rfl | rfl
  · exact may_1 f w (fun m => hT 1 (by decide))
  · exact may_2 f w (fun m => hT 2 (by decide))
  · exact absurd rfl h3
  · exact may_4 f w (fun m => hT 4 (by decide))
  · exact may_5 f w (fun m => hT 5 (by decide))
  · exact may_6 f w (fun m => hT 6 (by decide))
  · exact may_7 f w (fun m => hT 7 (by decide))
  · exact may_8 f w (fun m => hT 8 (by decide))
  · exact may_9 f w (fun m => hT 9 (by decide))
  · exact may_10 f w (fun m => hT 10 (by decide))
  · exact may_11 f w (fun m => hT 11 (by decide))
  · exact may_12 f w (fun m => hT 12 (by decide))
  · exact may_13 f w (fun m => hT 13 (by decide))
  · exact may_14 f w (fun m => hT 14 (by decide))
/-- what packet.Name tells -/
theorem Name_calls (kd : Int) (w : World) (hT : Tabs w) : Calls Tryd.prog 13 #[.int .i64 kd] w fun e w' => e = .returned (.string (nameV kd)) ∧ Drawn0 w w' := by
  unfold nameV
  by_cases h1 : kd < 1
  · rw [if_pos h1]; exact name_out kd w (kind_no (.inl h1))
  rw [if_neg h1]
  by_cases h2 : 14 < kd
  · rw [if_pos h2]; exact name_out kd w (kind_no (.inr h2))
  rw [if_neg h2]
  rcases kind_cases h1 h2 with rfl | rfl | rfl | rfl | rfl | rfl | rfl | rfl | rfl | rfl | rfl | rfl | rfl | rfl
  · exact name_1 _ w (fun m => hT.2 1 (by decide))
  · exact name_2 _ w (fun m => hT.2 2 (by decide))
  · exact name_3 _ w (fun m => hT.2 3 (by decide))
  · exact name_4 _ w (fun m => hT.2 4 (by decide))
  · exact name_5 _ w (fun m => hT.2 5 (by decide))
  · exact name_6 _ w (fun m => hT.2 6 (by decide))
  · exact name_7 _ w (fun m => hT.2 7 (by decide))
  · exact name_8 _ w (fun m => hT.2 8 (by decide))
  · exact name_9 _ w (fun m => hT.2 9 (by decide))
  · exact name_10 _ w (fun m => hT.2 10 (by decide))
  · exact name_11 _ w (fun m => hT.2 11 (by decide))
  · exact name_12 _ w (fun m => hT.2 12 (by decide))
  · exact name_13 _ w (fun m => hT.2 13 (by decide))
  · exact name_14 _ w (fun m => hT.2 14 (by decide))
end Go.Proofs.YtipliohgnaoblaaDoor.Kin
