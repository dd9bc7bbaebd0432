/- bytes.Clone and slices.Clone: the same things in new memory. -/
import Derived.Test.YtndhkgfeknkfdaaGreatDoorPk0
import Derived.WalkSpells
namespace Go.Proofs.YtndhkgfeknkfdaaGreatDoor.Pk
open Go.RowKit Go.Proofs.YtndhkgfeknkfdaaGreatDoorW.PrintWords Go.Proofs.YtndhkgfeknkfdaaGreatDoorW.PrintLast Go.Proofs.YtndhkgfeknkfdaaGreatDoorW.PrintMore Go.Proofs.YtndhkgfeknkfdaaGreatDoor.MPacketChecks
set_option linter.unusedVariables false
set_option linter.unusedSimpArgs false
set_option maxHeartbeats 8000000
set_option maxRecDepth 100000

theorem own_empty {α : Type} (d : Kd α) (e : Nat) (w : World) : d.R e (w.alloc (.cells #[] e)) w.heap.size (fun k => w.heap.size ≤ k) (.slice (some ⟨w.heap.size, 0, none⟩) 0 0) [] :=
 ⟨fun k hk => by cases hk; exact Nat.le_refl _, OwnRow.lit (ps := []) (inner := []) w w.heap.size (Reps.none _ _) (Nat.le_refl _) (by simp)⟩

theorem cloneA_info : (Tryz.prog.info? 82).map (fun i => (i.zero, i.size, i.bytes)) = some (some (.agg #[.string ⟨#[]⟩, .int .i64 0]), 2, 24) := by kernel_rfl
theorem cloneA_calls (A : Option Addr) (c : Nat) (l : List S82) (w : World) (hr : Kd.C k82 w A l.length l) (hc : l.length ≤ c) (hl : (l.length : Int) ≤ 1125899906842) :
  Calls Tryz.prog 58 #[.slice A l.length c] w fun e w' => ∃ v, e = .returned v ∧ Kd.R k82 82 w' w.heap.size (fun k => w.heap.size ≤ k) v l ∧ Below w.heap.size w w' := by
 have HR := Aside0.mk hr
 have HB := Aside0.mk (Below.refl w.heap.size w)
 clear hr
 have he := fun (w1 : World) => Lib.run_eql_slice_nil (P := Tryz.prog) w1 25 82 A l.length c 0 0 Tryz.underlying25
 cases A with
 | none =>
  go_enter Tryz.func58, Tryz.ntmps58
  go_wp2
  go_ret
  have hl0 : l = [] := by
   cases l with
   | nil => rfl
   | cons x l => obtain ⟨ad, _, e, _⟩ := Kd.C_get HR.out x 0 (by omega) (by simp); cases e
  subst hl0
  exact ⟨_, rfl, Kd.R_nil _ _ _ _ _, HB.out⟩
 | some ad =>
  have hd : (some ad : Option Addr).isNone = false := rfl
  go_enter Tryz.func58, Tryz.ntmps58
  go_wp2_with (first | (at_builtin; refine Kd.R_append_rows k82 (Rr := fun x cs => cs = [.string x.f0, .int .i64 x.f1]) (w0 := w) w.heap.size rfl (.tmp 5) (.tmp 6) 25 82 (.agg #[.string ⟨#[]⟩, .int .i64 0]) 24 rfl Tryz.underlying25 cloneA_info rfl (by decide) (by decide) _ [] l (some ad) l.length c (fun k => w.heap.size ≤ k) (fun _ => False) rfl rfl ?c2 ?c3 ?c7 ?c8 ?c1 ?c4 ?c5 ?c6 ?_; (case c1 => intro k hk; simp at hk; omega); (case c2 => exact own_empty _ _ _); (case c3 => exact ReadsRow.imp_ (Kd.C_alloc HR.out _) (Below.refl _ _) (fun _ _ h => k82_open h)); (case c7 => rintro x cs rfl; exact k82_mkM _ _ _ _); (case c8 => intro k hk; exact hk.elim); (case c4 => exact below_alloc HB.out _); (case c5 => simp); (case c6 => simp; omega); intro v1 w1 hR1 hb1 hg1 hat))
  go_ret
  exact ⟨_, rfl, hR1, hb1⟩

theorem cloneI_info : (Tryz.prog.info? 3).map (fun i => (i.zero, i.size, i.bytes)) = some (some (.int .i64 0), 1, 8) := by kernel_rfl
theorem cloneI_calls (A : Option Addr) (c : Nat) (l : List Int) (w : World) (hr : Kd.C (Kd.int .i64) w A l.length l) (hc : l.length ≤ c) (hl : (l.length : Int) ≤ 1125899906842) :
  Calls Tryz.prog 59 #[.slice A l.length c] w fun e w' => ∃ v, e = .returned v ∧ Kd.R (Kd.int .i64) 3 w' w.heap.size (fun k => w.heap.size ≤ k) v l ∧ Below w.heap.size w w' := by
 have HR := Aside0.mk hr
 have HB := Aside0.mk (Below.refl w.heap.size w)
 clear hr
 have he := fun (w1 : World) => Lib.run_eql_slice_nil (P := Tryz.prog) w1 26 3 A l.length c 0 0 Tryz.underlying26
 cases A with
 | none =>
  go_enter Tryz.func59, Tryz.ntmps59
  go_wp2
  go_ret
  have hl0 : l = [] := by
   cases l with
   | nil => rfl
   | cons x l => obtain ⟨ad, _, e, _⟩ := Kd.C_get HR.out x 0 (by omega) (by simp); cases e
  subst hl0
  exact ⟨_, rfl, Kd.R_nil _ _ _ _ _, HB.out⟩
 | some ad =>
  have hd : (some ad : Option Addr).isNone = false := rfl
  go_enter Tryz.func59, Tryz.ntmps59
  go_wp2_with (first | (at_builtin; refine Kd.R_append_row (h1 := fun _ => rfl) (w0 := w) (Value.int .i64) (0) w.heap.size rfl (.tmp 5) (.tmp 6) 26 3 (.int .i64 0) 8 rfl Tryz.underlying26 cloneI_info rfl (by decide) _ [] l (some ad) l.length c (fun k => w.heap.size ≤ k) rfl rfl ?c1 ?c2 ?c3 ?c4 ?c5 ?c6 ?_; (case c1 => intro k hk; simp at hk; omega); (case c2 => exact own_empty _ _ _); (case c3 => exact Kd.C_alloc HR.out _); (case c4 => exact below_alloc HB.out _); (case c5 => simp); (case c6 => simp; omega); intro v1 w1 hR1 hb1 hg1 hat))
  go_ret
  exact ⟨_, rfl, hR1, hb1⟩

theorem cloneT_info : (Tryz.prog.info? 9).map (fun i => (i.zero, i.size, i.bytes)) = some (some (.string ⟨#[]⟩), 1, 16) := by kernel_rfl
theorem cloneT_calls (A : Option Addr) (c : Nat) (l : List ByteArray) (w : World) (hr : Kd.C Kd.string w A l.length l) (hc : l.length ≤ c) (hl : (l.length : Int) ≤ 1125899906842) :
  Calls Tryz.prog 60 #[.slice A l.length c] w fun e w' => ∃ v, e = .returned v ∧ Kd.R Kd.string 9 w' w.heap.size (fun k => w.heap.size ≤ k) v l ∧ Below w.heap.size w w' := by
 have HR := Aside0.mk hr
 have HB := Aside0.mk (Below.refl w.heap.size w)
 clear hr
 have he := fun (w1 : World) => Lib.run_eql_slice_nil (P := Tryz.prog) w1 27 9 A l.length c 0 0 Tryz.underlying27
 cases A with
 | none =>
  go_enter Tryz.func60, Tryz.ntmps60
  go_wp2
  go_ret
  have hl0 : l = [] := by
   cases l with
   | nil => rfl
   | cons x l => obtain ⟨ad, _, e, _⟩ := Kd.C_get HR.out x 0 (by omega) (by simp); cases e
  subst hl0
  exact ⟨_, rfl, Kd.R_nil _ _ _ _ _, HB.out⟩
 | some ad =>
  have hd : (some ad : Option Addr).isNone = false := rfl
  go_enter Tryz.func60, Tryz.ntmps60
  go_wp2_with (first | (at_builtin; refine Kd.R_append_row (h1 := fun _ => rfl) (w0 := w) (Value.string) (ByteArray.empty) w.heap.size rfl (.tmp 5) (.tmp 6) 27 9 (.string ⟨#[]⟩) 16 rfl Tryz.underlying27 cloneT_info rfl (by decide) _ [] l (some ad) l.length c (fun k => w.heap.size ≤ k) rfl rfl ?c1 ?c2 ?c3 ?c4 ?c5 ?c6 ?_; (case c1 => intro k hk; simp at hk; omega); (case c2 => exact own_empty _ _ _); (case c3 => exact Kd.C_alloc HR.out _); (case c4 => exact below_alloc HB.out _); (case c5 => simp); (case c6 => simp; omega); intro v1 w1 hR1 hb1 hg1 hat))
  go_ret
  exact ⟨_, rfl, hR1, hb1⟩

theorem cloneB_info : (Tryz.prog.info? 5).map (fun i => (i.zero, i.size, i.bytes)) = some (some (.int .u8 0), 1, 1) := by kernel_rfl
theorem cloneB_calls (A : Option Addr) (c : Nat) (l : List Int) (w : World) (hr : Kd.C (Kd.int .u8) w A l.length l) (hc : l.length ≤ c) (hl : (l.length : Int) ≤ 1125899906842) :
  Calls Tryz.prog 57 #[.slice A l.length c] w fun e w' => ∃ v, e = .returned v ∧ Kd.R (Kd.int .u8) 5 w' w.heap.size (fun k => w.heap.size ≤ k) v l ∧ Below w.heap.size w w' := by
 have HR := Aside0.mk hr
 have HB := Aside0.mk (Below.refl w.heap.size w)
 clear hr
 have he := fun (w1 : World) => Lib.run_eql_slice_nil (P := Tryz.prog) w1 22 5 A l.length c 0 0 Tryz.underlying22
 cases A with
 | none =>
  go_enter Tryz.func57, Tryz.ntmps57
  go_wp2
  go_ret
  have hl0 : l = [] := by
   cases l with
   | nil => rfl
   | cons x l => obtain ⟨ad, _, e, _⟩ := Kd.C_get HR.out x 0 (by omega) (by simp); cases e
  subst hl0
  exact ⟨_, rfl, Kd.R_nil _ _ _ _ _, HB.out⟩
 | some ad =>
  have hd : (some ad : Option Addr).isNone = false := rfl
  go_enter Tryz.func57, Tryz.ntmps57
  go_wp2_with (first | (at_builtin; refine Kd.R_append_row (h1 := fun _ => rfl) (w0 := w) (Value.int .u8) (0) w.heap.size rfl (.tmp 5) (.tmp 6) 22 5 (.int .u8 0) 1 rfl Tryz.underlying22 cloneB_info rfl (by decide) _ [] l (some ad) l.length c (fun k => w.heap.size ≤ k) rfl rfl ?c1 ?c2 ?c3 ?c4 ?c5 ?c6 ?_; (case c1 => intro k hk; simp at hk; omega); (case c2 => exact own_empty _ _ _); (case c3 => exact Kd.C_alloc HR.out _); (case c4 => exact below_alloc HB.out _); (case c5 => simp); (case c6 => simp; omega); intro v1 w1 hR1 hb1 hg1 hat))
  go_ret
  exact ⟨_, rfl, hR1, hb1⟩

end Go.Proofs.YtndhkgfeknkfdaaGreatDoor.Pk
