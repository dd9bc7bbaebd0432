/- crierroom.Room: lists laid with room behind them. -/
import Derived.Test.YtndhkgfeknkfdaaGreatDoorRm
import Derived.Test.YtndhkgfeknkfdaaGreatDoorMPacketChecksx
namespace Go.Proofs.YtndhkgfeknkfdaaGreatDoor.Rm
open Go.RowKit Go.Proofs.YtndhkgfeknkfdaaGreatDoorW.PrintWords Go.Proofs.YtndhkgfeknkfdaaGreatDoorW.PrintLast Go.Proofs.YtndhkgfeknkfdaaGreatDoorW.PrintMore Go.Proofs.YtndhkgfeknkfdaaGreatDoor.MPacketChecks
open Go.Proofs.YtndhkgfeknkfdaaGreatDoorW.PrintWords.Aside0 renaming mk → am
set_option linter.unusedVariables false
set_option linter.unusedSimpArgs false
set_option maxHeartbeats 2000000
set_option maxRecDepth 100000
def wd (q : Nat) : ByteArray := if q % 2 = 0 then ⟨#[60, 111, 110, 101, 62]⟩ else ⟨#[60, 116, 119, 111, 62]⟩
def mrks {α : Type} (f : Nat → α) (k : Nat) : List α := (List.range k).map f
theorem mrks_succ {α : Type} (f : Nat → α) (k : Nat) : mrks f (k + 1) = mrks f k ++ [f k] := by simp [mrks, List.range_succ]
theorem mrks_length {α : Type} (f : Nat → α) (k : Nat) : (mrks f k).length = k := by simp [mrks]
theorem mrks_zero {α : Type} (f : Nat → α) : mrks f 0 = [] := rfl
theorem reps_mark {α : Type} {R : α → List Value → Prop} {size : Nat} {ps : List α} {inner : List Value} (h : Reps R size ps inner) {M : List Value → Prop} {p : α} (hM : ∀ c, R p c → M c) {j : Nat} (hj : ps[j]? = some p) : ∃ ce, M ce ∧ ∀ (r : Nat) (u : Value), ce[r]? = some u → inner[j * size + r]? = some u := by
 refine ⟨_, hM _ (h.2 j p hj), fun r u hu => ?_⟩
 have hr : r < size := by
  have := (List.getElem?_eq_some_iff.1 hu).1
  rw [List.length_take] at this
  omega
 rwa [List.getElem?_take, if_pos hr, List.getElem?_drop] at hu
theorem mrks_at {α : Type} (l : List α) (f : Nat → α) (room q : Nat) (h : l.length + q < (l ++ mrks f room).length) : (l ++ mrks f room)[l.length + q]? = some (f q) := by
 rw [List.getElem?_append_right (by omega)]
 rw [List.length_append, mrks_length] at h
 have h2 : l.length + q - l.length = q := by omega
 rw [h2]
 simp [mrks, List.getElem?_range (show q < room by omega)]
theorem own_take {α : Type} {d : Kd α} {L : Nat → Nat} {w : World} {e b m c base : Nat} {ps : List α} (hK : ∀ (W1 W2 : World) x cs, d.K W1 x cs → d.K W2 x cs) (h : OwnRow (d.K w) e d.sz w base (.slice (some ⟨b, 0, none⟩) m c) ps) (hL : L b = 0) (n : Nat) (hn : n ≤ ps.length) : Firm L w (fun W => d.C W (some ⟨b, 0, none⟩) n (ps.take n)) := fun L' W hW => by
 obtain ⟨inner, ho, hr⟩ := h
 have hb := (hW.2 b (own_lt ho b rfl) hL).1
 have h2 : OwnRow (d.K W) e d.sz W base (.slice (some ⟨b, 0, none⟩) m c) ps := ⟨inner, own_move ho (fun k hk => by
  obtain rfl : b = k := by simpa only [Value.ownBlock, Option.some.injEq] using hk
  exact hb), hr.imp_ (fun _ _ hp => hK _ _ _ _ hp)⟩
 obtain ⟨A, c', he, _, hr2⟩ := OwnRow.reads h2
 injection he with e1 e2 e3
 subst e1
 have h3 := Kd.C_take hr2 hn
 rwa [List.length_take, Nat.min_eq_left hn] at h3
theorem wd_calls (q : Nat) (hq : q ≤ 140737488355328) (w : World) : Calls Tryz.prog 111 #[.int .i64 q] w fun e w' => e = .returned (.string (wd q)) ∧ w = w' := by
 have h0 : (0 : Int) ≤ q := by omega
 have H : Aside0 (wd q = if q % 2 = 0 then ⟨#[60, 111, 110, 101, 62]⟩ else ⟨#[60, 116, 119, 111, 62]⟩) := ⟨rfl⟩
 go_enter Tryz.func111, Tryz.ntmps111
 by_cases h : (q : Int) % 2 = 0
 ·go_wp2
  go_ret
  exact ⟨by rw [H.out, if_pos (by omega)]; rfl, rfl⟩
 ·go_wp2
  go_ret
  exact ⟨by rw [H.out, if_neg (by omega)]; rfl, rfl⟩
def lt (q : Nat) : Int := if q % 2 = 0 then -7701 else -7702
theorem lt_calls (q : Nat) (hq : q ≤ 140737488355328) (w : World) : Calls Tryz.prog 110 #[.int .i64 q] w fun e w' => e = .returned (.int .i64 (lt q)) ∧ w = w' := by
 have h0 : (0 : Int) ≤ q := by omega
 have H : Aside0 (lt q = if q % 2 = 0 then -7701 else -7702) := ⟨rfl⟩
 go_enter Tryz.func110, Tryz.ntmps110
 by_cases h : (q : Int) % 2 = 0
 ·go_wp2
  go_ret
  exact ⟨by rw [H.out, if_pos (by omega)]; rfl, rfl⟩
 ·go_wp2
  go_ret
  exact ⟨by rw [H.out, if_neg (by omega)]; rfl, rfl⟩
def lab1 (L : Nat → Nat) (n t : Nat) : Nat → Nat := fun k => if k < n then L k else t
theorem lab1_old {L : Nat → Nat} {n t k : Nat} (h : k < n) : lab1 L n t k = L k := if_pos h
theorem lab1_new {L : Nat → Nat} {n t k : Nat} (h : n ≤ k) : lab1 L n t k = t := if_neg (by omega)
theorem only1 {L : Nat → Nat} {t : Nat} {w W : World} {X : Nat → Prop} (h : Below w.heap.size w W) : Only X L w (lab1 L w.heap.size t) W := ⟨h.size, fun k hk _ => h.block k hk, fun k hk => lab1_old hk⟩
theorem blk_a {w wa : World} {base g n : Nat} {e tR : TypeId} {V : Value} {xs : List Value} {cs : Array Value} (ov : w.ownsRow base e 1 V n xs) (hb : w.heap[g]? = some (.cells cs tR (0, 0))) (hg : w.grownBy wa V.ownBlock) (hne : e ≠ tR) : wa.heap[g]? = some (.cells cs tR (0, 0)) :=
 (hg.block g (blk_lt hb) (own_ne ov hb hne)).trans hb
theorem own_a {w wa : World} {base g n n2 : Nat} {e ti : TypeId} {V U v : Value} {xs ys : List Value} {cs : Array Value} {tR : TypeId} (ov : w.ownsRow base e 1 V n xs) (ou : w.ownsRow base ti 1 U n2 ys) (hb : w.heap[g]? = some (.cells cs tR (0, 0))) (hg : w.grownBy wa V.ownBlock) (hne : e ≠ ti) (hnu : ti ≠ tR) (j : Nat) : (wa.setCell ⟨g, j, none⟩ v).ownsRow base ti 1 U n2 ys := by
 refine own_move ou (fun k hk => ?_)
 have hl := own_lt ou k hk
 refine (Below.heap_setCell _ _ _ _ (fun e' => own_ne ou hb hnu (by rw [hk, e']))).trans ?_
 refine hg.block k hl (fun e' => ?_)
 obtain ⟨c1, h1⟩ := own_typed ou k hk
 obtain ⟨c2, h2⟩ := own_typed ov k e'.symm
 rw [h1] at h2
 injection h2 with h2
 injection h2 with _ h2
 exact hne h2.symm
theorem blk_b {w wa wb : World} {base g n : Nat} {ti tR : TypeId} {U v : Value} {ys : List Value} {cs cs' : Array Value} {j : Nat} (ou : w.ownsRow base ti 1 U n ys) (hb : w.heap[g]? = some (.cells cs tR (0, 0))) (ha : wa.heap[g]? = some (.cells cs' tR (0, 0))) (hg : (wa.setCell ⟨g, j, none⟩ v).grownBy wb U.ownBlock) (hne : ti ≠ tR) : wb.heap[g]? = some (.cells (cs'.setIfInBounds j v) tR (0, 0)) := by
 have hl := blk_lt ha
 exact (hg.block g (by simp [World.setCell]; omega) (own_ne ou hb hne)).trans (blk_set ha _ _)
theorem eval_x (wa : World) (p : Addr) (v : Value) (n : Nat) : Value.slice (some ⟨wa.heap.size, 0, none⟩) n n = .slice (some ⟨(wa.setCell p v).heap.size, 0, none⟩) n n := by simp [World.setCell]
theorem lt_u8 (q : Nat) : IntKind.u8.wrap (lt q) = (if q % 2 = 0 then 235 else 234 : Int) := by unfold lt; split <;> rfl

def mkBytes (q : Nat) : Int := (if q % 2 = 0 then 235 else 234 : Int)
def mkInts (q : Nat) : Int := (if q % 2 = 0 then -7701 else -7702 : Int)
def mkTexts (q : Nat) : ByteArray := wd q
def mkAsks (q : Nat) : S82 := ⟨wd q, 0⟩
def kinds : Nat → Kind
 | 0 => ⟨22, 5, 1, fun q c => c = [.int .u8 (mkBytes q)], true⟩
 | 1 => ⟨26, 3, 1, fun q c => c = [.int .i64 (mkInts q)], true⟩
 | 2 => ⟨27, 9, 1, fun q c => c = [.string (mkTexts q)], true⟩
 | 3 => ⟨25, 82, 2, fun q c => c = [.string (mkAsks q).f0, .int .i64 (mkAsks q).f1], true⟩
 | 4 => ⟨104, 106, 1, fun _ _ => False, false⟩
 | 5 => ⟨107, 109, 1, fun _ _ => False, false⟩
 | 6 => ⟨32, 22, 1, fun _ _ => False, false⟩
 | 7 => ⟨110, 24, 4, fun _ _ => False, false⟩
 | 8 => ⟨111, 113, 6, fun _ _ => False, false⟩
 | 9 => ⟨65, 29, 25, fun _ _ => False, false⟩
 | 10 => ⟨114, 116, 1, fun _ _ => False, false⟩
 | 11 => ⟨117, 119, 1, fun _ _ => False, false⟩
 | 12 => ⟨120, 124, 6, fun _ _ => False, false⟩
 | 13 => ⟨125, 129, 1, fun _ _ => False, false⟩
 | 14 => ⟨130, 132, 2, fun _ _ => False, false⟩
 | 15 => ⟨133, 135, 1, fun _ _ => False, false⟩
 | 16 => ⟨136, 138, 1, fun _ _ => False, false⟩
 | _ => ⟨0, 0, 1, fun _ _ => False, false⟩
abbrev RoomAt := At kinds 3 50
theorem infoo22 : (Tryz.prog.info? 22).map (fun i => (i.zero, i.size, i.bytes)) = some (some (.slice none 0 0), 1, 24) := by kernel_rfl
theorem infoe5 : (Tryz.prog.info? 5).map (fun i => (i.zero, i.size, i.bytes)) = some (some (.int .u8 0), 1, 1) := by kernel_rfl
theorem infoo26 : (Tryz.prog.info? 26).map (fun i => (i.zero, i.size, i.bytes)) = some (some (.slice none 0 0), 1, 24) := by kernel_rfl
theorem infoe3 : (Tryz.prog.info? 3).map (fun i => (i.zero, i.size, i.bytes)) = some (some (.int .i64 0), 1, 8) := by kernel_rfl
theorem infoo27 : (Tryz.prog.info? 27).map (fun i => (i.zero, i.size, i.bytes)) = some (some (.slice none 0 0), 1, 24) := by kernel_rfl
theorem infoe9 : (Tryz.prog.info? 9).map (fun i => (i.zero, i.size, i.bytes)) = some (some (.string ⟨#[]⟩), 1, 16) := by kernel_rfl
theorem infoo25 : (Tryz.prog.info? 25).map (fun i => (i.zero, i.size, i.bytes)) = some (some (.slice none 0 0), 1, 24) := by kernel_rfl
theorem infoe82 : (Tryz.prog.info? 82).map (fun i => (i.zero, i.size, i.bytes)) = some (some (.agg #[(.string ⟨#[]⟩), (.int .i64 0)]), 2, 24) := by kernel_rfl
theorem infoi : (Tryz.prog.info? 3).map (fun i => (i.zero, i.size, i.bytes)) = some (some (.int .i64 0), 1, 8) := by kernel_rfl
theorem layBytes_calls (L : Nat → Nat) (base g N : Nat) (A : Option Addr) (c : Nat) (l : List Int) (room : Nat) (w0 w : World) (cs : Array Value) (D : Nat → List (Value × Int)) (hR : RoomAt L base w g N cs D) (hB : Below base w0 w) (hr : Kd.C (Kd.int .u8) w A l.length l) (hc : l.length ≤ c) (hlb : l.length ≤ 536870912) (hrm : room ≤ 536870912) (hr0 : 0 < room) (hN : N ≤ 1073741824) :
  Calls Tryz.prog 88 #[.pointer (some ⟨g, 0, none⟩), .slice A l.length c, .int .i64 room] w fun e w' => ∃ L' cs' b c', e = .returned (.slice (some ⟨b, 0, none⟩) l.length (l.length + room)) ∧ RoomAt L' base w' g (N + 1) cs' (put D 0 (.slice (some ⟨b, 0, none⟩) (l.length + room) c', (l.length : Nat))) ∧ Only Room L w L' w' ∧ Below base w0 w' ∧ w.heap.size ≤ b ∧ b < w'.heap.size ∧ L' b = 0 ∧ Firm L' w' (fun W => Kd.C (Kd.int .u8) W (some ⟨b, 0, none⟩) l.length l) := by
 have hge0 := hR.ge
 have hgs0 := blk_lt hR.blk
 have HR := am hR
 have HB := am hB
 have HL := am hr
 have HW := am (Below.refl w.heap.size w)
 have HC0 := am hc
 clear hR hB hr hc
 go_enter Tryz.func88, Tryz.ntmps88
 go_wp2_with (first | ((with_reducible refine gate_builtin (b := .append) (xs := #[.tmp 10, .tmp 11]) rfl ?_); at_builtin; refine wpList_append_new (Kd.int .u8) rfl w.heap.size (.tmp 10) (.tmp 11) 22 rfl 5 (.int .u8 0) 1 Tryz.underlying22 infoe5 rfl (by decide) (by decide) w.heap.size rfl (blk_new w _) (Nat.le_refl _) (fun _ _ _ _ h => h) A l.length c rfl l ?aR ?aL ?_; (case aR => exact (Kd.C_below HL.out (below_alloc (Below.refl _ _) _))); (case aL => omega); intro v1 w1 ho hat hb; have OF := am (show OwnRow (Kd.K (Kd.int .u8) w1) 5 1 w1 w.heap.size v1 l from ho); have n0_ := am (below_step (below_alloc HW.out _) hb); clear HW ho hat hb; have HW := n0_; clear n0_))
 go_loopw [7, 8] (fun F i wr => ∃ k : Nat, k ≤ room ∧ i = .int .i64 k ∧ Aside0 (OwnRow (Kd.K (Kd.int .u8) wr) 5 1 wr w.heap.size F (l ++ mrks mkBytes k)) ∧ Aside0 (Below w.heap.size w wr)) (fun _ i _ => room - (intOf i).toNat)
 case atStart => exact ⟨0, Nat.zero_le _, rfl, ⟨by simpa [mrks_zero] using OF.out⟩, HW⟩
 case round =>
  clear OF HW
  obtain ⟨k, hk, rfl, OF, HW⟩ := hrel
  obtain ⟨wo, hwo⟩ : ∃ x, x = wr := ⟨_, rfl⟩
  subst hwo
  by_cases hlt : k < room
  ·skip
   have HT := lt_u8 k
   have hl2 : (l ++ mrks mkBytes k).length = l.length + k := by rw [List.length_append, mrks_length]
   have HL2 := am hl2
   clear hl2
   go_wp2_with (first | (go_at_call 110; (with_reducible refine (lt_calls k (by omega) _).mono ?_); rintro e w' ⟨rfl, rfl⟩) | ((with_reducible refine gate_builtin (b := .append) (xs := #[.tmp 18, .tmp 22]) rfl ?_); at_builtin; refine OwnRow.append (w0 := w) (R := Kd.K (Kd.int .u8) wo) w.heap.size rfl (.tmp 18) (.tmp 22) 22 5 (.int .u8 0) 1 1 rfl Tryz.underlying22 infoe5 rfl (by decide) (by decide) u7 (l ++ mrks mkBytes k) (mkBytes k) [.int .u8 (mkBytes k)] rfl rfl ?aP rfl ?a1 ?aO ?aB ?aS ?aL ?_; (case aP => exact rfl); (case a1 => simp [Value.oneCell']); (case aO => exact OF.out); (case aB => exact HW.out); (case aS => exact HW.out.size); (case aL => rw [HL2.out]; omega); intro v1 w1 ho hb hg hat; have n0_ := am (show OwnRow (Kd.K (Kd.int .u8) w1) 5 1 w1 w.heap.size v1 (l ++ mrks mkBytes (k + 1)) by rw [mrks_succ, ← List.append_assoc]; exact ho); have n1_ := am hb; clear OF HW ho hb hg hat; have OF := n0_; have HW := n1_; clear n0_ n1_))
   go_roundw
   case rel => exact ⟨k + 1, by omega, by go_num, OF, HW⟩
   case measure => simp [intOf]; omega
  ·obtain rfl : k = room := by omega
   obtain ⟨b, cF, hF⟩ : ∃ b cF, u7 = .slice (some ⟨b, 0, none⟩) (l.length + k) cF := by
    obtain ⟨inner, ho, _⟩ := OF.out
    rw [show (l ++ mrks mkBytes k).length = l.length + k by rw [List.length_append, mrks_length]] at ho
    obtain ⟨b, cF, e, _⟩ := ho.form (by omega)
    exact ⟨b, cF, e⟩
   subst hF
   have hcF : l.length + k ≤ cF := by obtain ⟨inner, ho, _⟩ := OF.out; exact own_le ho
   have hbw : w.heap.size ≤ b := by obtain ⟨inner, ho, _⟩ := OF.out; exact own_base ho b rfl
   have hfl : (l ++ mrks mkBytes k).length = l.length + k := by rw [List.length_append, mrks_length]
   have hF := OF.out; rw [OwnRow, hfl] at hF; obtain ⟨inner, ho, hrp⟩ := hF
   have HRK := am (HR.out.step (X := No) (only1 (t := 200) HW.out) (fun _ hx => hx.elim))
   have HFL : Aside0 (∀ k', (Value.slice (some ⟨b, 0, none⟩) (l.length + k) cF).ownBlock = some k' → lab1 L w.heap.size 200 k' = 200) := ⟨fun k' hk' => lab1_new (own_base ho k' hk')⟩
   have OFK : Aside0 (wo.ownsRow w.heap.size 5 1 (.slice (some ⟨b, 0, none⟩) (l.length + k) cF) (l.length + k) inner ∧ ∀ q, l.length + q < l.length + k → ∃ ce, (kinds 0).mrk q ce ∧ ∀ (r : Nat) (u : Value), ce[r]? = some u → inner[(l.length + q) * (kinds 0).sz + r]? = some u) := ⟨ho, fun q hq => reps_mark hrp (fun c hp => hp) (mrks_at l mkBytes k q (by rw [hfl]; exact hq))⟩
   have HRP := am hrp; have HFN := am hfl; clear ho hrp hfl
   obtain ⟨V, U, hV, hU, h2⟩ := HRK.out.two 0 (by decide)
   have hge := HRK.out.ge; have hgs := blk_lt HRK.out.blk
   have hcv : wo.cell? ⟨g, 0, none⟩ = some V := (blk_cell HRK.out.blk 0).trans hV
   have hps : (D 0).length ≤ N := h2.le
   have H2 := am h2; have HV := am hV; have HU := am hU; clear h2 hV hU
   go_wp2_with (first | ((with_reducible refine gate_builtin (b := .append) (xs := #[.tmp 28, .tmp 30]) rfl ?_); at_builtin; refine print_append_cells (w0 := wo) base rfl (.tmp 28) (.tmp 30) 32 22 (.slice none 0 0) 1 24 rfl Tryz.underlying32 infoo22 rfl (by decide) (by decide) V (D 0).length ((D 0).map Prod.fst) [.slice (some ⟨b, 0, none⟩) (l.length + k) cF] rfl rfl rfl ?a1 ?aO ?aB ?aS ?aL ?_; (case a1 => simp [Value.oneCell']); (case aO => exact H2.out.ov); (case aB => exact Below.refl _ _); (case aS => omega); (case aL => omega); intro v1 wa ho hb hg hat; obtain ⟨A1, c1, he1⟩ := own_slice ho; subst he1; have OV := am ho; have GV := am hg; have AV := am hat; have BV := am hb; have BA := am (blk_a H2.out.ov HRK.out.blk hg (by decide)); clear ho hb hg hat hcv; have hfa : wa.frozen? ⟨g, 0, none⟩ = false := blk_frozen BA.out _; have hfb : wa.frozen? ⟨g, 1, none⟩ = false := blk_frozen BA.out _; have hca : wa.cell? ⟨g, 0, none⟩ = some V := (blk_cell BA.out 0).trans HV.out; have hcu : wa.cell? ⟨g, 1, none⟩ = some U := (blk_cell BA.out 1).trans HU.out) | ((with_reducible refine gate_builtin (b := .append) (xs := #[.tmp 38, .tmp 41]) rfl ?_); at_builtin; refine print_append_cells (w0 := wo) base rfl (.tmp 38) (.tmp 41) 26 3 (.int .i64 0) 1 8 rfl Tryz.underlying26 infoi rfl (by decide) (by decide) U (D 0).length (nums .i64 ((D 0).map Prod.snd)) [.int .i64 l.length] rfl ?aX rfl ?a1 ?aO ?aB ?aS ?aL ?_; (case aX => exact eval_x wa _ _ _); (case a1 => simp [Value.oneCell']); (case aO => exact own_a H2.out.ov H2.out.ou HRK.out.blk GV.out (by decide) (by decide) _); (case aB => exact BV.out.setCell (by omega) _); (case aS => have := BV.out.size; simp [World.setCell]; omega); (case aL => omega); intro v2 wb ho hb hg hat; obtain ⟨A2, c2, he2⟩ := own_slice ho; subst he2; have OU := am ho; have GU := am hg; have AU := am hat; have BU := am hb; have BB := am (blk_b H2.out.ou HRK.out.blk BA.out GU.out (by decide)); clear ho hb hg hat hca hcu hfa hfb; have hfc : wb.frozen? ⟨g, 1, none⟩ = false := blk_frozen BB.out _; have hcc : wb.cell? ⟨g, 1, none⟩ = some U := (blk_cell BB.out 1).trans ((Array.getElem?_setIfInBounds_ne (by decide)).trans HU.out)))
   go_ret
   obtain ⟨L', hA, hsz, hkeep, hold, hoF, hF0⟩ := HRK.out.laid (i := 0) (by decide) HV.out HU.out H2.out (by decide) (by decide) (by decide) rfl OFK.out.1 rfl (by decide) HFL.out GV.out OV.out AV.out GU.out OU.out AU.out (n := l.length) (by omega) (by omega) OFK.out.2 (by omega) rfl
   have hb0 : L' b = 0 := hF0 b rfl
   have hbl := own_lt hoF b rfl
   have hBE : Below base wo (wb.setCell ⟨g, 1, none⟩ (.slice A2 ((D 0).length + 1) c2)) := BU.out.setCell (by omega) _
   have hws := HW.out.size
   refine ⟨L', _, b, cF, rfl, hA, ⟨Nat.le_trans hws hsz, fun k' hk' hx => (hkeep k' (by omega) (by rw [lab1_old hk']; exact hx)).trans (HW.out.block k' hk'), fun k' hk' => (hold k' (by omega) (fun e => by have : b = k' := (by simpa only [Value.ownBlock, Option.some.injEq] using e); omega)).trans (lab1_old hk')⟩, HB.out.trans ((HW.out.mono (by omega)).trans hBE), hbw, hbl, hb0, ?_⟩
   have ht := own_take (d := (Kd.int .u8)) (L := L') (fun _ _ _ _ h => h) (show OwnRow (Kd.K (Kd.int .u8) (wb.setCell ⟨g, 1, none⟩ (.slice A2 ((D 0).length + 1) c2))) 5 1 _ w.heap.size _ _ from ⟨inner, by rw [HFN.out]; exact hoF, HRP.out.imp_ (fun _ _ h => h)⟩) hb0 l.length (by rw [HFN.out]; omega)
   rw [List.take_left] at ht
   exact ht
theorem layInts_calls (L : Nat → Nat) (base g N : Nat) (A : Option Addr) (c : Nat) (l : List Int) (room : Nat) (w0 w : World) (cs : Array Value) (D : Nat → List (Value × Int)) (hR : RoomAt L base w g N cs D) (hB : Below base w0 w) (hr : Kd.C (Kd.int .i64) w A l.length l) (hc : l.length ≤ c) (hlb : l.length ≤ 536870912) (hrm : room ≤ 536870912) (hr0 : 0 < room) (hN : N ≤ 1073741824) :
  Calls Tryz.prog 90 #[.pointer (some ⟨g, 0, none⟩), .slice A l.length c, .int .i64 room] w fun e w' => ∃ L' cs' b c', e = .returned (.slice (some ⟨b, 0, none⟩) l.length (l.length + room)) ∧ RoomAt L' base w' g (N + 1) cs' (put D 1 (.slice (some ⟨b, 0, none⟩) (l.length + room) c', (l.length : Nat))) ∧ Only Room L w L' w' ∧ Below base w0 w' ∧ w.heap.size ≤ b ∧ b < w'.heap.size ∧ L' b = 0 ∧ Firm L' w' (fun W => Kd.C (Kd.int .i64) W (some ⟨b, 0, none⟩) l.length l) := by
 have hge0 := hR.ge
 have hgs0 := blk_lt hR.blk
 have HR := am hR
 have HB := am hB
 have HL := am hr
 have HW := am (Below.refl w.heap.size w)
 have HC0 := am hc
 clear hR hB hr hc
 go_enter Tryz.func90, Tryz.ntmps90
 go_wp2_with (first | ((with_reducible refine gate_builtin (b := .append) (xs := #[.tmp 10, .tmp 11]) rfl ?_); at_builtin; refine wpList_append_new (Kd.int .i64) rfl w.heap.size (.tmp 10) (.tmp 11) 26 rfl 3 (.int .i64 0) 8 Tryz.underlying26 infoe3 rfl (by decide) (by decide) w.heap.size rfl (blk_new w _) (Nat.le_refl _) (fun _ _ _ _ h => h) A l.length c rfl l ?aR ?aL ?_; (case aR => exact (Kd.C_below HL.out (below_alloc (Below.refl _ _) _))); (case aL => omega); intro v1 w1 ho hat hb; have OF := am (show OwnRow (Kd.K (Kd.int .i64) w1) 3 1 w1 w.heap.size v1 l from ho); have n0_ := am (below_step (below_alloc HW.out _) hb); clear HW ho hat hb; have HW := n0_; clear n0_))
 go_loopw [7, 8] (fun F i wr => ∃ k : Nat, k ≤ room ∧ i = .int .i64 k ∧ Aside0 (OwnRow (Kd.K (Kd.int .i64) wr) 3 1 wr w.heap.size F (l ++ mrks mkInts k)) ∧ Aside0 (Below w.heap.size w wr)) (fun _ i _ => room - (intOf i).toNat)
 case atStart => exact ⟨0, Nat.zero_le _, rfl, ⟨by simpa [mrks_zero] using OF.out⟩, HW⟩
 case round =>
  clear OF HW
  obtain ⟨k, hk, rfl, OF, HW⟩ := hrel
  obtain ⟨wo, hwo⟩ : ∃ x, x = wr := ⟨_, rfl⟩
  subst hwo
  by_cases hlt : k < room
  ·skip
   have hl2 : (l ++ mrks mkInts k).length = l.length + k := by rw [List.length_append, mrks_length]
   have HL2 := am hl2
   clear hl2
   go_wp2_with (first | (go_at_call 110; (with_reducible refine (lt_calls k (by omega) _).mono ?_); rintro e w' ⟨rfl, rfl⟩) | ((with_reducible refine gate_builtin (b := .append) (xs := #[.tmp 18, .tmp 21]) rfl ?_); at_builtin; refine OwnRow.append (w0 := w) (R := Kd.K (Kd.int .i64) wo) w.heap.size rfl (.tmp 18) (.tmp 21) 26 3 (.int .i64 0) 1 8 rfl Tryz.underlying26 infoe3 rfl (by decide) (by decide) u7 (l ++ mrks mkInts k) (mkInts k) [.int .i64 (mkInts k)] rfl rfl ?aP rfl ?a1 ?aO ?aB ?aS ?aL ?_; (case aP => exact rfl); (case a1 => simp [Value.oneCell']); (case aO => exact OF.out); (case aB => exact HW.out); (case aS => exact HW.out.size); (case aL => rw [HL2.out]; omega); intro v1 w1 ho hb hg hat; have n0_ := am (show OwnRow (Kd.K (Kd.int .i64) w1) 3 1 w1 w.heap.size v1 (l ++ mrks mkInts (k + 1)) by rw [mrks_succ, ← List.append_assoc]; exact ho); have n1_ := am hb; clear OF HW ho hb hg hat; have OF := n0_; have HW := n1_; clear n0_ n1_))
   go_roundw
   case rel => exact ⟨k + 1, by omega, by go_num, OF, HW⟩
   case measure => simp [intOf]; omega
  ·obtain rfl : k = room := by omega
   obtain ⟨b, cF, hF⟩ : ∃ b cF, u7 = .slice (some ⟨b, 0, none⟩) (l.length + k) cF := by
    obtain ⟨inner, ho, _⟩ := OF.out
    rw [show (l ++ mrks mkInts k).length = l.length + k by rw [List.length_append, mrks_length]] at ho
    obtain ⟨b, cF, e, _⟩ := ho.form (by omega)
    exact ⟨b, cF, e⟩
   subst hF
   have hcF : l.length + k ≤ cF := by obtain ⟨inner, ho, _⟩ := OF.out; exact own_le ho
   have hbw : w.heap.size ≤ b := by obtain ⟨inner, ho, _⟩ := OF.out; exact own_base ho b rfl
   have hfl : (l ++ mrks mkInts k).length = l.length + k := by rw [List.length_append, mrks_length]
   have hF := OF.out; rw [OwnRow, hfl] at hF; obtain ⟨inner, ho, hrp⟩ := hF
   have HRK := am (HR.out.step (X := No) (only1 (t := 200) HW.out) (fun _ hx => hx.elim))
   have HFL : Aside0 (∀ k', (Value.slice (some ⟨b, 0, none⟩) (l.length + k) cF).ownBlock = some k' → lab1 L w.heap.size 200 k' = 200) := ⟨fun k' hk' => lab1_new (own_base ho k' hk')⟩
   have OFK : Aside0 (wo.ownsRow w.heap.size 3 1 (.slice (some ⟨b, 0, none⟩) (l.length + k) cF) (l.length + k) inner ∧ ∀ q, l.length + q < l.length + k → ∃ ce, (kinds 1).mrk q ce ∧ ∀ (r : Nat) (u : Value), ce[r]? = some u → inner[(l.length + q) * (kinds 1).sz + r]? = some u) := ⟨ho, fun q hq => reps_mark hrp (fun c hp => hp) (mrks_at l mkInts k q (by rw [hfl]; exact hq))⟩
   have HRP := am hrp; have HFN := am hfl; clear ho hrp hfl
   obtain ⟨V, U, hV, hU, h2⟩ := HRK.out.two 1 (by decide)
   have hge := HRK.out.ge; have hgs := blk_lt HRK.out.blk
   have hcv : wo.cell? ⟨g, 2, none⟩ = some V := (blk_cell HRK.out.blk 2).trans hV
   have hps : (D 1).length ≤ N := h2.le
   have H2 := am h2; have HV := am hV; have HU := am hU; clear h2 hV hU
   go_wp2_with (first | ((with_reducible refine gate_builtin (b := .append) (xs := #[.tmp 27, .tmp 29]) rfl ?_); at_builtin; refine print_append_cells (w0 := wo) base rfl (.tmp 27) (.tmp 29) 33 26 (.slice none 0 0) 1 24 rfl Tryz.underlying33 infoo26 rfl (by decide) (by decide) V (D 1).length ((D 1).map Prod.fst) [.slice (some ⟨b, 0, none⟩) (l.length + k) cF] rfl rfl rfl ?a1 ?aO ?aB ?aS ?aL ?_; (case a1 => simp [Value.oneCell']); (case aO => exact H2.out.ov); (case aB => exact Below.refl _ _); (case aS => omega); (case aL => omega); intro v1 wa ho hb hg hat; obtain ⟨A1, c1, he1⟩ := own_slice ho; subst he1; have OV := am ho; have GV := am hg; have AV := am hat; have BV := am hb; have BA := am (blk_a H2.out.ov HRK.out.blk hg (by decide)); clear ho hb hg hat hcv; have hfa : wa.frozen? ⟨g, 2, none⟩ = false := blk_frozen BA.out _; have hfb : wa.frozen? ⟨g, 3, none⟩ = false := blk_frozen BA.out _; have hca : wa.cell? ⟨g, 2, none⟩ = some V := (blk_cell BA.out 2).trans HV.out; have hcu : wa.cell? ⟨g, 3, none⟩ = some U := (blk_cell BA.out 3).trans HU.out) | ((with_reducible refine gate_builtin (b := .append) (xs := #[.tmp 37, .tmp 40]) rfl ?_); at_builtin; refine print_append_cells (w0 := wo) base rfl (.tmp 37) (.tmp 40) 26 3 (.int .i64 0) 1 8 rfl Tryz.underlying26 infoi rfl (by decide) (by decide) U (D 1).length (nums .i64 ((D 1).map Prod.snd)) [.int .i64 l.length] rfl ?aX rfl ?a1 ?aO ?aB ?aS ?aL ?_; (case aX => exact eval_x wa _ _ _); (case a1 => simp [Value.oneCell']); (case aO => exact own_a H2.out.ov H2.out.ou HRK.out.blk GV.out (by decide) (by decide) _); (case aB => exact BV.out.setCell (by omega) _); (case aS => have := BV.out.size; simp [World.setCell]; omega); (case aL => omega); intro v2 wb ho hb hg hat; obtain ⟨A2, c2, he2⟩ := own_slice ho; subst he2; have OU := am ho; have GU := am hg; have AU := am hat; have BU := am hb; have BB := am (blk_b H2.out.ou HRK.out.blk BA.out GU.out (by decide)); clear ho hb hg hat hca hcu hfa hfb; have hfc : wb.frozen? ⟨g, 3, none⟩ = false := blk_frozen BB.out _; have hcc : wb.cell? ⟨g, 3, none⟩ = some U := (blk_cell BB.out 3).trans ((Array.getElem?_setIfInBounds_ne (by decide)).trans HU.out)))
   go_ret
   obtain ⟨L', hA, hsz, hkeep, hold, hoF, hF0⟩ := HRK.out.laid (i := 1) (by decide) HV.out HU.out H2.out (by decide) (by decide) (by decide) rfl OFK.out.1 rfl (by decide) HFL.out GV.out OV.out AV.out GU.out OU.out AU.out (n := l.length) (by omega) (by omega) OFK.out.2 (by omega) rfl
   have hb0 : L' b = 0 := hF0 b rfl
   have hbl := own_lt hoF b rfl
   have hBE : Below base wo (wb.setCell ⟨g, 3, none⟩ (.slice A2 ((D 1).length + 1) c2)) := BU.out.setCell (by omega) _
   have hws := HW.out.size
   refine ⟨L', _, b, cF, rfl, hA, ⟨Nat.le_trans hws hsz, fun k' hk' hx => (hkeep k' (by omega) (by rw [lab1_old hk']; exact hx)).trans (HW.out.block k' hk'), fun k' hk' => (hold k' (by omega) (fun e => by have : b = k' := (by simpa only [Value.ownBlock, Option.some.injEq] using e); omega)).trans (lab1_old hk')⟩, HB.out.trans ((HW.out.mono (by omega)).trans hBE), hbw, hbl, hb0, ?_⟩
   have ht := own_take (d := (Kd.int .i64)) (L := L') (fun _ _ _ _ h => h) (show OwnRow (Kd.K (Kd.int .i64) (wb.setCell ⟨g, 3, none⟩ (.slice A2 ((D 1).length + 1) c2))) 3 1 _ w.heap.size _ _ from ⟨inner, by rw [HFN.out]; exact hoF, HRP.out.imp_ (fun _ _ h => h)⟩) hb0 l.length (by rw [HFN.out]; omega)
   rw [List.take_left] at ht
   exact ht
theorem layTexts_calls (L : Nat → Nat) (base g N : Nat) (A : Option Addr) (c : Nat) (l : List ByteArray) (room : Nat) (w0 w : World) (cs : Array Value) (D : Nat → List (Value × Int)) (hR : RoomAt L base w g N cs D) (hB : Below base w0 w) (hr : Kd.C Kd.string w A l.length l) (hc : l.length ≤ c) (hlb : l.length ≤ 536870912) (hrm : room ≤ 536870912) (hr0 : 0 < room) (hN : N ≤ 1073741824) :
  Calls Tryz.prog 91 #[.pointer (some ⟨g, 0, none⟩), .slice A l.length c, .int .i64 room] w fun e w' => ∃ L' cs' b c', e = .returned (.slice (some ⟨b, 0, none⟩) l.length (l.length + room)) ∧ RoomAt L' base w' g (N + 1) cs' (put D 2 (.slice (some ⟨b, 0, none⟩) (l.length + room) c', (l.length : Nat))) ∧ Only Room L w L' w' ∧ Below base w0 w' ∧ w.heap.size ≤ b ∧ b < w'.heap.size ∧ L' b = 0 ∧ Firm L' w' (fun W => Kd.C Kd.string W (some ⟨b, 0, none⟩) l.length l) := by
 have hge0 := hR.ge
 have hgs0 := blk_lt hR.blk
 have HR := am hR
 have HB := am hB
 have HL := am hr
 have HW := am (Below.refl w.heap.size w)
 have HC0 := am hc
 clear hR hB hr hc
 go_enter Tryz.func91, Tryz.ntmps91
 go_wp2_with (first | ((with_reducible refine gate_builtin (b := .append) (xs := #[.tmp 10, .tmp 11]) rfl ?_); at_builtin; refine wpList_append_new Kd.string rfl w.heap.size (.tmp 10) (.tmp 11) 27 rfl 9 (.string ⟨#[]⟩) 16 Tryz.underlying27 infoe9 rfl (by decide) (by decide) w.heap.size rfl (blk_new w _) (Nat.le_refl _) (fun _ _ _ _ h => h) A l.length c rfl l ?aR ?aL ?_; (case aR => exact (Kd.C_below HL.out (below_alloc (Below.refl _ _) _))); (case aL => omega); intro v1 w1 ho hat hb; have OF := am (show OwnRow (Kd.K Kd.string w1) 9 1 w1 w.heap.size v1 l from ho); have n0_ := am (below_step (below_alloc HW.out _) hb); clear HW ho hat hb; have HW := n0_; clear n0_))
 go_loopw [7, 8] (fun F i wr => ∃ k : Nat, k ≤ room ∧ i = .int .i64 k ∧ Aside0 (OwnRow (Kd.K Kd.string wr) 9 1 wr w.heap.size F (l ++ mrks mkTexts k)) ∧ Aside0 (Below w.heap.size w wr)) (fun _ i _ => room - (intOf i).toNat)
 case atStart => exact ⟨0, Nat.zero_le _, rfl, ⟨by simpa [mrks_zero] using OF.out⟩, HW⟩
 case round =>
  clear OF HW
  obtain ⟨k, hk, rfl, OF, HW⟩ := hrel
  obtain ⟨wo, hwo⟩ : ∃ x, x = wr := ⟨_, rfl⟩
  subst hwo
  by_cases hlt : k < room
  ·skip
   have hl2 : (l ++ mrks mkTexts k).length = l.length + k := by rw [List.length_append, mrks_length]
   have HL2 := am hl2
   clear hl2
   go_wp2_with (first | (go_at_call 111; (with_reducible refine (wd_calls k (by omega) _).mono ?_); rintro e w' ⟨rfl, rfl⟩) | ((with_reducible refine gate_builtin (b := .append) (xs := #[.tmp 18, .tmp 21]) rfl ?_); at_builtin; refine OwnRow.append (w0 := w) (R := Kd.K Kd.string wo) w.heap.size rfl (.tmp 18) (.tmp 21) 27 9 (.string ⟨#[]⟩) 1 16 rfl Tryz.underlying27 infoe9 rfl (by decide) (by decide) u7 (l ++ mrks mkTexts k) (mkTexts k) [.string (mkTexts k)] rfl rfl ?aP rfl ?a1 ?aO ?aB ?aS ?aL ?_; (case aP => exact rfl); (case a1 => simp [Value.oneCell']); (case aO => exact OF.out); (case aB => exact HW.out); (case aS => exact HW.out.size); (case aL => rw [HL2.out]; omega); intro v1 w1 ho hb hg hat; have n0_ := am (show OwnRow (Kd.K Kd.string w1) 9 1 w1 w.heap.size v1 (l ++ mrks mkTexts (k + 1)) by rw [mrks_succ, ← List.append_assoc]; exact ho); have n1_ := am hb; clear OF HW ho hb hg hat; have OF := n0_; have HW := n1_; clear n0_ n1_))
   go_roundw
   case rel => exact ⟨k + 1, by omega, by go_num, OF, HW⟩
   case measure => simp [intOf]; omega
  ·obtain rfl : k = room := by omega
   obtain ⟨b, cF, hF⟩ : ∃ b cF, u7 = .slice (some ⟨b, 0, none⟩) (l.length + k) cF := by
    obtain ⟨inner, ho, _⟩ := OF.out
    rw [show (l ++ mrks mkTexts k).length = l.length + k by rw [List.length_append, mrks_length]] at ho
    obtain ⟨b, cF, e, _⟩ := ho.form (by omega)
    exact ⟨b, cF, e⟩
   subst hF
   have hcF : l.length + k ≤ cF := by obtain ⟨inner, ho, _⟩ := OF.out; exact own_le ho
   have hbw : w.heap.size ≤ b := by obtain ⟨inner, ho, _⟩ := OF.out; exact own_base ho b rfl
   have hfl : (l ++ mrks mkTexts k).length = l.length + k := by rw [List.length_append, mrks_length]
   have hF := OF.out; rw [OwnRow, hfl] at hF; obtain ⟨inner, ho, hrp⟩ := hF
   have HRK := am (HR.out.step (X := No) (only1 (t := 200) HW.out) (fun _ hx => hx.elim))
   have HFL : Aside0 (∀ k', (Value.slice (some ⟨b, 0, none⟩) (l.length + k) cF).ownBlock = some k' → lab1 L w.heap.size 200 k' = 200) := ⟨fun k' hk' => lab1_new (own_base ho k' hk')⟩
   have OFK : Aside0 (wo.ownsRow w.heap.size 9 1 (.slice (some ⟨b, 0, none⟩) (l.length + k) cF) (l.length + k) inner ∧ ∀ q, l.length + q < l.length + k → ∃ ce, (kinds 2).mrk q ce ∧ ∀ (r : Nat) (u : Value), ce[r]? = some u → inner[(l.length + q) * (kinds 2).sz + r]? = some u) := ⟨ho, fun q hq => reps_mark hrp (fun c hp => hp) (mrks_at l mkTexts k q (by rw [hfl]; exact hq))⟩
   have HRP := am hrp; have HFN := am hfl; clear ho hrp hfl
   obtain ⟨V, U, hV, hU, h2⟩ := HRK.out.two 2 (by decide)
   have hge := HRK.out.ge; have hgs := blk_lt HRK.out.blk
   have hcv : wo.cell? ⟨g, 4, none⟩ = some V := (blk_cell HRK.out.blk 4).trans hV
   have hps : (D 2).length ≤ N := h2.le
   have H2 := am h2; have HV := am hV; have HU := am hU; clear h2 hV hU
   go_wp2_with (first | ((with_reducible refine gate_builtin (b := .append) (xs := #[.tmp 27, .tmp 29]) rfl ?_); at_builtin; refine print_append_cells (w0 := wo) base rfl (.tmp 27) (.tmp 29) 34 27 (.slice none 0 0) 1 24 rfl Tryz.underlying34 infoo27 rfl (by decide) (by decide) V (D 2).length ((D 2).map Prod.fst) [.slice (some ⟨b, 0, none⟩) (l.length + k) cF] rfl rfl rfl ?a1 ?aO ?aB ?aS ?aL ?_; (case a1 => simp [Value.oneCell']); (case aO => exact H2.out.ov); (case aB => exact Below.refl _ _); (case aS => omega); (case aL => omega); intro v1 wa ho hb hg hat; obtain ⟨A1, c1, he1⟩ := own_slice ho; subst he1; have OV := am ho; have GV := am hg; have AV := am hat; have BV := am hb; have BA := am (blk_a H2.out.ov HRK.out.blk hg (by decide)); clear ho hb hg hat hcv; have hfa : wa.frozen? ⟨g, 4, none⟩ = false := blk_frozen BA.out _; have hfb : wa.frozen? ⟨g, 5, none⟩ = false := blk_frozen BA.out _; have hca : wa.cell? ⟨g, 4, none⟩ = some V := (blk_cell BA.out 4).trans HV.out; have hcu : wa.cell? ⟨g, 5, none⟩ = some U := (blk_cell BA.out 5).trans HU.out) | ((with_reducible refine gate_builtin (b := .append) (xs := #[.tmp 37, .tmp 40]) rfl ?_); at_builtin; refine print_append_cells (w0 := wo) base rfl (.tmp 37) (.tmp 40) 26 3 (.int .i64 0) 1 8 rfl Tryz.underlying26 infoi rfl (by decide) (by decide) U (D 2).length (nums .i64 ((D 2).map Prod.snd)) [.int .i64 l.length] rfl ?aX rfl ?a1 ?aO ?aB ?aS ?aL ?_; (case aX => exact eval_x wa _ _ _); (case a1 => simp [Value.oneCell']); (case aO => exact own_a H2.out.ov H2.out.ou HRK.out.blk GV.out (by decide) (by decide) _); (case aB => exact BV.out.setCell (by omega) _); (case aS => have := BV.out.size; simp [World.setCell]; omega); (case aL => omega); intro v2 wb ho hb hg hat; obtain ⟨A2, c2, he2⟩ := own_slice ho; subst he2; have OU := am ho; have GU := am hg; have AU := am hat; have BU := am hb; have BB := am (blk_b H2.out.ou HRK.out.blk BA.out GU.out (by decide)); clear ho hb hg hat hca hcu hfa hfb; have hfc : wb.frozen? ⟨g, 5, none⟩ = false := blk_frozen BB.out _; have hcc : wb.cell? ⟨g, 5, none⟩ = some U := (blk_cell BB.out 5).trans ((Array.getElem?_setIfInBounds_ne (by decide)).trans HU.out)))
   go_ret
   obtain ⟨L', hA, hsz, hkeep, hold, hoF, hF0⟩ := HRK.out.laid (i := 2) (by decide) HV.out HU.out H2.out (by decide) (by decide) (by decide) rfl OFK.out.1 rfl (by decide) HFL.out GV.out OV.out AV.out GU.out OU.out AU.out (n := l.length) (by omega) (by omega) OFK.out.2 (by omega) rfl
   have hb0 : L' b = 0 := hF0 b rfl
   have hbl := own_lt hoF b rfl
   have hBE : Below base wo (wb.setCell ⟨g, 5, none⟩ (.slice A2 ((D 2).length + 1) c2)) := BU.out.setCell (by omega) _
   have hws := HW.out.size
   refine ⟨L', _, b, cF, rfl, hA, ⟨Nat.le_trans hws hsz, fun k' hk' hx => (hkeep k' (by omega) (by rw [lab1_old hk']; exact hx)).trans (HW.out.block k' hk'), fun k' hk' => (hold k' (by omega) (fun e => by have : b = k' := (by simpa only [Value.ownBlock, Option.some.injEq] using e); omega)).trans (lab1_old hk')⟩, HB.out.trans ((HW.out.mono (by omega)).trans hBE), hbw, hbl, hb0, ?_⟩
   have ht := own_take (d := Kd.string) (L := L') (fun _ _ _ _ h => h) (show OwnRow (Kd.K Kd.string (wb.setCell ⟨g, 5, none⟩ (.slice A2 ((D 2).length + 1) c2))) 9 1 _ w.heap.size _ _ from ⟨inner, by rw [HFN.out]; exact hoF, HRP.out.imp_ (fun _ _ h => h)⟩) hb0 l.length (by rw [HFN.out]; omega)
   rw [List.take_left] at ht
   exact ht
theorem layAsks_calls (L : Nat → Nat) (base g N : Nat) (A : Option Addr) (c : Nat) (l : List S82) (room : Nat) (w0 w : World) (cs : Array Value) (D : Nat → List (Value × Int)) (hR : RoomAt L base w g N cs D) (hB : Below base w0 w) (hr : Kd.C k82 w A l.length l) (hc : l.length ≤ c) (hlb : l.length ≤ 536870912) (hrm : room ≤ 536870912) (hr0 : 0 < room) (hN : N ≤ 1073741824) :
  Calls Tryz.prog 89 #[.pointer (some ⟨g, 0, none⟩), .slice A l.length c, .int .i64 room] w fun e w' => ∃ L' cs' b c', e = .returned (.slice (some ⟨b, 0, none⟩) l.length (l.length + room)) ∧ RoomAt L' base w' g (N + 1) cs' (put D 3 (.slice (some ⟨b, 0, none⟩) (l.length + room) c', (l.length : Nat))) ∧ Only Room L w L' w' ∧ Below base w0 w' ∧ w.heap.size ≤ b ∧ b < w'.heap.size ∧ L' b = 0 ∧ Firm L' w' (fun W => Kd.C k82 W (some ⟨b, 0, none⟩) l.length l) := by
 have hge0 := hR.ge
 have hgs0 := blk_lt hR.blk
 have HR := am hR
 have HB := am hB
 have HL := am hr
 have HW := am (Below.refl w.heap.size w)
 have HC0 := am hc
 clear hR hB hr hc
 go_enter Tryz.func89, Tryz.ntmps89
 go_wp2_with (first | ((with_reducible refine gate_builtin (b := .append) (xs := #[.tmp 10, .tmp 11]) rfl ?_); at_builtin; refine wpList_append_new k82 rfl w.heap.size (.tmp 10) (.tmp 11) 25 rfl 82 (.agg #[(.string ⟨#[]⟩), (.int .i64 0)]) 24 Tryz.underlying25 infoe82 rfl (by decide) (by decide) w.heap.size rfl (blk_new w _) (Nat.le_refl _) (fun _ _ _ _ h => h) A l.length c rfl l ?aR ?aL ?_; (case aR => exact (Kd.C_below HL.out (below_alloc (Below.refl _ _) _))); (case aL => omega); intro v1 w1 ho hat hb; have OF := am (show OwnRow (Kd.K k82 w1) 82 2 w1 w.heap.size v1 l from ho); have n0_ := am (below_step (below_alloc HW.out _) hb); clear HW ho hat hb; have HW := n0_; clear n0_))
 go_loopw [7, 8] (fun F i wr => ∃ k : Nat, k ≤ room ∧ i = .int .i64 k ∧ Aside0 (OwnRow (Kd.K k82 wr) 82 2 wr w.heap.size F (l ++ mrks mkAsks k)) ∧ Aside0 (Below w.heap.size w wr)) (fun _ i _ => room - (intOf i).toNat)
 case atStart => exact ⟨0, Nat.zero_le _, rfl, ⟨by simpa [mrks_zero] using OF.out⟩, HW⟩
 case round =>
  clear OF HW
  obtain ⟨k, hk, rfl, OF, HW⟩ := hrel
  obtain ⟨wo, hwo⟩ : ∃ x, x = wr := ⟨_, rfl⟩
  subst hwo
  by_cases hlt : k < room
  ·skip
   have hl2 : (l ++ mrks mkAsks k).length = l.length + k := by rw [List.length_append, mrks_length]
   have HL2 := am hl2
   clear hl2
   go_wp2_with (first | (go_at_call 111; (with_reducible refine (wd_calls k (by omega) _).mono ?_); rintro e w' ⟨rfl, rfl⟩) | ((with_reducible refine gate_builtin (b := .append) (xs := #[.tmp 18, .tmp 22]) rfl ?_); at_builtin; refine OwnRow.append (w0 := w) (R := Kd.K k82 wo) w.heap.size rfl (.tmp 18) (.tmp 22) 25 82 (.agg #[(.string ⟨#[]⟩), (.int .i64 0)]) 2 24 rfl Tryz.underlying25 infoe82 rfl (by decide) (by decide) u7 (l ++ mrks mkAsks k) (mkAsks k) [.string (mkAsks k).f0, .int .i64 (mkAsks k).f1] rfl rfl ?aP rfl ?a1 ?aO ?aB ?aS ?aL ?_; (case aP => exact k82_mk _ _); (case a1 => simp [Value.oneCell']); (case aO => exact OF.out); (case aB => exact HW.out); (case aS => exact HW.out.size); (case aL => rw [HL2.out]; omega); intro v1 w1 ho hb hg hat; have n0_ := am (show OwnRow (Kd.K k82 w1) 82 2 w1 w.heap.size v1 (l ++ mrks mkAsks (k + 1)) by rw [mrks_succ, ← List.append_assoc]; exact ho); have n1_ := am hb; clear OF HW ho hb hg hat; have OF := n0_; have HW := n1_; clear n0_ n1_))
   go_roundw
   case rel => exact ⟨k + 1, by omega, by go_num, OF, HW⟩
   case measure => simp [intOf]; omega
  ·obtain rfl : k = room := by omega
   obtain ⟨b, cF, hF⟩ : ∃ b cF, u7 = .slice (some ⟨b, 0, none⟩) (l.length + k) cF := by
    obtain ⟨inner, ho, _⟩ := OF.out
    rw [show (l ++ mrks mkAsks k).length = l.length + k by rw [List.length_append, mrks_length]] at ho
    obtain ⟨b, cF, e, _⟩ := ho.form (by omega)
    exact ⟨b, cF, e⟩
   subst hF
   have hcF : l.length + k ≤ cF := by obtain ⟨inner, ho, _⟩ := OF.out; exact own_le ho
   have hbw : w.heap.size ≤ b := by obtain ⟨inner, ho, _⟩ := OF.out; exact own_base ho b rfl
   have hfl : (l ++ mrks mkAsks k).length = l.length + k := by rw [List.length_append, mrks_length]
   have hF := OF.out; rw [OwnRow, hfl] at hF; obtain ⟨inner, ho, hrp⟩ := hF
   have HRK := am (HR.out.step (X := No) (only1 (t := 200) HW.out) (fun _ hx => hx.elim))
   have HFL : Aside0 (∀ k', (Value.slice (some ⟨b, 0, none⟩) (l.length + k) cF).ownBlock = some k' → lab1 L w.heap.size 200 k' = 200) := ⟨fun k' hk' => lab1_new (own_base ho k' hk')⟩
   have OFK : Aside0 (wo.ownsRow w.heap.size 82 2 (.slice (some ⟨b, 0, none⟩) (l.length + k) cF) (l.length + k) inner ∧ ∀ q, l.length + q < l.length + k → ∃ ce, (kinds 3).mrk q ce ∧ ∀ (r : Nat) (u : Value), ce[r]? = some u → inner[(l.length + q) * (kinds 3).sz + r]? = some u) := ⟨ho, fun q hq => reps_mark hrp (fun c hp => k82_open hp) (mrks_at l mkAsks k q (by rw [hfl]; exact hq))⟩
   have HRP := am hrp; have HFN := am hfl; clear ho hrp hfl
   obtain ⟨V, U, hV, hU, h2⟩ := HRK.out.two 3 (by decide)
   have hge := HRK.out.ge; have hgs := blk_lt HRK.out.blk
   have hcv : wo.cell? ⟨g, 6, none⟩ = some V := (blk_cell HRK.out.blk 6).trans hV
   have hps : (D 3).length ≤ N := h2.le
   have H2 := am h2; have HV := am hV; have HU := am hU; clear h2 hV hU
   go_wp2_with (first | ((with_reducible refine gate_builtin (b := .append) (xs := #[.tmp 28, .tmp 30]) rfl ?_); at_builtin; refine print_append_cells (w0 := wo) base rfl (.tmp 28) (.tmp 30) 35 25 (.slice none 0 0) 1 24 rfl Tryz.underlying35 infoo25 rfl (by decide) (by decide) V (D 3).length ((D 3).map Prod.fst) [.slice (some ⟨b, 0, none⟩) (l.length + k) cF] rfl rfl rfl ?a1 ?aO ?aB ?aS ?aL ?_; (case a1 => simp [Value.oneCell']); (case aO => exact H2.out.ov); (case aB => exact Below.refl _ _); (case aS => omega); (case aL => omega); intro v1 wa ho hb hg hat; obtain ⟨A1, c1, he1⟩ := own_slice ho; subst he1; have OV := am ho; have GV := am hg; have AV := am hat; have BV := am hb; have BA := am (blk_a H2.out.ov HRK.out.blk hg (by decide)); clear ho hb hg hat hcv; have hfa : wa.frozen? ⟨g, 6, none⟩ = false := blk_frozen BA.out _; have hfb : wa.frozen? ⟨g, 7, none⟩ = false := blk_frozen BA.out _; have hca : wa.cell? ⟨g, 6, none⟩ = some V := (blk_cell BA.out 6).trans HV.out; have hcu : wa.cell? ⟨g, 7, none⟩ = some U := (blk_cell BA.out 7).trans HU.out) | ((with_reducible refine gate_builtin (b := .append) (xs := #[.tmp 38, .tmp 41]) rfl ?_); at_builtin; refine print_append_cells (w0 := wo) base rfl (.tmp 38) (.tmp 41) 26 3 (.int .i64 0) 1 8 rfl Tryz.underlying26 infoi rfl (by decide) (by decide) U (D 3).length (nums .i64 ((D 3).map Prod.snd)) [.int .i64 l.length] rfl ?aX rfl ?a1 ?aO ?aB ?aS ?aL ?_; (case aX => exact eval_x wa _ _ _); (case a1 => simp [Value.oneCell']); (case aO => exact own_a H2.out.ov H2.out.ou HRK.out.blk GV.out (by decide) (by decide) _); (case aB => exact BV.out.setCell (by omega) _); (case aS => have := BV.out.size; simp [World.setCell]; omega); (case aL => omega); intro v2 wb ho hb hg hat; obtain ⟨A2, c2, he2⟩ := own_slice ho; subst he2; have OU := am ho; have GU := am hg; have AU := am hat; have BU := am hb; have BB := am (blk_b H2.out.ou HRK.out.blk BA.out GU.out (by decide)); clear ho hb hg hat hca hcu hfa hfb; have hfc : wb.frozen? ⟨g, 7, none⟩ = false := blk_frozen BB.out _; have hcc : wb.cell? ⟨g, 7, none⟩ = some U := (blk_cell BB.out 7).trans ((Array.getElem?_setIfInBounds_ne (by decide)).trans HU.out)))
   go_ret
   obtain ⟨L', hA, hsz, hkeep, hold, hoF, hF0⟩ := HRK.out.laid (i := 3) (by decide) HV.out HU.out H2.out (by decide) (by decide) (by decide) rfl OFK.out.1 rfl (by decide) HFL.out GV.out OV.out AV.out GU.out OU.out AU.out (n := l.length) (by omega) (by omega) OFK.out.2 (by omega) rfl
   have hb0 : L' b = 0 := hF0 b rfl
   have hbl := own_lt hoF b rfl
   have hBE : Below base wo (wb.setCell ⟨g, 7, none⟩ (.slice A2 ((D 3).length + 1) c2)) := BU.out.setCell (by omega) _
   have hws := HW.out.size
   refine ⟨L', _, b, cF, rfl, hA, ⟨Nat.le_trans hws hsz, fun k' hk' hx => (hkeep k' (by omega) (by rw [lab1_old hk']; exact hx)).trans (HW.out.block k' hk'), fun k' hk' => (hold k' (by omega) (fun e => by have : b = k' := (by simpa only [Value.ownBlock, Option.some.injEq] using e); omega)).trans (lab1_old hk')⟩, HB.out.trans ((HW.out.mono (by omega)).trans hBE), hbw, hbl, hb0, ?_⟩
   have ht := own_take (d := k82) (L := L') (fun _ _ _ _ h => h) (show OwnRow (Kd.K k82 (wb.setCell ⟨g, 7, none⟩ (.slice A2 ((D 3).length + 1) c2))) 82 2 _ w.heap.size _ _ from ⟨inner, by rw [HFN.out]; exact hoF, HRP.out.imp_ (fun _ _ h => h)⟩) hb0 l.length (by rw [HFN.out]; omega)
   rw [List.take_left] at ht
   exact ht
end Go.Proofs.YtndhkgfeknkfdaaGreatDoor.Rm
