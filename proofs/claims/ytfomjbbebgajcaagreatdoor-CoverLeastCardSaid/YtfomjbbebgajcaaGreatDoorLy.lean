/- crierroom.Room: lists laid with room behind them. -/
import Derived.Test.YtfomjbbebgajcaaGreatDoorRm
import Derived.Test.YtfomjbbebgajcaaGreatDoorMCoverLeastx
namespace Go.Proofs.YtfomjbbebgajcaaGreatDoor.Rm
open Go.RowKit Go.Proofs.YtfomjbbebgajcaaGreatDoorW.PrintWords Go.Proofs.YtfomjbbebgajcaaGreatDoorW.PrintLast Go.Proofs.YtfomjbbebgajcaaGreatDoorW.PrintMore Go.Proofs.YtfomjbbebgajcaaGreatDoor.MCoverLeast
open Go.Proofs.YtfomjbbebgajcaaGreatDoorW.PrintWords.Aside0 renaming mk → am
set_option linter.unusedVariables false
set_option linter.unusedSimpArgs false
set_option maxHeartbeats 2000000
set_option maxRecDepth 100000
def wd (q : Nat) : ByteArray := if q % 2 = 0 then ⟨#[60, 111, 110, 101, 62]⟩ else ⟨#[60, 116, 119, 111, 62]⟩
def mrks {α : Type} (f : Nat → α) (k : Nat) : List α := (List.range k).map f
theorem mrks_succ {α : Type} (f : Nat → α) (k : Nat) : mrks f (k + 1) = mrks f k ++ [f k] := by simp [mrks, List.range_succ]
theorem mrks_length {α : Type} (f : Nat → α) (k : Nat) : (mrks f k).length = k := by simp [mrks]
theorem mrks_zero {α : Type} (f : Nat → α) : mrks f 0 = [] := rfl
theorem reps_mark {α : Type} {R : α → List Value → Prop} {size : Nat} {ps : List α} {inner : List Value} (h : Reps R size ps inner) {M : List Value → Prop} {p : α} (hM : ∀ c, R p c → M c) {j : Nat} (hj : ps[j]? = some p) : ∃ ce, M ce ∧ ∀ (r : Nat) (u : Value), ce[r]? = some u → inner[j * size + r]? = some u := by
 refine ⟨_, hM _ (h.2 j p hj), fun r u hu => ?_⟩
 have hr : r < size := by
  have := (List.getElem?_eq_some_iff.1 hu).1
  rw [List.length_take] at this
  omega
 rwa [List.getElem?_take, if_pos hr, List.getElem?_drop] at hu
theorem mrks_at {α : Type} (l : List α) (f : Nat → α) (room q : Nat) (h : l.length + q < (l ++ mrks f room).length) : (l ++ mrks f room)[l.length + q]? = some (f q) := by
 rw [List.getElem?_append_right (by omega)]
 rw [List.length_append, mrks_length] at h
 have h2 : l.length + q - l.length = q := by omega
 rw [h2]
 simp [mrks, List.getElem?_range (show q < room by omega)]
theorem own_take {α : Type} {d : Kd α} {L : Nat → Nat} {w : World} {e b m c base : Nat} {ps : List α} (hK : ∀ (W1 W2 : World) x cs, d.K W1 x cs → d.K W2 x cs) (h : OwnRow (d.K w) e d.sz w base (.slice (some ⟨b, 0, none⟩) m c) ps) (hL : L b = 0) (n : Nat) (hn : n ≤ ps.length) : Firm L w (fun W => d.C W (some ⟨b, 0, none⟩) n (ps.take n)) := fun L' W hW => by
 obtain ⟨inner, ho, hr⟩ := h
 have hb := (hW.2 b (own_lt ho b rfl) hL).1
 have h2 : OwnRow (d.K W) e d.sz W base (.slice (some ⟨b, 0, none⟩) m c) ps := ⟨inner, own_move ho (fun k hk => by
  obtain rfl : b = k := by simpa only [Value.ownBlock, Option.some.injEq] using hk
  exact hb), hr.imp_ (fun _ _ hp => hK _ _ _ _ hp)⟩
 obtain ⟨A, c', he, _, hr2⟩ := OwnRow.reads h2
 injection he with e1 e2 e3
 subst e1
 have h3 := Kd.C_take hr2 hn
 rwa [List.length_take, Nat.min_eq_left hn] at h3
theorem wd_calls (q : Nat) (hq : q ≤ 140737488355328) (w : World) : Calls Tryz.prog 59 #[.int .i64 q] w fun e w' => e = .returned (.string (wd q)) ∧ w = w' := by
 have h0 : (0 : Int) ≤ q := by omega
 have H : Aside0 (wd q = if q % 2 = 0 then ⟨#[60, 111, 110, 101, 62]⟩ else ⟨#[60, 116, 119, 111, 62]⟩) := ⟨rfl⟩
 go_enter Tryz.func59, Tryz.ntmps59
 by_cases h : (q : Int) % 2 = 0
 ·go_wp2
  go_ret
  exact ⟨by rw [H.out, if_pos (by omega)]; rfl, rfl⟩
 ·go_wp2
  go_ret
  exact ⟨by rw [H.out, if_neg (by omega)]; rfl, rfl⟩
def lt (q : Nat) : Int := if q % 2 = 0 then -7701 else -7702
def lab1 (L : Nat → Nat) (n t : Nat) : Nat → Nat := fun k => if k < n then L k else t
theorem lab1_old {L : Nat → Nat} {n t k : Nat} (h : k < n) : lab1 L n t k = L k := if_pos h
theorem lab1_new {L : Nat → Nat} {n t k : Nat} (h : n ≤ k) : lab1 L n t k = t := if_neg (by omega)
theorem only1 {L : Nat → Nat} {t : Nat} {w W : World} {X : Nat → Prop} (h : Below w.heap.size w W) : Only X L w (lab1 L w.heap.size t) W := ⟨h.size, fun k hk _ => h.block k hk, fun k hk => lab1_old hk⟩
theorem blk_a {w wa : World} {base g n : Nat} {e tR : TypeId} {V : Value} {xs : List Value} {cs : Array Value} (ov : w.ownsRow base e 1 V n xs) (hb : w.heap[g]? = some (.cells cs tR (0, 0))) (hg : w.grownBy wa V.ownBlock) (hne : e ≠ tR) : wa.heap[g]? = some (.cells cs tR (0, 0)) :=
 (hg.block g (blk_lt hb) (own_ne ov hb hne)).trans hb
theorem own_a {w wa : World} {base g n n2 : Nat} {e ti : TypeId} {V U v : Value} {xs ys : List Value} {cs : Array Value} {tR : TypeId} (ov : w.ownsRow base e 1 V n xs) (ou : w.ownsRow base ti 1 U n2 ys) (hb : w.heap[g]? = some (.cells cs tR (0, 0))) (hg : w.grownBy wa V.ownBlock) (hne : e ≠ ti) (hnu : ti ≠ tR) (j : Nat) : (wa.setCell ⟨g, j, none⟩ v).ownsRow base ti 1 U n2 ys := by
 refine own_move ou (fun k hk => ?_)
 have hl := own_lt ou k hk
 refine (Below.heap_setCell _ _ _ _ (fun e' => own_ne ou hb hnu (by rw [hk, e']))).trans ?_
 refine hg.block k hl (fun e' => ?_)
 obtain ⟨c1, h1⟩ := own_typed ou k hk
 obtain ⟨c2, h2⟩ := own_typed ov k e'.symm
 rw [h1] at h2
 injection h2 with h2
 injection h2 with _ h2
 exact hne h2.symm
theorem blk_b {w wa wb : World} {base g n : Nat} {ti tR : TypeId} {U v : Value} {ys : List Value} {cs cs' : Array Value} {j : Nat} (ou : w.ownsRow base ti 1 U n ys) (hb : w.heap[g]? = some (.cells cs tR (0, 0))) (ha : wa.heap[g]? = some (.cells cs' tR (0, 0))) (hg : (wa.setCell ⟨g, j, none⟩ v).grownBy wb U.ownBlock) (hne : ti ≠ tR) : wb.heap[g]? = some (.cells (cs'.setIfInBounds j v) tR (0, 0)) := by
 have hl := blk_lt ha
 exact (hg.block g (by simp [World.setCell]; omega) (own_ne ou hb hne)).trans (blk_set ha _ _)
theorem eval_x (wa : World) (p : Addr) (v : Value) (n : Nat) : Value.slice (some ⟨wa.heap.size, 0, none⟩) n n = .slice (some ⟨(wa.setCell p v).heap.size, 0, none⟩) n n := by simp [World.setCell]
def mkTexts (q : Nat) : ByteArray := wd q
def kinds : Nat → Kind
 | 0 => ⟨72, 5, 1, fun _ _ => False, false⟩
 | 1 => ⟨29, 3, 1, fun _ _ => False, false⟩
 | 2 => ⟨22, 9, 1, fun q c => c = [.string (mkTexts q)], true⟩
 | 3 => ⟨77, 110, 2, fun _ _ => False, false⟩
 | 4 => ⟨79, 112, 1, fun _ _ => False, false⟩
 | 5 => ⟨81, 114, 1, fun _ _ => False, false⟩
 | 6 => ⟨28, 72, 1, fun _ _ => False, false⟩
 | 7 => ⟨84, 116, 4, fun _ _ => False, false⟩
 | 8 => ⟨88, 118, 6, fun _ _ => False, false⟩
 | 9 => ⟨86, 120, 25, fun _ _ => False, false⟩
 | 10 => ⟨92, 123, 1, fun _ _ => False, false⟩
 | 11 => ⟨124, 126, 1, fun _ _ => False, false⟩
 | 12 => ⟨96, 130, 6, fun _ _ => False, false⟩
 | 13 => ⟨108, 134, 1, fun _ _ => False, false⟩
 | 14 => ⟨100, 136, 2, fun _ _ => False, false⟩
 | 15 => ⟨102, 138, 1, fun _ _ => False, false⟩
 | 16 => ⟨106, 140, 1, fun _ _ => False, false⟩
 | _ => ⟨0, 0, 1, fun _ _ => False, false⟩
abbrev RoomAt := At kinds 3 47
theorem infoo22 : (Tryz.prog.info? 22).map (fun i => (i.zero, i.size, i.bytes)) = some (some (.slice none 0 0), 1, 24) := by kernel_rfl
theorem infoe9 : (Tryz.prog.info? 9).map (fun i => (i.zero, i.size, i.bytes)) = some (some (.string ⟨#[]⟩), 1, 16) := by kernel_rfl
theorem infoi : (Tryz.prog.info? 3).map (fun i => (i.zero, i.size, i.bytes)) = some (some (.int .i64 0), 1, 8) := by kernel_rfl
theorem layTexts_calls (L : Nat → Nat) (base g N : Nat) (A : Option Addr) (c : Nat) (l : List ByteArray) (room : Nat) (w0 w : World) (cs : Array Value) (D : Nat → List (Value × Int)) (hR : RoomAt L base w g N cs D) (hB : Below base w0 w) (hr : Kd.C Kd.string w A l.length l) (hc : l.length ≤ c) (hlb : l.length ≤ 536870912) (hrm : room ≤ 536870912) (hr0 : 0 < room) (hN : N ≤ 1073741824) :
  Calls Tryz.prog 15 #[.pointer (some ⟨g, 0, none⟩), .slice A l.length c, .int .i64 room] w fun e w' => ∃ L' cs' b c', e = .returned (.slice (some ⟨b, 0, none⟩) l.length (l.length + room)) ∧ RoomAt L' base w' g (N + 1) cs' (put D 2 (.slice (some ⟨b, 0, none⟩) (l.length + room) c', (l.length : Nat))) ∧ Only Room L w L' w' ∧ Below base w0 w' ∧ w.heap.size ≤ b ∧ b < w'.heap.size ∧ L' b = 0 ∧ Firm L' w' (fun W => Kd.C Kd.string W (some ⟨b, 0, none⟩) l.length l) := by
 have hge0 := hR.ge
 have hgs0 := blk_lt hR.blk
 have HR := am hR
 have HB := am hB
 have HL := am hr
 have HW := am (Below.refl w.heap.size w)
 have HC0 := am hc
 clear hR hB hr hc
 go_enter Tryz.func15, Tryz.ntmps15
 go_wp2_with (first | ((with_reducible refine gate_builtin (b := .append) (xs := #[.tmp 10, .tmp 11]) rfl ?_); at_builtin; refine wpList_append_new Kd.string rfl w.heap.size (.tmp 10) (.tmp 11) 22 rfl 9 (.string ⟨#[]⟩) 16 Tryz.underlying22 infoe9 rfl (by decide) (by decide) w.heap.size rfl (blk_new w _) (Nat.le_refl _) (fun _ _ _ _ h => h) A l.length c rfl l ?aR ?aL ?_; (case aR => exact (Kd.C_below HL.out (below_alloc (Below.refl _ _) _))); (case aL => omega); intro v1 w1 ho hat hb; have OF := am (show OwnRow (Kd.K Kd.string w1) 9 1 w1 w.heap.size v1 l from ho); have n0_ := am (below_step (below_alloc HW.out _) hb); clear HW ho hat hb; have HW := n0_; clear n0_))
 go_loopw [7, 8] (fun F i wr => ∃ k : Nat, k ≤ room ∧ i = .int .i64 k ∧ Aside0 (OwnRow (Kd.K Kd.string wr) 9 1 wr w.heap.size F (l ++ mrks mkTexts k)) ∧ Aside0 (Below w.heap.size w wr)) (fun _ i _ => room - (intOf i).toNat)
 case atStart => exact ⟨0, Nat.zero_le _, rfl, ⟨by simpa [mrks_zero] using OF.out⟩, HW⟩
 case round =>
  clear OF HW
  obtain ⟨k, hk, rfl, OF, HW⟩ := hrel
  obtain ⟨wo, hwo⟩ : ∃ x, x = wr := ⟨_, rfl⟩
  subst hwo
  by_cases hlt : k < room
  ·skip
   have hl2 : (l ++ mrks mkTexts k).length = l.length + k := by rw [List.length_append, mrks_length]
   have HL2 := am hl2
   clear hl2
   go_wp2_with (first | (go_at_call 59; (with_reducible refine (wd_calls k (by omega) _).mono ?_); rintro e w' ⟨rfl, rfl⟩) | ((with_reducible refine gate_builtin (b := .append) (xs := #[.tmp 18, .tmp 21]) rfl ?_); at_builtin; refine OwnRow.append (w0 := w) (R := Kd.K Kd.string wo) w.heap.size rfl (.tmp 18) (.tmp 21) 22 9 (.string ⟨#[]⟩) 1 16 rfl Tryz.underlying22 infoe9 rfl (by decide) (by decide) u7 (l ++ mrks mkTexts k) (mkTexts k) [.string (mkTexts k)] rfl rfl ?aP rfl ?a1 ?aO ?aB ?aS ?aL ?_; (case aP => exact rfl); (case a1 => simp [Value.oneCell']); (case aO => exact OF.out); (case aB => exact HW.out); (case aS => exact HW.out.size); (case aL => rw [HL2.out]; omega); intro v1 w1 ho hb hg hat; have n0_ := am (show OwnRow (Kd.K Kd.string w1) 9 1 w1 w.heap.size v1 (l ++ mrks mkTexts (k + 1)) by rw [mrks_succ, ← List.append_assoc]; exact ho); have n1_ := am hb; clear OF HW ho hb hg hat; have OF := n0_; have HW := n1_; clear n0_ n1_))
   go_roundw
   case rel => exact ⟨k + 1, by omega, by go_num, OF, HW⟩
   case measure => simp [intOf]; omega
  ·obtain rfl : k = room := by omega
   obtain ⟨b, cF, hF⟩ : ∃ b cF, u7 = .slice (some ⟨b, 0, none⟩) (l.length + k) cF := by
    obtain ⟨inner, ho, _⟩ := OF.out
    rw [show (l ++ mrks mkTexts k).length = l.length + k by rw [List.length_append, mrks_length]] at ho
    obtain ⟨b, cF, e, _⟩ := ho.form (by omega)
    exact ⟨b, cF, e⟩
   subst hF
   have hcF : l.length + k ≤ cF := by obtain ⟨inner, ho, _⟩ := OF.out; exact own_le ho
   have hbw : w.heap.size ≤ b := by obtain ⟨inner, ho, _⟩ := OF.out; exact own_base ho b rfl
   have hfl : (l ++ mrks mkTexts k).length = l.length + k := by rw [List.length_append, mrks_length]
   have hF := OF.out; rw [OwnRow, hfl] at hF; obtain ⟨inner, ho, hrp⟩ := hF
   have HRK := am (HR.out.step (X := No) (only1 (t := 200) HW.out) (fun _ hx => hx.elim))
   have HFL : Aside0 (∀ k', (Value.slice (some ⟨b, 0, none⟩) (l.length + k) cF).ownBlock = some k' → lab1 L w.heap.size 200 k' = 200) := ⟨fun k' hk' => lab1_new (own_base ho k' hk')⟩
   have OFK : Aside0 (wo.ownsRow w.heap.size 9 1 (.slice (some ⟨b, 0, none⟩) (l.length + k) cF) (l.length + k) inner ∧ ∀ q, l.length + q < l.length + k → ∃ ce, (kinds 2).mrk q ce ∧ ∀ (r : Nat) (u : Value), ce[r]? = some u → inner[(l.length + q) * (kinds 2).sz + r]? = some u) := ⟨ho, fun q hq => reps_mark hrp (fun c hp => hp) (mrks_at l mkTexts k q (by rw [hfl]; exact hq))⟩
   have HRP := am hrp; have HFN := am hfl; clear ho hrp hfl
   obtain ⟨V, U, hV, hU, h2⟩ := HRK.out.two 2 (by decide)
   have hge := HRK.out.ge; have hgs := blk_lt HRK.out.blk
   have hcv : wo.cell? ⟨g, 4, none⟩ = some V := (blk_cell HRK.out.blk 4).trans hV
   have hps : (D 2).length ≤ N := h2.le
   have H2 := am h2; have HV := am hV; have HU := am hU; clear h2 hV hU
   go_wp2_with (first | ((with_reducible refine gate_builtin (b := .append) (xs := #[.tmp 27, .tmp 29]) rfl ?_); at_builtin; refine print_append_cells (w0 := wo) base rfl (.tmp 27) (.tmp 29) 31 22 (.slice none 0 0) 1 24 rfl Tryz.underlying31 infoo22 rfl (by decide) (by decide) V (D 2).length ((D 2).map Prod.fst) [.slice (some ⟨b, 0, none⟩) (l.length + k) cF] rfl rfl rfl ?a1 ?aO ?aB ?aS ?aL ?_; (case a1 => simp [Value.oneCell']); (case aO => exact H2.out.ov); (case aB => exact Below.refl _ _); (case aS => omega); (case aL => omega); intro v1 wa ho hb hg hat; obtain ⟨A1, c1, he1⟩ := own_slice ho; subst he1; have OV := am ho; have GV := am hg; have AV := am hat; have BV := am hb; have BA := am (blk_a H2.out.ov HRK.out.blk hg (by decide)); clear ho hb hg hat hcv; have hfa : wa.frozen? ⟨g, 4, none⟩ = false := blk_frozen BA.out _; have hfb : wa.frozen? ⟨g, 5, none⟩ = false := blk_frozen BA.out _; have hca : wa.cell? ⟨g, 4, none⟩ = some V := (blk_cell BA.out 4).trans HV.out; have hcu : wa.cell? ⟨g, 5, none⟩ = some U := (blk_cell BA.out 5).trans HU.out) | ((with_reducible refine gate_builtin (b := .append) (xs := #[.tmp 37, .tmp 40]) rfl ?_); at_builtin; refine print_append_cells (w0 := wo) base rfl (.tmp 37) (.tmp 40) 29 3 (.int .i64 0) 1 8 rfl Tryz.underlying29 infoi rfl (by decide) (by decide) U (D 2).length (nums .i64 ((D 2).map Prod.snd)) [.int .i64 l.length] rfl ?aX rfl ?a1 ?aO ?aB ?aS ?aL ?_; (case aX => exact eval_x wa _ _ _); (case a1 => simp [Value.oneCell']); (case aO => exact own_a H2.out.ov H2.out.ou HRK.out.blk GV.out (by decide) (by decide) _); (case aB => exact BV.out.setCell (by omega) _); (case aS => have := BV.out.size; simp [World.setCell]; omega); (case aL => omega); intro v2 wb ho hb hg hat; obtain ⟨A2, c2, he2⟩ := own_slice ho; subst he2; have OU := am ho; have GU := am hg; have AU := am hat; have BU := am hb; have BB := am (blk_b H2.out.ou HRK.out.blk BA.out GU.out (by decide)); clear ho hb hg hat hca hcu hfa hfb; have hfc : wb.frozen? ⟨g, 5, none⟩ = false := blk_frozen BB.out _; have hcc : wb.cell? ⟨g, 5, none⟩ = some U := (blk_cell BB.out 5).trans ((Array.getElem?_setIfInBounds_ne (by decide)).trans HU.out)))
   go_ret
   obtain ⟨L', hA, hsz, hkeep, hold, hoF, hF0⟩ := HRK.out.laid (i := 2) (by decide) HV.out HU.out H2.out (by decide) (by decide) (by decide) rfl OFK.out.1 rfl (by decide) HFL.out GV.out OV.out AV.out GU.out OU.out AU.out (n := l.length) (by omega) (by omega) OFK.out.2 (by omega) rfl
   have hb0 : L' b = 0 := hF0 b rfl
   have hbl := own_lt hoF b rfl
   have hBE : Below base wo (wb.setCell ⟨g, 5, none⟩ (.slice A2 ((D 2).length + 1) c2)) := BU.out.setCell (by omega) _
   have hws := HW.out.size
   refine ⟨L', _, b, cF, rfl, hA, ⟨Nat.le_trans hws hsz, fun k' hk' hx => (hkeep k' (by omega) (by rw [lab1_old hk']; exact hx)).trans (HW.out.block k' hk'), fun k' hk' => (hold k' (by omega) (fun e => by have : b = k' := (by simpa only [Value.ownBlock, Option.some.injEq] using e); omega)).trans (lab1_old hk')⟩, HB.out.trans ((HW.out.mono (by omega)).trans hBE), hbw, hbl, hb0, ?_⟩
   have ht := own_take (d := Kd.string) (L := L') (fun _ _ _ _ h => h) (show OwnRow (Kd.K Kd.string (wb.setCell ⟨g, 5, none⟩ (.slice A2 ((D 2).length + 1) c2))) 9 1 _ w.heap.size _ _ from ⟨inner, by rw [HFN.out]; exact hoF, HRP.out.imp_ (fun _ _ h => h)⟩) hb0 l.length (by rw [HFN.out]; omega)
   rw [List.take_left] at ht
   exact ht
end Go.Proofs.YtfomjbbebgajcaaGreatDoor.Rm
/- crierroom.Room: structs, and lists of structs, laid with room behind them. -/
namespace Go.Proofs.YtfomjbbebgajcaaGreatDoor.Rm
open Go.RowKit Go.Proofs.YtfomjbbebgajcaaGreatDoorW.PrintWords Go.Proofs.YtfomjbbebgajcaaGreatDoorW.PrintLast Go.Proofs.YtfomjbbebgajcaaGreatDoorW.PrintMore Go.Proofs.YtfomjbbebgajcaaGreatDoor.MCoverLeast
set_option linter.unusedVariables false
set_option linter.unusedSimpArgs false
set_option maxHeartbeats 40000000
set_option maxRecDepth 100000
/-- what a struct's lay keeps: the room, the argument's block, the answer's -/
structure SL (L : Nat → Nat) (w w0 : World) (base g gb gr : Nat) (T : TypeId) (c1 c2 : Array Value) (Lk : Nat → Nat) (W : World) (Nk : Nat) (csk : Array Value) (Dk : Nat → List (Value × Int)) : Prop where
 room : RoomAt Lk base W g Nk csk Dk
 only : Only Room L w Lk W
 below : Below base w0 W
 b1 : W.heap[gb]? = some (.cells c1 T (0, 0))
 b2 : W.heap[gr]? = some (.cells c2 T (0, 0))
 l1 : Lk gb = 200
 l2 : Lk gr = 200
 n1 : w.heap.size ≤ gb
 n2 : w.heap.size ≤ gr
 ne : gb ≠ gr
 bs : base ≤ w.heap.size
section
variable {L Lk L' : Nat → Nat} {w w0 W W' : World} {base g gb gr Nk N' : Nat} {T : TypeId} {c1 c2 c1' : Array Value} {csk cs' : Array Value} {Dk D' : Nat → List (Value × Int)} {F F' : World → Prop}
end
/-- what a list's lay keeps while the list is made -/
structure LF {α : Type} (K : World → α → List Value → Prop) (te sz : Nat) (L : Nat → Nat) (w w0 : World) (base g : Nat) (F : Value) (ps : List α) (Lk : Nat → Nat) (W : World) (Nk : Nat) (csk : Array Value) (Dk : Nat → List (Value × Int)) : Prop where
 room : RoomAt Lk base W g Nk csk Dk
 only : Only Room L w Lk W
 below : Below base w0 W
 full : OwnRow (fun p c => Firm Lk W (fun W' => K W' p c)) te sz W w.heap.size F ps
 lab : ∀ b, F.ownBlock = some b → Lk b = 200
 bs : base ≤ w.heap.size
section
variable {α : Type} {K : World → α → List Value → Prop} {te sz base g Nk N' : Nat} {L Lk L' : Nat → Nat} {w w0 W W' : World} {F F' : Value} {ps : List α} {csk cs' : Array Value} {Dk D' : Nat → List (Value × Int)}
end
end Go.Proofs.YtfomjbbebgajcaaGreatDoor.Rm
