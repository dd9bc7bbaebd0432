/- crierkept.Book: mark.. of a kind that is used. -/
import Derived.Test.YtfomjbbebgajcaaGreatDoorKr
import Derived.Test.YtfomjbbebgajcaaGreatDoorBw
import Derived.Test.YtfomjbbebgajcaaGreatDoorBs
import Derived.Test.YtfomjbbebgajcaaGreatDoorBa
import Derived.Test.YtfomjbbebgajcaaGreatDoorShelf
import Derived.BigQuiet
import Derived.IntWalk
import Derived.Deep.QuietTactic
namespace Go.Proofs.YtfomjbbebgajcaaGreatDoor.Rm
open Go.RowKit Go.Proofs.YtfomjbbebgajcaaGreatDoorW.PrintWords Go.Proofs.YtfomjbbebgajcaaGreatDoorW.PrintLast Go.Proofs.YtfomjbbebgajcaaGreatDoorW.PrintMore Go.Proofs.YtfomjbbebgajcaaGreatDoor.MCoverLeast
open Go.Act renaming put → zp
open List renaming setIfInBounds_toArray → zi, set_cons_zero → zz, set_cons_succ → zs
open Go.Proofs.YtfomjbbebgajcaaGreatDoorW.PrintWords.Aside0 renaming mk → am
set_option linter.unusedVariables false
set_option linter.unusedSimpArgs false
set_option maxHeartbeats 4000000
set_option maxRecDepth 100000

theorem w64_lo (n : Int) : -9223372036854775808 ≤ wrap64 n := by unfold wrap64; omega
theorem w64_hi (n : Int) : wrap64 n ≤ 9223372036854775807 := by unfold wrap64; omega
theorem below_grow_ (w : World) (k : Nat) (os : Array Obj) : Below w.heap.size w (Go.Sort.grow (w.drewN k) os) :=
 ⟨rfl, rfl, rfl, by simp [Go.Sort.grow, World.drewN], fun i hi => by
  show (w.heap ++ os)[i]? = w.heap[i]?
  exact Array.getElem?_append_left hi⟩
theorem itoa_any (n : Int) (w : World) (htab : Lib.TabIs Tryz.prog w "internal/strconv.uint64pow10" .u64 Lib.pow10Tab) : Calls Tryz.prog 160 #[.int .i64 (wrap64 n)] w fun e w' => ∃ s, e = .returned (.string s) ∧ Below w.heap.size w w' :=
 (Tryz.strconv_Itoa (wrap64 n) (w64_lo n) (w64_hi n) w htab).mono fun e w' h => by
  obtain ⟨rfl, k, os, rfl⟩ := h
  exact ⟨_, rfl, below_grow_ w k os⟩
theorem markTexts_calls (L : Nat → Nat) (base g N : Nat) (w : World) (cs : Array Value) (D : Nat → List Value) {G : (Nat → Nat) → World → Prop} {turn deep : Int} {seen : Nat → Int} {ps os : List (Value × Value)} {mq dq : List Int} (h : Bst bkT 55 base g (FK Kd.string 9 base 1002 G ps os []) false turn deep seen L w N cs D) (hD : Dsh 2 N D ps os [] mq dq []) (hG : Stb (Yt 1002) G) (hT : ∀ L w, G L w → Lib.TabIs Tryz.prog w "internal/strconv.uint64pow10" .u64 Lib.pow10Tab) (hN : N ≤ 1073741824) :
  Calls Tryz.prog 103 #[.pointer (some ⟨g, 0, none⟩)] w (Mend Kd.string 9 base 1002 bkT 55 g 2 G turn deep seen N D) := by
 rcases ps with _ | ⟨p0, pr⟩
 ·refine (markTexts_nil L base g N w cs D h.B hD.waits).mono ?_
  rintro e w' ⟨rfl, rfl⟩
  exact ⟨rfl, L, cs, D, [], os, [], mq, dq, [], h, hD, fun _ _ _ => rfl⟩
 ·obtain ⟨ps, hps⟩ : ∃ z, z = p0 :: pr := ⟨_, rfl⟩; rw [← hps] at h hD
  have hpos : 0 < ps.length := by rw [hps]; simp
  clear hps
  obtain ⟨a2, c2, h2, q2, f2, _⟩ := h.rowB (i := 18) (by decide) (s := 24) rfl hD.waits (n := ps.length) (by simp) hpos
  obtain ⟨a3, c3, h3, q3, f3, _⟩ := h.rowB (i := 19) (by decide) (s := 25) rfl hD.note (n := ps.length) (by simp) hpos
  obtain ⟨a5, c5, h5, q5, f5, _⟩ := h.rowB (i := 21) (by decide) (s := 27) rfl hD.mark (n := ps.length) (by rw [nums_length]; exact hD.lm) hpos
  obtain ⟨a6, c6, h6, q6, f6, _⟩ := h.rowB (i := 22) (by decide) (s := 28) rfl hD.due (n := ps.length) (by rw [nums_length]; exact hD.ld) hpos
  have hjb : ps.length ≤ 1073741824 := by have := hD.le; omega
  have HFl : Fl Kd.string := fun _ _ _ _ h => h
  have H := am h; have HD := am hD; have HV2 := am h2; have HV3 := am h3; have HV5 := am h5; have HV6 := am h6; have HG := am hG; have HNN := am hN; have HFA := am HFl; have HTB := am hT; clear hT; clear h hD h2 h3 h5 h6 hG hN HFl
  go_enter Tryz.func103, Tryz.ntmps103
  have hne : ((ps.length : Int) == 0) = false := by rw [beq_eq_false_iff_ne]; omega
  go_wp2
  clear hne
  obtain ⟨L1, cs1, D1, n1, n2, n3⟩ := H.out.clear4 (k := 2) (by decide) HFA.out (bl_big (by decide)) HG.out HD.out HV2.out HV3.out HV5.out HV6.out
  rw [show slot (8 * 2 + 2) = 24 from rfl, show slot (8 * 2 + 3) = 25 from rfl, show slot (8 * 2 + 5) = 27 from rfl, show slot (8 * 2 + 6) = 28 from rfl] at n1
  have HGO := am (GO.stb (et := bkT) (k := 2) (base := base) (V2 := .slice (some ⟨a2, 0, none⟩) ps.length c2) (V3 := .slice (some ⟨a3, 0, none⟩) ps.length c3) (V5 := .slice (some ⟨a5, 0, none⟩) ps.length c5) (V6 := .slice (some ⟨a6, 0, none⟩) ps.length c6) (ps := ps) (mq := mq) (dq := dq) (t := 1002) (bl_big (by decide)) (by decide) HG.out)
  have HM := am (Mrel.start n1 n2 (by have := HD.out.le; simp only [List.length_nil] at this; omega) n3); clear n1 n2 n3 q2 q3 q5 q6 f2 f3 f5 f6
  have HLD := am (fun i hi => (H.out.B.row i hi).elim fun V hV => hV.2.1); have HLM := am (And.intro HD.out.lm HD.out.ld); clear H HD HV2 HV3 HV5 HV6
  obtain ⟨GG, hGG⟩ : ∃ z, z = GO bkT 2 base (.slice (some ⟨a2, 0, none⟩) ps.length c2) (.slice (some ⟨a3, 0, none⟩) ps.length c3) (.slice (some ⟨a5, 0, none⟩) ps.length c5) (.slice (some ⟨a6, 0, none⟩) ps.length c6) ps mq dq G := ⟨_, rfl⟩; rw [← hGG] at HM HGO; have HGG := am hGG; clear hGG
  go_loopw [6] (fun i wr => ∃ j : Nat, j ≤ ps.length ∧ i = .int .i64 j ∧ Aside0 (Mrel Kd.string 9 base 1002 bkT 55 g 2 GG turn deep seen N D ps j wr)) (fun i _ => ps.length - (intOf i).toNat)
  case atStart => exact ⟨0, Nat.zero_le _, rfl, HM⟩
  case round =>
   clear HM
   obtain ⟨j, hj, rfl, HM⟩ := hrel
   obtain ⟨w1, hwo⟩ : ∃ x, x = wr := ⟨_, rfl⟩; subst hwo
   by_cases hlt : j < ps.length
   ·obtain ⟨L1, cs1, D1, qs, os1, fs1, mq1, dq1, fr1, n1, n2, n3, n4⟩ := HM.out; clear HM
    obtain ⟨p, hp⟩ : ∃ p, ps[j]? = some p := ⟨_, List.getElem?_eq_getElem hlt⟩
    obtain ⟨m, hm⟩ : ∃ m, mq[j]? = some m := ⟨_, List.getElem?_eq_getElem (by have := HLM.out.1; omega)⟩
    obtain ⟨du, hdu⟩ : ∃ m, dq[j]? = some m := ⟨_, List.getElem?_eq_getElem (by have := HLM.out.2; omega)⟩
    obtain ⟨v, u⟩ := p
    have hk := n1.F.1; rw [drop_at hp] at hk; obtain ⟨_, ⟨xs, hxl, hls, hcp⟩, _⟩ := hk.take
    have ho := n1.F.2; rw [HGG.out] at ho; obtain ⟨_, o2, o3, o5, o6⟩ := ho
    obtain ⟨z2, _, _⟩ := o2.at_ (map_at _ hp); obtain ⟨z3, y3, x3⟩ := o3.at_ (map_at _ hp); obtain ⟨z5, _, _⟩ := o5.at_ (nums_at hm); obtain ⟨z6, y6, x6⟩ := o6.at_ (nums_at hdu)
    have ct := (n1.cell 2).trans n1.S.turn; have cb := (n1.cell 1).trans n1.S.bad; have cn := (n1.cell 0).trans n1.S.now
    obtain ⟨Al, cl, e_, hlc⟩ := hls.slice_; subst e_; obtain ⟨Au, cu, e_, hcu, hfu⟩ := hcp; subst e_
    have HP := am hp; have H1 := am n1; have HDS := am n2; have HBD := am n3; have HOT := am n4; have HLS := am hls; have HFU := am hfu; have HXL := am hxl; have HLC := am hlc; have HDU := am hdu; have HLN := am (fun i hi => (n1.B.row i hi).elim fun V hV => hV.2.1); have HSTB := am (FK.stb (te := 9) (base := base) (t := 1002) (ps := qs ++ ps.drop j) (os := os1) (fs := fs1) HFA.out (bl_big (by decide)) HGO.out)
    clear hp n1 n2 n3 n4 hls hfu hxl hlc hcu hk o2 o3 o5 o6 y3 y6 x3 x6 hm hdu
    by_cases hd : turn < du
    ·skip
     have hdb : decide (du > turn) = true := by simpa using hd
     go_wp2; go_quiet (fail)
     clear ct cb cn z2 z5 hdb hd
     skip
     have n0_ := H1.out.drewN HSTB.out nq; obtain ⟨w2, hw_⟩ : ∃ z, z = w1.drewN nq := ⟨_, rfl⟩; rw [← hw_] at n0_ ⊢; clear hw_ z3 z6; have H2 := am n0_; clear n0_
     obtain ⟨V2, hV2, hcv, hl2, ho2, _, hlb2⟩ := H2.out.row 18 (by decide) 24 rfl
     have HL2 := am hl2; have HO2 := am ho2; have HV2 := am hV2; have HB2 := am hlb2; clear hl2 ho2 hV2 hlb2
     go_upto_region 13 with (first | ((with_reducible refine gate_builtin (b := .append) (xs := #[.tmp 68, .tmp 70]) rfl ?_); at_builtin; (refine print_append_cells (w0 := w2) base rfl (.tmp 68) (.tmp 70) 31 22 (.slice none 0 0) 1 24 rfl Tryz.underlying31 infoo22 rfl (by decide) (by decide) V2 (D1 18).length (D1 18) [.slice Al xs.length cl] rfl rfl rfl ?a1 ?aO ?aB ?aS ?aL ?_; (case a1 => simp [Value.oneCell']); (case aO => exact HO2.out); (case aB => exact Below.refl _ _); (case aS => have q1_ := H2.out.B.ge; have q2_ := blk_lt H2.out.B.blk; omega); (case aL => have := HL2.out; have := HNN.out; omega); intro v1 wa ho hb hg hat; obtain ⟨A1, c1, he1⟩ := own_slice ho; subst he1; have BA := blk_a HO2.out H2.out.B.blk hg (by decide); have OV := am ho; have GV := am hg; have AV := am hat; clear ho hg hat hb hcv; have hfa : wa.frozen? ⟨g, 24, none⟩ = false := blk_frozen BA _; have hca : wa.cell? ⟨g, 24, none⟩ = some V2 := (blk_cell BA 24).trans HV2.out; clear BA)))
     have n0_ := H2.out.push HSTB.out (i := 18) (by decide) HV2.out GV.out OV.out AV.out; rw [show slot 18 = 24 from rfl] at n0_
     obtain ⟨w3, hw_⟩ : ∃ z, z = wa.setCell ⟨g, 24, none⟩ (.slice A1 ((D1 18).length + 1) c1) := ⟨_, rfl⟩; rw [← hw_] at n0_ ⊢; clear hw_
     generalize lab1 L1 w2.heap.size (400 + 18) = L3 at n0_; generalize cs1.setIfInBounds 24 (.slice A1 ((D1 18).length + 1) c1) = cs3 at n0_
     obtain ⟨D3, hD_⟩ : ∃ z, z = upd D1 18 (.slice Al xs.length cl) := ⟨_, rfl⟩; have n1_ := n0_.relD (D' := D3) hD_.symm; have HD3 := am hD_; have H3 := am n1_; clear n0_ n1_ hD_ OV GV AV HL2 HO2 HV2 HB2
     have ho := H3.out.F.2; rw [HGG.out] at ho; obtain ⟨_, _, o3, _, _⟩ := ho; obtain ⟨z3, y3, x3⟩ := o3.at_ (map_at _ HP.out); have ZC := am (And.intro y3 (And.intro x3 z3)); clear o3 z3 y3 x3
     obtain ⟨V3, hV3, hcv, hl3, ho3, _, hlb3⟩ := H3.out.row 19 (by decide) 25 rfl
     have HL3 := am hl3; have HO3 := am ho3; have HV3 := am hV3; have HB3 := am hlb3; clear hl3 ho3 hV3 hlb3
     clear hcv
     have HOV := am (own_move (w1 := w3.drew) HO3.out (fun k hk => rfl))
     refine wp_region_noPanic ?_
     refine wp_region_last_drew (S := fun W => W.heap[g]? = some (.cells cs3 55 (0, 0)) ∧ W.cell? ⟨a3, j, none⟩ = some (.slice Au xs.length cu)) (ds := [13]) (by kernel_rfl) ?hS0 (fun hHeld => ?_)
     case hS0 => exact ⟨H3.out.B.blk, ZC.out.2.2⟩
     refine tk 0 hHeld ?_
     try simp only [zp, zi, zz, zs]
     refine tk 1 hHeld ?_
     try simp only [zp, zi, zz, zs]
     refine tk 2 hHeld ?_
     try simp only [zp, zi, zz, zs]
     refine tk 3 hHeld ?_
     try simp only [zp, zi, zz, zs]
     refine tk 4 hHeld ?_ (hy := fun w_ hSw => by (try dsimp only at hSw); have G3__ := (blk_cell hSw.1 25).trans HV3.out; have G4__ := hSw.2; (try go_simp); (try with_reducible rfl))
     try simp only [zp, zi, zz, zs]
     refine tk 5 hHeld ?_
     try simp only [zp, zi, zz, zs]
     refine tk 6 hHeld ?_
     try simp only [zp, zi, zz, zs]
     refine tk 7 hHeld ?_
     try simp only [zp, zi, zz, zs]
     refine tk 8 hHeld ?_ (hy := fun w_ hSw => by (try dsimp only at hSw); have G3__ := (blk_cell hSw.1 25).trans HV3.out; have G4__ := hSw.2; (try go_simp); (try with_reducible rfl))
     try simp only [zp, zi, zz, zs]
     refine t1 9 (fun K hK => ?_)
     refine val_event (w1 := w3.drew.alloc (.cells #[.slice Au xs.length cu] 22)) (v := .slice (some ⟨w3.drew.heap.size, 0, none⟩) 1 1) (by rfl) ?hr10 ?_
     case hr10 => (first | (go_simp; done) | (go_simp; rfl))
     have hg4 := hHeld; have hSn := And.intro ((heap_alloc_old _ (.cells #[.slice Au xs.length cu] 22) (blk_lt hg4.1)).trans hg4.1) ((World.cell?_alloc_lt _ (.cells #[.slice Au xs.length cu] 22) _ (World.block_lt_of_cell? _ _ hg4.2)).trans hg4.2)
     refine hK.out _ _ hSn (fun hHeld2 => ?_)
     clear hK K hHeld hSn; have hHeld := hHeld2; clear hHeld2
     try simp only [zp, zi, zz, zs]
     refine t1 10 (fun K hK => ?_)
     refine step_append_cells (w0 := w3.drew) base (by rfl) (.tmp 78) (.tmp 83) 31 22 (.slice none 0 0) 1 24 rfl Tryz.underlying31 infoo22 rfl (by decide) (by decide) V3 (D3 19).length (D3 19) [.slice Au xs.length cu] rfl rfl rfl (by simp [Value.oneCell']) HOV.out (Below.refl _ _) (by have q1_ := H3.out.B.ge; have q2_ := blk_lt H3.out.B.blk; show base ≤ w3.heap.size; omega) (by have := HL3.out; have := HNN.out; omega) (fun v1 w5_ ho5 hb5 hg5 hat5 => ?_)
     obtain ⟨A1, c1, he1⟩ := own_slice ho5; subst he1
     have hg5_ := blk_a HOV.out hg4.1 hg5 (by decide)
     have hz5_ := hg5.cell hg4.2 (fun e => by have h1_ : L3 a3 = _ := HB3.out a3 e.symm; have h2_ := ZC.out.1; omega)
     have hSn := And.intro hg5_ hz5_
     refine hK.out _ _ hSn (fun hHeld2 => ?_)
     clear hK K hHeld hSn; have hHeld := hHeld2; clear hHeld2
     try simp only [zp, zi, zz, zs]
     refine tk 11 hHeld ?_
     try simp only [zp, zi, zz, zs]
     refine tk 12 hHeld ?_
     try simp only [zp, zi, zz, zs]
     refine t2 13 (fun K hK => ?_)
     refine raw_st (w1 := w5_.setCell ⟨g, 25, none⟩ (.slice A1 ((D3 19).length + 1) c1)) (by rfl) rfl ?hr14 ?_
     case hr14 => (have hca := (blk_cell hg5_ 25).trans HV3.out; have hfa := blk_frozen hg5_ 25; first | (go_simp; done) | (go_simp; rfl))
     refine hK.out _ _ ?_
     clear hK K
     try simp only [zp, zi, zz, zs]
     refine wpAnyLast_done (by kernel_rfl) ?_ _
     refine NoPanic.normal ?_
     have n0_ := (H3.out.drew HSTB.out).push HSTB.out (i := 19) (by decide) HV3.out hg5 ho5 hat5; rw [show slot 19 = 25 from rfl] at n0_
     obtain ⟨w4, hw_⟩ : ∃ z, z = w5_.setCell ⟨g, 25, none⟩ (.slice A1 ((D3 19).length + 1) c1) := ⟨_, rfl⟩; rw [← hw_] at n0_ ⊢; clear hw_
     generalize lab1 L3 w3.drew.heap.size (400 + 19) = L4 at n0_; generalize cs3.setIfInBounds 25 (.slice A1 ((D3 19).length + 1) c1) = cs4 at n0_
     obtain ⟨D4, hD_⟩ : ∃ z, z = upd D3 19 (.slice Au xs.length cu) := ⟨_, rfl⟩; have n1_ := n0_.relD (D' := D4) hD_.symm; have HD4 := am hD_; have H4 := am n1_; clear n0_ n1_ hD_ hg4 hg5_ hz5_ ho5 hb5 hg5 hat5 HOV HL3 HO3 HV3 HB3
     clear ZC
     obtain ⟨V4, hV4, hcv, hl4, ho4, _, hlb4⟩ := H4.out.row 21 (by decide) 27 rfl
     have HL4 := am hl4; have HO4 := am ho4; have HV4 := am hV4; have HB4 := am hlb4; clear hl4 ho4 hV4 hlb4
     go_upto_region 15 with (first | ((with_reducible refine gate_builtin (b := .append) (xs := #[.tmp 91, .tmp 93]) rfl ?_); at_builtin; (refine print_append_cells (w0 := w4) base rfl (.tmp 91) (.tmp 93) 29 3 (.int .i64 0) 1 8 rfl Tryz.underlying29 infoi rfl (by decide) (by decide) V4 (D4 21).length (D4 21) [.int .i64 m] rfl rfl rfl ?a1 ?aO ?aB ?aS ?aL ?_; (case a1 => simp [Value.oneCell']); (case aO => exact HO4.out); (case aB => exact Below.refl _ _); (case aS => have q1_ := H4.out.B.ge; have q2_ := blk_lt H4.out.B.blk; omega); (case aL => have := HL4.out; have := HNN.out; omega); intro v1 wa ho hb hg hat; obtain ⟨A1, c1, he1⟩ := own_slice ho; subst he1; have BA := blk_a HO4.out H4.out.B.blk hg (by decide); have OV := am ho; have GV := am hg; have AV := am hat; clear ho hg hat hb hcv; have hfa : wa.frozen? ⟨g, 27, none⟩ = false := blk_frozen BA _; have hca : wa.cell? ⟨g, 27, none⟩ = some V4 := (blk_cell BA 27).trans HV4.out; clear BA)))
     have n0_ := H4.out.push HSTB.out (i := 21) (by decide) HV4.out GV.out OV.out AV.out; rw [show slot 21 = 27 from rfl] at n0_
     obtain ⟨w5, hw_⟩ : ∃ z, z = wa.setCell ⟨g, 27, none⟩ (.slice A1 ((D4 21).length + 1) c1) := ⟨_, rfl⟩; rw [← hw_] at n0_ ⊢; clear hw_
     generalize lab1 L4 w4.heap.size (400 + 21) = L5 at n0_; generalize cs4.setIfInBounds 27 (.slice A1 ((D4 21).length + 1) c1) = cs5 at n0_
     obtain ⟨D5, hD_⟩ : ∃ z, z = upd D4 21 (.int .i64 m) := ⟨_, rfl⟩; have n1_ := n0_.relD (D' := D5) hD_.symm; have HD5 := am hD_; have H5 := am n1_; clear n0_ n1_ hD_ OV GV AV HL4 HO4 HV4 HB4
     have ho := H5.out.F.2; rw [HGG.out] at ho; obtain ⟨_, _, _, _, o6⟩ := ho; obtain ⟨z6, y6, x6⟩ := o6.at_ (nums_at HDU.out); have ZC := am (And.intro y6 (And.intro x6 z6)); clear o6 z6 y6 x6
     obtain ⟨V5, hV5, hcv, hl5, ho5, _, hlb5⟩ := H5.out.row 22 (by decide) 28 rfl
     have HL5 := am hl5; have HO5 := am ho5; have HV5 := am hV5; have HB5 := am hlb5; clear hl5 ho5 hV5 hlb5
     clear hcv
     have HOV := am (own_move (w1 := w5.drew) HO5.out (fun k hk => rfl))
     refine wp_region_noPanic ?_
     refine wp_region_last_drew (S := fun W => W.heap[g]? = some (.cells cs5 55 (0, 0)) ∧ W.cell? ⟨a6, j, none⟩ = some (.int .i64 du)) (ds := [13]) (by kernel_rfl) ?hS0 (fun hHeld => ?_)
     case hS0 => exact ⟨H5.out.B.blk, ZC.out.2.2⟩
     refine tk 0 hHeld ?_
     try simp only [zp, zi, zz, zs]
     refine tk 1 hHeld ?_
     try simp only [zp, zi, zz, zs]
     refine tk 2 hHeld ?_
     try simp only [zp, zi, zz, zs]
     refine tk 3 hHeld ?_
     try simp only [zp, zi, zz, zs]
     refine tk 4 hHeld ?_ (hy := fun w_ hSw => by (try dsimp only at hSw); have G3__ := (blk_cell hSw.1 28).trans HV5.out; have G4__ := hSw.2; (try go_simp); (try with_reducible rfl))
     try simp only [zp, zi, zz, zs]
     refine tk 5 hHeld ?_
     try simp only [zp, zi, zz, zs]
     refine tk 6 hHeld ?_
     try simp only [zp, zi, zz, zs]
     refine tk 7 hHeld ?_
     try simp only [zp, zi, zz, zs]
     refine tk 8 hHeld ?_ (hy := fun w_ hSw => by (try dsimp only at hSw); have G3__ := (blk_cell hSw.1 28).trans HV5.out; have G4__ := hSw.2; (try go_simp); (try with_reducible rfl))
     try simp only [zp, zi, zz, zs]
     refine t1 9 (fun K hK => ?_)
     refine val_event (w1 := w5.drew.alloc (.cells #[.int .i64 du] 3)) (v := .slice (some ⟨w5.drew.heap.size, 0, none⟩) 1 1) (by rfl) ?hr24 ?_
     case hr24 => (first | (go_simp; done) | (go_simp; rfl))
     have hg4 := hHeld; have hSn := And.intro ((heap_alloc_old _ (.cells #[.int .i64 du] 3) (blk_lt hg4.1)).trans hg4.1) ((World.cell?_alloc_lt _ (.cells #[.int .i64 du] 3) _ (World.block_lt_of_cell? _ _ hg4.2)).trans hg4.2)
     refine hK.out _ _ hSn (fun hHeld2 => ?_)
     clear hK K hHeld hSn; have hHeld := hHeld2; clear hHeld2
     try simp only [zp, zi, zz, zs]
     refine t1 10 (fun K hK => ?_)
     refine step_append_cells (w0 := w5.drew) base (by rfl) (.tmp 101) (.tmp 106) 29 3 (.int .i64 0) 1 8 rfl Tryz.underlying29 infoi rfl (by decide) (by decide) V5 (D5 22).length (D5 22) [.int .i64 du] rfl rfl rfl (by simp [Value.oneCell']) HOV.out (Below.refl _ _) (by have q1_ := H5.out.B.ge; have q2_ := blk_lt H5.out.B.blk; show base ≤ w5.heap.size; omega) (by have := HL5.out; have := HNN.out; omega) (fun v1 w5_ ho5 hb5 hg5 hat5 => ?_)
     obtain ⟨A1, c1, he1⟩ := own_slice ho5; subst he1
     have hg5_ := blk_a HOV.out hg4.1 hg5 (by decide)
     have hz5_ := hg5.cell hg4.2 (fun e => by have h1_ : L5 a6 = _ := HB5.out a6 e.symm; have h2_ := ZC.out.1; omega)
     have hSn := And.intro hg5_ hz5_
     refine hK.out _ _ hSn (fun hHeld2 => ?_)
     clear hK K hHeld hSn; have hHeld := hHeld2; clear hHeld2
     try simp only [zp, zi, zz, zs]
     refine tk 11 hHeld ?_
     try simp only [zp, zi, zz, zs]
     refine tk 12 hHeld ?_
     try simp only [zp, zi, zz, zs]
     refine t2 13 (fun K hK => ?_)
     refine raw_st (w1 := w5_.setCell ⟨g, 28, none⟩ (.slice A1 ((D5 22).length + 1) c1)) (by rfl) rfl ?hr28 ?_
     case hr28 => (have hca := (blk_cell hg5_ 28).trans HV5.out; have hfa := blk_frozen hg5_ 28; first | (go_simp; done) | (go_simp; rfl))
     refine hK.out _ _ ?_
     clear hK K
     try simp only [zp, zi, zz, zs]
     refine wpAnyLast_done (by kernel_rfl) ?_ _
     refine NoPanic.normal ?_
     have n0_ := (H5.out.drew HSTB.out).push HSTB.out (i := 22) (by decide) HV5.out hg5 ho5 hat5; rw [show slot 22 = 28 from rfl] at n0_
     obtain ⟨w6, hw_⟩ : ∃ z, z = w5_.setCell ⟨g, 28, none⟩ (.slice A1 ((D5 22).length + 1) c1) := ⟨_, rfl⟩; rw [← hw_] at n0_ ⊢; clear hw_
     generalize lab1 L5 w5.drew.heap.size (400 + 22) = L6 at n0_; generalize cs5.setIfInBounds 28 (.slice A1 ((D5 22).length + 1) c1) = cs6 at n0_
     obtain ⟨D6, hD_⟩ : ∃ z, z = upd D5 22 (.int .i64 du) := ⟨_, rfl⟩; have n1_ := n0_.relD (D' := D6) hD_.symm; have HD6 := am hD_; have H6 := am n1_; clear n0_ n1_ hD_ hg4 hg5_ hz5_ ho5 hb5 hg5 hat5 HOV HL5 HO5 HV5 HB5
     try go_wp2
     have n0_ := H6.out; rw [HD6.out, HD5.out, HD4.out, HD3.out] at n0_
     have HM := am (Mrel.wait HP.out HDS.out HBD.out HOT.out HLN.out n0_); clear n0_ ZC
     go_roundw
     case rel => exact ⟨j + 1, by omega, by go_num, HM⟩
     case measure => simp [intOf]; omega
    ·skip
     have hdb : decide (du > turn) = false := by simp; omega
     have cbf : w1.frozen? ⟨g, 1, none⟩ = false := blk_frozen H1.out.B.blk _
     have hk := H1.out.F.1; rw [drop_at HP.out] at hk; obtain ⟨kr, _, ka, kf, ko⟩ := hk.take
     have n0_ : Bst bkT 55 base g (fun L w => FK Kd.string 9 base 1002 GG (qs ++ ps.drop (j + 1)) os1 fs1 L w ∧ Ls Kd.string 9 base 1002 L w (.slice Al xs.length cl) xs) false turn deep seen L1 w1 N cs1 D1 := ⟨H1.out.B, H1.out.S, ⟨kr, H1.out.F.2⟩, HLS.out⟩
     clear HSTB; have HSTB : Aside0 (Stb Bl (fun L w => FK Kd.string 9 base 1002 GG (qs ++ ps.drop (j + 1)) os1 fs1 L w ∧ Ls Kd.string 9 base 1002 L w (.slice Al xs.length cl) xs)) := ⟨FKL.stb HFA.out (bl_big (by decide)) HGO.out⟩
     have HK := am (And.intro ka (And.intro kf ko)); clear H1; have H1 := am n0_; clear n0_ hk kr ka kf ko
     have C1 : Aside0 (Kd.C Kd.string w1 Al xs.length xs) := ⟨(ls_C HLS.out)⟩; have C2 : Aside0 (Kd.C Kd.string w1 Au xs.length xs) := ⟨HFU.out.now⟩
     go_wp2; go_quiet (fail)
     go_upto_region 17 with (first | (go_at_call 66; ((with_reducible refine (sameTexts_calls Al Au cl cu xs _ (Kd.C_below C1.out (pw_below_drewN (Below.refl _ _) nq)) (Kd.C_below C2.out (pw_below_drewN (Below.refl _ _) nq)) (by have := HXL.out; omega)).mono ?_); rintro e w2 ⟨rfl, hb⟩; have HBL := am hb; have cb2 := (hb.cell (p := ⟨g, 1, none⟩) (blk_lt H1.out.B.blk)).trans cb; have cbf2 := (hb.frozen (p := ⟨g, 1, none⟩) (blk_lt H1.out.B.blk)).trans cbf; clear hb)))
     have n0_ := (H1.out.drewN HSTB.out nq).new HSTB.out 0 HBL.out; have n1_ := n0_.scalar HSTB.out (s := 1) (.bool false) (scalar_slot (by decide)) (n0_.S.set_bad false)
     obtain ⟨w3, hw_⟩ : ∃ z, z = w2.setCell ⟨g, 1, none⟩ (.bool false) := ⟨_, rfl⟩; rw [← hw_] at n1_ ⊢; clear hw_
     have HW := am (⟨_, _, xs, rfl, n1_⟩ : Wrel Kd.string 9 base 1002 bkT 55 g GG (qs ++ ps.drop (j + 1)) os1 fs1 turn deep seen N D1 (.slice Al xs.length cl) xs.length w3)
     clear n0_ n1_ H1 HBL cb2 cbf2 cb cbf cn ct z2 z3 z5 z6 hdb hd C1 C2 HLS HFU HSTB; have hxb := HXL.out
     go_wp2
     go_loopw [9] (fun i wr => ∃ q : Nat, q ≤ xs.length ∧ i = .int .i64 q ∧ Aside0 (Wrel Kd.string 9 base 1002 bkT 55 g GG (qs ++ ps.drop (j + 1)) os1 fs1 turn deep seen N D1 (.slice Al xs.length cl) xs.length wr)) (fun i _ => xs.length - (intOf i).toNat)
     case atStart => exact ⟨0, Nat.zero_le _, rfl, HW⟩
     case round =>
      clear HW
      obtain ⟨q, hq, rfl, HW⟩ := hrel
      obtain ⟨w4, hwo⟩ : ∃ x, x = wr := ⟨_, rfl⟩; subst hwo
      obtain ⟨L4, cs4, ys, hyl, n0_⟩ := HW.out; have H4 := am n0_; have HYL := am hyl; clear HW n0_ hyl
      by_cases hlq : q < xs.length
      ·obtain ⟨bb, cur, e1, e2, e3, e4, _⟩ := ls_blk H4.out.F.2 hlq
       subst e1
       have EB := am e3; have EN := am e2; clear e2 e3
       have HSTB : Aside0 (Stb Bl (fun L w => FK Kd.string 9 base 1002 GG (qs ++ ps.drop (j + 1)) os1 fs1 L w ∧ Ls Kd.string 9 base 1002 L w (.slice (some ⟨bb, 0, none⟩) xs.length cl) ys)) := ⟨FKL.stb HFA.out (bl_big (by decide)) HGO.out⟩
       have hgg := H4.out.F.1.2; rw [HGG.out] at hgg; have TB := am (HTB.out _ _ hgg.1); clear hgg
       go_wp2_with (first | (go_at_call 160; ((with_reducible refine (itoa_any _ _ TB.out).mono ?_); rintro e w5 ⟨st, rfl, hb⟩; have n0_ := H4.out.new HSTB.out 0 hb; have H5 := am n0_; have EB5 := am (blk_below EB.out hb); clear hb n0_; obtain ⟨zv, hzv⟩ : ∃ z, cur[q]? = some z := ⟨_, Array.getElem?_eq_getElem (by rw [show (Kd.string).sz = 1 from rfl] at e4; omega)⟩; have zc := (blk_cell EB5.out q).trans hzv; have zf := blk_frozen EB5.out q; clear hzv)))
       go_roundw
       case rel => exact ⟨q + 1, by omega, by go_num, ⟨Wrel.set1 HFA.out (bl_big (by decide)) (by decide) HGO.out H5.out HK.out.1 HK.out.2.1 HK.out.2.2 HYL.out hlq rfl (fun _ => rfl)⟩⟩
       case measure => simp [intOf]; omega
      ·obtain rfl : q = xs.length := by omega
       have HSTB : Aside0 (Stb Bl (fun L w => FK Kd.string 9 base 1002 GG (qs ++ ps.drop (j + 1)) os1 fs1 L w ∧ Ls Kd.string 9 base 1002 L w (.slice Al xs.length cl) ys)) := ⟨FKL.stb HFA.out (bl_big (by decide)) HGO.out⟩
       obtain ⟨V4, hV4, hcv, hl4, ho4, _, hlb4⟩ := H4.out.row 16 (by decide) 22 rfl
       have HL4 := am hl4; have HO4 := am ho4; have HV4 := am hV4; have HB4 := am hlb4; clear hl4 ho4 hV4 hlb4
       go_upto_region 22 with (first | ((with_reducible refine gate_builtin (b := .append) (xs := #[.tmp 151, .tmp 153]) rfl ?_); at_builtin; (refine print_append_cells (w0 := w4) base rfl (.tmp 151) (.tmp 153) 31 22 (.slice none 0 0) 1 24 rfl Tryz.underlying31 infoo22 rfl (by decide) (by decide) V4 (D1 16).length (D1 16) [.slice Al xs.length cl] rfl rfl rfl ?a1 ?aO ?aB ?aS ?aL ?_; (case a1 => simp [Value.oneCell']); (case aO => exact HO4.out); (case aB => exact Below.refl _ _); (case aS => have q1_ := H4.out.B.ge; have q2_ := blk_lt H4.out.B.blk; omega); (case aL => have := HL4.out; have := HNN.out; omega); intro v1 wa ho hb hg hat; obtain ⟨A1, c1, he1⟩ := own_slice ho; subst he1; have BA := blk_a HO4.out H4.out.B.blk hg (by decide); have OV := am ho; have GV := am hg; have AV := am hat; clear ho hg hat hb hcv; have hfa : wa.frozen? ⟨g, 22, none⟩ = false := blk_frozen BA _; have hca : wa.cell? ⟨g, 22, none⟩ = some V4 := (blk_cell BA 22).trans HV4.out; clear BA)))
       have n0_ := H4.out.push HSTB.out (i := 16) (by decide) HV4.out GV.out OV.out AV.out; rw [show slot 16 = 22 from rfl] at n0_
       obtain ⟨w5, hw_⟩ : ∃ z, z = wa.setCell ⟨g, 22, none⟩ (.slice A1 ((D1 16).length + 1) c1) := ⟨_, rfl⟩; rw [← hw_] at n0_ ⊢; clear hw_
       generalize lab1 L4 w4.heap.size (400 + 16) = L5 at n0_; generalize cs4.setIfInBounds 22 (.slice A1 ((D1 16).length + 1) c1) = cs5 at n0_
       obtain ⟨D5, hD_⟩ : ∃ z, z = upd D1 16 (.slice Al xs.length cl) := ⟨_, rfl⟩; have n1_ := n0_.relD (D' := D5) hD_.symm; have HD5 := am hD_; have H5 := am n1_; clear n0_ n1_ hD_ OV GV AV HL4 HO4 HV4 HB4
       obtain ⟨V5, hV5, hcv, hl5, ho5, _, hlb5⟩ := H5.out.row 17 (by decide) 23 rfl
       have HL5 := am hl5; have HO5 := am ho5; have HV5 := am hV5; have HB5 := am hlb5; clear hl5 ho5 hV5 hlb5
       clear hcv
       refine wp_region_noPanic ?_
       refine wp_region_last_drew (S := fun W => W.heap[g]? = some (.cells cs5 55 (0, 0))) (ds := [12]) (by kernel_rfl) ?hS0 (fun hHeld => ?_)
       case hS0 => exact H5.out.B.blk
       refine tk 0 hHeld ?_
       try simp only [zp, zi, zz, zs]
       refine tk 1 hHeld ?_
       try simp only [zp, zi, zz, zs]
       refine tk 2 hHeld ?_
       try simp only [zp, zi, zz, zs]
       refine tk 3 hHeld ?_
       try simp only [zp, zi, zz, zs]
       refine tk 4 hHeld ?_ (hy := fun w_ hSw => by (try dsimp only at hSw); have G3__ := (blk_cell hSw 23).trans HV5.out; (try go_simp); (try with_reducible rfl))
       try simp only [zp, zi, zz, zs]
       refine tk 6 hHeld ?_
       try simp only [zp, zi, zz, zs]
       refine t1 5 (fun K hK => ?_)
       refine bs0_event (e := 9) (by rfl) ?hr35 (fun b0 hg0 w3_ hb0 hbl0 => ?_)
       case hr35 => (first | (go_simp; done) | (go_simp; rfl))
       have hSn := blk_below hHeld hbl0
       refine hK.out _ _ hSn (fun hHeld2 => ?_)
       clear hK K hHeld hSn; have hHeld := hHeld2; clear hHeld2
       try simp only [zp, zi, zz, zs]
       refine t1 7 (fun K hK => ?_)
       refine apn_event Kd.string (by rfl) w5.heap.size (.tmp 162) (.tmp 163) 22 rfl 9 (.string ⟨#[]⟩) 16 Tryz.underlying22 infoe9 rfl (by decide) (by decide) b0 rfl hb0 (by rw [hg0]; exact Nat.le_refl _) (fun _ _ _ _ h => h) Al (xs.length) cl rfl ys (Kd.C_below (w := w5.drew) (ls_Cn (H5.out.drew HSTB.out).F.2) hbl0) (by have := HXL.out; omega) (fun nv w4_ ho4 hbl4 => ?_)
       obtain ⟨An, cn, e_, hcn⟩ := ho4.slice_; subst e_
       have hB4 : Below w5.heap.size w5 w4_ := below_undrew (below_two hbl0 hbl4)
       have hg4 := blk_below hHeld hbl4; have hSn := hg4
       have hov4 := own_move HO5.out (fun k hk => hB4.block k (own_lt HO5.out k hk))
       refine hK.out _ _ hSn (fun hHeld2 => ?_)
       clear hK K hHeld hSn; have hHeld := hHeld2; clear hHeld2
       try simp only [zp, zi, zz, zs]
       refine t1 8 (fun K hK => ?_)
       refine val_event (w1 := w4_.alloc (.cells #[.slice An ys.length cn] 22)) (v := .slice (some ⟨w4_.heap.size, 0, none⟩) 1 1) (by rfl) ?hr37 ?_
       case hr37 => (first | (go_simp; done) | (go_simp; rfl))
       have hSn := (heap_alloc_old w4_ (.cells #[.slice An ys.length cn] 22) (blk_lt hg4)).trans hg4
       refine hK.out _ _ hSn (fun hHeld2 => ?_)
       clear hK K hHeld hSn; have hHeld := hHeld2; clear hHeld2
       try simp only [zp, zi, zz, zs]
       refine t1 9 (fun K hK => ?_)
       refine step_append_cells (w0 := w4_) base (by rfl) (.tmp 161) (.tmp 165) 31 22 (.slice none 0 0) 1 24 rfl Tryz.underlying31 infoo22 rfl (by decide) (by decide) V5 (D5 17).length (D5 17) [.slice An ys.length cn] rfl rfl rfl (by simp [Value.oneCell']) hov4 (Below.refl _ _) (by have q1_ := H5.out.B.ge; have q2_ := blk_lt hg4; omega) (by have := HL5.out; have := HNN.out; omega) (fun v1 w5_ ho5 hb5 hg5 hat5 => ?_)
       obtain ⟨A1, c1, he1⟩ := own_slice ho5; subst he1
       have hg5_ := blk_a hov4 hg4 hg5 (by decide); have hSn := hg5_
       refine hK.out _ _ hSn (fun hHeld2 => ?_)
       clear hK K hHeld hSn; have hHeld := hHeld2; clear hHeld2
       try simp only [zp, zi, zz, zs]
       refine tk 10 hHeld ?_
       try simp only [zp, zi, zz, zs]
       refine tk 11 hHeld ?_
       try simp only [zp, zi, zz, zs]
       refine t2 12 (fun K hK => ?_)
       refine raw_st (w1 := w5_.setCell ⟨g, 23, none⟩ (.slice A1 ((D5 17).length + 1) c1)) (by rfl) rfl ?hr41 ?_
       case hr41 => (have hca := (blk_cell hg5_ 23).trans HV5.out; have hfa := blk_frozen hg5_ 23; first | (go_simp; done) | (go_simp; rfl))
       refine hK.out _ _ ?_
       clear hK K
       try simp only [zp, zi, zz, zs]
       refine wpAnyLast_done (by kernel_rfl) ?_ _
       refine NoPanic.normal ?_
       obtain ⟨A_, c_, e_, hle_, hF_⟩ := firm_own (L := L5) ho4 (fun _ _ _ _ h => h)
       have h4_ := H5.out.new HSTB.out 0 hB4
       have h5_ := h4_.and (F2 := fun L w => Cpy Kd.string (.slice An ys.length cn) ys L w) ⟨A_, c_, e_, hle_, hF_⟩; have hst_ := HSTB.out.and (Cpy.stb (d := Kd.string) (u := .slice An ys.length cn) (xs := ys)); clear HSTB; have HSTB := am hst_; clear hst_
       have n0_ := h5_.push HSTB.out (i := 17) (by decide) HV5.out hg5 ho5 hat5; rw [show slot 17 = 23 from rfl] at n0_
       obtain ⟨w6, hw_⟩ : ∃ z, z = w5_.setCell ⟨g, 23, none⟩ (.slice A1 ((D5 17).length + 1) c1) := ⟨_, rfl⟩; rw [← hw_] at n0_ ⊢; clear hw_
       generalize lab1 (lab1 L5 w5.heap.size 0) w4_.heap.size (400 + 17) = L6 at n0_; generalize cs5.setIfInBounds 23 (.slice A1 ((D5 17).length + 1) c1) = cs6 at n0_
       obtain ⟨D6, hD_⟩ : ∃ z, z = upd D5 17 (.slice An ys.length cn) := ⟨_, rfl⟩; have n1_ := n0_.relD (D' := D6) hD_.symm; have HD6 := am hD_; have H6 := am n1_; clear n0_ n1_ hD_ h4_ h5_ hF_ hle_ hcn hg4 hg5_ hov4 hB4 ho4 hbl4 hb0 hbl0 hg0 ho5 hb5 hg5 hat5 HL5 HO5 HV5 HB5
       obtain ⟨V6, hV6, hcv, hl6, ho6, _, hlb6⟩ := H6.out.row 20 (by decide) 26 rfl
       have HL6 := am hl6; have HO6 := am ho6; have HV6 := am hV6; have HB6 := am hlb6; clear hl6 ho6 hV6 hlb6
       go_upto_region 24 with (first | ((with_reducible refine gate_builtin (b := .append) (xs := #[.tmp 173, .tmp 175]) rfl ?_); at_builtin; (refine print_append_cells (w0 := w6) base rfl (.tmp 173) (.tmp 175) 31 22 (.slice none 0 0) 1 24 rfl Tryz.underlying31 infoo22 rfl (by decide) (by decide) V6 (D6 20).length (D6 20) [.slice Al xs.length cl] rfl rfl rfl ?a1 ?aO ?aB ?aS ?aL ?_; (case a1 => simp [Value.oneCell']); (case aO => exact HO6.out); (case aB => exact Below.refl _ _); (case aS => have q1_ := H6.out.B.ge; have q2_ := blk_lt H6.out.B.blk; omega); (case aL => have := HL6.out; have := HNN.out; omega); intro v1 wa ho hb hg hat; obtain ⟨A1, c1, he1⟩ := own_slice ho; subst he1; have BA := blk_a HO6.out H6.out.B.blk hg (by decide); have OV := am ho; have GV := am hg; have AV := am hat; clear ho hg hat hb hcv; have hfa : wa.frozen? ⟨g, 26, none⟩ = false := blk_frozen BA _; have hca : wa.cell? ⟨g, 26, none⟩ = some V6 := (blk_cell BA 26).trans HV6.out; clear BA)))
       have n0_ := H6.out.push HSTB.out (i := 20) (by decide) HV6.out GV.out OV.out AV.out; rw [show slot 20 = 26 from rfl] at n0_
       obtain ⟨w7, hw_⟩ : ∃ z, z = wa.setCell ⟨g, 26, none⟩ (.slice A1 ((D6 20).length + 1) c1) := ⟨_, rfl⟩; rw [← hw_] at n0_ ⊢; clear hw_
       generalize lab1 L6 w6.heap.size (400 + 20) = L7 at n0_; generalize cs6.setIfInBounds 26 (.slice A1 ((D6 20).length + 1) c1) = cs7 at n0_
       obtain ⟨D7, hD_⟩ : ∃ z, z = upd D6 20 (.slice Al xs.length cl) := ⟨_, rfl⟩; have n1_ := n0_.relD (D' := D7) hD_.symm; have HD7 := am hD_; have H7 := am n1_; clear n0_ n1_ hD_ OV GV AV HL6 HO6 HV6 HB6
       obtain ⟨V7, hV7, hcv, hl7, ho7, _, hlb7⟩ := H7.out.row 23 (by decide) 29 rfl
       have HL7 := am hl7; have HO7 := am ho7; have HV7 := am hV7; have HB7 := am hlb7; clear hl7 ho7 hV7 hlb7
       go_wp2_with (first | ((with_reducible refine gate_builtin (b := .append) (xs := #[.tmp 183, .tmp 185]) rfl ?_); at_builtin; (refine print_append_cells (w0 := w7) base rfl (.tmp 183) (.tmp 185) 29 3 (.int .i64 0) 1 8 rfl Tryz.underlying29 infoi rfl (by decide) (by decide) V7 (D7 23).length (D7 23) [.int .i64 m] rfl rfl rfl ?a1 ?aO ?aB ?aS ?aL ?_; (case a1 => simp [Value.oneCell']); (case aO => exact HO7.out); (case aB => exact Below.refl _ _); (case aS => have q1_ := H7.out.B.ge; have q2_ := blk_lt H7.out.B.blk; omega); (case aL => have := HL7.out; have := HNN.out; omega); intro v1 wa ho hb hg hat; obtain ⟨A1, c1, he1⟩ := own_slice ho; subst he1; have BA := blk_a HO7.out H7.out.B.blk hg (by decide); have OV := am ho; have GV := am hg; have AV := am hat; clear ho hg hat hb hcv; have hfa : wa.frozen? ⟨g, 29, none⟩ = false := blk_frozen BA _; have hca : wa.cell? ⟨g, 29, none⟩ = some V7 := (blk_cell BA 29).trans HV7.out; clear BA)))
       have n0_ := H7.out.push HSTB.out (i := 23) (by decide) HV7.out GV.out OV.out AV.out; rw [show slot 23 = 29 from rfl] at n0_
       obtain ⟨w8, hw_⟩ : ∃ z, z = wa.setCell ⟨g, 29, none⟩ (.slice A1 ((D7 23).length + 1) c1) := ⟨_, rfl⟩; rw [← hw_] at n0_ ⊢; clear hw_
       generalize lab1 L7 w7.heap.size (400 + 23) = L8 at n0_; generalize cs7.setIfInBounds 29 (.slice A1 ((D7 23).length + 1) c1) = cs8 at n0_
       obtain ⟨D8, hD_⟩ : ∃ z, z = upd D7 23 (.int .i64 m) := ⟨_, rfl⟩; have n1_ := n0_.relD (D' := D8) hD_.symm; have HD8 := am hD_; have H8 := am n1_; clear n0_ n1_ hD_ OV GV AV HL7 HO7 HV7 HB7
       have n0_ := H8.out; rw [HD8.out, HD7.out, HD6.out, HD5.out] at n0_
       have HM := am (Mrel.put HP.out HDS.out HBD.out HOT.out HLN.out (by rw [HYL.out]; exact HXL.out) HK.out.1 HK.out.2.1 HK.out.2.2 n0_); clear n0_
       go_roundw
       case rel => exact ⟨j + 1, by omega, by go_num, HM⟩
       case measure => simp [intOf]; omega
   ·obtain rfl : j = ps.length := by omega
    go_wp2
    first | go_end0 | ((try simp only [Exit.inBlock, Exit.then]); refine bodyPost_ret (results_none rfl _ _ _) rfl ?_)
    have hm := HM.out; rw [HGG.out] at hm; exact hm.end_
end Go.Proofs.YtfomjbbebgajcaaGreatDoor.Rm
