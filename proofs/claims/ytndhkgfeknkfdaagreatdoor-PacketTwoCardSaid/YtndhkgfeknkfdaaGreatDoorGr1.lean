/- crierkept.Book: grow.. of a kind that is used. -/
import Derived.Test.YtndhkgfeknkfdaaGreatDoorGr0
import Derived.Test.YtndhkgfeknkfdaaGreatDoorMk1
namespace Go.Proofs.YtndhkgfeknkfdaaGreatDoor.Rm
open Go.RowKit Go.Proofs.YtndhkgfeknkfdaaGreatDoorW.PrintWords Go.Proofs.YtndhkgfeknkfdaaGreatDoorW.PrintLast Go.Proofs.YtndhkgfeknkfdaaGreatDoorW.PrintMore Go.Proofs.YtndhkgfeknkfdaaGreatDoor.MPacketChecks
open Go.Act renaming put → zp
open List renaming setIfInBounds_toArray → zi, set_cons_zero → zz, set_cons_succ → zs
open Go.Proofs.YtndhkgfeknkfdaaGreatDoorW.PrintWords.Aside0 renaming mk → am
set_option linter.unusedVariables false
set_option linter.unusedSimpArgs false
set_option maxHeartbeats 4000000
set_option maxRecDepth 100000

theorem growTexts_calls (L : Nat → Nat) (base g N : Nat) (w : World) (cs : Array Value) (D : Nat → List Value) {G : (Nat → Nat) → World → Prop} {turn deep : Int} {seen : Nat → Int} {ps os : List (Value × Value)} {fs : List Value} {mq dq fr : List Int} (h : Bst bkT 62 base g (FK Kd.string 9 base 1002 G ps os fs) false turn deep seen L w N cs D) (hD : Dsh 2 N D ps os fs mq dq fr) (hG : Stb (Yt 1002) G) (hT : ∀ L w, G L w → Lib.TabIs Tryz.prog w "internal/strconv.uint64pow10" .u64 Lib.pow10Tab) (hN : N ≤ 536870912) :
  Calls Tryz.prog 179 #[.pointer (some ⟨g, 0, none⟩)] w (Gend Kd.string 9 base 1002 bkT 62 g 2 G turn deep seen N D ps mq dq) := by
 have HFl : Fl Kd.string := fun _ _ _ _ h => h
 have hfb : fs.length ≤ 536870912 := by have := hD.le; omega
 have HM := am (Grel.start h hD); have HLD := am (fun i hi => (h.B.row i hi).elim fun V hV => hV.2.1); have HG := am hG; have HNN := am hN; have HFA := am HFl; have HTB := am hT; clear hT; clear h hD hG hN HFl
 go_enter Tryz.func179, Tryz.ntmps179
 go_wp2
 go_loopw [2] (fun i wr => ∃ j : Nat, j ≤ fs.length ∧ i = .int .i64 j ∧ Aside0 (Grel Kd.string 9 base 1002 bkT 62 g 2 G turn deep seen N D ps fs mq dq fr j wr)) (fun i _ => fs.length - (intOf i).toNat)
 case atStart => exact ⟨0, Nat.zero_le _, rfl, HM⟩
 case round =>
  clear HM
  obtain ⟨j, hj, rfl, HM⟩ := hrel
  obtain ⟨w1, hwo⟩ : ∃ x, x = wr := ⟨_, rfl⟩; subst hwo
  by_cases hlt : j < fs.length
  ·obtain ⟨L1, cs1, D1, os1, n1, n2, n3, n4⟩ := HM.out; clear HM
   obtain ⟨v, hp⟩ : ∃ p, fs[j]? = some p := ⟨_, List.getElem?_eq_getElem hlt⟩
   obtain ⟨m, hm⟩ : ∃ m, fr[j]? = some m := ⟨_, List.getElem?_eq_getElem (by have := n2.lf; omega)⟩
   obtain ⟨a4, c4, _, q4, _, z4⟩ := n1.rowB (i := 20) (by decide) (s := 26) rfl n2.fresh (n := fs.length) rfl (by omega); obtain ⟨a7, c7, _, q7, _, z7⟩ := n1.rowB (i := 23) (by decide) (s := 29) rfl n2.from_ (n := fs.length) (by rw [nums_length]; exact n2.lf) (by omega)
   have y4 := z4 j _ hp; have y7 := z7 j _ (nums_at hm); clear z4 z7 hm
   have hk := n1.F.1; rw [drop_at hp] at hk; obtain ⟨kr, ⟨xs, hxl, hls⟩, hcu⟩ := hk.takef
   have hx_ : Xrel Kd.string 9 base 1002 bkT 62 g G ps os1 (fs.drop (j + 1)) turn deep seen (2 * N) D1 0 v xs.length w1 := ⟨L1, cs1, xs, rfl, by omega, hcu, n1.B, n1.S, ⟨kr, n1.F.2⟩, hls⟩
   obtain ⟨Al, cl, e_, hlc⟩ := hls.slice_; subst e_
   have HX := am hx_; have HP := am hp; have HDS := am n2; have HBD := am n3; have HOT := am n4; have HLN := am (fun i hi => (n1.B.row i hi).elim fun V hV => hV.2.1); clear hp n1 n2 n3 n4 hk kr hcu hls hx_ hxl hlc
   go_wp2
   clear q4 q7 y4 y7
   go_loopw [4, 5] (fun v4 v5 wr => ∃ (i : Nat) (Ax : Option Addr) (n cx : Nat), i ≤ 30 ∧ v5 = .int .i64 i ∧ v4 = .slice Ax n cx ∧ Aside0 (Xrel Kd.string 9 base 1002 bkT 62 g G ps os1 (fs.drop (j + 1)) turn deep seen (2 * N) D1 i (.slice Ax n cx) n wr)) (fun _ v5 _ => 30 - (intOf v5).toNat)
   case atStart => exact ⟨0, _, _, _, Nat.zero_le _, rfl, rfl, HX⟩
   case round =>
    clear HX
    obtain ⟨i, Ax, n, cx, hi, rfl, rfl, HX⟩ := hrel
    obtain ⟨w2, hwo⟩ : ∃ x, x = wr := ⟨_, rfl⟩; subst hwo
    obtain ⟨L2, cs2, ys, hyl, hyb, hcu, n0_⟩ := HX.out; have H2 := am n0_; have HYL := am hyl; have HYB := am hyb; have HCU := am hcu; clear HX n0_ hyl hyb hcu
    have HSTB : Aside0 (Stb Bl (fun L w => FK Kd.string 9 base 1002 G ps os1 (fs.drop (j + 1)) L w ∧ Ls Kd.string 9 base 1002 L w (.slice Ax n cx) ys)) := ⟨FKL.stb HFA.out (bl_big (by decide)) HG.out⟩
    by_cases hlq : i < 30
    ·skip
     have TB := am (HTB.out _ _ H2.out.F.1.2)
     go_wp2_with (first | (go_at_call 209; ((with_reducible refine (itoa_any _ _ TB.out).mono ?_); rintro e w3 ⟨st, rfl, hb⟩; have n0_ := H2.out.new HSTB.out 0 hb; obtain ⟨L3, hL3⟩ : ∃ z, z = lab1 L2 w2.heap.size 0 := ⟨_, rfl⟩; rw [← hL3] at n0_; have H3 := am n0_; clear hb n0_ hL3)) | ((with_reducible refine gate_builtin (b := .append) (xs := #[.tmp 33, .tmp 40]) rfl ?_); at_builtin; (refine wpList_append_ls (W := w3) (xs := ys) rfl (.tmp 33) (.tmp 40) 27 rfl HFA.out rfl rfl H3.out.F.2 (.string ⟨#[]⟩) 16 Tryz.underlying27 infoe9 rfl (by decide) (by decide) st [.string st] rfl (by have q1_ := H3.out.B.ge; have q2_ := blk_lt H3.out.B.blk; omega) (by have h1_ := HYL.out; have h2_ := HYB.out; omega) ?_; intro g1 w4 hl_ hg_; obtain ⟨A1, c1, e_, _⟩ := hl_.slice_; subst e_; have e2_ : ∀ z, (ys ++ [z]).length = n + 1 := (fun z => by rw [List.length_append, HYL.out]; rfl); rw [e2_] at hl_ hg_ ⊢; clear e2_; have n0_ := Xrel.app HFA.out (bl_big (by decide)) (by decide) HG.out H3.out HCU.out HYL.out HYB.out hl_ hg_; have HX := am n0_; clear n0_ hl_ hg_)))
     go_roundw
     case rel => exact ⟨i + 1, A1, n + 1, c1, by omega, by go_num, rfl, HX⟩
     case measure => simp [intOf]; omega
    ·obtain rfl : i = 30 := by omega
     obtain ⟨V2, hV2, hcv, hl2, ho2, _, hlb2⟩ := H2.out.row 16 (by decide) 22 rfl
     have HL2 := am hl2; have HO2 := am ho2; have HV2 := am hV2; have HB2 := am hlb2; clear hl2 ho2 hV2 hlb2
     go_upto_region 10 with (first | ((with_reducible refine gate_builtin (b := .append) (xs := #[.tmp 46, .tmp 48]) rfl ?_); at_builtin; (refine print_append_cells (w0 := w2) base rfl (.tmp 46) (.tmp 48) 34 27 (.slice none 0 0) 1 24 rfl Tryz.underlying34 infoo27 rfl (by decide) (by decide) V2 (D1 16).length (D1 16) [.slice Ax n cx] rfl rfl rfl ?a1 ?aO ?aB ?aS ?aL ?_; (case a1 => simp [Value.oneCell']); (case aO => exact HO2.out); (case aB => exact Below.refl _ _); (case aS => have q1_ := H2.out.B.ge; have q2_ := blk_lt H2.out.B.blk; omega); (case aL => have := HL2.out; have := HNN.out; omega); intro v1 wa ho hb hg hat; obtain ⟨A1, c1, he1⟩ := own_slice ho; subst he1; have BA := blk_a HO2.out H2.out.B.blk hg (by decide); have OV := am ho; have GV := am hg; have AV := am hat; clear ho hg hat hb hcv; have hfa : wa.frozen? ⟨g, 22, none⟩ = false := blk_frozen BA _; have hca : wa.cell? ⟨g, 22, none⟩ = some V2 := (blk_cell BA 22).trans HV2.out; clear BA)))
     have n0_ := H2.out.push HSTB.out (i := 16) (by decide) HV2.out GV.out OV.out AV.out; rw [show slot 16 = 22 from rfl] at n0_
     obtain ⟨w3, hw_⟩ : ∃ z, z = wa.setCell ⟨g, 22, none⟩ (.slice A1 ((D1 16).length + 1) c1) := ⟨_, rfl⟩; rw [← hw_] at n0_ ⊢; clear hw_
     generalize lab1 L2 w2.heap.size (400 + 16) = L3 at n0_; generalize cs2.setIfInBounds 22 (.slice A1 ((D1 16).length + 1) c1) = cs3 at n0_
     obtain ⟨D3, hD_⟩ : ∃ z, z = upd D1 16 (.slice Ax n cx) := ⟨_, rfl⟩; have n1_ := n0_.relD (D' := D3) hD_.symm; have HD3 := am hD_; have H3 := am n1_; clear n0_ n1_ hD_ OV GV AV HL2 HO2 HV2 HB2
     obtain ⟨V3, hV3, hcv, hl3, ho3, _, hlb3⟩ := H3.out.row 17 (by decide) 23 rfl
     have HL3 := am hl3; have HO3 := am ho3; have HV3 := am hV3; have HB3 := am hlb3; clear hl3 ho3 hV3 hlb3
     clear hcv
     refine wp_region_noPanic ?_
     refine wp_region_last_drew (S := fun W => W.heap[g]? = some (.cells cs3 62 (0, 0))) (ds := [12]) (by kernel_rfl) ?hS0 (fun hHeld => ?_)
     case hS0 => exact H3.out.B.blk
     refine tk 0 hHeld ?_
     try simp only [zp, zi, zz, zs]
     refine tk 1 hHeld ?_
     try simp only [zp, zi, zz, zs]
     refine tk 2 hHeld ?_
     try simp only [zp, zi, zz, zs]
     refine tk 3 hHeld ?_
     try simp only [zp, zi, zz, zs]
     refine tk 4 hHeld ?_ (hy := fun w_ hSw => by (try dsimp only at hSw); have G3__ := (blk_cell hSw 23).trans HV3.out; (try go_simp); (try with_reducible rfl))
     try simp only [zp, zi, zz, zs]
     refine tk 6 hHeld ?_
     try simp only [zp, zi, zz, zs]
     refine t1 5 (fun K hK => ?_)
     refine bs0_event (e := 9) (by rfl) ?hr7 (fun b0 hg0 w3_ hb0 hbl0 => ?_)
     case hr7 => (first | (go_simp; done) | (go_simp; rfl))
     have hSn := blk_below hHeld hbl0
     refine hK.out _ _ hSn (fun hHeld2 => ?_)
     clear hK K hHeld hSn; have hHeld := hHeld2; clear hHeld2
     try simp only [zp, zi, zz, zs]
     refine t1 7 (fun K hK => ?_)
     refine apn_event Kd.string (by rfl) w3.heap.size (.tmp 57) (.tmp 58) 27 rfl 9 (.string ⟨#[]⟩) 16 Tryz.underlying27 infoe9 rfl (by decide) (by decide) b0 rfl hb0 (by rw [hg0]; exact Nat.le_refl _) (fun _ _ _ _ h => h) Ax (n) cx rfl ys (Kd.C_below (w := w3.drew) (ls_Cn (H3.out.drew HSTB.out).F.2) hbl0) (by have h1_ := HYB.out; omega) (fun nv w4_ ho4 hbl4 => ?_)
     obtain ⟨An, cn, e_, hcn⟩ := ho4.slice_; subst e_
     have hB4 : Below w3.heap.size w3 w4_ := below_undrew (below_two hbl0 hbl4)
     have hg4 := blk_below hHeld hbl4; have hSn := hg4
     have hov4 := own_move HO3.out (fun k hk => hB4.block k (own_lt HO3.out k hk))
     refine hK.out _ _ hSn (fun hHeld2 => ?_)
     clear hK K hHeld hSn; have hHeld := hHeld2; clear hHeld2
     try simp only [zp, zi, zz, zs]
     refine t1 8 (fun K hK => ?_)
     refine val_event (w1 := w4_.alloc (.cells #[.slice An ys.length cn] 27)) (v := .slice (some ⟨w4_.heap.size, 0, none⟩) 1 1) (by rfl) ?hr9 ?_
     case hr9 => (first | (go_simp; done) | (go_simp; rfl))
     have hSn := (heap_alloc_old w4_ (.cells #[.slice An ys.length cn] 27) (blk_lt hg4)).trans hg4
     refine hK.out _ _ hSn (fun hHeld2 => ?_)
     clear hK K hHeld hSn; have hHeld := hHeld2; clear hHeld2
     try simp only [zp, zi, zz, zs]
     refine t1 9 (fun K hK => ?_)
     refine step_append_cells (w0 := w4_) base (by rfl) (.tmp 56) (.tmp 60) 34 27 (.slice none 0 0) 1 24 rfl Tryz.underlying34 infoo27 rfl (by decide) (by decide) V3 (D3 17).length (D3 17) [.slice An ys.length cn] rfl rfl rfl (by simp [Value.oneCell']) hov4 (Below.refl _ _) (by have q1_ := H3.out.B.ge; have q2_ := blk_lt hg4; omega) (by have := HL3.out; have := HNN.out; omega) (fun v1 w5_ ho5 hb5 hg5 hat5 => ?_)
     obtain ⟨A1, c1, he1⟩ := own_slice ho5; subst he1
     have hg5_ := blk_a hov4 hg4 hg5 (by decide); have hSn := hg5_
     refine hK.out _ _ hSn (fun hHeld2 => ?_)
     clear hK K hHeld hSn; have hHeld := hHeld2; clear hHeld2
     try simp only [zp, zi, zz, zs]
     refine tk 10 hHeld ?_
     try simp only [zp, zi, zz, zs]
     refine tk 11 hHeld ?_
     try simp only [zp, zi, zz, zs]
     refine t2 12 (fun K hK => ?_)
     refine raw_st (w1 := w5_.setCell ⟨g, 23, none⟩ (.slice A1 ((D3 17).length + 1) c1)) (by rfl) rfl ?hr13 ?_
     case hr13 => (have hca := (blk_cell hg5_ 23).trans HV3.out; have hfa := blk_frozen hg5_ 23; first | (go_simp; done) | (go_simp; rfl))
     refine hK.out _ _ ?_
     clear hK K
     try simp only [zp, zi, zz, zs]
     refine wpAnyLast_done (by kernel_rfl) ?_ _
     refine NoPanic.normal ?_
     obtain ⟨A_, c_, e_, hle_, hF_⟩ := firm_own (L := L3) ho4 (fun _ _ _ _ h => h)
     have h4_ := H3.out.new HSTB.out 0 hB4
     have h5_ := h4_.and (F2 := fun L w => Cpy Kd.string (.slice An ys.length cn) ys L w) ⟨A_, c_, e_, hle_, hF_⟩; have hst_ := HSTB.out.and (Cpy.stb (d := Kd.string) (u := .slice An ys.length cn) (xs := ys)); clear HSTB; have HSTB := am hst_; clear hst_
     have n0_ := h5_.push HSTB.out (i := 17) (by decide) HV3.out hg5 ho5 hat5; rw [show slot 17 = 23 from rfl] at n0_
     obtain ⟨w4, hw_⟩ : ∃ z, z = w5_.setCell ⟨g, 23, none⟩ (.slice A1 ((D3 17).length + 1) c1) := ⟨_, rfl⟩; rw [← hw_] at n0_ ⊢; clear hw_
     generalize lab1 (lab1 L3 w3.heap.size 0) w4_.heap.size (400 + 17) = L4 at n0_; generalize cs3.setIfInBounds 23 (.slice A1 ((D3 17).length + 1) c1) = cs4 at n0_
     obtain ⟨D4, hD_⟩ : ∃ z, z = upd D3 17 (.slice An ys.length cn) := ⟨_, rfl⟩; have n1_ := n0_.relD (D' := D4) hD_.symm; have HD4 := am hD_; have H4 := am n1_; clear n0_ n1_ hD_ h4_ h5_ hF_ hle_ hcn hg4 hg5_ hov4 hB4 ho4 hbl4 hb0 hbl0 hg0 ho5 hb5 hg5 hat5 HL3 HO3 HV3 HB3
     try go_wp2
     have n0_ := H4.out; rw [HD4.out, HD3.out] at n0_
     have HM := am (Grel.put HP.out HDS.out HBD.out HOT.out HLN.out (by have h1_ := HYL.out; have h2_ := HYB.out; omega) HCU.out n0_); clear n0_
     go_roundw
     case rel => exact ⟨j + 1, by omega, by go_num, HM⟩
     case measure => simp [intOf]; omega
  ·obtain rfl : j = fs.length := by omega
   obtain ⟨L1, cs1, D1, os1, n1, n2, n3, n4⟩ := HM.out
   obtain ⟨A4, c4, _, q4, f4⟩ := n1.rowN (i := 20) (by decide) (s := 26) rfl n2.fresh (n := fs.length) rfl; obtain ⟨A7, c7, _, q7, f7⟩ := n1.rowN (i := 23) (by decide) (s := 29) rfl n2.from_ (n := fs.length) (by rw [nums_length]; exact n2.lf)
   clear n1 n2 n3 n4
   go_wp2
   first | go_end0 | ((try simp only [Exit.inBlock, Exit.then]); refine bodyPost_ret (results_none rfl _ _ _) rfl ?_)
   exact HM.out.end_ (by decide) HFA.out (bl_big (by decide)) HG.out HLD.out
theorem growAsks_calls (L : Nat → Nat) (base g N : Nat) (w : World) (cs : Array Value) (D : Nat → List Value) {G : (Nat → Nat) → World → Prop} {turn deep : Int} {seen : Nat → Int} {ps os : List (Value × Value)} {fs : List Value} {mq dq fr : List Int} (h : Bst bkT 62 base g (FK k82 82 base 1004 G ps os fs) false turn deep seen L w N cs D) (hD : Dsh 4 N D ps os fs mq dq fr) (hG : Stb (Yt 1004) G) (hT : ∀ L w, G L w → Lib.TabIs Tryz.prog w "internal/strconv.uint64pow10" .u64 Lib.pow10Tab) (hN : N ≤ 536870912) :
  Calls Tryz.prog 181 #[.pointer (some ⟨g, 0, none⟩)] w (Gend k82 82 base 1004 bkT 62 g 4 G turn deep seen N D ps mq dq) := by
 have HFl : Fl k82 := fun _ _ _ _ h => h
 have hfb : fs.length ≤ 536870912 := by have := hD.le; omega
 have HM := am (Grel.start h hD); have HLD := am (fun i hi => (h.B.row i hi).elim fun V hV => hV.2.1); have HG := am hG; have HNN := am hN; have HFA := am HFl; have HTB := am hT; clear hT; clear h hD hG hN HFl
 go_enter Tryz.func181, Tryz.ntmps181
 go_wp2
 go_loopw [2] (fun i wr => ∃ j : Nat, j ≤ fs.length ∧ i = .int .i64 j ∧ Aside0 (Grel k82 82 base 1004 bkT 62 g 4 G turn deep seen N D ps fs mq dq fr j wr)) (fun i _ => fs.length - (intOf i).toNat)
 case atStart => exact ⟨0, Nat.zero_le _, rfl, HM⟩
 case round =>
  clear HM
  obtain ⟨j, hj, rfl, HM⟩ := hrel
  obtain ⟨w1, hwo⟩ : ∃ x, x = wr := ⟨_, rfl⟩; subst hwo
  by_cases hlt : j < fs.length
  ·obtain ⟨L1, cs1, D1, os1, n1, n2, n3, n4⟩ := HM.out; clear HM
   obtain ⟨v, hp⟩ : ∃ p, fs[j]? = some p := ⟨_, List.getElem?_eq_getElem hlt⟩
   obtain ⟨m, hm⟩ : ∃ m, fr[j]? = some m := ⟨_, List.getElem?_eq_getElem (by have := n2.lf; omega)⟩
   obtain ⟨a4, c4, _, q4, _, z4⟩ := n1.rowB (i := 36) (by decide) (s := 44) rfl n2.fresh (n := fs.length) rfl (by omega); obtain ⟨a7, c7, _, q7, _, z7⟩ := n1.rowB (i := 39) (by decide) (s := 47) rfl n2.from_ (n := fs.length) (by rw [nums_length]; exact n2.lf) (by omega)
   have y4 := z4 j _ hp; have y7 := z7 j _ (nums_at hm); clear z4 z7 hm
   have hk := n1.F.1; rw [drop_at hp] at hk; obtain ⟨kr, ⟨xs, hxl, hls⟩, hcu⟩ := hk.takef
   have hx_ : Xrel k82 82 base 1004 bkT 62 g G ps os1 (fs.drop (j + 1)) turn deep seen (2 * N) D1 0 v xs.length w1 := ⟨L1, cs1, xs, rfl, by omega, hcu, n1.B, n1.S, ⟨kr, n1.F.2⟩, hls⟩
   obtain ⟨Al, cl, e_, hlc⟩ := hls.slice_; subst e_
   have HX := am hx_; have HP := am hp; have HDS := am n2; have HBD := am n3; have HOT := am n4; have HLN := am (fun i hi => (n1.B.row i hi).elim fun V hV => hV.2.1); clear hp n1 n2 n3 n4 hk kr hcu hls hx_ hxl hlc
   go_wp2
   clear q4 q7 y4 y7
   go_loopw [4, 5] (fun v4 v5 wr => ∃ (i : Nat) (Ax : Option Addr) (n cx : Nat), i ≤ 30 ∧ v5 = .int .i64 i ∧ v4 = .slice Ax n cx ∧ Aside0 (Xrel k82 82 base 1004 bkT 62 g G ps os1 (fs.drop (j + 1)) turn deep seen (2 * N) D1 i (.slice Ax n cx) n wr)) (fun _ v5 _ => 30 - (intOf v5).toNat)
   case atStart => exact ⟨0, _, _, _, Nat.zero_le _, rfl, rfl, HX⟩
   case round =>
    clear HX
    obtain ⟨i, Ax, n, cx, hi, rfl, rfl, HX⟩ := hrel
    obtain ⟨w2, hwo⟩ : ∃ x, x = wr := ⟨_, rfl⟩; subst hwo
    obtain ⟨L2, cs2, ys, hyl, hyb, hcu, n0_⟩ := HX.out; have H2 := am n0_; have HYL := am hyl; have HYB := am hyb; have HCU := am hcu; clear HX n0_ hyl hyb hcu
    have HSTB : Aside0 (Stb Bl (fun L w => FK k82 82 base 1004 G ps os1 (fs.drop (j + 1)) L w ∧ Ls k82 82 base 1004 L w (.slice Ax n cx) ys)) := ⟨FKL.stb HFA.out (bl_big (by decide)) HG.out⟩
    by_cases hlq : i < 30
    ·skip
     have TB := am (HTB.out _ _ H2.out.F.1.2)
     go_wp2_with (first | (go_at_call 209; ((with_reducible refine (itoa_any _ _ TB.out).mono ?_); rintro e w3 ⟨st, rfl, hb⟩; have n0_ := H2.out.new HSTB.out 0 hb; obtain ⟨L3, hL3⟩ : ∃ z, z = lab1 L2 w2.heap.size 0 := ⟨_, rfl⟩; rw [← hL3] at n0_; have H3 := am n0_; clear hb n0_ hL3)) | ((with_reducible refine gate_builtin (b := .append) (xs := #[.tmp 33, .tmp 41]) rfl ?_); at_builtin; (refine wpList_append_ls (W := w3) (xs := ys) rfl (.tmp 33) (.tmp 41) 25 rfl HFA.out rfl rfl H3.out.F.2 (.agg #[(.string ⟨#[]⟩), (.int .i64 0)]) 24 Tryz.underlying25 infoe82 rfl (by decide) (by decide) ⟨st, 0⟩ [.string st, .int .i64 0] (k82_mk _ ⟨st, 0⟩) (by have q1_ := H3.out.B.ge; have q2_ := blk_lt H3.out.B.blk; omega) (by have h1_ := HYL.out; have h2_ := HYB.out; omega) ?_; intro g1 w4 hl_ hg_; obtain ⟨A1, c1, e_, _⟩ := hl_.slice_; subst e_; have e2_ : ∀ z, (ys ++ [z]).length = n + 1 := (fun z => by rw [List.length_append, HYL.out]; rfl); rw [e2_] at hl_ hg_ ⊢; clear e2_; have n0_ := Xrel.app HFA.out (bl_big (by decide)) (by decide) HG.out H3.out HCU.out HYL.out HYB.out hl_ hg_; have HX := am n0_; clear n0_ hl_ hg_)))
     go_roundw
     case rel => exact ⟨i + 1, A1, n + 1, c1, by omega, by go_num, rfl, HX⟩
     case measure => simp [intOf]; omega
    ·obtain rfl : i = 30 := by omega
     obtain ⟨V2, hV2, hcv, hl2, ho2, _, hlb2⟩ := H2.out.row 32 (by decide) 40 rfl
     have HL2 := am hl2; have HO2 := am ho2; have HV2 := am hV2; have HB2 := am hlb2; clear hl2 ho2 hV2 hlb2
     go_upto_region 10 with (first | ((with_reducible refine gate_builtin (b := .append) (xs := #[.tmp 47, .tmp 49]) rfl ?_); at_builtin; (refine print_append_cells (w0 := w2) base rfl (.tmp 47) (.tmp 49) 35 25 (.slice none 0 0) 1 24 rfl Tryz.underlying35 infoo25 rfl (by decide) (by decide) V2 (D1 32).length (D1 32) [.slice Ax n cx] rfl rfl rfl ?a1 ?aO ?aB ?aS ?aL ?_; (case a1 => simp [Value.oneCell']); (case aO => exact HO2.out); (case aB => exact Below.refl _ _); (case aS => have q1_ := H2.out.B.ge; have q2_ := blk_lt H2.out.B.blk; omega); (case aL => have := HL2.out; have := HNN.out; omega); intro v1 wa ho hb hg hat; obtain ⟨A1, c1, he1⟩ := own_slice ho; subst he1; have BA := blk_a HO2.out H2.out.B.blk hg (by decide); have OV := am ho; have GV := am hg; have AV := am hat; clear ho hg hat hb hcv; have hfa : wa.frozen? ⟨g, 40, none⟩ = false := blk_frozen BA _; have hca : wa.cell? ⟨g, 40, none⟩ = some V2 := (blk_cell BA 40).trans HV2.out; clear BA)))
     have n0_ := H2.out.push HSTB.out (i := 32) (by decide) HV2.out GV.out OV.out AV.out; rw [show slot 32 = 40 from rfl] at n0_
     obtain ⟨w3, hw_⟩ : ∃ z, z = wa.setCell ⟨g, 40, none⟩ (.slice A1 ((D1 32).length + 1) c1) := ⟨_, rfl⟩; rw [← hw_] at n0_ ⊢; clear hw_
     generalize lab1 L2 w2.heap.size (400 + 32) = L3 at n0_; generalize cs2.setIfInBounds 40 (.slice A1 ((D1 32).length + 1) c1) = cs3 at n0_
     obtain ⟨D3, hD_⟩ : ∃ z, z = upd D1 32 (.slice Ax n cx) := ⟨_, rfl⟩; have n1_ := n0_.relD (D' := D3) hD_.symm; have HD3 := am hD_; have H3 := am n1_; clear n0_ n1_ hD_ OV GV AV HL2 HO2 HV2 HB2
     obtain ⟨V3, hV3, hcv, hl3, ho3, _, hlb3⟩ := H3.out.row 33 (by decide) 41 rfl
     have HL3 := am hl3; have HO3 := am ho3; have HV3 := am hV3; have HB3 := am hlb3; clear hl3 ho3 hV3 hlb3
     clear hcv
     refine wp_region_noPanic ?_
     refine wp_region_last_drew (S := fun W => W.heap[g]? = some (.cells cs3 62 (0, 0))) (ds := [12]) (by kernel_rfl) ?hS0 (fun hHeld => ?_)
     case hS0 => exact H3.out.B.blk
     refine tk 0 hHeld ?_
     try simp only [zp, zi, zz, zs]
     refine tk 1 hHeld ?_
     try simp only [zp, zi, zz, zs]
     refine tk 2 hHeld ?_
     try simp only [zp, zi, zz, zs]
     refine tk 3 hHeld ?_
     try simp only [zp, zi, zz, zs]
     refine tk 4 hHeld ?_ (hy := fun w_ hSw => by (try dsimp only at hSw); have G3__ := (blk_cell hSw 41).trans HV3.out; (try go_simp); (try with_reducible rfl))
     try simp only [zp, zi, zz, zs]
     refine tk 6 hHeld ?_
     try simp only [zp, zi, zz, zs]
     refine t1 5 (fun K hK => ?_)
     refine bs0_event (e := 82) (by rfl) ?hr20 (fun b0 hg0 w3_ hb0 hbl0 => ?_)
     case hr20 => (first | (go_simp; done) | (go_simp; rfl))
     have hSn := blk_below hHeld hbl0
     refine hK.out _ _ hSn (fun hHeld2 => ?_)
     clear hK K hHeld hSn; have hHeld := hHeld2; clear hHeld2
     try simp only [zp, zi, zz, zs]
     refine t1 7 (fun K hK => ?_)
     refine apn_event k82 (by rfl) w3.heap.size (.tmp 58) (.tmp 59) 25 rfl 82 (.agg #[(.string ⟨#[]⟩), (.int .i64 0)]) 24 Tryz.underlying25 infoe82 rfl (by decide) (by decide) b0 rfl hb0 (by rw [hg0]; exact Nat.le_refl _) (fun _ _ _ _ h => h) Ax (n) cx rfl ys (Kd.C_below (w := w3.drew) (ls_Cn (H3.out.drew HSTB.out).F.2) hbl0) (by have h1_ := HYB.out; omega) (fun nv w4_ ho4 hbl4 => ?_)
     obtain ⟨An, cn, e_, hcn⟩ := ho4.slice_; subst e_
     have hB4 : Below w3.heap.size w3 w4_ := below_undrew (below_two hbl0 hbl4)
     have hg4 := blk_below hHeld hbl4; have hSn := hg4
     have hov4 := own_move HO3.out (fun k hk => hB4.block k (own_lt HO3.out k hk))
     refine hK.out _ _ hSn (fun hHeld2 => ?_)
     clear hK K hHeld hSn; have hHeld := hHeld2; clear hHeld2
     try simp only [zp, zi, zz, zs]
     refine t1 8 (fun K hK => ?_)
     refine val_event (w1 := w4_.alloc (.cells #[.slice An ys.length cn] 25)) (v := .slice (some ⟨w4_.heap.size, 0, none⟩) 1 1) (by rfl) ?hr22 ?_
     case hr22 => (first | (go_simp; done) | (go_simp; rfl))
     have hSn := (heap_alloc_old w4_ (.cells #[.slice An ys.length cn] 25) (blk_lt hg4)).trans hg4
     refine hK.out _ _ hSn (fun hHeld2 => ?_)
     clear hK K hHeld hSn; have hHeld := hHeld2; clear hHeld2
     try simp only [zp, zi, zz, zs]
     refine t1 9 (fun K hK => ?_)
     refine step_append_cells (w0 := w4_) base (by rfl) (.tmp 57) (.tmp 61) 35 25 (.slice none 0 0) 1 24 rfl Tryz.underlying35 infoo25 rfl (by decide) (by decide) V3 (D3 33).length (D3 33) [.slice An ys.length cn] rfl rfl rfl (by simp [Value.oneCell']) hov4 (Below.refl _ _) (by have q1_ := H3.out.B.ge; have q2_ := blk_lt hg4; omega) (by have := HL3.out; have := HNN.out; omega) (fun v1 w5_ ho5 hb5 hg5 hat5 => ?_)
     obtain ⟨A1, c1, he1⟩ := own_slice ho5; subst he1
     have hg5_ := blk_a hov4 hg4 hg5 (by decide); have hSn := hg5_
     refine hK.out _ _ hSn (fun hHeld2 => ?_)
     clear hK K hHeld hSn; have hHeld := hHeld2; clear hHeld2
     try simp only [zp, zi, zz, zs]
     refine tk 10 hHeld ?_
     try simp only [zp, zi, zz, zs]
     refine tk 11 hHeld ?_
     try simp only [zp, zi, zz, zs]
     refine t2 12 (fun K hK => ?_)
     refine raw_st (w1 := w5_.setCell ⟨g, 41, none⟩ (.slice A1 ((D3 33).length + 1) c1)) (by rfl) rfl ?hr26 ?_
     case hr26 => (have hca := (blk_cell hg5_ 41).trans HV3.out; have hfa := blk_frozen hg5_ 41; first | (go_simp; done) | (go_simp; rfl))
     refine hK.out _ _ ?_
     clear hK K
     try simp only [zp, zi, zz, zs]
     refine wpAnyLast_done (by kernel_rfl) ?_ _
     refine NoPanic.normal ?_
     obtain ⟨A_, c_, e_, hle_, hF_⟩ := firm_own (L := L3) ho4 (fun _ _ _ _ h => h)
     have h4_ := H3.out.new HSTB.out 0 hB4
     have h5_ := h4_.and (F2 := fun L w => Cpy k82 (.slice An ys.length cn) ys L w) ⟨A_, c_, e_, hle_, hF_⟩; have hst_ := HSTB.out.and (Cpy.stb (d := k82) (u := .slice An ys.length cn) (xs := ys)); clear HSTB; have HSTB := am hst_; clear hst_
     have n0_ := h5_.push HSTB.out (i := 33) (by decide) HV3.out hg5 ho5 hat5; rw [show slot 33 = 41 from rfl] at n0_
     obtain ⟨w4, hw_⟩ : ∃ z, z = w5_.setCell ⟨g, 41, none⟩ (.slice A1 ((D3 33).length + 1) c1) := ⟨_, rfl⟩; rw [← hw_] at n0_ ⊢; clear hw_
     generalize lab1 (lab1 L3 w3.heap.size 0) w4_.heap.size (400 + 33) = L4 at n0_; generalize cs3.setIfInBounds 41 (.slice A1 ((D3 33).length + 1) c1) = cs4 at n0_
     obtain ⟨D4, hD_⟩ : ∃ z, z = upd D3 33 (.slice An ys.length cn) := ⟨_, rfl⟩; have n1_ := n0_.relD (D' := D4) hD_.symm; have HD4 := am hD_; have H4 := am n1_; clear n0_ n1_ hD_ h4_ h5_ hF_ hle_ hcn hg4 hg5_ hov4 hB4 ho4 hbl4 hb0 hbl0 hg0 ho5 hb5 hg5 hat5 HL3 HO3 HV3 HB3
     try go_wp2
     have n0_ := H4.out; rw [HD4.out, HD3.out] at n0_
     have HM := am (Grel.put HP.out HDS.out HBD.out HOT.out HLN.out (by have h1_ := HYL.out; have h2_ := HYB.out; omega) HCU.out n0_); clear n0_
     go_roundw
     case rel => exact ⟨j + 1, by omega, by go_num, HM⟩
     case measure => simp [intOf]; omega
  ·obtain rfl : j = fs.length := by omega
   obtain ⟨L1, cs1, D1, os1, n1, n2, n3, n4⟩ := HM.out
   obtain ⟨A4, c4, _, q4, f4⟩ := n1.rowN (i := 36) (by decide) (s := 44) rfl n2.fresh (n := fs.length) rfl; obtain ⟨A7, c7, _, q7, f7⟩ := n1.rowN (i := 39) (by decide) (s := 47) rfl n2.from_ (n := fs.length) (by rw [nums_length]; exact n2.lf)
   clear n1 n2 n3 n4
   go_wp2
   first | go_end0 | ((try simp only [Exit.inBlock, Exit.then]); refine bodyPost_ret (results_none rfl _ _ _) rfl ?_)
   exact HM.out.end_ (by decide) HFA.out (bl_big (by decide)) HG.out HLD.out
end Go.Proofs.YtndhkgfeknkfdaaGreatDoor.Rm
