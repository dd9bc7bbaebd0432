/- crierkept.Book: due; a list that is noted. -/
import Derived.Test.YtfomjbbebgajcaaGreatDoorBw
namespace Go.Proofs.YtfomjbbebgajcaaGreatDoor.Rm
open Go.RowKit Go.Proofs.YtfomjbbebgajcaaGreatDoorW.PrintWords Go.Proofs.YtfomjbbebgajcaaGreatDoorW.PrintLast Go.Proofs.YtfomjbbebgajcaaGreatDoorW.PrintMore Go.Proofs.YtfomjbbebgajcaaGreatDoor.MCoverLeast
open Go.Act renaming put → zp
open List renaming setIfInBounds_toArray → zi, set_cons_zero → zz, set_cons_succ → zs
open Go.Proofs.YtfomjbbebgajcaaGreatDoorW.PrintWords.Aside0 renaming mk → am
set_option linter.unusedVariables false
set_option linter.unusedSimpArgs false
set_option maxHeartbeats 4000000
set_option maxRecDepth 100000
def dueV (turn n : Int) : Int := if n % 3 = 0 then turn else if n % 3 = 1 then turn + 1 + n / 3 % 8 else turn + 1
theorem w64_ {n : Int} (h0 : -9223372036854775808 ≤ n) (h1 : n ≤ 9223372036854775807) : wrap64 n = n := by unfold wrap64; omega

section
variable {P : Program} {ops : Array Oper} {o : Oper} {a : Act} {w : World} {K : Act → World → Prop} {Q : Exit → Act → World → Prop} {E : Prop}
theorem bs0_event {e : TypeId} (hw : Region.wanted o (yielded ops a.tmps) = true) (hrun : (execOp a.eval o).run P w = .ok (.value (.slice (some ⟨w.heap.size, 0, none⟩) 0 0)) (w.alloc (.cells #[] e (0, 0))))
  (h : ∀ b, b = w.heap.size → ∀ w1, w1.heap[b]? = some (.cells #[] e (0, 0)) → Below w.heap.size w w1 → K (a.put o.dst (.slice (some ⟨b, 0, none⟩) 0 0)) w1) : if Region.wanted o (yielded ops a.tmps) = true then Oper.wp P o a w K Q else E := by
 rw [if_pos hw]
 unfold Oper.wp
 rw [hrun]
 exact h _ rfl _ (blk_new w _) (below_alloc (Below.refl _ _) _)
theorem apn_event {α : Type} (d : Kd α) (hw : Region.wanted o (yielded ops a.tmps) = true) (base : Nat) (s x : Operand) (t : TypeId) (hop : o.op = Op.call { callee := Callee.builtin Builtin.append, args := #[s, x], argTypes := #[t, t] }) (e : TypeId) (z : Value) (bytes : Nat) (ht : P.underlying t = some (.slice e)) (hinfo : (P.info? e).map (fun i => (i.zero, i.size, i.bytes)) = some (some z, d.sz, bytes))
  (hz : z.cells.size = d.sz) (hs0 : 0 < d.sz) (hb0 : 0 < bytes) (b : Nat) (hs : a.eval s = .slice (some ⟨b, 0, none⟩) 0 0) (hb : w.heap[b]? = some (.cells #[] e (0, 0))) (hbase : base ≤ b) (hKW : ∀ (W1 W2 : World) x cs, d.K W1 x cs → d.K W2 x cs) (A : Option Addr) (m c : Nat) (hx : a.eval x = .slice A m c) (ys : List α) (HY : d.C w A m ys) (hl : m * bytes ≤ 140737488355328)
  (h : ∀ v1 w1, OwnRow (d.K w1) e d.sz w1 base v1 ys → Below w.heap.size w w1 → K (a.put o.dst v1) w1) : if Region.wanted o (yielded ops a.tmps) = true then Oper.wp P o a w K Q else E := by
 rw [if_pos hw]
 obtain ⟨v1, w1, hrun, hb1, ho, _⟩ := run_append_new (P := P) d base t o.type e z bytes ht hinfo hz hs0 hb0 b hb hbase hKW A m c ys HY hl
 unfold Oper.wp
 simp [execOp, hop, resolve, invoke, builtin, hs, hx, hrun, Result.andThen]
 exact h v1 w1 ho hb1
theorem raw_st {w1 : World} (hw : Region.wanted o (yielded ops a.tmps) = true) (hN : o.dst = none) (hrun : (execOp a.eval o).run P w = .ok .skip w1) (h : K a w1) : if Region.wanted o (yielded ops a.tmps) = true then Oper.wp P o a w K Q else E := by
 rw [if_pos hw]
 unfold Oper.wp
 rw [hrun]
 show K (a.put o.dst undef) _
 rw [hN]
 exact h
end
theorem not_bl0 : ¬ Bl 0 := fun h => absurd h.1 (by decide)
theorem below_undrew {w W : World} (h : Below w.drew.heap.size w.drew W) : Below w.heap.size w W := ⟨h.os, h.tape, h.output, h.size, h.block⟩
theorem below_two {w w1 w2 : World} (h1 : Below w.heap.size w w1) (h2 : Below w1.heap.size w1 w2) : Below w.heap.size w w2 := below_step h1 h2
theorem due_calls (L : Nat → Nat) (base g N : Nat) (w : World) (cs : Array Value) (D : Nat → List Value) (h : BookAt L base w g N cs D) {bad : Bool} {turn deep : Int} {seen : Nat → Int} (hs : Sc cs false bad turn deep seen) (n : Int) (h0 : 0 ≤ n) (hn : n ≤ 1073741824) (ht0 : 0 ≤ turn) (ht : turn ≤ 1073741824) : Calls Tryz.prog 18 #[.pointer (some ⟨g, 0, none⟩), .int .i64 n] w fun e w' => e = .returned (.int .i64 (dueV turn n)) ∧ w' = w := by
 have c0 : w.cell? ⟨g, 0, none⟩ = some (.bool false) := (blk_cell h.blk 0).trans hs.now
 have c2 : w.cell? ⟨g, 2, none⟩ = some (.int .i64 turn) := (blk_cell h.blk 2).trans hs.turn
 have e1 : Int.tmod n 3 = n % 3 := Int.tmod_eq_emod_of_nonneg h0
 have e2 : Int.tdiv n 3 = n / 3 := Int.tdiv_eq_ediv_of_nonneg h0
 have e3 : Int.tmod (n / 3) 8 = n / 3 % 8 := Int.tmod_eq_emod_of_nonneg (by omega)
 have H0 := am h0; have HN := am hn; have T0 := am ht0; have T1 := am ht
 clear h hs h0 hn ht0 ht
 by_cases k0 : n % 3 = 0
 ·go_enter Tryz.func18, Tryz.ntmps18
  go_wp2
  go_ret
  exact ⟨by unfold dueV; rw [if_pos k0]; rfl, rfl⟩
 ·by_cases k1 : n % 3 = 1
  ·go_enter Tryz.func18, Tryz.ntmps18
   go_wp2
   all_goals (go_ret; have a1 := H0.out; have a2 := HN.out; have a3 := T0.out; have a4 := T1.out; exact ⟨by unfold dueV; rw [if_neg k0, if_pos k1]; show Ending.returned (.int .i64 (wrap64 (wrap64 (turn + 1) + Int.tmod (wrap64 (n / 3)) 8))) = _; rw [w64_ (n := n / 3) (by omega) (by omega), e3, w64_ (n := turn + 1) (by omega) (by omega), w64_ (by omega) (by omega)], rfl⟩)
  ·go_enter Tryz.func18, Tryz.ntmps18
   go_wp2
   all_goals (go_ret; have a1 := H0.out; have a2 := HN.out; have a3 := T0.out; have a4 := T1.out; exact ⟨by unfold dueV; rw [if_neg k0, if_neg k1]; show Ending.returned (.int .i64 (wrap64 (turn + 1))) = _; rw [w64_ (by omega) (by omega)], rfl⟩)
theorem addTexts_via {post : World → Prop} (L : Nat → Nat) (base g N : Nat) (w : World) (cs : Array Value) (D : Nat → List Value) (h : BookAt L base w g N cs D) {bad : Bool} {turn deep : Int} {seen : Nat → Int} (hs : Sc cs false bad turn deep seen) (A : Option Addr) (c : Nat) (l : List ByteArray) (mk : Int) (hd0 : 0 ≤ deep) (hd1 : deep ≤ 1000) (ht0 : 0 ≤ turn) (ht1 : turn ≤ 1073741824) (hn0 : 0 ≤ seen 2) (hn1 : seen 2 ≤ 1073741824) (hN : N ≤ 1073741824) (hl : ∀ L' W', Only Bl L w L' W' → Kd.C Kd.string W' A l.length l) (hc : l.length ≤ c) (hlb : l.length ≤ 536870912) (hdone : ∀ L' w' cs' nv, BookAt L' base w' g (N + 4) cs' (fun j => if j = 18 then D j ++ [.slice A l.length c] else if j = 19 then D j ++ [nv] else if j = 21 then D j ++ [.int .i64 mk] else if j = 22 then D j ++ [.int .i64 (dueV turn (seen 2))] else D j) → Sc cs' false bad turn (deep + 1) (fun q => if q = 2 then seen 2 + 1 else seen q) → Only Bl L w L' w' → Same3 w w' → Cpy Kd.string nv l L' w' → Calls Tryz.prog 19 #[.pointer (some ⟨g, 0, none⟩)] w' fun e w'' => e = .returned (.tuple #[]) ∧ post w'') :
  Calls Tryz.prog 11 #[.pointer (some ⟨g, 0, none⟩), .slice A l.length c, .int .i64 mk] w fun e w' => e = .returned (.tuple #[]) ∧ post w' := by
 have HDN := am hdone; clear hdone
 have HB := am h; have HSc := am hs; have HLc := am hl; have HC := am hc; have HLB := am hlb; have HNN := am hN; have HT0 := am ht0; have HT1 := am ht1; have HN0 := am hn0; have HN1 := am hn1; have HDP := am (And.intro hd0 hd1)
 have c3 : w.cell? ⟨g, 3, none⟩ = some (.int .i64 deep) := (blk_cell h.blk 3).trans hs.deep; have f3 := blk_frozen h.blk 3
 clear h hs hl hc hlb hN ht0 ht1 hn0 hn1
 go_enter Tryz.func11, Tryz.ntmps11
 go_upto_region 1 with (fail)
 obtain ⟨b1, o1⟩ := HB.out.scalar (s := 3) (.int .i64 (deep + 1)) (scalar_slot (by decide)); have sc1 := HSc.out.set_deep (deep + 1); clear c3 f3 hd0 hd1
 obtain ⟨w1, hw1⟩ : ∃ z, z = w.setCell ⟨g, 3, none⟩ (.int .i64 (deep + 1)) := ⟨_, rfl⟩; rw [← hw1] at b1 o1 ⊢
 have s1 : Same3 w w1 := by rw [hw1]; exact ⟨rfl, rfl, rfl⟩
 generalize cs.setIfInBounds 3 (.int .i64 (deep + 1)) = cs1 at b1 sc1; obtain ⟨D1, hD1_⟩ : ∃ z, z = D := ⟨_, rfl⟩; rw [← hD1_] at b1; have HD1 := am hD1_; obtain ⟨L1, hL1_⟩ : ∃ z, z = L := ⟨_, rfl⟩; rw [show Bok bkT 55 L = Bok bkT 55 L1 by rw [hL1_]] at b1; have o1' : Only Bl L w L1 w1 := by rw [hL1_]; exact o1
 have B1 := am b1; have O1 := am o1'; have S1 := am sc1; have TS1 := am s1; clear HB HSc b1 o1 o1' sc1 s1 hw1 hD1_ hL1_
 obtain ⟨V1, hV1, hl1, ho1, _⟩ := B1.out.row 18 (by decide)
 rw [show slot 18 = 24 from rfl] at hV1
 have hcv : w1.cell? ⟨g, 24, none⟩ = some V1 := (blk_cell B1.out.blk 24).trans hV1
 have HL1 := am hl1; have HO1 := am ho1; have HV1 := am hV1; clear hl1 ho1 hV1
 go_upto_region 2 with (first | ((with_reducible refine gate_builtin (b := .append) (xs := #[.tmp 17, .tmp 19]) rfl ?_); at_builtin; (refine print_append_cells (w0 := w1) base rfl (.tmp 17) (.tmp 19) 31 22 (.slice none 0 0) 1 24 rfl Tryz.underlying31 infoo22 rfl (by decide) (by decide) V1 (D1 18).length (D1 18) [.slice A l.length c] rfl rfl rfl ?a1 ?aO ?aB ?aS ?aL ?_; (case a1 => simp [Value.oneCell']); (case aO => exact HO1.out); (case aB => exact Below.refl _ _); (case aS => have q1_ := B1.out.ge; have q2_ := blk_lt B1.out.blk; omega); (case aL => have := HL1.out; have := HNN.out; omega); intro v1 wa ho hb hg hat; obtain ⟨A1, c1, he1⟩ := own_slice ho; subst he1; have BA := blk_a HO1.out B1.out.blk hg (by decide); have OV := am ho; have GV := am hg; have AV := am hat; clear ho hg hat hb hcv; have hfa : wa.frozen? ⟨g, 24, none⟩ = false := blk_frozen BA _; have hca : wa.cell? ⟨g, 24, none⟩ = some V1 := (blk_cell BA 24).trans HV1.out; clear BA)))
 obtain ⟨n0_, n1_⟩ := B1.out.push (i := 18) (by decide) HV1.out GV.out OV.out AV.out; have n2_ := S1.out.row 18 (.slice A1 ((D1 18).length + 1) c1) (by decide)
 rw [show slot 18 = 24 from rfl] at n0_ n1_ n2_
 obtain ⟨w2, hw_⟩ : ∃ z, z = wa.setCell ⟨g, 24, none⟩ (.slice A1 ((D1 18).length + 1) c1) := ⟨_, rfl⟩; rw [← hw_] at n0_ n1_ ⊢
 have n3_ : Same3 w w2 := by rw [hw_]; exact ⟨GV.out.os.trans TS1.out.os, GV.out.tape.trans TS1.out.tape, GV.out.output.trans TS1.out.output⟩
 have n4_ := O1.out.trans n1_
 obtain ⟨L2, hL_⟩ : ∃ z, z = lab1 L1 w1.heap.size (400 + 18) := ⟨_, rfl⟩; rw [← hL_] at n0_ n4_
 obtain ⟨D2, hD_⟩ : ∃ z, z = (fun j => if j = 18 then D1 18 ++ [.slice A l.length c] else D1 j) := ⟨_, rfl⟩; rw [← hD_] at n0_; have HD2 := am hD_
 generalize (cs1.setIfInBounds 24 (.slice A1 ((D1 18).length + 1) c1)) = cs2 at n0_ n2_
 have B2 := am n0_; have O2 := am n4_; have S2 := am n2_; have TS2 := am n3_; clear n0_ n1_ n2_ n3_ n4_ hw_ hL_ hD_ OV GV AV B1 O1 S1 TS1 HL1 HO1 HV1
 obtain ⟨V2, hV2, hl2, ho2, _⟩ := B2.out.row 19 (by decide)
 rw [show slot 19 = 25 from rfl] at hV2
 have HL2 := am hl2; have HO2 := am ho2; have HV2 := am hV2; clear hl2 ho2 hV2
 refine wp_region_noPanic ?_
 refine wp_region_last_drew (S := fun W => W.heap[g]? = some (.cells cs2 55 (0, 0))) (ds := [12]) (by kernel_rfl) ?hS0 (fun hHeld => ?_)
 case hS0 => exact B2.out.blk
 refine tk 0 hHeld ?_
 try simp only [zp, zi, zz, zs]
 refine tk 1 hHeld ?_
 try simp only [zp, zi, zz, zs]
 refine tk 2 hHeld ?_
 try simp only [zp, zi, zz, zs]
 refine tk 3 hHeld ?_
 try simp only [zp, zi, zz, zs]
 refine tk 4 hHeld ?_ (hy := fun w_ hSw => by (try dsimp only at hSw); have G3__ := (blk_cell hSw 25).trans HV2.out; (try go_simp); (try with_reducible rfl))
 try simp only [zp, zi, zz, zs]
 refine tk 6 hHeld ?_
 try simp only [zp, zi, zz, zs]
 refine t1 5 (fun K hK => ?_)
 refine bs0_event (e := 9) (by rfl) ?hr7 (fun b0 hg0 w3_ hb0 hbl0 => ?_)
 case hr7 => (first | (go_simp; done) | (go_simp; rfl))
 have hSn := blk_below hHeld hbl0
 refine hK.out _ _ hSn (fun hHeld2 => ?_)
 clear hK K hHeld hSn; have hHeld := hHeld2; clear hHeld2
 try simp only [zp, zi, zz, zs]
 refine t1 7 (fun K hK => ?_)
 refine apn_event Kd.string (by rfl) w2.heap.size (.tmp 28) (.tmp 29) 22 rfl 9 (.string ⟨#[]⟩) 16 Tryz.underlying22 infoe9 rfl (by decide) (by decide) b0 rfl hb0 (by rw [hg0]; exact Nat.le_refl _) (fun _ _ _ _ h => h) A l.length c rfl l (HLc.out L2 _ ((O2.out.trans only_drew).trans (Only.below hbl0))) (by have := HLB.out; omega) (fun nv w4_ ho4 hbl4 => ?_)
 obtain ⟨An, cn, e_, hcn⟩ := ho4.slice_; subst e_
 have hB4 : Below w2.heap.size w2 w4_ := below_undrew (below_two hbl0 hbl4)
 have hg4 := blk_below hHeld hbl4; have hSn := hg4
 have hov4 := own_move HO2.out (fun k hk => hB4.block k (own_lt HO2.out k hk))
 refine hK.out _ _ hSn (fun hHeld2 => ?_)
 clear hK K hHeld hSn; have hHeld := hHeld2; clear hHeld2
 try simp only [zp, zi, zz, zs]
 refine t1 8 (fun K hK => ?_)
 refine val_event (w1 := w4_.alloc (.cells #[.slice An l.length cn] 22)) (v := .slice (some ⟨w4_.heap.size, 0, none⟩) 1 1) (by rfl) ?hr9 ?_
 case hr9 => (first | (go_simp; done) | (go_simp; rfl))
 have hSn := (heap_alloc_old w4_ (.cells #[.slice An l.length cn] 22) (blk_lt hg4)).trans hg4
 refine hK.out _ _ hSn (fun hHeld2 => ?_)
 clear hK K hHeld hSn; have hHeld := hHeld2; clear hHeld2
 try simp only [zp, zi, zz, zs]
 refine t1 9 (fun K hK => ?_)
 refine step_append_cells (w0 := w4_) base (by rfl) (.tmp 27) (.tmp 31) 31 22 (.slice none 0 0) 1 24 rfl Tryz.underlying31 infoo22 rfl (by decide) (by decide) V2 (D2 19).length (D2 19) [.slice An l.length cn] rfl rfl rfl (by simp [Value.oneCell']) hov4 (Below.refl _ _) (by have q1_ := B2.out.ge; have q2_ := blk_lt hg4; omega) (by have := HL2.out; have := HNN.out; omega) (fun v1 w5_ ho5 hb5 hg5 hat5 => ?_)
 obtain ⟨A1, c1, he1⟩ := own_slice ho5; subst he1
 have hg5_ := blk_a hov4 hg4 hg5 (by decide); have hSn := hg5_
 refine hK.out _ _ hSn (fun hHeld2 => ?_)
 clear hK K hHeld hSn; have hHeld := hHeld2; clear hHeld2
 try simp only [zp, zi, zz, zs]
 refine tk 10 hHeld ?_
 try simp only [zp, zi, zz, zs]
 refine tk 11 hHeld ?_
 try simp only [zp, zi, zz, zs]
 refine t2 12 (fun K hK => ?_)
 refine raw_st (w1 := w5_.setCell ⟨g, 25, none⟩ (.slice A1 ((D2 19).length + 1) c1)) (by rfl) rfl ?hr13 ?_
 case hr13 => (have hca := (blk_cell hg5_ 25).trans HV2.out; have hfa := blk_frozen hg5_ 25; first | (go_simp; done) | (go_simp; rfl))
 refine hK.out _ _ ?_
 clear hK K
 try simp only [zp, zi, zz, zs]
 refine wpAnyLast_done (by kernel_rfl) ?_ _
 refine NoPanic.normal ?_
 have hn_ := on_new (L := L2) 0 hB4; have B4 := B2.out.step hn_ (fun _ hx => hx.elim)
 obtain ⟨n0_, n1_⟩ := B4.push (i := 19) (by decide) HV2.out hg5 ho5 hat5; have n2_ := S2.out.row 19 (.slice A1 ((D2 19).length + 1) c1) (by decide)
 rw [show slot 19 = 25 from rfl] at n0_ n1_ n2_
 obtain ⟨A_, c_, e_, hle_, hF_⟩ := firm_own (L := L2) ho4 (fun _ _ _ _ h => h)
 have hC_ : Cpy Kd.string (.slice An l.length cn) l _ _ := ⟨A_, c_, e_, hle_, hF_.only n1_ not_bl0⟩
 have n1b_ := (hn_.mono (Y := Bl) (fun _ hx => hx.elim)).trans n1_
 obtain ⟨w3, hw_⟩ : ∃ z, z = w5_.setCell ⟨g, 25, none⟩ (.slice A1 ((D2 19).length + 1) c1) := ⟨_, rfl⟩; rw [← hw_] at n0_ n1b_ hC_ ⊢
 have n3_ : Same3 w w3 := by rw [hw_]; exact ⟨(hg5.os.trans hB4.os).trans TS2.out.os, (hg5.tape.trans hB4.tape).trans TS2.out.tape, (hg5.output.trans hB4.output).trans TS2.out.output⟩
 have n4_ := O2.out.trans n1b_
 obtain ⟨L3, hL_⟩ : ∃ z, z = lab1 (lab1 L2 w2.heap.size 0) w4_.heap.size (400 + 19) := ⟨_, rfl⟩; rw [← hL_] at n0_ n4_ hC_
 obtain ⟨D3, hD_⟩ : ∃ z, z = (fun j => if j = 19 then D2 19 ++ [.slice An l.length cn] else D2 j) := ⟨_, rfl⟩; rw [← hD_] at n0_; have HD3 := am hD_
 generalize (cs2.setIfInBounds 25 (.slice A1 ((D2 19).length + 1) c1)) = cs3 at n0_ n2_
 have B3 := am n0_; have O3 := am n4_; have S3 := am n2_; have TS3 := am n3_; have HCP := am hC_; clear n0_ n1_ n1b_ n2_ n3_ n4_ hw_ hL_ hD_ hn_ B4 hC_ hF_ e_ hle_ hcn hg4 hg5_ hov4 hB4 ho4 hbl4 hb0 hbl0 hg0 ho5 hb5 hg5 hat5 B2 O2 S2 TS2 HL2 HO2 HV2
 obtain ⟨V3, hV3, hl3, ho3, _⟩ := B3.out.row 21 (by decide)
 rw [show slot 21 = 27 from rfl] at hV3
 have hcv : w3.cell? ⟨g, 27, none⟩ = some V3 := (blk_cell B3.out.blk 27).trans hV3
 have HL3 := am hl3; have HO3 := am ho3; have HV3 := am hV3; clear hl3 ho3 hV3
 go_upto_region 4 with (first | ((with_reducible refine gate_builtin (b := .append) (xs := #[.tmp 39, .tmp 41]) rfl ?_); at_builtin; (refine print_append_cells (w0 := w3) base rfl (.tmp 39) (.tmp 41) 29 3 (.int .i64 0) 1 8 rfl Tryz.underlying29 infoi rfl (by decide) (by decide) V3 (D3 21).length (D3 21) [.int .i64 mk] rfl rfl rfl ?a1 ?aO ?aB ?aS ?aL ?_; (case a1 => simp [Value.oneCell']); (case aO => exact HO3.out); (case aB => exact Below.refl _ _); (case aS => have q1_ := B3.out.ge; have q2_ := blk_lt B3.out.blk; omega); (case aL => have := HL3.out; have := HNN.out; omega); intro v1 wa ho hb hg hat; obtain ⟨A1, c1, he1⟩ := own_slice ho; subst he1; have BA := blk_a HO3.out B3.out.blk hg (by decide); have OV := am ho; have GV := am hg; have AV := am hat; clear ho hg hat hb hcv; have hfa : wa.frozen? ⟨g, 27, none⟩ = false := blk_frozen BA _; have hca : wa.cell? ⟨g, 27, none⟩ = some V3 := (blk_cell BA 27).trans HV3.out; clear BA)))
 obtain ⟨n0_, n1_⟩ := B3.out.push (i := 21) (by decide) HV3.out GV.out OV.out AV.out; have n2_ := S3.out.row 21 (.slice A1 ((D3 21).length + 1) c1) (by decide)
 rw [show slot 21 = 27 from rfl] at n0_ n1_ n2_
 obtain ⟨w4, hw_⟩ : ∃ z, z = wa.setCell ⟨g, 27, none⟩ (.slice A1 ((D3 21).length + 1) c1) := ⟨_, rfl⟩; rw [← hw_] at n0_ n1_ ⊢
 have n3_ : Same3 w w4 := by rw [hw_]; exact ⟨GV.out.os.trans TS3.out.os, GV.out.tape.trans TS3.out.tape, GV.out.output.trans TS3.out.output⟩
 have n4_ := O3.out.trans n1_
 obtain ⟨L4, hL_⟩ : ∃ z, z = lab1 L3 w3.heap.size (400 + 21) := ⟨_, rfl⟩; rw [← hL_] at n0_ n4_
 have hC_ := HCP.out.step n1_ not_bl0; rw [← hL_] at hC_; clear HCP; have HCP := am hC_; clear hC_
 obtain ⟨D4, hD_⟩ : ∃ z, z = (fun j => if j = 21 then D3 21 ++ [.int .i64 mk] else D3 j) := ⟨_, rfl⟩; rw [← hD_] at n0_; have HD4 := am hD_
 generalize (cs3.setIfInBounds 27 (.slice A1 ((D3 21).length + 1) c1)) = cs4 at n0_ n2_
 have B4 := am n0_; have O4 := am n4_; have S4 := am n2_; have TS4 := am n3_; clear n0_ n1_ n2_ n3_ n4_ hw_ hL_ hD_ OV GV AV B3 O3 S3 TS3 HL3 HO3 HV3
 obtain ⟨V4, hV4, hl4, ho4, _⟩ := B4.out.row 22 (by decide)
 rw [show slot 22 = 28 from rfl] at hV4
 have HL4 := am hl4; have HO4 := am ho4; have HV4 := am hV4; clear hl4 ho4 hV4
 have BD := am (B4.out.step (only_drew (X := No) (L := L4)) (fun _ hx => hx.elim)); have HOV := am (own_move (w1 := w4.drew) HO4.out (fun k hk => rfl))
 refine wp_region_noPanic ?_
 refine wp_region_last_drew (S := fun W => W.heap[g]? = some (.cells cs4 55 (0, 0))) (ds := [15]) (by kernel_rfl) ?hS0 (fun hHeld => ?_)
 case hS0 => exact B4.out.blk
 refine tk 0 hHeld ?_
 try simp only [zp, zi, zz, zs]
 refine tk 1 hHeld ?_
 try simp only [zp, zi, zz, zs]
 refine tk 2 hHeld ?_
 try simp only [zp, zi, zz, zs]
 refine tk 3 hHeld ?_
 try simp only [zp, zi, zz, zs]
 refine tk 4 hHeld ?_ (hy := fun w_ hSw => by (try dsimp only at hSw); have G6__ := (blk_cell hSw 28).trans HV4.out; have G12__ := (blk_cell hSw 30).trans (S4.out.seen 2 (by decide)); (try go_simp); (try with_reducible rfl))
 try simp only [zp, zi, zz, zs]
 refine tk 5 hHeld ?_
 try simp only [zp, zi, zz, zs]
 refine tk 6 hHeld ?_
 try simp only [zp, zi, zz, zs]
 refine tk 7 hHeld ?_
 try simp only [zp, zi, zz, zs]
 refine tk 8 hHeld ?_
 try simp only [zp, zi, zz, zs]
 refine tk 9 hHeld ?_ (hy := fun w_ hSw => by (try dsimp only at hSw); have G6__ := (blk_cell hSw 28).trans HV4.out; have G12__ := (blk_cell hSw 30).trans (S4.out.seen 2 (by decide)); (try go_simp); (try with_reducible rfl))
 try simp only [zp, zi, zz, zs]
 refine t1 10 (fun K hK => ?_)
 refine call_event (by rfl) 18 #[.pointer (some ⟨g, 0, none⟩), .int .i64 (seen 2)] (by first | rfl | (go_simp; done) | (go_simp; rfl)) (due_calls _ base g _ _ _ _ BD.out S4.out (seen 2) HN0.out HN1.out HT0.out HT1.out) (fun e w3_ hp => ?_)
 obtain ⟨he, hw3⟩ := hp; subst he hw3; refine ⟨_, rfl, ?_⟩; have hSn := hHeld
 refine hK.out _ _ hSn (fun hHeld2 => ?_)
 clear hK K hHeld hSn; have hHeld := hHeld2; clear hHeld2
 try simp only [zp, zi, zz, zs]
 refine t1 11 (fun K hK => ?_)
 refine val_event (w1 := w4.drew.alloc (.cells #[.int .i64 (dueV turn (seen 2))] 3)) (v := .slice (some ⟨w4.drew.heap.size, 0, none⟩) 1 1) (by rfl) ?hr25 ?_
 case hr25 => (first | (go_simp; done) | (go_simp; rfl))
 have hg4 := hHeld; have hSn := (heap_alloc_old w4.drew (.cells #[.int .i64 (dueV turn (seen 2))] 3) (blk_lt BD.out.blk)).trans BD.out.blk
 refine hK.out _ _ hSn (fun hHeld2 => ?_)
 clear hK K hHeld hSn; have hHeld := hHeld2; clear hHeld2
 try simp only [zp, zi, zz, zs]
 refine t1 12 (fun K hK => ?_)
 refine step_append_cells (w0 := w4.drew) base (by rfl) (.tmp 49) (.tmp 56) 29 3 (.int .i64 0) 1 8 rfl Tryz.underlying29 infoi rfl (by decide) (by decide) V4 (D4 22).length (D4 22) [.int .i64 (dueV turn (seen 2))] rfl rfl rfl (by simp [Value.oneCell']) HOV.out (Below.refl _ _) (by have q1_ := BD.out.ge; have q2_ := blk_lt BD.out.blk; omega) (by have := HL4.out; have := HNN.out; omega) (fun v1 w5_ ho5 hb5 hg5 hat5 => ?_)
 obtain ⟨A1, c1, he1⟩ := own_slice ho5; subst he1
 have hg5_ := blk_a HOV.out BD.out.blk hg5 (by decide); have hSn := hg5_
 refine hK.out _ _ hSn (fun hHeld2 => ?_)
 clear hK K hHeld hSn; have hHeld := hHeld2; clear hHeld2
 try simp only [zp, zi, zz, zs]
 refine tk 13 hHeld ?_
 try simp only [zp, zi, zz, zs]
 refine tk 14 hHeld ?_
 try simp only [zp, zi, zz, zs]
 refine t2 15 (fun K hK => ?_)
 refine raw_st (w1 := w5_.setCell ⟨g, 28, none⟩ (.slice A1 ((D4 22).length + 1) c1)) (by rfl) rfl ?hr29 ?_
 case hr29 => (have hca := (blk_cell hg5_ 28).trans HV4.out; have hfa := blk_frozen hg5_ 28; first | (go_simp; done) | (go_simp; rfl))
 refine hK.out _ _ ?_
 clear hK K
 try simp only [zp, zi, zz, zs]
 refine wpAnyLast_done (by kernel_rfl) ?_ _
 refine NoPanic.normal ?_
 obtain ⟨n0_, n1_⟩ := BD.out.push (i := 22) (by decide) HV4.out hg5 ho5 hat5; have n2_ := S4.out.row 22 (.slice A1 ((D4 22).length + 1) c1) (by decide)
 rw [show slot 22 = 28 from rfl] at n0_ n1_ n2_
 have n1b_ := (only_drew (X := Bl) (L := L4) (w := w4)).trans n1_; have hC_ := HCP.out.step n1b_ not_bl0
 obtain ⟨w5, hw_⟩ : ∃ z, z = w5_.setCell ⟨g, 28, none⟩ (.slice A1 ((D4 22).length + 1) c1) := ⟨_, rfl⟩; rw [← hw_] at n0_ n1b_ hC_ ⊢
 have n3_ : Same3 w w5 := by rw [hw_]; exact ⟨hg5.os.trans TS4.out.os, hg5.tape.trans TS4.out.tape, hg5.output.trans TS4.out.output⟩
 have n4_ := O4.out.trans n1b_
 obtain ⟨L5, hL_⟩ : ∃ z, z = lab1 L4 w4.drew.heap.size (400 + 22) := ⟨_, rfl⟩; rw [← hL_] at n0_ n4_ hC_
 obtain ⟨D5, hD_⟩ : ∃ z, z = (fun j => if j = 22 then D4 22 ++ [.int .i64 (dueV turn (seen 2))] else D4 j) := ⟨_, rfl⟩; rw [← hD_] at n0_; have HD5 := am hD_
 generalize (cs4.setIfInBounds 28 (.slice A1 ((D4 22).length + 1) c1)) = cs5 at n0_ n2_
 have B5 := am n0_; have O5 := am n4_; have S5 := am n2_; have TS5 := am n3_; clear HCP; have HCP := am hC_; clear n0_ n1_ n1b_ n2_ n3_ n4_ hw_ hL_ hD_ hC_ hg4 hg5_ ho5 hb5 hg5 hat5 BD HOV B4 O4 S4 TS4 HL4 HO4 HV4
 have c9 : w5.cell? ⟨g, 30, none⟩ = some (.int .i64 (seen 2)) := (blk_cell B5.out.blk 30).trans (S5.out.seen 2 (by decide)); have f9 := blk_frozen B5.out.blk 30; have k9 := HN0.out; have k8 := HN1.out
 go_upto_region 6 with (fail)
 clear c9 f9 k9 k8
 obtain ⟨n0_, n1_⟩ := B5.out.scalar (s := 30) (.int .i64 (seen 2 + 1)) (scalar_slot (by decide)); have n2_ := S5.out.set_seen (q := 2) (by decide) (seen 2 + 1)
 obtain ⟨w9, hw_⟩ : ∃ z, z = w5.setCell ⟨g, 30, none⟩ (.int .i64 (seen 2 + 1)) := ⟨_, rfl⟩; rw [← hw_] at n0_ n1_ ⊢
 have n3_ : Same3 w w9 := (by rw [hw_]; exact ⟨TS5.out.os, TS5.out.tape, TS5.out.output⟩); have n4_ := O5.out.trans n1_; have n5_ := HCP.out.step n1_ not_bl0
 have HN_ := am (And.intro n0_ (And.intro n1_ (And.intro n2_ (And.intro n3_ (And.intro n4_ n5_))))); clear n0_ n1_ n2_ n3_ n4_ n5_ hw_
 have e_ : (fun j => if j = 18 then D j ++ [.slice A l.length c] else if j = 19 then D j ++ [.slice An l.length cn] else if j = 21 then D j ++ [.int .i64 mk] else if j = 22 then D j ++ [.int .i64 (dueV turn (seen 2))] else D j) = D5 := by
  rw [HD5.out, HD4.out, HD3.out, HD2.out, HD1.out]; funext j
  by_cases h2 : j = 18 <;> by_cases h3 : j = 19 <;> by_cases h5 : j = 21 <;> by_cases h6 : j = 22 <;> simp_all
 have HQ_ := am (HDN.out _ w9 _ (.slice An l.length cn) (by rw [e_]; exact HN_.out.1) HN_.out.2.2.1 HN_.out.2.2.2.2.1 HN_.out.2.2.2.1 HN_.out.2.2.2.2.2); clear e_
 go_wp2_with (go_at_call 19; refine HQ_.out.mono ?_; rintro e wz ⟨rfl, hz⟩; have HZ := am hz; clear hz)
 first | go_end0 | ((try simp only [Exit.inBlock, Exit.then]); refine bodyPost_ret (results_none rfl _ _ _) rfl ?_)
 exact ⟨rfl, HZ.out⟩
end Go.Proofs.YtfomjbbebgajcaaGreatDoor.Rm
