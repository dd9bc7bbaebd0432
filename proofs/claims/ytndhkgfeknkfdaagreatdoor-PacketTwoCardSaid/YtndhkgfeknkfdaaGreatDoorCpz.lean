/- packet.Copy: the same packet, its lists in new memory. -/
import Derived.Test.YtndhkgfeknkfdaaGreatDoorCln
import Derived.Laws.CopyOwn
namespace Go.Proofs.YtndhkgfeknkfdaaGreatDoor.Pk
open Go.RowKit Go.Proofs.YtndhkgfeknkfdaaGreatDoorW.PrintWords Go.Proofs.YtndhkgfeknkfdaaGreatDoorW.PrintLast Go.Proofs.YtndhkgfeknkfdaaGreatDoorW.PrintMore Go.Proofs.YtndhkgfeknkfdaaGreatDoor.MPacketChecks
open Go.Proofs.YtndhkgfeknkfdaaGreatDoorW.PrintWords.Aside0 renaming mk → am
set_option linter.unusedVariables false
set_option linter.unusedSimpArgs false
set_option maxHeartbeats 8000000
set_option maxRecDepth 100000
theorem Only.set {w : World} {g i : Nat} (v : Value) : Only w (w.setCell ⟨g, i, none⟩ v) g := ⟨⟨rfl, rfl, rfl⟩, (KeepBut.refl _ _ _).set_ _ _⟩
theorem setRow_at (w : World) (g : Nat) (t : TypeId) (old cs : Array Value) (hg : w.heap[g]? = some (.cells old t (0, 0))) : (w.setRow g cs).heap[g]? = some (.cells cs t (0, 0)) := by
 simp [World.setRow, Array.getElem?_modify, hg]
theorem Only.row {w : World} {g : Nat} (cs : Array Value) : Only w (w.setRow g cs) g :=
 ⟨⟨rfl, rfl, rfl⟩, by simp [World.setRow], fun i _ hi _ => setRow_other w g i cs hi⟩
theorem wpList_store_row {P : Program} {ops : Array Oper} {rest : List Oper} {o : Oper} {a : Act} {w : World} {Q : Exit → Act → World → Prop} (hgd : o.guard = none) (hN : o.dst = none) (ty : TypeId) (x y : Operand) (ho : o.op = .store ty x y)
  (g : Nat) (hx : a.eval x = .pointer (some ⟨g, 0, none⟩)) (t : TypeId) (old cs : Array Value) (hg : w.heap[g]? = some (.cells old t (0, 0))) (hy : a.eval y = .agg cs) (hi : (P.info? ty).map (·.size) = some cs.size) (hsz : old.size = cs.size) (h1 : cs.toList.all (·.oneCell') = true)
  (h : ∀ w1, w1.heap[g]? = some (.cells cs t (0, 0)) → Only w w1 g → wpList P ops Q rest a w1) : wpList P ops Q (o :: rest) a w := by
 refine wpList_plain hgd fun K hK => ?_
 unfold Oper.wp execOp
 simp only [ho, hx, hy, Instr.storeAt, Instr.sureAddr, Sem.run_bind, Sem.run_pure, Result.andThen_ok, run_storeVar_row w g t ty old cs hg hi hsz (by rw [← Array.all_toList]; exact h1)]
 show K (a.put o.dst undef) _
 rw [hN]
 exact hK _ _ (h _ (setRow_at w g t old cs hg) (Only.row cs))
theorem R_only {α : Type} {d : Kd α} {e : Nat} {w w1 : World} {base g r : Nat} {v : Value} {xs : List α} (h : d.R e w base (fun k => r < k) v xs) (k : Only w w1 g) (hg : g ≤ r) : d.R e w1 base (fun k => r < k) v xs :=
 Kd.R_keep h k.2 (fun i hi => by have : r < i := hi; omega)
theorem Copy_calls (a0 : Int) (a1 : Int) (a2 : Bool) (a3 : Int) (a4 : ByteArray) (a5 : Bool) (a6 : ByteArray) (A7 : Option Addr) (c7 : Nat) (l7 : List Int) (a8 : Int) (a9 : Bool) (a10 : Bool) (a11 : ByteArray) (a12 : Bool) (A13 : Option Addr) (c13 : Nat) (l13 : List Int) (a14 : Bool) (a15 : Int) (a16 : Bool) (a17 : ByteArray) (A18 : Option Addr) (c18 : Nat) (l18 : List Int) (a19 : Int) (a20 : Bool) (a21 : Int) (A22 : Option Addr) (c22 : Nat) (l22 : List S82) (A23 : Option Addr) (c23 : Nat) (l23 : List Int) (A24 : Option Addr) (c24 : Nat) (l24 : List ByteArray) (w : World) (hr : Rd w A7 c7 l7 A13 c13 l13 A18 c18 l18 A22 c22 l22 A23 c23 l23 A24 c24 l24) (hs : ((l7.length : Int) ≤ 1125899906842 ∧ (l13.length : Int) ≤ 1125899906842 ∧ (l18.length : Int) ≤ 1125899906842) ∧ ((l22.length : Int) ≤ 1125899906842 ∧ (l23.length : Int) ≤ 1125899906842 ∧ (l24.length : Int) ≤ 1125899906842)) :
  Calls Tryz.prog 12 #[.agg #[.int .i64 a0, .int .i64 a1, .bool a2, .int .i64 a3, .string a4, .bool a5, .string a6, .slice A7 l7.length c7, .int .i64 a8, .bool a9, .bool a10, .string a11, .bool a12, .slice A13 l13.length c13, .bool a14, .int .i64 a15, .bool a16, .string a17, .slice A18 l18.length c18, .int .i64 a19, .bool a20, .int .i64 a21, .slice A22 l22.length c22, .slice A23 l23.length c23, .slice A24 l24.length c24]] w fun e w' => ∃ B7 d7 B13 d13 B18 d18 B22 d22 B23 d23 B24 d24, e = .returned (.agg #[.int .i64 a0, .int .i64 a1, .bool a2, .int .i64 a3, .string a4, .bool a5, .string a6, .slice B7 l7.length d7, .int .i64 a8, .bool a9, .bool a10, .string a11, .bool a12, .slice B13 l13.length d13, .bool a14, .int .i64 a15, .bool a16, .string a17, .slice B18 l18.length d18, .int .i64 a19, .bool a20, .int .i64 a21, .slice B22 l22.length d22, .slice B23 l23.length d23, .slice B24 l24.length d24]) ∧ Rd w' B7 d7 l7 B13 d13 l13 B18 d18 l18 B22 d22 l22 B23 d23 l23 B24 d24 l24 ∧ (Kd.R (Kd.int .u8) 5 w' w.heap.size (fun k => w.heap.size ≤ k) (.slice B7 l7.length d7) l7 ∧ Kd.R (Kd.int .u8) 5 w' w.heap.size (fun k => w.heap.size ≤ k) (.slice B13 l13.length d13) l13 ∧ Kd.R (Kd.int .u8) 5 w' w.heap.size (fun k => w.heap.size ≤ k) (.slice B18 l18.length d18) l18 ∧ Kd.R k82 82 w' w.heap.size (fun k => w.heap.size ≤ k) (.slice B22 l22.length d22) l22 ∧ Kd.R (Kd.int .i64) 3 w' w.heap.size (fun k => w.heap.size ≤ k) (.slice B23 l23.length d23) l23 ∧ Kd.R Kd.string 9 w' w.heap.size (fun k => w.heap.size ≤ k) (.slice B24 l24.length d24) l24 ∧ (∀ k, (Value.slice B7 l7.length d7).ownBlock = some k → (Value.slice B13 l13.length d13).ownBlock = some k → False) ∧ (∀ k, (Value.slice B7 l7.length d7).ownBlock = some k → (Value.slice B18 l18.length d18).ownBlock = some k → False) ∧ (∀ k, (Value.slice B18 l18.length d18).ownBlock = some k → (Value.slice B13 l13.length d13).ownBlock = some k → False)) ∧ Below w.heap.size w w' := by
 have hu29 := Tryz.underlying29
 have hu24 := Tryz.underlying24
 have HS := am hs
 have HR := am hr
 have HB := am (Below.refl w.heap.size w)
 clear hr hs
 go_enter Tryz.func12, Tryz.ntmps12
 go_upto_region 1 with (first | ((with_reducible refine gate_dst (N := 1) rfl ?_); refine box_event ?hg (N := 1) ?hd (cs := #[.int .i64 a0, .int .i64 a1, .bool a2, .int .i64 a3, .string a4, .bool a5, .string a6, .slice A7 l7.length c7, .int .i64 a8, .bool a9, .bool a10, .string a11, .bool a12, .slice A13 l13.length c13, .bool a14, .int .i64 a15, .bool a16, .string a17, .slice A18 l18.length c18, .int .i64 a19, .bool a20, .int .i64 a21, .slice A22 l22.length c22, .slice A23 l23.length c23, .slice A24 l24.length c24]) (t := 29) ?hr ?_; (case hd => rfl); (case hg => rfl); (case hr => first | (go_simp; done) | (go_simp; rfl)); intro gb hg w3 hbox hb; have n0_ := am (below_step HB.out hb); clear HB; have HB := n0_; clear n0_; have BK := am hbox; have GB := am (show w.heap.size ≤ gb by rw [hg]; exact Nat.le_refl _); clear hb hbox hg) | ((with_reducible refine gate_dst (N := 2) rfl ?_); refine box_event ?hg (N := 2) ?hd (cs := #[.int .i64 0, .int .i64 0, .bool false, .int .i64 0, .string ⟨#[]⟩, .bool false, .string ⟨#[]⟩, .slice none 0 0, .int .i64 0, .bool false, .bool false, .string ⟨#[]⟩, .bool false, .slice none 0 0, .bool false, .int .i64 0, .bool false, .string ⟨#[]⟩, .slice none 0 0, .int .i64 0, .bool false, .int .i64 0, .slice none 0 0, .slice none 0 0, .slice none 0 0]) (t := 29) ?hr ?_; (case hd => rfl); (case hg => rfl); (case hr => first | (go_simp; done) | (go_simp; rfl)); intro gr hg w4 hbox hb; have n0_ := am (below_step HB.out hb); have n1_ := am (blk_below BK.out hb); have NG := am (show gb ≠ gr by rw [hg]; exact Nat.ne_of_lt (blk_lt BK.out)); have GR2 := am (show gb ≤ gr by rw [hg]; exact Nat.le_of_lt (blk_lt BK.out)); have GR := am (show w.heap.size ≤ gr by rw [hg]; exact HB.out.size); clear HB BK; have HB := n0_; have BK := n1_; clear n0_ n1_; have BR := am hbox; clear hb hbox hg))
 have GL := am (blk_lt BR.out)
 have hz : w4.cell? ⟨gb, 7, none⟩ = some (.slice A7 l7.length c7) := (blk_cell BK.out 7).trans rfl
 go_wp2_with fail
 refine (cloneB_calls A7 c7 l7 _ (HR.out.below HB.out).r7 HR.out.k7 HS.out.1.1).mono ?_
 rintro e w5 ⟨v, rfl, R7, hb⟩
 obtain ⟨B7, d7, rfl⟩ := Kd.R_slice R7
 have n0_ := am (below_step HB.out hb)
 have n1_ := am (blk_below BK.out hb)
 have n2_ := am (blk_below BR.out hb)
 have HV7 := am (Kd.R_lower (Kd.R_mono R7 (fun k hk => Nat.lt_of_lt_of_le GL.out hk)) HB.out.size)
 have n4_ := am (Nat.lt_of_lt_of_le GL.out hb.size)
 clear HB BK BR GL hz hb R7 
 have HB := n0_
 have BK := n1_
 have BR := n2_
 have GL := n4_
 clear n0_ n1_ n2_ n4_ 
 have hz : w5.cell? ⟨gb, 7, none⟩ = some (.slice A7 l7.length c7) := (blk_cell BK.out 7).trans rfl
 have hf : w5.frozen? ⟨gb, 7, none⟩ = false := blk_frozen BK.out 7
 go_upto_region 2 with (fail)
 have n0_ := am (below_set (j := 7) (v := (.slice B7 l7.length d7)) HB.out GB.out)
 have n1_ := am (blk_put (cs' := #[.int .i64 a0, .int .i64 a1, .bool a2, .int .i64 a3, .string a4, .bool a5, .string a6, .slice B7 l7.length d7, .int .i64 a8, .bool a9, .bool a10, .string a11, .bool a12, .slice A13 l13.length c13, .bool a14, .int .i64 a15, .bool a16, .string a17, .slice A18 l18.length c18, .int .i64 a19, .bool a20, .int .i64 a21, .slice A22 l22.length c22, .slice A23 l23.length c23, .slice A24 l24.length c24]) BK.out 7 (.slice B7 l7.length d7) rfl)
 have n2_ := am (blk_far (p := ⟨gb, 7, none⟩) BR.out (Ne.symm NG.out) (.slice B7 l7.length d7))
 have n3_7 := am (R_only HV7.out (Only.set (i := 7) (.slice B7 l7.length d7)) GR2.out)
 have n4_ := am (blk_lt n2_.out)
 clear HB BK BR GL hz hf HV7
 have HB := n0_
 have BK := n1_
 have BR := n2_
 have GL := n4_
 have HV7 := n3_7
 clear n0_ n1_ n2_ n4_ n3_7
 generalize (w5.setCell ⟨gb, 7, none⟩ (.slice B7 l7.length d7)) = w6 at *
 have hz : w6.cell? ⟨gb, 18, none⟩ = some (.slice A18 l18.length c18) := (blk_cell BK.out 18).trans rfl
 go_wp2_with fail
 refine (cloneB_calls A18 c18 l18 _ (HR.out.below HB.out).r18 HR.out.k18 HS.out.1.2.2).mono ?_
 rintro e w7 ⟨v, rfl, R18, hb⟩
 obtain ⟨B18, d18, rfl⟩ := Kd.R_slice R18
 have A7_18 : Aside0 (∀ k, (Value.slice B7 l7.length d7).ownBlock = some k → (Value.slice B18 l18.length d18).ownBlock = some k → False) := ⟨fun k h1 h2 => Nat.not_lt_of_le (R18.1 k h2) ((Kd.R_bound HV7.out).1 k h1).2.2.1⟩
 have n0_ := am (below_step HB.out hb)
 have n1_ := am (blk_below BK.out hb)
 have n2_ := am (blk_below BR.out hb)
 have HV18 := am (Kd.R_lower (Kd.R_mono R18 (fun k hk => Nat.lt_of_lt_of_le GL.out hk)) HB.out.size)
 have n3_7 := am (Kd.R_below HV7.out hb)
 have n4_ := am (Nat.lt_of_lt_of_le GL.out hb.size)
 clear HB BK BR GL hz hb R18 HV7
 have HB := n0_
 have BK := n1_
 have BR := n2_
 have GL := n4_
 have HV7 := n3_7
 clear n0_ n1_ n2_ n4_ n3_7
 have hz : w7.cell? ⟨gb, 18, none⟩ = some (.slice A18 l18.length c18) := (blk_cell BK.out 18).trans rfl
 have hf : w7.frozen? ⟨gb, 18, none⟩ = false := blk_frozen BK.out 18
 go_upto_region 3 with (fail)
 have n0_ := am (below_set (j := 18) (v := (.slice B18 l18.length d18)) HB.out GB.out)
 have n1_ := am (blk_put (cs' := #[.int .i64 a0, .int .i64 a1, .bool a2, .int .i64 a3, .string a4, .bool a5, .string a6, .slice B7 l7.length d7, .int .i64 a8, .bool a9, .bool a10, .string a11, .bool a12, .slice A13 l13.length c13, .bool a14, .int .i64 a15, .bool a16, .string a17, .slice B18 l18.length d18, .int .i64 a19, .bool a20, .int .i64 a21, .slice A22 l22.length c22, .slice A23 l23.length c23, .slice A24 l24.length c24]) BK.out 18 (.slice B18 l18.length d18) rfl)
 have n2_ := am (blk_far (p := ⟨gb, 18, none⟩) BR.out (Ne.symm NG.out) (.slice B18 l18.length d18))
 have n3_7 := am (R_only HV7.out (Only.set (i := 18) (.slice B18 l18.length d18)) GR2.out)
 have n3_18 := am (R_only HV18.out (Only.set (i := 18) (.slice B18 l18.length d18)) GR2.out)
 have n4_ := am (blk_lt n2_.out)
 clear HB BK BR GL hz hf HV7 HV18
 have HB := n0_
 have BK := n1_
 have BR := n2_
 have GL := n4_
 have HV7 := n3_7
 have HV18 := n3_18
 clear n0_ n1_ n2_ n4_ n3_7 n3_18
 generalize (w7.setCell ⟨gb, 18, none⟩ (.slice B18 l18.length d18)) = w8 at *
 have hz : w8.cell? ⟨gb, 13, none⟩ = some (.slice A13 l13.length c13) := (blk_cell BK.out 13).trans rfl
 go_wp2_with fail
 refine (cloneB_calls A13 c13 l13 _ (HR.out.below HB.out).r13 HR.out.k13 HS.out.1.2.1).mono ?_
 rintro e w9 ⟨v, rfl, R13, hb⟩
 obtain ⟨B13, d13, rfl⟩ := Kd.R_slice R13
 have A18_13 : Aside0 (∀ k, (Value.slice B18 l18.length d18).ownBlock = some k → (Value.slice B13 l13.length d13).ownBlock = some k → False) := ⟨fun k h1 h2 => Nat.not_lt_of_le (R13.1 k h2) ((Kd.R_bound HV18.out).1 k h1).2.2.1⟩
 have A7_13 : Aside0 (∀ k, (Value.slice B7 l7.length d7).ownBlock = some k → (Value.slice B13 l13.length d13).ownBlock = some k → False) := ⟨fun k h1 h2 => Nat.not_lt_of_le (R13.1 k h2) ((Kd.R_bound HV7.out).1 k h1).2.2.1⟩
 have n0_ := am (below_step HB.out hb)
 have n1_ := am (blk_below BK.out hb)
 have n2_ := am (blk_below BR.out hb)
 have HV13 := am (Kd.R_lower (Kd.R_mono R13 (fun k hk => Nat.lt_of_lt_of_le GL.out hk)) HB.out.size)
 have n3_7 := am (Kd.R_below HV7.out hb)
 have n3_18 := am (Kd.R_below HV18.out hb)
 have n4_ := am (Nat.lt_of_lt_of_le GL.out hb.size)
 clear HB BK BR GL hz hb R13 HV7 HV18
 have HB := n0_
 have BK := n1_
 have BR := n2_
 have GL := n4_
 have HV7 := n3_7
 have HV18 := n3_18
 clear n0_ n1_ n2_ n4_ n3_7 n3_18
 have hz : w9.cell? ⟨gb, 13, none⟩ = some (.slice A13 l13.length c13) := (blk_cell BK.out 13).trans rfl
 have hf : w9.frozen? ⟨gb, 13, none⟩ = false := blk_frozen BK.out 13
 go_upto_region 4 with (fail)
 have n0_ := am (below_set (j := 13) (v := (.slice B13 l13.length d13)) HB.out GB.out)
 have n1_ := am (blk_put (cs' := #[.int .i64 a0, .int .i64 a1, .bool a2, .int .i64 a3, .string a4, .bool a5, .string a6, .slice B7 l7.length d7, .int .i64 a8, .bool a9, .bool a10, .string a11, .bool a12, .slice B13 l13.length d13, .bool a14, .int .i64 a15, .bool a16, .string a17, .slice B18 l18.length d18, .int .i64 a19, .bool a20, .int .i64 a21, .slice A22 l22.length c22, .slice A23 l23.length c23, .slice A24 l24.length c24]) BK.out 13 (.slice B13 l13.length d13) rfl)
 have n2_ := am (blk_far (p := ⟨gb, 13, none⟩) BR.out (Ne.symm NG.out) (.slice B13 l13.length d13))
 have n3_7 := am (R_only HV7.out (Only.set (i := 13) (.slice B13 l13.length d13)) GR2.out)
 have n3_18 := am (R_only HV18.out (Only.set (i := 13) (.slice B13 l13.length d13)) GR2.out)
 have n3_13 := am (R_only HV13.out (Only.set (i := 13) (.slice B13 l13.length d13)) GR2.out)
 have n4_ := am (blk_lt n2_.out)
 clear HB BK BR GL hz hf HV7 HV18 HV13
 have HB := n0_
 have BK := n1_
 have BR := n2_
 have GL := n4_
 have HV7 := n3_7
 have HV18 := n3_18
 have HV13 := n3_13
 clear n0_ n1_ n2_ n4_ n3_7 n3_18 n3_13
 generalize (w9.setCell ⟨gb, 13, none⟩ (.slice B13 l13.length d13)) = w10 at *
 have hz22 : w10.cell? ⟨gb, 22, none⟩ = some (.slice A22 l22.length c22) := (blk_cell BK.out 22).trans rfl; have hf22 : w10.frozen? ⟨gb, 22, none⟩ = false := blk_frozen BK.out 22; have hz23 : w10.cell? ⟨gb, 23, none⟩ = some (.slice A23 l23.length c23) := (blk_cell BK.out 23).trans rfl; have hf23 : w10.frozen? ⟨gb, 23, none⟩ = false := blk_frozen BK.out 23; have hz24 : w10.cell? ⟨gb, 24, none⟩ = some (.slice A24 l24.length c24) := (blk_cell BK.out 24).trans rfl; have hf24 : w10.frozen? ⟨gb, 24, none⟩ = false := blk_frozen BK.out 24
 go_cut [] (fun wc => ∃ B22 d22 B23 d23 B24 d24, Aside0 (wc.heap[gb]? = some (.cells #[.int .i64 a0, .int .i64 a1, .bool a2, .int .i64 a3, .string a4, .bool a5, .string a6, .slice B7 l7.length d7, .int .i64 a8, .bool a9, .bool a10, .string a11, .bool a12, .slice B13 l13.length d13, .bool a14, .int .i64 a15, .bool a16, .string a17, .slice B18 l18.length d18, .int .i64 a19, .bool a20, .int .i64 a21, .slice B22 l22.length d22, .slice B23 l23.length d23, .slice B24 l24.length d24] 29 (0, 0))) ∧ Aside0 (wc.heap[gr]? = some (.cells #[.int .i64 0, .int .i64 0, .bool false, .int .i64 0, .string ⟨#[]⟩, .bool false, .string ⟨#[]⟩, .slice none 0 0, .int .i64 0, .bool false, .bool false, .string ⟨#[]⟩, .bool false, .slice none 0 0, .bool false, .int .i64 0, .bool false, .string ⟨#[]⟩, .slice none 0 0, .int .i64 0, .bool false, .int .i64 0, .slice none 0 0, .slice none 0 0, .slice none 0 0] 29 (0, 0))) ∧ Aside0 (Below w.heap.size w wc) ∧ Aside0 (Kd.R (Kd.int .u8) 5 wc w.heap.size (fun k => gr < k) (.slice B7 l7.length d7) l7) ∧ Aside0 (Kd.R (Kd.int .u8) 5 wc w.heap.size (fun k => gr < k) (.slice B18 l18.length d18) l18) ∧ Aside0 (Kd.R (Kd.int .u8) 5 wc w.heap.size (fun k => gr < k) (.slice B13 l13.length d13) l13) ∧ Aside0 (Kd.R k82 82 wc w.heap.size (fun k => gr < k) (.slice B22 l22.length d22) l22) ∧ Aside0 (Kd.R (Kd.int .i64) 3 wc w.heap.size (fun k => gr < k) (.slice B23 l23.length d23) l23) ∧ Aside0 (Kd.R Kd.string 9 wc w.heap.size (fun k => gr < k) (.slice B24 l24.length d24) l24))
 case first =>
  go_region_with (first | (go_at_call 58; (refine (cloneA_calls A22 c22 l22 _ ?s1 HR.out.k22 HS.out.2.1).mono ?_); (case s1 => exact (HR.out.below (by repeat (first | exact HB.out | (with_reducible first | apply below_alloc | apply pw_below_drewN | apply below_drew1)))).r22); rintro e w9 ⟨v, rfl, R22, hb⟩; obtain ⟨B22, d22, rfl⟩ := Kd.R_slice R22; have n0_ := am (below_step (by repeat (first | exact HB.out | (with_reducible first | apply below_alloc | apply pw_below_drewN | apply below_drew1))) hb); have n1_ := am (blk_below (by first | exact BK.out | exact blk_drewN BK.out _ | exact blk_drew BK.out) hb); have n2_ := am (blk_below (by first | exact BR.out | exact blk_drewN BR.out _ | exact blk_drew BR.out) hb); have n5_ := am (Kd.R_lower (Kd.R_mono R22 (fun k hk => Nat.lt_of_lt_of_le (show gr < _ from GL.out) hk)) (below_size (by repeat (first | exact HB.out | (with_reducible first | apply below_alloc | apply pw_below_drewN | apply below_drew1))))); have n3_HV7 := am (Kd.R_below (by first | exact HV7.out | exact Kd.R_drewN HV7.out _ | exact Kd.R_drew HV7.out) hb); have n3_HV18 := am (Kd.R_below (by first | exact HV18.out | exact Kd.R_drewN HV18.out _ | exact Kd.R_drew HV18.out) hb); have n3_HV13 := am (Kd.R_below (by first | exact HV13.out | exact Kd.R_drewN HV13.out _ | exact Kd.R_drew HV13.out) hb); have n4_ := am (Nat.lt_of_lt_of_le GL.out hb.size); clear HB BK BR GL hb R22 HV7 HV18 HV13; (try clear hz22 hf22); (try clear hz23 hf23); (try clear hz24 hf24); have HB := n0_; have BK := n1_; have BR := n2_; have GL := n4_; have HV22 := n5_; have HV7 := n3_HV7; have HV18 := n3_HV18; have HV13 := n3_HV13; clear n0_ n1_ n2_ n4_ n5_ n3_HV7 n3_HV18 n3_HV13; have hz22 : w9.cell? ⟨gb, 22, none⟩ = some (.slice A22 l22.length c22) := (blk_cell BK.out 22).trans rfl; have hf22 : w9.frozen? ⟨gb, 22, none⟩ = false := blk_frozen BK.out 22; have hz23 : w9.cell? ⟨gb, 23, none⟩ = some (.slice A23 l23.length c23) := (blk_cell BK.out 23).trans rfl; have hf23 : w9.frozen? ⟨gb, 23, none⟩ = false := blk_frozen BK.out 23; have hz24 : w9.cell? ⟨gb, 24, none⟩ = some (.slice A24 l24.length c24) := (blk_cell BK.out 24).trans rfl; have hf24 : w9.frozen? ⟨gb, 24, none⟩ = false := blk_frozen BK.out 24) | (go_at_call 59; (refine (cloneI_calls A23 c23 l23 _ ?s1 HR.out.k23 HS.out.2.2.1).mono ?_); (case s1 => exact (HR.out.below (by repeat (first | exact HB.out | (with_reducible first | apply below_alloc | apply pw_below_drewN | apply below_drew1)))).r23); rintro e w9 ⟨v, rfl, R23, hb⟩; obtain ⟨B23, d23, rfl⟩ := Kd.R_slice R23; have n0_ := am (below_step (by repeat (first | exact HB.out | (with_reducible first | apply below_alloc | apply pw_below_drewN | apply below_drew1))) hb); have n1_ := am (blk_below (by first | exact BK.out | exact blk_drewN BK.out _ | exact blk_drew BK.out) hb); have n2_ := am (blk_below (by first | exact BR.out | exact blk_drewN BR.out _ | exact blk_drew BR.out) hb); have n5_ := am (Kd.R_lower (Kd.R_mono R23 (fun k hk => Nat.lt_of_lt_of_le (show gr < _ from GL.out) hk)) (below_size (by repeat (first | exact HB.out | (with_reducible first | apply below_alloc | apply pw_below_drewN | apply below_drew1))))); have n3_HV7 := am (Kd.R_below (by first | exact HV7.out | exact Kd.R_drewN HV7.out _ | exact Kd.R_drew HV7.out) hb); have n3_HV18 := am (Kd.R_below (by first | exact HV18.out | exact Kd.R_drewN HV18.out _ | exact Kd.R_drew HV18.out) hb); have n3_HV13 := am (Kd.R_below (by first | exact HV13.out | exact Kd.R_drewN HV13.out _ | exact Kd.R_drew HV13.out) hb); have n3_HV22 := am (Kd.R_below (by first | exact HV22.out | exact Kd.R_drewN HV22.out _ | exact Kd.R_drew HV22.out) hb); have n4_ := am (Nat.lt_of_lt_of_le GL.out hb.size); clear HB BK BR GL hb R23 HV7 HV18 HV13 HV22; (try clear hz22 hf22); (try clear hz23 hf23); (try clear hz24 hf24); have HB := n0_; have BK := n1_; have BR := n2_; have GL := n4_; have HV23 := n5_; have HV7 := n3_HV7; have HV18 := n3_HV18; have HV13 := n3_HV13; have HV22 := n3_HV22; clear n0_ n1_ n2_ n4_ n5_ n3_HV7 n3_HV18 n3_HV13 n3_HV22; have hz22 : w9.cell? ⟨gb, 22, none⟩ = some (.slice A22 l22.length c22) := (blk_cell BK.out 22).trans rfl; have hf22 : w9.frozen? ⟨gb, 22, none⟩ = false := blk_frozen BK.out 22; have hz23 : w9.cell? ⟨gb, 23, none⟩ = some (.slice A23 l23.length c23) := (blk_cell BK.out 23).trans rfl; have hf23 : w9.frozen? ⟨gb, 23, none⟩ = false := blk_frozen BK.out 23; have hz24 : w9.cell? ⟨gb, 24, none⟩ = some (.slice A24 l24.length c24) := (blk_cell BK.out 24).trans rfl; have hf24 : w9.frozen? ⟨gb, 24, none⟩ = false := blk_frozen BK.out 24) | (go_at_call 60; (refine (cloneT_calls A24 c24 l24 _ ?s1 HR.out.k24 HS.out.2.2.2).mono ?_); (case s1 => exact (HR.out.below (by repeat (first | exact HB.out | (with_reducible first | apply below_alloc | apply pw_below_drewN | apply below_drew1)))).r24); rintro e w9 ⟨v, rfl, R24, hb⟩; obtain ⟨B24, d24, rfl⟩ := Kd.R_slice R24; have n0_ := am (below_step (by repeat (first | exact HB.out | (with_reducible first | apply below_alloc | apply pw_below_drewN | apply below_drew1))) hb); have n1_ := am (blk_below (by first | exact BK.out | exact blk_drewN BK.out _ | exact blk_drew BK.out) hb); have n2_ := am (blk_below (by first | exact BR.out | exact blk_drewN BR.out _ | exact blk_drew BR.out) hb); have n5_ := am (Kd.R_lower (Kd.R_mono R24 (fun k hk => Nat.lt_of_lt_of_le (show gr < _ from GL.out) hk)) (below_size (by repeat (first | exact HB.out | (with_reducible first | apply below_alloc | apply pw_below_drewN | apply below_drew1))))); have n3_HV7 := am (Kd.R_below (by first | exact HV7.out | exact Kd.R_drewN HV7.out _ | exact Kd.R_drew HV7.out) hb); have n3_HV18 := am (Kd.R_below (by first | exact HV18.out | exact Kd.R_drewN HV18.out _ | exact Kd.R_drew HV18.out) hb); have n3_HV13 := am (Kd.R_below (by first | exact HV13.out | exact Kd.R_drewN HV13.out _ | exact Kd.R_drew HV13.out) hb); have n3_HV22 := am (Kd.R_below (by first | exact HV22.out | exact Kd.R_drewN HV22.out _ | exact Kd.R_drew HV22.out) hb); have n3_HV23 := am (Kd.R_below (by first | exact HV23.out | exact Kd.R_drewN HV23.out _ | exact Kd.R_drew HV23.out) hb); have n4_ := am (Nat.lt_of_lt_of_le GL.out hb.size); clear HB BK BR GL hb R24 HV7 HV18 HV13 HV22 HV23; (try clear hz22 hf22); (try clear hz23 hf23); (try clear hz24 hf24); have HB := n0_; have BK := n1_; have BR := n2_; have GL := n4_; have HV24 := n5_; have HV7 := n3_HV7; have HV18 := n3_HV18; have HV13 := n3_HV13; have HV22 := n3_HV22; have HV23 := n3_HV23; clear n0_ n1_ n2_ n4_ n5_ n3_HV7 n3_HV18 n3_HV13 n3_HV22 n3_HV23; have hz22 : w9.cell? ⟨gb, 22, none⟩ = some (.slice A22 l22.length c22) := (blk_cell BK.out 22).trans rfl; have hf22 : w9.frozen? ⟨gb, 22, none⟩ = false := blk_frozen BK.out 22; have hz23 : w9.cell? ⟨gb, 23, none⟩ = some (.slice A23 l23.length c23) := (blk_cell BK.out 23).trans rfl; have hf23 : w9.frozen? ⟨gb, 23, none⟩ = false := blk_frozen BK.out 23; have hz24 : w9.cell? ⟨gb, 24, none⟩ = some (.slice A24 l24.length c24) := (blk_cell BK.out 24).trans rfl; have hf24 : w9.frozen? ⟨gb, 24, none⟩ = false := blk_frozen BK.out 24))
  all_goals (go_wp2; go_meet; (case rel => exact ⟨_, _, _, _, _, _, ⟨blk_put (cs' := #[.int .i64 a0, .int .i64 a1, .bool a2, .int .i64 a3, .string a4, .bool a5, .string a6, .slice B7 l7.length d7, .int .i64 a8, .bool a9, .bool a10, .string a11, .bool a12, .slice B13 l13.length d13, .bool a14, .int .i64 a15, .bool a16, .string a17, .slice B18 l18.length d18, .int .i64 a19, .bool a20, .int .i64 a21, .slice B22 l22.length d22, .slice B23 l23.length d23, .slice B24 l24.length d24]) (blk_put (cs' := #[.int .i64 a0, .int .i64 a1, .bool a2, .int .i64 a3, .string a4, .bool a5, .string a6, .slice B7 l7.length d7, .int .i64 a8, .bool a9, .bool a10, .string a11, .bool a12, .slice B13 l13.length d13, .bool a14, .int .i64 a15, .bool a16, .string a17, .slice B18 l18.length d18, .int .i64 a19, .bool a20, .int .i64 a21, .slice B22 l22.length d22, .slice B23 l23.length d23, .slice A24 l24.length c24]) (blk_put (cs' := #[.int .i64 a0, .int .i64 a1, .bool a2, .int .i64 a3, .string a4, .bool a5, .string a6, .slice B7 l7.length d7, .int .i64 a8, .bool a9, .bool a10, .string a11, .bool a12, .slice B13 l13.length d13, .bool a14, .int .i64 a15, .bool a16, .string a17, .slice B18 l18.length d18, .int .i64 a19, .bool a20, .int .i64 a21, .slice B22 l22.length d22, .slice A23 l23.length c23, .slice A24 l24.length c24]) BK.out 22 _ rfl) 23 _ rfl) 24 _ rfl⟩, ⟨blk_far (blk_far (blk_far BR.out (Ne.symm NG.out) _) (Ne.symm NG.out) _) (Ne.symm NG.out) _⟩, ⟨below_set (below_set (below_set HB.out GB.out) GB.out) GB.out⟩, ⟨R_only (R_only (R_only HV7.out (Only.set _) GR2.out) (Only.set _) GR2.out) (Only.set _) GR2.out⟩, ⟨R_only (R_only (R_only HV18.out (Only.set _) GR2.out) (Only.set _) GR2.out) (Only.set _) GR2.out⟩, ⟨R_only (R_only (R_only HV13.out (Only.set _) GR2.out) (Only.set _) GR2.out) (Only.set _) GR2.out⟩, ⟨R_only (R_only (R_only HV22.out (Only.set _) GR2.out) (Only.set _) GR2.out) (Only.set _) GR2.out⟩, ⟨R_only (R_only (R_only HV23.out (Only.set _) GR2.out) (Only.set _) GR2.out) (Only.set _) GR2.out⟩, ⟨R_only (R_only (R_only HV24.out (Only.set _) GR2.out) (Only.set _) GR2.out) (Only.set _) GR2.out⟩⟩))
 case rest =>
  clear HB BK BR GL HV7 HV13 HV18 hz22 hz23 hz24 hf22 hf23 hf24
  obtain ⟨B22, d22, B23, d23, B24, d24, BK, BR, HB, HV7, HV18, HV13, HV22, HV23, HV24⟩ := hcut
  go_wp2_with (first | ((with_reducible refine gate_dst (N := 31) rfl ?_); refine wpList_load_row rfl 29 (.tmp 1) rfl gb rfl 29 #[.int .i64 a0, .int .i64 a1, .bool a2, .int .i64 a3, .string a4, .bool a5, .string a6, .slice B7 l7.length d7, .int .i64 a8, .bool a9, .bool a10, .string a11, .bool a12, .slice B13 l13.length d13, .bool a14, .int .i64 a15, .bool a16, .string a17, .slice B18 l18.length d18, .int .i64 a19, .bool a20, .int .i64 a21, .slice B22 l22.length d22, .slice B23 l23.length d23, .slice B24 l24.length d24] (0, 0) _ BK.out hu29 rfl (by kernel_rfl) ?_) | (refine wpList_store_row rfl rfl 29 (.tmp 2) (.tmp 31) rfl gr rfl 29 _ #[.int .i64 a0, .int .i64 a1, .bool a2, .int .i64 a3, .string a4, .bool a5, .string a6, .slice B7 l7.length d7, .int .i64 a8, .bool a9, .bool a10, .string a11, .bool a12, .slice B13 l13.length d13, .bool a14, .int .i64 a15, .bool a16, .string a17, .slice B18 l18.length d18, .int .i64 a19, .bool a20, .int .i64 a21, .slice B22 l22.length d22, .slice B23 l23.length d23, .slice B24 l24.length d24] BR.out rfl (by kernel_rfl) rfl rfl ?_; intro w20 hr20 hk20))
  refine bodyPost_ret (results_cell_row rfl _ _ gr 29 #[.int .i64 a0, .int .i64 a1, .bool a2, .int .i64 a3, .string a4, .bool a5, .string a6, .slice B7 l7.length d7, .int .i64 a8, .bool a9, .bool a10, .string a11, .bool a12, .slice B13 l13.length d13, .bool a14, .int .i64 a15, .bool a16, .string a17, .slice B18 l18.length d18, .int .i64 a19, .bool a20, .int .i64 a21, .slice B22 l22.length d22, .slice B23 l23.length d23, .slice B24 l24.length d24] (0, 0) _ rfl hr20 hu29 rfl (by kernel_rfl)) rfl ?_
  refine ⟨B7, d7, B13, d13, B18, d18, B22, d22, B23, d23, B24, d24, rfl, ?_, ?_, hk20.below HB.out GR.out⟩
  ·exact ⟨(Kd.R_reads' (R_only HV7.out hk20 (Nat.le_refl _))).2.2, (Kd.R_reads' (R_only HV7.out hk20 (Nat.le_refl _))).2.1, (Kd.R_reads' (R_only HV13.out hk20 (Nat.le_refl _))).2.2, (Kd.R_reads' (R_only HV13.out hk20 (Nat.le_refl _))).2.1, (Kd.R_reads' (R_only HV18.out hk20 (Nat.le_refl _))).2.2, (Kd.R_reads' (R_only HV18.out hk20 (Nat.le_refl _))).2.1, (Kd.R_reads' (R_only HV22.out hk20 (Nat.le_refl _))).2.2, (Kd.R_reads' (R_only HV22.out hk20 (Nat.le_refl _))).2.1, (Kd.R_reads' (R_only HV23.out hk20 (Nat.le_refl _))).2.2, (Kd.R_reads' (R_only HV23.out hk20 (Nat.le_refl _))).2.1, (Kd.R_reads' (R_only HV24.out hk20 (Nat.le_refl _))).2.2, (Kd.R_reads' (R_only HV24.out hk20 (Nat.le_refl _))).2.1⟩
  ·exact ⟨Kd.R_mono (R_only HV7.out hk20 (Nat.le_refl _)) (fun k hk => by have h1 : gr < k := hk; have h2 := GR.out; omega), Kd.R_mono (R_only HV13.out hk20 (Nat.le_refl _)) (fun k hk => by have h1 : gr < k := hk; have h2 := GR.out; omega), Kd.R_mono (R_only HV18.out hk20 (Nat.le_refl _)) (fun k hk => by have h1 : gr < k := hk; have h2 := GR.out; omega), Kd.R_mono (R_only HV22.out hk20 (Nat.le_refl _)) (fun k hk => by have h1 : gr < k := hk; have h2 := GR.out; omega), Kd.R_mono (R_only HV23.out hk20 (Nat.le_refl _)) (fun k hk => by have h1 : gr < k := hk; have h2 := GR.out; omega), Kd.R_mono (R_only HV24.out hk20 (Nat.le_refl _)) (fun k hk => by have h1 : gr < k := hk; have h2 := GR.out; omega), A7_13.out, A7_18.out, A18_13.out⟩
end Go.Proofs.YtndhkgfeknkfdaaGreatDoor.Pk
