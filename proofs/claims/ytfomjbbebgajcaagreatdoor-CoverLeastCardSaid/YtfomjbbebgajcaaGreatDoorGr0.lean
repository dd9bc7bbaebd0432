/- crierkept.Book: grow.. of a kind that is used. -/
import Derived.Test.YtfomjbbebgajcaaGreatDoorMk0
namespace Go.Proofs.YtfomjbbebgajcaaGreatDoor.Rm
open Go.RowKit Go.Proofs.YtfomjbbebgajcaaGreatDoorW.PrintWords Go.Proofs.YtfomjbbebgajcaaGreatDoorW.PrintLast Go.Proofs.YtfomjbbebgajcaaGreatDoorW.PrintMore Go.Proofs.YtfomjbbebgajcaaGreatDoor.MCoverLeast
open Go.Act renaming put → zp
open List renaming setIfInBounds_toArray → zi, set_cons_zero → zz, set_cons_succ → zs
open Go.Proofs.YtfomjbbebgajcaaGreatDoorW.PrintWords.Aside0 renaming mk → am
set_option linter.unusedVariables false
set_option linter.unusedSimpArgs false
set_option maxHeartbeats 4000000
set_option maxRecDepth 100000

section
variable {P : Program} {α : Type} {d : Kd α} {te base t : Nat} {g : Value} {xs : List α} {L : Nat → Nat} {W : World} {ops : Array Oper} {rest : List Oper} {o : Oper} {a : Act} {Q : Exit → Act → World → Prop}
theorem wpList_append_ls (hgd : o.guard = none) (s y : Operand) (tt : TypeId) (hop : o.op = Op.call { callee := Callee.builtin Builtin.append, args := #[s, y], argTypes := #[tt, tt] }) (hF : Fl d) (hs : a.eval s = g) (hy : a.eval y = .slice (some ⟨W.heap.size, 0, none⟩) 1 1) (hl : Ls d te base t L W g xs) (z : Value) (bytes : Nat) (ht : P.underlying tt = some (.slice te)) (hinfo : (P.info? te).map (fun i => (i.zero, i.size, i.bytes)) = some (some z, d.sz, bytes)) (hz : z.cells.size = d.sz) (hs0 : 0 < d.sz) (hb0 : 0 < bytes)
  (x : α) (cs : List Value) (hK : d.K W x cs) (hbase : base ≤ W.heap.size) (hn : (xs.length + 1) * bytes ≤ 140737488355328)
  (h : ∀ g' W', Ls d te base t (lab1 L W.heap.size t) W' g' (xs ++ [x]) → Gw te d.sz W W' g g' → wpList P ops Q rest (a.put o.dst g') W') : wpList P ops Q (o :: rest) a (W.alloc (.cells cs.toArray te)) :=
 wpList_plain hgd fun K hKK => by
  obtain ⟨g', W', hrun, h1, h2⟩ := run_append_ls (P := P) hF hl tt o.type z bytes ht hinfo hz hs0 hb0 x cs hK hbase hn
  unfold Oper.wp
  simp [execOp, hop, resolve, invoke, builtin, hs, hy, hrun, Result.andThen]
  exact hKK _ _ (h g' W' h1 h2)
end
section
variable {α : Type} {d : Kd α} {te base t k g : Nat} {et : Nat → TypeId} {tB : TypeId} {G : (Nat → Nat) → World → Prop} {turn deep : Int} {seen : Nat → Int} {L : Nat → Nat} {w W : World} {N j : Nat} {cs : Array Value} {D D0 : Nat → List Value} {ps os : List (Value × Value)} {fs : List Value} {mq dq fr : List Int} {v v' u : Value} {xs ys : List α}
/-- the head of the round of grow..: j lists have been laid on -/
def Grel (d : Kd α) (te base t : Nat) (et : Nat → TypeId) (tB : TypeId) (g k : Nat) (G : (Nat → Nat) → World → Prop) (turn deep : Int) (seen : Nat → Int) (N : Nat) (D0 : Nat → List Value) (ps : List (Value × Value)) (fs : List Value) (mq dq fr : List Int) (j : Nat) (w : World) : Prop :=
 ∃ L cs D os, Bst et tB base g (FK d te base t G ps os (fs.drop j)) false turn deep seen L w (2 * N) cs D ∧ Dsh k (2 * N) D ps os fs mq dq fr ∧ (os.length + 2 * ps.length + (fs.length - j) ≤ N ∧ fs.length ≤ N) ∧ ∀ i, i < 168 → i / 8 ≠ k → D i = D0 i
theorem Grel.start (h : Bst et tB base g (FK d te base t G ps os fs) false turn deep seen L w N cs D) (hD : Dsh k N D ps os fs mq dq fr) : Grel d te base t et tB g k G turn deep seen N D ps fs mq dq fr 0 w := by
 have hl : ∀ i, i < 168 → (D i).length ≤ 2 * N := fun i hi => by
  obtain ⟨V, _, h2, _⟩ := h.B.row i hi
  omega
 exact ⟨L, cs, D, os, h.bound hl, ⟨hD.out, hD.told, hD.waits, hD.note, hD.fresh, hD.mark, hD.due, hD.from_, hD.lm, hD.ld, hD.lf, by have := hD.le; omega⟩, by have := hD.le; omega, fun _ _ _ => rfl⟩
theorem Grel.put (hp : fs[j]? = some v') (hD : Dsh k (2 * N) D ps os fs mq dq fr) (hN : os.length + 2 * ps.length + (fs.length - j) ≤ N ∧ fs.length ≤ N) (ho : ∀ i, i < 168 → i / 8 ≠ k → D i = D0 i) (hl : ∀ i, i < 168 → (D i).length ≤ 2 * N)
  (hxl : xs.length ≤ 536871112) (hc : Cur ps os (fs.drop (j + 1)) v)
  (h : Bst et tB base g (fun L w => (FK d te base t G ps os (fs.drop (j + 1)) L w ∧ Ls d te base t L w v xs) ∧ Cpy d u xs L w) false turn deep seen L w (2 * N + 2) cs (upd (upd D (8 * k) v) (8 * k + 1) u)) : Grel d te base t et tB g k G turn deep seen N D0 ps fs mq dq fr (j + 1) w := by
 have hj := (List.getElem?_eq_some_iff.1 hp).1
 have hD' := hD.pushG (v := v) (u := u) (M' := 2 * N) (by omega)
 have ho' : ∀ i, i < 168 → i / 8 ≠ k → (upd (upd D (8 * k) v) (8 * k + 1) u) i = D i := fun i hi he => by rw [upd_ne (by omega), upd_ne (by omega)]
 exact ⟨L, cs, _, os ++ [(v, u)], (h.imp (fun L w hh => ⟨hh.1.1.1.putf hh.1.2 hh.2 hxl hc, hh.1.1.2⟩)).bound (bound_of ho' hl hD'.len), hD', by simp; omega, fun i hi he => (ho' i hi he).trans (ho i hi he)⟩
/-- what grow.. leaves -/
def Gend (d : Kd α) (te base t : Nat) (et : Nat → TypeId) (tB : TypeId) (g k : Nat) (G : (Nat → Nat) → World → Prop) (turn deep : Int) (seen : Nat → Int) (N : Nat) (D0 : Nat → List Value) (ps : List (Value × Value)) (mq dq : List Int) (e : Ending) (w : World) : Prop :=
 e = .returned (.tuple #[]) ∧ ∃ L cs D os, Bst et tB base g (FK d te base t G ps os []) false turn deep seen L w N cs D ∧ Dsh k N D ps os [] mq dq [] ∧ ∀ i, i < 168 → i / 8 ≠ k → D i = D0 i
theorem Grel.end_ (h : Grel d te base t et tB g k G turn deep seen N D0 ps fs mq dq fr fs.length w) (hk : 8 * k + 7 < 168) (hF : Fl d) (ht : ¬ Bl t) (hG : Stb (Yt t) G) (hl : ∀ i, i < 168 → (D0 i).length ≤ N) :
  Gend d te base t et tB g k G turn deep seen N D0 ps mq dq (.returned (.tuple #[])) ((w.setCell ⟨g, slot (8 * k + 4), none⟩ (.slice none 0 0)).setCell ⟨g, slot (8 * k + 7), none⟩ (.slice none 0 0)) := by
 obtain ⟨L, cs, D, os, h1, h2, h3, h4⟩ := h
 rw [List.drop_length] at h1
 have a1 := h1.clear0 (FK.stb hF ht hG) (i := 8 * k + 4) (by omega)
 have a2 := a1.clear0 (FK.stb hF ht hG) (i := 8 * k + 7) (by omega)
 have hD' : Dsh k N (fun j => if j = 8 * k + 7 then [] else (fun j => if j = 8 * k + 4 then [] else D j) j) ps os [] mq dq [] := by
  have e : ∀ i, i ≠ 8 * k + 4 → i ≠ 8 * k + 7 → (fun j => if j = 8 * k + 7 then [] else (fun j => if j = 8 * k + 4 then [] else D j) j) i = D i := fun i h5 h6 => by
   show (if i = 8 * k + 7 then [] else (if i = 8 * k + 4 then [] else D i)) = D i
   rw [if_neg h6, if_neg h5]
  refine ⟨(e _ (by omega) (by omega)).trans h2.out, (e _ (by omega) (by omega)).trans h2.told, (e _ (by omega) (by omega)).trans h2.waits, (e _ (by omega) (by omega)).trans h2.note, ?_, (e _ (by omega) (by omega)).trans h2.mark, (e _ (by omega) (by omega)).trans h2.due, ?_, h2.lm, h2.ld, rfl, by simp only [List.length_nil]; omega⟩
  ·show (if 8 * k + 4 = 8 * k + 7 then [] else (if 8 * k + 4 = 8 * k + 4 then [] else D (8 * k + 4))) = []
   rw [if_neg (by omega), if_pos rfl]
  ·show (if 8 * k + 7 = 8 * k + 7 then [] else (if 8 * k + 7 = 8 * k + 4 then [] else D (8 * k + 7))) = nums .i64 []
   rw [if_pos rfl]; rfl
 have ho : ∀ i, i < 168 → i / 8 ≠ k → (fun j => if j = 8 * k + 7 then [] else (fun j => if j = 8 * k + 4 then [] else D j) j) i = D0 i := fun i hi he => by
  show (if i = 8 * k + 7 then [] else (if i = 8 * k + 4 then [] else D i)) = D0 i
  rw [if_neg (by omega), if_neg (by omega)]
  exact h4 i hi he
 exact ⟨rfl, L, _, _, os, a2.bound (bound_of ho hl hD'.len), hD', ho⟩
/-- a list is being laid on: i elements are -/
def Xrel (d : Kd α) (te base t : Nat) (et : Nat → TypeId) (tB : TypeId) (g : Nat) (G : (Nat → Nat) → World → Prop) (ps os : List (Value × Value)) (fs : List Value) (turn deep : Int) (seen : Nat → Int) (N : Nat) (D : Nat → List Value) (i : Nat) (v : Value) (n : Nat) (w : World) : Prop :=
 ∃ L cs xs, xs.length = n ∧ n ≤ 536870912 + i ∧ Cur ps os fs v ∧ Bst et tB base g (fun L w => FK d te base t G ps os fs L w ∧ Ls d te base t L w v xs) false turn deep seen L w N cs D
theorem Xrel.app {i n : Nat} {x : α} (hF : Fl d) (ht : ¬ Bl t) (ht0 : t ≠ 0) (hG : Stb (Yt t) G) (h : Bst et tB base g (fun L w => FK d te base t G ps os fs L w ∧ Ls d te base t L w v xs) false turn deep seen L w N cs D) (hc : Cur ps os fs v) (hn : xs.length = n) (hl : n ≤ 536870912 + i)
  (h1 : Ls d te base t (lab1 L w.heap.size t) W v' (xs ++ [x])) (h2 : Gw te d.sz w W v v') : Xrel d te base t et tB g G ps os fs turn deep seen N D (i + 1) v' (n + 1) W := by
 obtain ⟨k1, k2⟩ := (h.imp (G := FK d te base t G ps os fs) (fun _ _ hh => hh.1)).gw hF ht ht0 hG h.F.2 h2 hc
 exact ⟨_, cs, xs ++ [x], by simp [hn], by omega, k2, k1.B, k1.S, k1.F, h1⟩
end
theorem growTexts_calls (L : Nat → Nat) (base g N : Nat) (w : World) (cs : Array Value) (D : Nat → List Value) {G : (Nat → Nat) → World → Prop} {turn deep : Int} {seen : Nat → Int} {ps os : List (Value × Value)} {fs : List Value} {mq dq fr : List Int} (h : Bst bkT 55 base g (FK Kd.string 9 base 1002 G ps os fs) false turn deep seen L w N cs D) (hD : Dsh 2 N D ps os fs mq dq fr) (hG : Stb (Yt 1002) G) (hT : ∀ L w, G L w → Lib.TabIs Tryz.prog w "internal/strconv.uint64pow10" .u64 Lib.pow10Tab) (hN : N ≤ 536870912) :
  Calls Tryz.prog 124 #[.pointer (some ⟨g, 0, none⟩)] w (Gend Kd.string 9 base 1002 bkT 55 g 2 G turn deep seen N D ps mq dq) := by
 have HFl : Fl Kd.string := fun _ _ _ _ h => h
 have hfb : fs.length ≤ 536870912 := by have := hD.le; omega
 have HM := am (Grel.start h hD); have HLD := am (fun i hi => (h.B.row i hi).elim fun V hV => hV.2.1); have HG := am hG; have HNN := am hN; have HFA := am HFl; have HTB := am hT; clear hT; clear h hD hG hN HFl
 go_enter Tryz.func124, Tryz.ntmps124
 go_wp2
 go_loopw [2] (fun i wr => ∃ j : Nat, j ≤ fs.length ∧ i = .int .i64 j ∧ Aside0 (Grel Kd.string 9 base 1002 bkT 55 g 2 G turn deep seen N D ps fs mq dq fr j wr)) (fun i _ => fs.length - (intOf i).toNat)
 case atStart => exact ⟨0, Nat.zero_le _, rfl, HM⟩
 case round =>
  clear HM
  obtain ⟨j, hj, rfl, HM⟩ := hrel
  obtain ⟨w1, hwo⟩ : ∃ x, x = wr := ⟨_, rfl⟩; subst hwo
  by_cases hlt : j < fs.length
  ·obtain ⟨L1, cs1, D1, os1, n1, n2, n3, n4⟩ := HM.out; clear HM
   obtain ⟨v, hp⟩ : ∃ p, fs[j]? = some p := ⟨_, List.getElem?_eq_getElem hlt⟩
   obtain ⟨m, hm⟩ : ∃ m, fr[j]? = some m := ⟨_, List.getElem?_eq_getElem (by have := n2.lf; omega)⟩
   obtain ⟨a4, c4, _, q4, _, z4⟩ := n1.rowB (i := 20) (by decide) (s := 26) rfl n2.fresh (n := fs.length) rfl (by omega); obtain ⟨a7, c7, _, q7, _, z7⟩ := n1.rowB (i := 23) (by decide) (s := 29) rfl n2.from_ (n := fs.length) (by rw [nums_length]; exact n2.lf) (by omega)
   have y4 := z4 j _ hp; have y7 := z7 j _ (nums_at hm); clear z4 z7 hm
   have hk := n1.F.1; rw [drop_at hp] at hk; obtain ⟨kr, ⟨xs, hxl, hls⟩, hcu⟩ := hk.takef
   have hx_ : Xrel Kd.string 9 base 1002 bkT 55 g G ps os1 (fs.drop (j + 1)) turn deep seen (2 * N) D1 0 v xs.length w1 := ⟨L1, cs1, xs, rfl, by omega, hcu, n1.B, n1.S, ⟨kr, n1.F.2⟩, hls⟩
   obtain ⟨Al, cl, e_, hlc⟩ := hls.slice_; subst e_
   have HX := am hx_; have HP := am hp; have HDS := am n2; have HBD := am n3; have HOT := am n4; have HLN := am (fun i hi => (n1.B.row i hi).elim fun V hV => hV.2.1); clear hp n1 n2 n3 n4 hk kr hcu hls hx_ hxl hlc
   go_wp2
   clear q4 q7 y4 y7
   go_loopw [4, 5] (fun v4 v5 wr => ∃ (i : Nat) (Ax : Option Addr) (n cx : Nat), i ≤ 30 ∧ v5 = .int .i64 i ∧ v4 = .slice Ax n cx ∧ Aside0 (Xrel Kd.string 9 base 1002 bkT 55 g G ps os1 (fs.drop (j + 1)) turn deep seen (2 * N) D1 i (.slice Ax n cx) n wr)) (fun _ v5 _ => 30 - (intOf v5).toNat)
   case atStart => exact ⟨0, _, _, _, Nat.zero_le _, rfl, rfl, HX⟩
   case round =>
    clear HX
    obtain ⟨i, Ax, n, cx, hi, rfl, rfl, HX⟩ := hrel
    obtain ⟨w2, hwo⟩ : ∃ x, x = wr := ⟨_, rfl⟩; subst hwo
    obtain ⟨L2, cs2, ys, hyl, hyb, hcu, n0_⟩ := HX.out; have H2 := am n0_; have HYL := am hyl; have HYB := am hyb; have HCU := am hcu; clear HX n0_ hyl hyb hcu
    have HSTB : Aside0 (Stb Bl (fun L w => FK Kd.string 9 base 1002 G ps os1 (fs.drop (j + 1)) L w ∧ Ls Kd.string 9 base 1002 L w (.slice Ax n cx) ys)) := ⟨FKL.stb HFA.out (bl_big (by decide)) HG.out⟩
    by_cases hlq : i < 30
    ·skip
     have TB := am (HTB.out _ _ H2.out.F.1.2)
     go_wp2_with (first | (go_at_call 160; ((with_reducible refine (itoa_any _ _ TB.out).mono ?_); rintro e w3 ⟨st, rfl, hb⟩; have n0_ := H2.out.new HSTB.out 0 hb; obtain ⟨L3, hL3⟩ : ∃ z, z = lab1 L2 w2.heap.size 0 := ⟨_, rfl⟩; rw [← hL3] at n0_; have H3 := am n0_; clear hb n0_ hL3)) | ((with_reducible refine gate_builtin (b := .append) (xs := #[.tmp 33, .tmp 40]) rfl ?_); at_builtin; (refine wpList_append_ls (W := w3) (xs := ys) rfl (.tmp 33) (.tmp 40) 22 rfl HFA.out rfl rfl H3.out.F.2 (.string ⟨#[]⟩) 16 Tryz.underlying22 infoe9 rfl (by decide) (by decide) st [.string st] rfl (by have q1_ := H3.out.B.ge; have q2_ := blk_lt H3.out.B.blk; omega) (by have h1_ := HYL.out; have h2_ := HYB.out; omega) ?_; intro g1 w4 hl_ hg_; obtain ⟨A1, c1, e_, _⟩ := hl_.slice_; subst e_; have e2_ : ∀ z, (ys ++ [z]).length = n + 1 := (fun z => by rw [List.length_append, HYL.out]; rfl); rw [e2_] at hl_ hg_ ⊢; clear e2_; have n0_ := Xrel.app HFA.out (bl_big (by decide)) (by decide) HG.out H3.out HCU.out HYL.out HYB.out hl_ hg_; have HX := am n0_; clear n0_ hl_ hg_)))
     go_roundw
     case rel => exact ⟨i + 1, A1, n + 1, c1, by omega, by go_num, rfl, HX⟩
     case measure => simp [intOf]; omega
    ·obtain rfl : i = 30 := by omega
     obtain ⟨V2, hV2, hcv, hl2, ho2, _, hlb2⟩ := H2.out.row 16 (by decide) 22 rfl
     have HL2 := am hl2; have HO2 := am ho2; have HV2 := am hV2; have HB2 := am hlb2; clear hl2 ho2 hV2 hlb2
     go_upto_region 10 with (first | ((with_reducible refine gate_builtin (b := .append) (xs := #[.tmp 46, .tmp 48]) rfl ?_); at_builtin; (refine print_append_cells (w0 := w2) base rfl (.tmp 46) (.tmp 48) 31 22 (.slice none 0 0) 1 24 rfl Tryz.underlying31 infoo22 rfl (by decide) (by decide) V2 (D1 16).length (D1 16) [.slice Ax n cx] rfl rfl rfl ?a1 ?aO ?aB ?aS ?aL ?_; (case a1 => simp [Value.oneCell']); (case aO => exact HO2.out); (case aB => exact Below.refl _ _); (case aS => have q1_ := H2.out.B.ge; have q2_ := blk_lt H2.out.B.blk; omega); (case aL => have := HL2.out; have := HNN.out; omega); intro v1 wa ho hb hg hat; obtain ⟨A1, c1, he1⟩ := own_slice ho; subst he1; have BA := blk_a HO2.out H2.out.B.blk hg (by decide); have OV := am ho; have GV := am hg; have AV := am hat; clear ho hg hat hb hcv; have hfa : wa.frozen? ⟨g, 22, none⟩ = false := blk_frozen BA _; have hca : wa.cell? ⟨g, 22, none⟩ = some V2 := (blk_cell BA 22).trans HV2.out; clear BA)))
     have n0_ := H2.out.push HSTB.out (i := 16) (by decide) HV2.out GV.out OV.out AV.out; rw [show slot 16 = 22 from rfl] at n0_
     obtain ⟨w3, hw_⟩ : ∃ z, z = wa.setCell ⟨g, 22, none⟩ (.slice A1 ((D1 16).length + 1) c1) := ⟨_, rfl⟩; rw [← hw_] at n0_ ⊢; clear hw_
     generalize lab1 L2 w2.heap.size (400 + 16) = L3 at n0_; generalize cs2.setIfInBounds 22 (.slice A1 ((D1 16).length + 1) c1) = cs3 at n0_
     obtain ⟨D3, hD_⟩ : ∃ z, z = upd D1 16 (.slice Ax n cx) := ⟨_, rfl⟩; have n1_ := n0_.relD (D' := D3) hD_.symm; have HD3 := am hD_; have H3 := am n1_; clear n0_ n1_ hD_ OV GV AV HL2 HO2 HV2 HB2
     obtain ⟨V3, hV3, hcv, hl3, ho3, _, hlb3⟩ := H3.out.row 17 (by decide) 23 rfl
     have HL3 := am hl3; have HO3 := am ho3; have HV3 := am hV3; have HB3 := am hlb3; clear hl3 ho3 hV3 hlb3
     clear hcv
     refine wp_region_noPanic ?_
     refine wp_region_last_drew (S := fun W => W.heap[g]? = some (.cells cs3 55 (0, 0))) (ds := [12]) (by kernel_rfl) ?hS0 (fun hHeld => ?_)
     case hS0 => exact H3.out.B.blk
     refine tk 0 hHeld ?_
     try simp only [zp, zi, zz, zs]
     refine tk 1 hHeld ?_
     try simp only [zp, zi, zz, zs]
     refine tk 2 hHeld ?_
     try simp only [zp, zi, zz, zs]
     refine tk 3 hHeld ?_
     try simp only [zp, zi, zz, zs]
     refine tk 4 hHeld ?_ (hy := fun w_ hSw => by (try dsimp only at hSw); have G3__ := (blk_cell hSw 23).trans HV3.out; (try go_simp); (try with_reducible rfl))
     try simp only [zp, zi, zz, zs]
     refine tk 6 hHeld ?_
     try simp only [zp, zi, zz, zs]
     refine t1 5 (fun K hK => ?_)
     refine bs0_event (e := 9) (by rfl) ?hr7 (fun b0 hg0 w3_ hb0 hbl0 => ?_)
     case hr7 => (first | (go_simp; done) | (go_simp; rfl))
     have hSn := blk_below hHeld hbl0
     refine hK.out _ _ hSn (fun hHeld2 => ?_)
     clear hK K hHeld hSn; have hHeld := hHeld2; clear hHeld2
     try simp only [zp, zi, zz, zs]
     refine t1 7 (fun K hK => ?_)
     refine apn_event Kd.string (by rfl) w3.heap.size (.tmp 57) (.tmp 58) 22 rfl 9 (.string ⟨#[]⟩) 16 Tryz.underlying22 infoe9 rfl (by decide) (by decide) b0 rfl hb0 (by rw [hg0]; exact Nat.le_refl _) (fun _ _ _ _ h => h) Ax (n) cx rfl ys (Kd.C_below (w := w3.drew) (ls_Cn (H3.out.drew HSTB.out).F.2) hbl0) (by have h1_ := HYB.out; omega) (fun nv w4_ ho4 hbl4 => ?_)
     obtain ⟨An, cn, e_, hcn⟩ := ho4.slice_; subst e_
     have hB4 : Below w3.heap.size w3 w4_ := below_undrew (below_two hbl0 hbl4)
     have hg4 := blk_below hHeld hbl4; have hSn := hg4
     have hov4 := own_move HO3.out (fun k hk => hB4.block k (own_lt HO3.out k hk))
     refine hK.out _ _ hSn (fun hHeld2 => ?_)
     clear hK K hHeld hSn; have hHeld := hHeld2; clear hHeld2
     try simp only [zp, zi, zz, zs]
     refine t1 8 (fun K hK => ?_)
     refine val_event (w1 := w4_.alloc (.cells #[.slice An ys.length cn] 22)) (v := .slice (some ⟨w4_.heap.size, 0, none⟩) 1 1) (by rfl) ?hr9 ?_
     case hr9 => (first | (go_simp; done) | (go_simp; rfl))
     have hSn := (heap_alloc_old w4_ (.cells #[.slice An ys.length cn] 22) (blk_lt hg4)).trans hg4
     refine hK.out _ _ hSn (fun hHeld2 => ?_)
     clear hK K hHeld hSn; have hHeld := hHeld2; clear hHeld2
     try simp only [zp, zi, zz, zs]
     refine t1 9 (fun K hK => ?_)
     refine step_append_cells (w0 := w4_) base (by rfl) (.tmp 56) (.tmp 60) 31 22 (.slice none 0 0) 1 24 rfl Tryz.underlying31 infoo22 rfl (by decide) (by decide) V3 (D3 17).length (D3 17) [.slice An ys.length cn] rfl rfl rfl (by simp [Value.oneCell']) hov4 (Below.refl _ _) (by have q1_ := H3.out.B.ge; have q2_ := blk_lt hg4; omega) (by have := HL3.out; have := HNN.out; omega) (fun v1 w5_ ho5 hb5 hg5 hat5 => ?_)
     obtain ⟨A1, c1, he1⟩ := own_slice ho5; subst he1
     have hg5_ := blk_a hov4 hg4 hg5 (by decide); have hSn := hg5_
     refine hK.out _ _ hSn (fun hHeld2 => ?_)
     clear hK K hHeld hSn; have hHeld := hHeld2; clear hHeld2
     try simp only [zp, zi, zz, zs]
     refine tk 10 hHeld ?_
     try simp only [zp, zi, zz, zs]
     refine tk 11 hHeld ?_
     try simp only [zp, zi, zz, zs]
     refine t2 12 (fun K hK => ?_)
     refine raw_st (w1 := w5_.setCell ⟨g, 23, none⟩ (.slice A1 ((D3 17).length + 1) c1)) (by rfl) rfl ?hr13 ?_
     case hr13 => (have hca := (blk_cell hg5_ 23).trans HV3.out; have hfa := blk_frozen hg5_ 23; first | (go_simp; done) | (go_simp; rfl))
     refine hK.out _ _ ?_
     clear hK K
     try simp only [zp, zi, zz, zs]
     refine wpAnyLast_done (by kernel_rfl) ?_ _
     refine NoPanic.normal ?_
     obtain ⟨A_, c_, e_, hle_, hF_⟩ := firm_own (L := L3) ho4 (fun _ _ _ _ h => h)
     have h4_ := H3.out.new HSTB.out 0 hB4
     have h5_ := h4_.and (F2 := fun L w => Cpy Kd.string (.slice An ys.length cn) ys L w) ⟨A_, c_, e_, hle_, hF_⟩; have hst_ := HSTB.out.and (Cpy.stb (d := Kd.string) (u := .slice An ys.length cn) (xs := ys)); clear HSTB; have HSTB := am hst_; clear hst_
     have n0_ := h5_.push HSTB.out (i := 17) (by decide) HV3.out hg5 ho5 hat5; rw [show slot 17 = 23 from rfl] at n0_
     obtain ⟨w4, hw_⟩ : ∃ z, z = w5_.setCell ⟨g, 23, none⟩ (.slice A1 ((D3 17).length + 1) c1) := ⟨_, rfl⟩; rw [← hw_] at n0_ ⊢; clear hw_
     generalize lab1 (lab1 L3 w3.heap.size 0) w4_.heap.size (400 + 17) = L4 at n0_; generalize cs3.setIfInBounds 23 (.slice A1 ((D3 17).length + 1) c1) = cs4 at n0_
     obtain ⟨D4, hD_⟩ : ∃ z, z = upd D3 17 (.slice An ys.length cn) := ⟨_, rfl⟩; have n1_ := n0_.relD (D' := D4) hD_.symm; have HD4 := am hD_; have H4 := am n1_; clear n0_ n1_ hD_ h4_ h5_ hF_ hle_ hcn hg4 hg5_ hov4 hB4 ho4 hbl4 hb0 hbl0 hg0 ho5 hb5 hg5 hat5 HL3 HO3 HV3 HB3
     try go_wp2
     have n0_ := H4.out; rw [HD4.out, HD3.out] at n0_
     have HM := am (Grel.put HP.out HDS.out HBD.out HOT.out HLN.out (by have h1_ := HYL.out; have h2_ := HYB.out; omega) HCU.out n0_); clear n0_
     go_roundw
     case rel => exact ⟨j + 1, by omega, by go_num, HM⟩
     case measure => simp [intOf]; omega
  ·obtain rfl : j = fs.length := by omega
   obtain ⟨L1, cs1, D1, os1, n1, n2, n3, n4⟩ := HM.out
   obtain ⟨A4, c4, _, q4, f4⟩ := n1.rowN (i := 20) (by decide) (s := 26) rfl n2.fresh (n := fs.length) rfl; obtain ⟨A7, c7, _, q7, f7⟩ := n1.rowN (i := 23) (by decide) (s := 29) rfl n2.from_ (n := fs.length) (by rw [nums_length]; exact n2.lf)
   clear n1 n2 n3 n4
   go_wp2
   first | go_end0 | ((try simp only [Exit.inBlock, Exit.then]); refine bodyPost_ret (results_none rfl _ _ _) rfl ?_)
   exact HM.out.end_ (by decide) HFA.out (bl_big (by decide)) HG.out HLD.out
end Go.Proofs.YtfomjbbebgajcaaGreatDoor.Rm
