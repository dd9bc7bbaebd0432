/- packet.length: how many bytes a packet has behind its length. -/
import Derived.Test.YtndhkgfeknkfdaaGreatDoorMPacketChecksx
import Derived.Test.YtndhkgfeknkfdaaGreatDoorNum
namespace Go.Proofs.YtndhkgfeknkfdaaGreatDoor.Pk
open Go.RowKit Go.Proofs.YtndhkgfeknkfdaaGreatDoor.Giv Go.Proofs.YtndhkgfeknkfdaaGreatDoorW.PrintWords Go.Proofs.YtndhkgfeknkfdaaGreatDoorW.PrintLast Go.Proofs.YtndhkgfeknkfdaaGreatDoorW.PrintMore Go.Proofs.YtndhkgfeknkfdaaGreatDoor.MPacketChecks
set_option linter.unusedVariables false
set_option linter.unusedSimpArgs false
set_option maxHeartbeats 8000000
set_option maxRecDepth 100000
/-- what a part adds -/
def partV (b : Bool) (n l : Int) : Int := if b = true then n + 2 + l else n
/-- all but one block are as they were -/
def Only (w w' : World) (g : Nat) : Prop := (w'.os = w.os ∧ w'.tape = w.tape ∧ w'.output = w.output) ∧ KeepBut w w' g none
theorem Only.below {w0 w w' : World} {g : Nat} (h : Below w0.heap.size w0 w) (k : Only w w' g) (hg : w0.heap.size ≤ g) : Below w0.heap.size w0 w' :=
  ⟨k.1.1.trans h.os, k.1.2.1.trans h.tape, k.1.2.2.trans h.output, Nat.le_trans h.size k.2.1, fun i hi => (k.2.2 i (Nat.lt_of_lt_of_le hi h.size) (by omega) (by simp)).trans (h.block i hi)⟩
theorem Only.blk {w w' : World} {g gb : Nat} {o : Obj} (k : Only w w' g) (h : w.heap[gb]? = some o) (hne : gb ≠ g) : w'.heap[gb]? = some o := (k.2.2 gb (blk_lt h) hne (by simp)).trans h
theorem part_calls (b : Bool) (l n : Int) (gn : Nat) (w : World) (h0 : 0 ≤ n) (h1 : n ≤ 4611686018427387904) (h2 : 0 ≤ l) (h3 : l ≤ 2305843009213693952)
    (hn : w.heap[gn]? = some (.cells #[.int .i64 n] 3 (0, 0))) :
    Calls Tryz.prog 151 #[.bool b, .int .i64 l, .pointer (some ⟨gn, 0, none⟩)] w fun e w' => e = .returned (.tuple #[]) ∧ ∃ n' : Int, Aside0 (n' = partV b n l) ∧ n ≤ n' ∧ n' ≤ n + 2 + l ∧ w'.heap[gn]? = some (.cells #[.int .i64 n'] 3 (0, 0)) ∧ Only w w' gn := by
  have hc : w.cell? ⟨gn, 0, none⟩ = some (.int .i64 n) := (blk_cell hn 0).trans rfl
  have hf : w.frozen? ⟨gn, 0, none⟩ = false := blk_frozen hn 0
  have HN := Aside0.mk hn
  clear hn
  cases b with
  | true =>
    go_enter Tryz.func151, Tryz.ntmps151
    go_wp2
    first | go_end0 | ((try simp only [Exit.inBlock, Exit.then]); refine bodyPost_ret (results_none rfl _ _ _) rfl ?_)
    refine ⟨rfl, n + 2 + l, ⟨rfl⟩, by omega, by omega, blk_put HN.out 0 _ ?_, ⟨rfl, rfl, rfl⟩, (KeepBut.refl _ _ _).set_ _ _⟩
    show #[Value.int IntKind.i64 (n + (2 + l))] = #[Value.int IntKind.i64 (n + 2 + l)]
    rw [show n + (2 + l) = n + 2 + l from by omega]
  | false =>
    go_enter Tryz.func151, Tryz.ntmps151
    go_wp2
    first | go_end0 | ((try simp only [Exit.inBlock, Exit.then]); refine bodyPost_ret (results_none rfl _ _ _) rfl ?_)
    exact ⟨rfl, n, ⟨rfl⟩, by omega, by omega, HN.out, ⟨rfl, rfl, rfl⟩, KeepBut.refl _ _ _⟩

/-- the bytes of filters that are asked for; of filters -/
def sumA (l : List S82) : Int := l.foldr (fun x s => 3 + (x.f0.size : Int) + s) 0
def sumT (l : List ByteArray) : Int := l.foldr (fun x s => 2 + (x.size : Int) + s) 0
theorem sumA_app (a b : List S82) : sumA (a ++ b) = sumA a + sumA b := by induction a with
  | nil => simp [sumA]
  | cons x a ih => simp only [sumA, List.cons_append, List.foldr_cons] at *; omega
theorem sumT_app (a b : List ByteArray) : sumT (a ++ b) = sumT a + sumT b := by induction a with
  | nil => simp [sumT]
  | cons x a ih => simp only [sumT, List.cons_append, List.foldr_cons] at *; omega
theorem sumA_len (l : List S82) : (l.length : Int) ≤ sumA l := by induction l with
  | nil => simp [sumA]
  | cons x a ih => simp only [sumA, List.foldr_cons, List.length_cons] at *; omega
theorem sumT_len (l : List ByteArray) : (l.length : Int) ≤ sumT l := by induction l with
  | nil => simp [sumT]
  | cons x a ih => simp only [sumT, List.foldr_cons, List.length_cons] at *; omega
theorem take_at {α : Type} (l : List α) (z : α) (x : Int) (h0 : 0 ≤ x) (h1 : x < l.length) : l.take (x + 1).toNat = l.take x.toNat ++ [l.getD x.toNat z] := by
  have e : (x + 1).toNat = x.toNat + 1 := by omega
  have hl : x.toNat < l.length := by omega
  rw [e, List.take_succ_eq_append_getElem hl, List.getD_eq_getElem?_getD, List.getElem?_eq_getElem hl]; rfl
theorem sumA_step (l : List S82) (x : Int) (h0 : 0 ≤ x) (h1 : x < l.length) : sumA (l.take (x + 1).toNat) = sumA (l.take x.toNat) + 2 + ((rd_T82 l x).f0.size + 1) := by
  rw [take_at l z82 x h0 h1, sumA_app]; show _ + (3 + ((l.getD x.toNat z82).f0.size : Int) + 0) = _ + 2 + (((l.getD x.toNat z82).f0.size : Int) + 1); omega
theorem sumA_le (l : List S82) (k : Nat) : 0 ≤ sumA (l.take k) ∧ sumA (l.take k) ≤ sumA l := by
  have h := sumA_app (l.take k) (l.drop k); rw [List.take_append_drop] at h
  have h1 := sumA_len (l.take k); have h2 := sumA_len (l.drop k); omega
theorem sumT_step (l : List ByteArray) (x : Int) (h0 : 0 ≤ x) (h1 : x < l.length) : sumT (l.take (x + 1).toNat) = sumT (l.take x.toNat) + 2 + ((rdOf ByteArray.empty l x).size) := by
  rw [take_at l ByteArray.empty x h0 h1, sumT_app]; show _ + (2 + ((l.getD x.toNat ByteArray.empty).size : Int) + 0) = _ + 2 + (((l.getD x.toNat ByteArray.empty).size : Int)); omega
theorem sumT_le (l : List ByteArray) (k : Nat) : 0 ≤ sumT (l.take k) ∧ sumT (l.take k) ≤ sumT l := by
  have h := sumT_app (l.take k) (l.drop k); rw [List.take_append_drop] at h
  have h1 := sumT_len (l.take k); have h2 := sumT_len (l.drop k); omega
def len1 (b1 b5 b10 b12 : Bool) (s4 s6 s7 s11 s13 : Int) : Int := if b1 = true then partV b12 (partV b10 (partV b5 (partV b5 (partV true 10 s4) s6) s7) s11) s13 else 0
def lenV (b1 b2 b4 nb b5 b10 b12 : Bool) (s4 s6 s7 s11 s13 s17 s18 : Int) (l22 : List S82) (l24 : List ByteArray) (s23 : Int) : Int :=
  partV nb (if b4 = true then partV true s18 s17 else if b2 = true then 2 else len1 b1 b5 b10 b12 s4 s6 s7 s11 s13) 0 + sumA l22 + sumT l24 + s23
theorem length_calls (a0 : Int) (a1 : Int) (a2 : Bool) (a3 : Int) (a4 : ByteArray) (a5 : Bool) (a6 : ByteArray) (A7 : Option Addr) (c7 : Nat) (l7 : List Int) (a8 : Int) (a9 : Bool) (a10 : Bool) (a11 : ByteArray) (a12 : Bool) (A13 : Option Addr) (c13 : Nat) (l13 : List Int) (a14 : Bool) (a15 : Int) (a16 : Bool) (a17 : ByteArray) (A18 : Option Addr) (c18 : Nat) (l18 : List Int) (a19 : Int) (a20 : Bool) (a21 : Int) (A22 : Option Addr) (c22 : Nat) (l22 : List S82) (A23 : Option Addr) (c23 : Nat) (l23 : List Int) (A24 : Option Addr) (c24 : Nat) (l24 : List ByteArray) (h : Int) (b1 b2 b4 : Bool) (e1 : decide (0 < bits BinOp.and IntKind.i64 h 1) = b1) (e2 : decide (0 < bits BinOp.and IntKind.i64 h 2) = b2) (e4 : decide (0 < bits BinOp.and IntKind.i64 h 4) = b4) (w : World) (hT : HasT w) (h1 : 1 ≤ a0) (h2 : a0 ≤ 14) (hh : h = hasL.getD a0.toNat 0)
    (hS : (a4.size : Int) + a6.size + l7.length + a11.size + l13.length + a17.size + l18.length + l23.length + sumA l22 + sumT l24 ≤ 1125899906842624)
    (hr22 : Kd.C k82 w A22 l22.length l22) (hc22 : l22.length ≤ c22) (hr24 : Kd.C Kd.string w A24 l24.length l24) (hc24 : l24.length ≤ c24) (R : Int) (hR : R = lenV b1 b2 b4 (numberedV a0 a19) a5 a10 a12 a4.size a6.size l7.length a11.size l13.length a17.size l18.length l22 l24 l23.length) :
    Calls Tryz.prog 99 #[.agg #[.int .i64 a0, .int .i64 a1, .bool a2, .int .i64 a3, .string a4, .bool a5, .string a6, .slice A7 l7.length c7, .int .i64 a8, .bool a9, .bool a10, .string a11, .bool a12, .slice A13 l13.length c13, .bool a14, .int .i64 a15, .bool a16, .string a17, .slice A18 l18.length c18, .int .i64 a19, .bool a20, .int .i64 a21, .slice A22 l22.length c22, .slice A23 l23.length c23, .slice A24 l24.length c24]] w fun e w' => e = .returned (.int .i64 R) ∧ Below w.heap.size w w' := by
  have HRR := Aside0.mk hR
  clear hR
  have hu29 := Tryz.underlying29
  have hu24 := Tryz.underlying24
  have HG := Aside0.mk (show w.cell? ⟨0, a0.toNat, none⟩ = some (.int .i64 h) by rw [hh]; exact hT a0.toNat (by omega))
  have HT := Aside0.mk hT
  have H1 := Aside0.mk h1
  have H2 := Aside0.mk h2
  have E1 := Aside0.mk e1
  have E2 := Aside0.mk e2
  have E4 := Aside0.mk e4
  have p : (0 ≤ a0) = True := eq_true (by omega)
  have q : (a0 < 15) = True := eq_true (by omega)
  have HR22 := Aside0.mk hr22
  have HR24 := Aside0.mk hr24
  have HS := Aside0.mk hS
  clear hT h1 h2 hh e1 e2 e4 hr22 hc22 hr24 hc24
  have A22s := sumA_len l22
  have A24s := sumT_len l24
  have hu82 := Tryz.underlying82
  have HB := Aside0.mk (Below.refl w.heap.size w)
  go_enter Tryz.func99, Tryz.ntmps99
  go_upto_region 2 with (first | ((with_reducible refine gate_dst (N := 1) rfl ?_); refine box_event ?hg (N := 1) ?hd (cs := #[.int .i64 a0, .int .i64 a1, .bool a2, .int .i64 a3, .string a4, .bool a5, .string a6, .slice A7 l7.length c7, .int .i64 a8, .bool a9, .bool a10, .string a11, .bool a12, .slice A13 l13.length c13, .bool a14, .int .i64 a15, .bool a16, .string a17, .slice A18 l18.length c18, .int .i64 a19, .bool a20, .int .i64 a21, .slice A22 l22.length c22, .slice A23 l23.length c23, .slice A24 l24.length c24]) (t := 29) ?hr ?_; (case hd => rfl); (case hg => rfl); (case hr => first | (go_simp; done) | (go_simp; rfl)); intro gb hg w3 hbox hb; have n0_ := Aside0.mk (below_step (by repeat (first | (with_reducible first | exact HB.out | apply below_alloc | apply pw_below_drewN | apply below_drew1) | exact HB.out)) hb); clear HB; have HB := n0_; clear n0_; have BK := Aside0.mk hbox; have GB := Aside0.mk (blk_lt hbox); clear hb hbox hg))
  have BN := Aside0.mk (blk_new w3 (.cells #[.int .i64 0] 3 (0, 0)))
  have n0_ := Aside0.mk (below_alloc HB.out (.cells #[.int .i64 0] 3 (0, 0)))
  have n1_ := Aside0.mk (blk_alloc BK.out (.cells #[.int .i64 0] 3 (0, 0)))
  have GW := Aside0.mk HB.out.size
  have NE := Aside0.mk (Nat.ne_of_lt GB.out)
  clear HB BK
  have HB := n0_
  have BK := n1_
  clear n0_ n1_ GB
  generalize (w3.alloc (.cells #[.int .i64 0] 3 (0, 0))) = w4 at *
  generalize w3.heap.size = gn at *
  have hG : w4.cell? ⟨0, a0.toNat, none⟩ = some (.int .i64 h) := (Below.cell HB.out (p := ⟨0, a0.toNat, none⟩) (Cr_cell_lt HG.out)).trans HG.out
  have hz0 : w4.cell? ⟨gb, 0, none⟩ = some (.int .i64 a0) := (blk_cell BK.out 0).trans rfl
  go_upto_if 17 with (fail)
  rw [E1.out]
  clear hG p q hz0
  go_cut [] (fun wc => ∃ n : Int, 0 ≤ n ∧ n ≤ 4503599627370496 ∧ Aside0 (n = (len1 b1 a5 a10 a12 a4.size a6.size l7.length a11.size l13.length)) ∧ Aside0 (wc.heap[gn]? = some (.cells #[.int .i64 n] 3 (0, 0))) ∧ Aside0 (wc.heap[gb]? = some (.cells #[.int .i64 a0, .int .i64 a1, .bool a2, .int .i64 a3, .string a4, .bool a5, .string a6, .slice A7 l7.length c7, .int .i64 a8, .bool a9, .bool a10, .string a11, .bool a12, .slice A13 l13.length c13, .bool a14, .int .i64 a15, .bool a16, .string a17, .slice A18 l18.length c18, .int .i64 a19, .bool a20, .int .i64 a21, .slice A22 l22.length c22, .slice A23 l23.length c23, .slice A24 l24.length c24] 29 (0, 0))) ∧ Aside0 (Below w.heap.size w wc))
  case first =>
    cases b1 with
    | true =>
      as_aux_lemma =>
      have hf : w4.frozen? ⟨gn, 0, none⟩ = false := blk_frozen BN.out 0
      have hs : w4.cell? ⟨gn, 0, none⟩ = some (.int .i64 0) := (blk_cell BN.out 0).trans rfl
      go_upto_region 6 with (fail)
      clear hs
      have n0_ := Aside0.mk (below_set (j := 0) (v := .int .i64 (10)) HB.out GW.out)
      have n1_ := Aside0.mk (blk_far (p := ⟨gn, 0, none⟩) BK.out NE.out (.int .i64 (10)))
      have n2_ := Aside0.mk (blk_put (cs' := #[.int .i64 (10)]) BN.out 0 (.int .i64 (10)) rfl)
      clear HB BK BN hf
      have HB := n0_
      have BK := n1_
      have BN := n2_
      clear n0_ n1_ n2_
      generalize (w4.setCell ⟨gn, 0, none⟩ (.int .i64 (10))) = w5 at *
      have hz4 : w5.cell? ⟨gb, 4, none⟩ = some (.string a4) := (blk_cell BK.out 4).trans rfl
      go_wp2_with fail
      refine (part_calls _ _ _ gn _ ?p0 ?p1 ?p2 ?p3 BN.out).mono ?_
      all_goals first | (case p0 => omega) | (case p1 => omega) | (case p2 => omega) | (case p3 => omega) | skip
      rintro e w11 ⟨rfl, n1, en1, ln1, un1, hn9, hk⟩
      have n0_ := Aside0.mk (Only.below (by repeat (first | (with_reducible first | exact HB.out | apply below_alloc | apply pw_below_drewN | apply below_drew1) | exact HB.out)) hk GW.out)
      have n1_ := Aside0.mk (hk.blk (by first | exact BK.out | exact blk_drewN BK.out _) NE.out)
      clear HB BK BN hz4
      have HB := n0_
      have BK := n1_
      have BN := Aside0.mk hn9
      clear n0_ n1_ hn9 hk
      have hz5 : w11.cell? ⟨gb, 5, none⟩ = some (.bool a5) := (blk_cell BK.out 5).trans rfl; have hz6 : w11.cell? ⟨gb, 6, none⟩ = some (.string a6) := (blk_cell BK.out 6).trans rfl
      go_wp2_with fail
      refine (part_calls _ _ _ gn _ ?p0 ?p1 ?p2 ?p3 BN.out).mono ?_
      all_goals first | (case p0 => omega) | (case p1 => omega) | (case p2 => omega) | (case p3 => omega) | skip
      rintro e w12 ⟨rfl, n2, en2, ln2, un2, hn9, hk⟩
      have n0_ := Aside0.mk (Only.below (by repeat (first | (with_reducible first | exact HB.out | apply below_alloc | apply pw_below_drewN | apply below_drew1) | exact HB.out)) hk GW.out)
      have n1_ := Aside0.mk (hk.blk (by first | exact BK.out | exact blk_drewN BK.out _) NE.out)
      clear HB BK BN hz5 hz6
      have HB := n0_
      have BK := n1_
      have BN := Aside0.mk hn9
      clear n0_ n1_ hn9 hk
      have hz5 : w12.cell? ⟨gb, 5, none⟩ = some (.bool a5) := (blk_cell BK.out 5).trans rfl; have hz7 : w12.cell? ⟨gb, 7, none⟩ = some (.slice A7 l7.length c7) := (blk_cell BK.out 7).trans rfl
      go_wp2_with fail
      refine (part_calls _ _ _ gn _ ?p0 ?p1 ?p2 ?p3 BN.out).mono ?_
      all_goals first | (case p0 => omega) | (case p1 => omega) | (case p2 => omega) | (case p3 => omega) | skip
      rintro e w13 ⟨rfl, n3, en3, ln3, un3, hn9, hk⟩
      have n0_ := Aside0.mk (Only.below (by repeat (first | (with_reducible first | exact HB.out | apply below_alloc | apply pw_below_drewN | apply below_drew1) | exact HB.out)) hk GW.out)
      have n1_ := Aside0.mk (hk.blk (by first | exact BK.out | exact blk_drewN BK.out _) NE.out)
      clear HB BK BN hz5 hz7
      have HB := n0_
      have BK := n1_
      have BN := Aside0.mk hn9
      clear n0_ n1_ hn9 hk
      have hz10 : w13.cell? ⟨gb, 10, none⟩ = some (.bool a10) := (blk_cell BK.out 10).trans rfl; have hz11 : w13.cell? ⟨gb, 11, none⟩ = some (.string a11) := (blk_cell BK.out 11).trans rfl
      go_wp2_with fail
      refine (part_calls _ _ _ gn _ ?p0 ?p1 ?p2 ?p3 BN.out).mono ?_
      all_goals first | (case p0 => omega) | (case p1 => omega) | (case p2 => omega) | (case p3 => omega) | skip
      rintro e w14 ⟨rfl, n4, en4, ln4, un4, hn9, hk⟩
      have n0_ := Aside0.mk (Only.below (by repeat (first | (with_reducible first | exact HB.out | apply below_alloc | apply pw_below_drewN | apply below_drew1) | exact HB.out)) hk GW.out)
      have n1_ := Aside0.mk (hk.blk (by first | exact BK.out | exact blk_drewN BK.out _) NE.out)
      clear HB BK BN hz10 hz11
      have HB := n0_
      have BK := n1_
      have BN := Aside0.mk hn9
      clear n0_ n1_ hn9 hk
      have hz12 : w14.cell? ⟨gb, 12, none⟩ = some (.bool a12) := (blk_cell BK.out 12).trans rfl; have hz13 : w14.cell? ⟨gb, 13, none⟩ = some (.slice A13 l13.length c13) := (blk_cell BK.out 13).trans rfl
      go_wp2_with fail
      refine (part_calls _ _ _ gn _ ?p0 ?p1 ?p2 ?p3 BN.out).mono ?_
      all_goals first | (case p0 => omega) | (case p1 => omega) | (case p2 => omega) | (case p3 => omega) | skip
      rintro e w15 ⟨rfl, n5, en5, ln5, un5, hn9, hk⟩
      have n0_ := Aside0.mk (Only.below (by repeat (first | (with_reducible first | exact HB.out | apply below_alloc | apply pw_below_drewN | apply below_drew1) | exact HB.out)) hk GW.out)
      have n1_ := Aside0.mk (hk.blk (by first | exact BK.out | exact blk_drewN BK.out _) NE.out)
      clear HB BK BN hz12 hz13
      have HB := n0_
      have BK := n1_
      have BN := Aside0.mk hn9
      clear n0_ n1_ hn9 hk
      go_wp2
      go_meet
      case rel => exact ⟨n5, by omega, by omega, ⟨by rw [en5.out, en4.out, en3.out, en2.out, en1.out]; rfl⟩, BN, BK, HB⟩
    | false =>
      go_wp2
      go_meet
      case rel => exact ⟨0, by omega, by omega, ⟨rfl⟩, BN, BK, HB⟩
  case rest =>
    clear HB BK BN
    obtain ⟨n1, g1, u1, EN1, BN, BK, HB⟩ := hcut
    go_upto_if 55 with (fail)
    rw [E2.out]
    generalize wc = w5 at *
    go_cut [] (fun wc => ∃ n : Int, 0 ≤ n ∧ n ≤ 4503599627370496 ∧ Aside0 (n = (if b2 = true then 2 else n1)) ∧ Aside0 (wc.heap[gn]? = some (.cells #[.int .i64 n] 3 (0, 0))) ∧ Aside0 (wc.heap[gb]? = some (.cells #[.int .i64 a0, .int .i64 a1, .bool a2, .int .i64 a3, .string a4, .bool a5, .string a6, .slice A7 l7.length c7, .int .i64 a8, .bool a9, .bool a10, .string a11, .bool a12, .slice A13 l13.length c13, .bool a14, .int .i64 a15, .bool a16, .string a17, .slice A18 l18.length c18, .int .i64 a19, .bool a20, .int .i64 a21, .slice A22 l22.length c22, .slice A23 l23.length c23, .slice A24 l24.length c24] 29 (0, 0))) ∧ Aside0 (Below w.heap.size w wc))
    case first =>
      cases b2 with
      | true =>
        have hf : w5.frozen? ⟨gn, 0, none⟩ = false := blk_frozen BN.out 0
        have hs : w5.cell? ⟨gn, 0, none⟩ = some (.int .i64 n1) := (blk_cell BN.out 0).trans rfl
        go_wp2
        go_meet
        case rel => exact ⟨2, by omega, by omega, ⟨rfl⟩, ⟨blk_put (cs' := #[.int .i64 2]) BN.out 0 _ rfl⟩, ⟨blk_far (p := ⟨gn, 0, none⟩) BK.out NE.out _⟩, ⟨below_set HB.out GW.out⟩⟩
      | false =>
        go_wp2
        go_meet
        case rel => exact ⟨n1, by omega, by omega, ⟨rfl⟩, BN, BK, HB⟩
    case rest =>
      clear HB BK BN
      obtain ⟨n2, g2, u2, EN2_, BN, BK, HB⟩ := hcut
      go_upto_if 58 with (fail)
      rw [E4.out]
      generalize wc = w6 at *
      go_cut [] (fun wc => ∃ n : Int, 0 ≤ n ∧ n ≤ 4503599627370496 ∧ Aside0 (n = (if b4 = true then partV true l18.length a17.size else n2)) ∧ Aside0 (wc.heap[gn]? = some (.cells #[.int .i64 n] 3 (0, 0))) ∧ Aside0 (wc.heap[gb]? = some (.cells #[.int .i64 a0, .int .i64 a1, .bool a2, .int .i64 a3, .string a4, .bool a5, .string a6, .slice A7 l7.length c7, .int .i64 a8, .bool a9, .bool a10, .string a11, .bool a12, .slice A13 l13.length c13, .bool a14, .int .i64 a15, .bool a16, .string a17, .slice A18 l18.length c18, .int .i64 a19, .bool a20, .int .i64 a21, .slice A22 l22.length c22, .slice A23 l23.length c23, .slice A24 l24.length c24] 29 (0, 0))) ∧ Aside0 (Below w.heap.size w wc))
      case first =>
        cases b4 with
        | true =>
          as_aux_lemma =>
          have hf : w6.frozen? ⟨gn, 0, none⟩ = false := blk_frozen BN.out 0
          have hs : w6.cell? ⟨gn, 0, none⟩ = some (.int .i64 n2) := (blk_cell BN.out 0).trans rfl
          have hz18 : w6.cell? ⟨gb, 18, none⟩ = some (.slice A18 l18.length c18) := (blk_cell BK.out 18).trans rfl
          go_upto_region 15 with (fail)
          clear hs hz18
          have n0_ := Aside0.mk (below_set (j := 0) (v := .int .i64 (l18.length)) HB.out GW.out)
          have n1_ := Aside0.mk (blk_far (p := ⟨gn, 0, none⟩) BK.out NE.out (.int .i64 (l18.length)))
          have n2_ := Aside0.mk (blk_put (cs' := #[.int .i64 (l18.length)]) BN.out 0 (.int .i64 (l18.length)) rfl)
          clear HB BK BN hf
          have HB := n0_
          have BK := n1_
          have BN := n2_
          clear n0_ n1_ n2_
          generalize (w6.setCell ⟨gn, 0, none⟩ (.int .i64 (l18.length))) = w66 at *
          have hz17 : w66.cell? ⟨gb, 17, none⟩ = some (.string a17) := (blk_cell BK.out 17).trans rfl
          go_wp2_with fail
          refine (part_calls _ _ _ gn _ ?p0 ?p1 ?p2 ?p3 BN.out).mono ?_
          all_goals first | (case p0 => omega) | (case p1 => omega) | (case p2 => omega) | (case p3 => omega) | skip
          rintro e w16 ⟨rfl, n6, en6, ln6, un6, hn9, hk⟩
          have n0_ := Aside0.mk (Only.below (by repeat (first | (with_reducible first | exact HB.out | apply below_alloc | apply pw_below_drewN | apply below_drew1) | exact HB.out)) hk GW.out)
          have n1_ := Aside0.mk (hk.blk (by first | exact BK.out | exact blk_drewN BK.out _) NE.out)
          clear HB BK BN hz17
          have HB := n0_
          have BK := n1_
          have BN := Aside0.mk hn9
          clear n0_ n1_ hn9 hk
          go_wp2
          go_meet
          case rel => exact ⟨n6, by omega, by omega, ⟨by rw [en6.out]; rfl⟩, BN, BK, HB⟩
        | false =>
          go_wp2
          go_meet
          case rel => exact ⟨n2, by omega, by omega, ⟨rfl⟩, BN, BK, HB⟩
      case rest =>
        clear HB BK BN
        obtain ⟨n3, g3, u3, EN3_, BN, BK, HB⟩ := hcut
        obtain ⟨w7, hw7⟩ : ∃ x, x = wc := ⟨_, rfl⟩
        subst hw7
        go_wp2_with (first | ((with_reducible refine gate_dst (N := 70) rfl ?_); refine wpList_load_row rfl 29 (.tmp 1) rfl gb rfl 29 #[.int .i64 a0, .int .i64 a1, .bool a2, .int .i64 a3, .string a4, .bool a5, .string a6, .slice A7 l7.length c7, .int .i64 a8, .bool a9, .bool a10, .string a11, .bool a12, .slice A13 l13.length c13, .bool a14, .int .i64 a15, .bool a16, .string a17, .slice A18 l18.length c18, .int .i64 a19, .bool a20, .int .i64 a21, .slice A22 l22.length c22, .slice A23 l23.length c23, .slice A24 l24.length c24] (0, 0) _ BK.out hu29 rfl (by kernel_rfl) ?_) | fail)
        refine (numbered_calls a0 a1 a2 a3 a4 a5 a6 A7 l7.length c7 a8 a9 a10 a11 a12 A13 l13.length c13 a14 a15 a16 a17 A18 l18.length c18 a19 a20 a21 A22 l22.length c22 A23 l23.length c23 A24 l24.length c24 _ (HT.out.below (by repeat (first | (with_reducible first | exact HB.out | apply below_alloc | apply pw_below_drewN | apply below_drew1) | exact HB.out))) H1.out H2.out).mono ?_
        rintro e w8 ⟨rfl, hb⟩
        have n0_ := Aside0.mk (below_step HB.out hb)
        have n1_ := Aside0.mk (blk_below BK.out hb)
        have n2_ := Aside0.mk (blk_below BN.out hb)
        clear HB BK BN
        have HB := n0_
        have BK := n1_
        have BN := n2_
        clear n0_ n1_ n2_ hb
        go_wp2_with fail
        refine (part_calls _ _ _ gn _ ?p0 ?p1 ?p2 ?p3 BN.out).mono ?_
        all_goals first | (case p0 => omega) | (case p1 => omega) | (case p2 => omega) | (case p3 => omega) | skip
        rintro e w17 ⟨rfl, n7, en7, ln7, un7, hn9, hk⟩
        have n0_ := Aside0.mk (Only.below (by repeat (first | (with_reducible first | exact HB.out | apply below_alloc | apply pw_below_drewN | apply below_drew1) | exact HB.out)) hk GW.out)
        have n1_ := Aside0.mk (hk.blk (by first | exact BK.out | exact blk_drewN BK.out _) NE.out)
        clear HB BK BN
        have HB := n0_
        have BK := n1_
        have BN := Aside0.mk hn9
        clear n0_ n1_ hn9 hk
        have hz22 : w17.cell? ⟨gb, 22, none⟩ = some (.slice A22 l22.length c22) := (blk_cell BK.out 22).trans rfl
        go_wp2_with fail
        clear hz22
        go_loopw [76] (fun v wr => ∃ x n : Int, v = .int .i64 x ∧ 0 ≤ x ∧ x ≤ l22.length ∧ Aside0 (n = n7 + sumA (l22.take x.toNat)) ∧ Aside0 (wr.heap[gn]? = some (.cells #[.int .i64 n] 3 (0, 0))) ∧ Aside0 (wr.heap[gb]? = some (.cells #[.int .i64 a0, .int .i64 a1, .bool a2, .int .i64 a3, .string a4, .bool a5, .string a6, .slice A7 l7.length c7, .int .i64 a8, .bool a9, .bool a10, .string a11, .bool a12, .slice A13 l13.length c13, .bool a14, .int .i64 a15, .bool a16, .string a17, .slice A18 l18.length c18, .int .i64 a19, .bool a20, .int .i64 a21, .slice A22 l22.length c22, .slice A23 l23.length c23, .slice A24 l24.length c24] 29 (0, 0))) ∧ Aside0 (Below w.heap.size w wr)) (fun v _ => l22.length - (intOf v).toNat)
        case atStart => exact ⟨0, n7, rfl, by omega, by omega, ⟨by simp [sumA]⟩, BN, BK, HB⟩
        case round =>
          clear BN BK HB
          obtain ⟨x, n, rfl, hx0, hx1, EN, BN, BK, HB⟩ := hrel
          obtain ⟨wo, hwo⟩ : ∃ x, x = wr := ⟨_, rfl⟩
          subst hwo
          by_cases hlt : x < l22.length
          · as_aux_lemma =>
            obtain ⟨ad, e, hy0, hy1⟩ := at_T82 HR22.out x hx0 hlt
            cases e
            replace hy0 := (HB.out.cell (World.block_lt_of_cell? w _ hy0)).trans hy0
            replace hy1 := (HB.out.cell (World.block_lt_of_cell? w _ hy1)).trans hy1
            have ST := Aside0.mk (sumA_step l22 x hx0 hlt)
            have hb1 := (sumA_le l22 x.toNat)
            have hb2 := (sumA_le l22 (x + 1).toNat)
            rw [ST.out] at hb2
            have hn0 : 0 ≤ n ∧ n ≤ 4611686018427387904 - 1125899906842624 := by have := EN.out; omega
            have hs2 : 0 ≤ ((rd_T82 l22 x).f0.size : Int) ∧ ((rd_T82 l22 x).f0.size : Int) ≤ 1125899906842624 := by omega
            have hn1 := hn0.1
            have hn2 := hn0.2
            have hs3 := hs2.2
            clear hb1 hb2 hn0 hs2
            go_wp2_with fail
            refine (part_calls _ _ n gn _ ?p0 ?p1 ?p2 ?p3 (blk_alloc BN.out _)).mono ?_
            all_goals first | (case p0 => omega) | (case p1 => omega) | (case p2 => omega) | (case p3 => omega) | skip
            rintro e w9 ⟨rfl, n', en, ln, un, hn9, hk⟩
            have n0_ := Aside0.mk (Only.below (below_alloc HB.out _) hk GW.out)
            have n1_ := Aside0.mk (hk.blk (blk_alloc BK.out _) NE.out)
            clear HB BK BN hy0 hy1
            have HB := n0_
            have BK := n1_
            have BN := Aside0.mk hn9
            clear n0_ n1_ hn9 hk
            go_wp2
            go_roundw
            case rel => exact ⟨x + 1, n', rfl, by omega, by omega, ⟨by rw [en.out, EN.out, ST.out]; unfold partV; rw [if_pos rfl]; omega⟩, BN, BK, HB⟩
            case measure => simp [intOf]; omega
          · have hxe : x = l22.length := by omega
            have EN2 := Aside0.mk (show n = n7 + sumA l22 by rw [EN.out, hxe]; simp)
            clear EN hxe
            have hsl := sumA_len l22
            have hn0 : 0 ≤ n ∧ n ≤ n7 + 1125899906842624 := by have := EN2.out; omega
            have hn1 := hn0.1
            have hn2 := hn0.2
            clear hn0
            have EN1_ := EN1
            have hz24 : wo.cell? ⟨gb, 24, none⟩ = some (.slice A24 l24.length c24) := (blk_cell BK.out 24).trans rfl
            go_wp2_with fail
            clear hz24
            go_loopw [90] (fun v wr => ∃ x n8 : Int, v = .int .i64 x ∧ 0 ≤ x ∧ x ≤ l24.length ∧ Aside0 (n8 = n + sumT (l24.take x.toNat)) ∧ Aside0 (wr.heap[gn]? = some (.cells #[.int .i64 n8] 3 (0, 0))) ∧ Aside0 (wr.heap[gb]? = some (.cells #[.int .i64 a0, .int .i64 a1, .bool a2, .int .i64 a3, .string a4, .bool a5, .string a6, .slice A7 l7.length c7, .int .i64 a8, .bool a9, .bool a10, .string a11, .bool a12, .slice A13 l13.length c13, .bool a14, .int .i64 a15, .bool a16, .string a17, .slice A18 l18.length c18, .int .i64 a19, .bool a20, .int .i64 a21, .slice A22 l22.length c22, .slice A23 l23.length c23, .slice A24 l24.length c24] 29 (0, 0))) ∧ Aside0 (Below w.heap.size w wr)) (fun v _ => l24.length - (intOf v).toNat)
            case atStart => exact ⟨0, n, rfl, by omega, by omega, ⟨by simp [sumT]⟩, BN, BK, HB⟩
            case round =>
              clear BN BK HB
              obtain ⟨y, n8, rfl, hx0, hx1, EN, BN, BK, HB⟩ := hrel
              obtain ⟨wp, hwp⟩ : ∃ x, x = wr := ⟨_, rfl⟩
              subst hwp
              by_cases hlt : y < l24.length
              · as_aux_lemma =>
                obtain ⟨ad, e, hy0⟩ := Kd.at_string HR24.out y hx0 hlt
                cases e
                replace hy0 := (HB.out.cell (World.block_lt_of_cell? w _ hy0)).trans hy0
                have ST := Aside0.mk (sumT_step l24 y hx0 hlt)
                have hb1 := (sumT_le l24 y.toNat)
                have hb2 := (sumT_le l24 (y + 1).toNat)
                rw [ST.out] at hb2
                have hn0 : 0 ≤ n8 ∧ n8 ≤ 4611686018427387904 - 1125899906842624 := by have := EN.out; omega
                have hs2 : 0 ≤ ((rdOf ByteArray.empty l24 y).size : Int) ∧ ((rdOf ByteArray.empty l24 y).size : Int) ≤ 1125899906842624 := by omega
                have hm1 := hn0.1
                have hm2 := hn0.2
                have hs3 := hs2.2
                clear hb1 hb2 hn0 hs2
                go_wp2_with fail
                refine (part_calls _ _ n8 gn _ ?p0 ?p1 ?p2 ?p3 BN.out).mono ?_
                all_goals first | (case p0 => omega) | (case p1 => omega) | (case p2 => omega) | (case p3 => omega) | skip
                rintro e w9 ⟨rfl, n', en, ln, un, hn9, hk⟩
                have n0_ := Aside0.mk (Only.below HB.out hk GW.out)
                have n1_ := Aside0.mk (hk.blk BK.out NE.out)
                clear HB BK BN hy0
                have HB := n0_
                have BK := n1_
                have BN := Aside0.mk hn9
                clear n0_ n1_ hn9 hk
                go_wp2
                go_roundw
                case rel => exact ⟨y + 1, n', rfl, by omega, by omega, ⟨by rw [en.out, EN.out, ST.out]; unfold partV; rw [if_pos rfl]; omega⟩, BN, BK, HB⟩
                case measure => simp [intOf]; omega
              · as_aux_lemma =>
                have hxe : y = l24.length := by omega
                have EN3 := Aside0.mk (show n8 = n + sumT l24 by rw [EN.out, hxe]; simp)
                clear EN hxe
                have hsl2 := sumT_len l24
                have hn0 : 0 ≤ n8 ∧ n8 ≤ n + 1125899906842624 := by have := EN3.out; omega
                have hm1 := hn0.1
                have hm2 := hn0.2
                clear hn0
                have hs : wp.cell? ⟨gn, 0, none⟩ = some (.int .i64 n8) := (blk_cell BN.out 0).trans rfl
                have hz23 : wp.cell? ⟨gb, 23, none⟩ = some (.slice A23 l23.length c23) := (blk_cell BK.out 23).trans rfl
                have HRq := Aside0.mk (show R = n8 + l23.length by rw [HRR.out, EN3.out, EN2.out, en7.out, EN3_.out, EN2_.out, EN1_.out]; rfl)
                go_wp2
                go_ret
                exact ⟨congrArg (fun z => Ending.returned (.int .i64 z)) HRq.out.symm, HB.out⟩

end Go.Proofs.YtndhkgfeknkfdaaGreatDoor.Pk
