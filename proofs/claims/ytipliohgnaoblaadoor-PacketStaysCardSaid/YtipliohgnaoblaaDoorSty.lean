/- PacketStays: the walk of the law. -/
import Derived.Test.YtipliohgnaoblaaDoorKno
import Derived.Test.YtipliohgnaoblaaDoorApd
import Derived.Test.YtipliohgnaoblaaDoorLaw
import Derived.IntWalk
namespace Go.Proofs.YtipliohgnaoblaaDoor.Pk
open Go.RowKit Go.Proofs.YtipliohgnaoblaaDoor.Giv Go.Proofs.YtipliohgnaoblaaDoorW.PrintWords Go.Proofs.YtipliohgnaoblaaDoorW.PrintLast Go.Proofs.YtipliohgnaoblaaDoorW.PrintMore Go.Proofs.YtipliohgnaoblaaDoor.MPacketStays
set_option linter.unusedVariables false
set_option linter.unusedSimpArgs false
set_option maxHeartbeats 8000000
set_option maxRecDepth 100000
theorem Ft.step {w w' : World} {g : Nat} {A7 : Option Addr} {c7 : Nat} {l7 : List Int} {A13 : Option Addr} {c13 : Nat} {l13 : List Int} {A18 : Option Addr} {c18 : Nat} {l18 : List Int} {A22 : Option Addr} {c22 : Nat} {l22 : List S45} {A23 : Option Addr} {c23 : Nat} {l23 : List Int} {A24 : Option Addr} {c24 : Nat} {l24 : List ByteArray} (h : Ft w g A7 c7 l7 A13 c13 l13 A18 c18 l18 A22 c22 l22 A23 c23 l23 A24 c24 l24) (k : KeepBut w w' g none) : Ft w' g A7 c7 l7 A13 c13 l13 A18 c18 l18 A22 c22 l22 A23 c23 l23 A24 c24 l24 := ⟨fun W hW => h.rd W (k.trans hW (.inl rfl)), h.n7, h.n13, h.n18, h.n23, h.n24⟩
theorem place_some (k : Int) (n : Nat) (h0 : 0 < (n : Int)) (h1 : (n : Int) ≤ 1125899906842624) : ∃ v, crierlaw2_place.f k n = some v ∧ 0 ≤ v ∧ v < n := by
  unfold crierlaw2_place.f
  rw [if_neg (by omega)]
  have ha : (Int.tmod k n).natAbs < n := by rw [Int.natAbs_tmod]; exact Nat.mod_lt _ (by omega)
  by_cases h : Int.tmod k n < 0
  · rw [if_pos h]
    exact ⟨_, rfl, by unfold wrap64; omega, by unfold wrap64; omega⟩
  · rw [if_neg h]
    exact ⟨_, rfl, by omega, by omega⟩
theorem rangeAt_block {w : World} {g : Nat} {cs : Array Value} {t : TypeId} {fr : Nat × Nat} (h : w.heap[g]? = some (.cells cs t fr)) : w.rangeAt g 0 cs.toList := fun j v hv => by
  rw [Nat.zero_add, cell_of_row w g j cs t fr h]
  simpa using hv
theorem sum_l22 {p : P} (h : p.sum ≤ 900000) : (p.l22.length : Int) ≤ 900000 := by
  have h1 := sumA_len p.l22
  have h2 := sumT_len p.l24
  unfold P.sum at h
  omega
theorem sum_l24 {p : P} (h : p.sum ≤ 900000) : (p.l24.length : Int) ≤ 900000 := by
  have h1 := sumA_len p.l22
  have h2 := sumT_len p.l24
  unfold P.sum at h
  omega
theorem C_take' {α : Type} {d : Kd α} {w : World} {A : Option Addr} {xs : List α} {m : Nat} (h : d.C w A xs.length xs) (hm : m ≤ xs.length) : d.C w A m (xs.take m) := by
  have := Kd.C_take h hm
  rwa [List.length_take, Nat.min_eq_left hm] at this
theorem C_drop' {α : Type} {d : Kd α} {w : World} {ad : Addr} {c : Nat} {xs : List α} {m : Nat} (h : d.C w (some ad) xs.length xs) (hm : m ≤ xs.length) (hc : xs.length ≤ c) : d.C w (if c = m then some ad else some (ad.add (m * d.sz))) (xs.length - m) (xs.drop m) := by
  have := Kd.C_drop h hm hc
  rwa [List.length_drop] at this
theorem sum_l18 {p : P} (h : p.sum ≤ 900000) : (p.l18.length : Int) ≤ 900000 := by
  have h1 := sumA_len p.l22
  have h2 := sumT_len p.l24
  unfold P.sum at h
  omega
theorem Stays_walk (a0 : Int) (a1 : Int) (a2 : Bool) (a3 : Int) (a4 : ByteArray) (a5 : Bool) (a6 : ByteArray) (A7 : Option Addr) (c7 : Nat) (l7 : List Int) (a8 : Int) (a9 : Bool) (a10 : Bool) (a11 : ByteArray) (a12 : Bool) (A13 : Option Addr) (c13 : Nat) (l13 : List Int) (a14 : Bool) (a15 : Int) (a16 : Bool) (a17 : ByteArray) (A18 : Option Addr) (c18 : Nat) (l18 : List Int) (a19 : Int) (a20 : Bool) (a21 : Int) (A22 : Option Addr) (c22 : Nat) (l22 : List S45) (A23 : Option Addr) (c23 : Nat) (l23 : List Int) (A24 : Option Addr) (c24 : Nat) (l24 : List ByteArray) (k : Int) (kc : Nat) (r : Int) (w : World) (hT : HasT w) (hT2 : Kin.FlagsT w) (hr : Rd w A7 c7 l7 A13 c13 l13 A18 c18 l18 A22 c22 l22 A23 c23 l23 A24 c24 l24) (h : crierroom_Count_Packet.f kc 300000 a0 a1 a2 a3 a4 a5 a6 l7 a8 a9 a10 a11 a12 l13 a14 a15 a16 a17 l18 a19 a20 a21 l22 l23 l24 = some r) (hs : 0 ≤ r → P.sum ⟨a0, a1, a2, a3, a4, a5, a6, l7, a8, a9, a10, a11, a12, l13, a14, a15, a16, a17, l18, a19, a20, a21, l22, l23, l24⟩ ≤ 900000) :
    Calls Tryd.prog 3 #[.agg #[.int .i64 a0, .int .i64 a1, .bool a2, .int .i64 a3, .string a4, .bool a5, .string a6, .slice A7 l7.length c7, .int .i64 a8, .bool a9, .bool a10, .string a11, .bool a12, .slice A13 l13.length c13, .bool a14, .int .i64 a15, .bool a16, .string a17, .slice A18 l18.length c18, .int .i64 a19, .bool a20, .int .i64 a21, .slice A22 l22.length c22, .slice A23 l23.length c23, .slice A24 l24.length c24], .int .i64 k] w fun e w' => e = .returned (.bool true) ∧ Below w.heap.size w w' := by
  have hu29 := Tryd.underlying29
  have hu24 := Tryd.underlying24
  have HT := Aside0.mk hT
  have HT2 := Aside0.mk hT2
  have HR := Aside0.mk hr
  have H := Aside0.mk h
  have HS0 := Aside0.mk hs
  have HB := Aside0.mk (Below.refl w.heap.size w)
  clear hT hT2 hr h hs
  go_enter Tryd.func3, Tryd.ntmps3
  go_upto_region 1 with (first | ((with_reducible refine gate_dst (N := 2) rfl ?_); refine box_event ?hg (N := 2) ?hd (cs := #[.int .i64 a0, .int .i64 a1, .bool a2, .int .i64 a3, .string a4, .bool a5, .string a6, .slice A7 l7.length c7, .int .i64 a8, .bool a9, .bool a10, .string a11, .bool a12, .slice A13 l13.length c13, .bool a14, .int .i64 a15, .bool a16, .string a17, .slice A18 l18.length c18, .int .i64 a19, .bool a20, .int .i64 a21, .slice A22 l22.length c22, .slice A23 l23.length c23, .slice A24 l24.length c24]) (t := 29) ?hr ?_; (case hd => rfl); (case hg => rfl); (case hr => first | (go_simp; done) | (go_simp; rfl)); intro gb hg w3 hbox hb; have BK := Aside0.mk hbox; have GB := Aside0.mk (show w.heap.size ≤ gb by rw [hg]; exact Nat.le_refl _); have n0_ := Aside0.mk (below_step HB.out hb); clear HB; have HB := n0_; clear n0_ hbox hg hb))
  try simp only [Act.put, List.setIfInBounds_toArray, List.set_cons_zero, List.set_cons_succ]
  go_wp2_with fail
  refine (known_calls _ (HT.out.below HB.out) (tabs_below HT2.out HB.out)).mono ?_
  rintro e w4 ⟨rfl, hb⟩
  have n_HB := Aside0.mk (below_step HB.out hb)
  have n_BK := Aside0.mk (blk_below BK.out hb)
  clear HB BK
  have HB := n_HB
  have BK := n_BK
  clear n_HB n_BK
  clear hb
  go_wp2_with (first | ((with_reducible refine gate_dst (N := 11) rfl ?_); refine wpList_load_row rfl 29 (.tmp 2) rfl gb rfl 29 #[.int .i64 a0, .int .i64 a1, .bool a2, .int .i64 a3, .string a4, .bool a5, .string a6, .slice A7 l7.length c7, .int .i64 a8, .bool a9, .bool a10, .string a11, .bool a12, .slice A13 l13.length c13, .bool a14, .int .i64 a15, .bool a16, .string a17, .slice A18 l18.length c18, .int .i64 a19, .bool a20, .int .i64 a21, .slice A22 l22.length c22, .slice A23 l23.length c23, .slice A24 l24.length c24] (0, 0) _ (by first | exact BK.out | exact blk_drewN BK.out _ | exact blk_drew BK.out) hu29 rfl (by kernel_rfl) ?_))
  refine (right_P a0 a1 a2 a3 a4 a5 a6 A7 c7 l7 a8 a9 a10 a11 a12 A13 c13 l13 a14 a15 a16 a17 A18 c18 l18 a19 a20 a21 A22 c22 l22 A23 c23 l23 A24 c24 l24 kc r _ (HT.out.below HB.out) (HR.out.below HB.out) H.out (fun h => by have := HS0.out h; omega)).mono ?_
  rintro e w5 ⟨rfl, hb⟩
  have n_HB := Aside0.mk (below_step HB.out hb)
  have n_BK := Aside0.mk (blk_below BK.out hb)
  clear HB BK
  have HB := n_HB
  have BK := n_BK
  clear n_HB n_BK
  clear hb
  generalize hrt : (decide (r ≥ 0) && (P.check ⟨a0, a1, a2, a3, a4, a5, a6, l7, a8, a9, a10, a11, a12, l13, a14, a15, a16, a17, l18, a19, a20, a21, l22, l23, l24⟩ == 0)) = rt
  cases rt with
  | false =>
    clear hrt
    go_wp2
    go_ret
    exact ⟨rfl, HB.out⟩
  | true =>
    have HC := Aside0.mk (show P.check ⟨a0, a1, a2, a3, a4, a5, a6, l7, a8, a9, a10, a11, a12, l13, a14, a15, a16, a17, l18, a19, a20, a21, l22, l23, l24⟩ = 0 by simp only [Bool.and_eq_true, beq_iff_eq] at hrt; exact hrt.2)
    have HS := Aside0.mk (show P.sum ⟨a0, a1, a2, a3, a4, a5, a6, l7, a8, a9, a10, a11, a12, l13, a14, a15, a16, a17, l18, a19, a20, a21, l22, l23, l24⟩ ≤ 900000 by simp only [Bool.and_eq_true, decide_eq_true_eq] at hrt; exact HS0.out hrt.1)
    have HS2 := Aside0.mk (show P.sum ⟨a0, a1, a2, a3, a4, a5, a6, l7, a8, a9, a10, a11, a12, l13, a14, a15, a16, a17, l18, a19, a20, a21, l22, l23, l24⟩ ≤ 4294967280 by have := HS.out; omega)
    clear hrt HS0 H
    go_wp2_with (first | ((with_reducible refine gate_dst (N := 14) rfl ?_); refine wpList_load_row rfl 29 (.tmp 2) rfl gb rfl 29 #[.int .i64 a0, .int .i64 a1, .bool a2, .int .i64 a3, .string a4, .bool a5, .string a6, .slice A7 l7.length c7, .int .i64 a8, .bool a9, .bool a10, .string a11, .bool a12, .slice A13 l13.length c13, .bool a14, .int .i64 a15, .bool a16, .string a17, .slice A18 l18.length c18, .int .i64 a19, .bool a20, .int .i64 a21, .slice A22 l22.length c22, .slice A23 l23.length c23, .slice A24 l24.length c24] (0, 0) _ (by first | exact BK.out | exact blk_drewN BK.out _ | exact blk_drew BK.out) hu29 rfl (by kernel_rfl) ?_))
    refine (Copy_calls a0 a1 a2 a3 a4 a5 a6 A7 c7 l7 a8 a9 a10 a11 a12 A13 c13 l13 a14 a15 a16 a17 A18 c18 l18 a19 a20 a21 A22 c22 l22 A23 c23 l23 A24 c24 l24 _ (HR.out.below HB.out) HS2.out).mono ?_
    rintro e w6 ⟨B7, d7, B13, d13, B18, d18, B22, d22, B23, d23, B24, d24, rfl, hrq, hfq, hb⟩
    have RQ := Aside0.mk hrq
    have n_HB := Aside0.mk (below_step HB.out hb)
    have n_BK := Aside0.mk (blk_below BK.out hb)
    clear HB BK
    have HB := n_HB
    have BK := n_BK
    clear n_HB n_BK
    clear hb hrq hfq
    go_upto_region 6 with (first | ((with_reducible refine gate_dst (N := 5) rfl ?_); refine box_event ?hg (N := 5) ?hd (cs := #[.int .i64 0, .int .i64 0, .bool false, .int .i64 0, .string ⟨#[]⟩, .bool false, .string ⟨#[]⟩, .slice none 0 0, .int .i64 0, .bool false, .bool false, .string ⟨#[]⟩, .bool false, .slice none 0 0, .bool false, .int .i64 0, .bool false, .string ⟨#[]⟩, .slice none 0 0, .int .i64 0, .bool false, .int .i64 0, .slice none 0 0, .slice none 0 0, .slice none 0 0]) (t := 29) ?hr ?_; (case hd => rfl); (case hg => rfl); (case hr => first | (go_simp; done) | (go_simp; rfl)); intro gq hg w7 hbox hb; have BQ0 := Aside0.mk hbox; have NQ := Aside0.mk (show gb ≠ gq by rw [hg]; exact Nat.ne_of_lt (blk_lt BK.out)); have GQ := Aside0.mk (show w.heap.size ≤ gq by rw [hg]; exact HB.out.size); have n0_ := Aside0.mk (below_step HB.out hb); have n1_ := Aside0.mk (blk_below BK.out hb); have n2_ := Aside0.mk (Ft.of (g := gq) RQ.out hb (by rw [hg]; exact Nat.le_refl _)); clear HB BK RQ; have HB := n0_; have BK := n1_; have FQ := n2_; clear n0_ n1_ n2_ hbox hg hb) | (refine wpList_store_row rfl rfl 29 (.tmp 5) (.tmp 15) rfl gq rfl 29 _ #[.int .i64 a0, .int .i64 a1, .bool a2, .int .i64 a3, .string a4, .bool a5, .string a6, .slice B7 l7.length d7, .int .i64 a8, .bool a9, .bool a10, .string a11, .bool a12, .slice B13 l13.length d13, .bool a14, .int .i64 a15, .bool a16, .string a17, .slice B18 l18.length d18, .int .i64 a19, .bool a20, .int .i64 a21, .slice B22 l22.length d22, .slice B23 l23.length d23, .slice B24 l24.length d24] BQ0.out rfl (by kernel_rfl) rfl rfl ?_; intro w8 hx hk))
    try simp only [Act.put, List.setIfInBounds_toArray, List.set_cons_zero, List.set_cons_succ]
    have BQ := Aside0.mk hx
    have n_HB := Aside0.mk (hk.below HB.out GQ.out)
    have n_BK := Aside0.mk (hk.blk BK.out NQ.out)
    have n_FQ := Aside0.mk (FQ.out.step hk.2)
    clear HB BK FQ
    have HB := n_HB
    have BK := n_BK
    have FQ := n_FQ
    clear n_HB n_BK n_FQ
    clear hx hk BQ0
    have hz18 : w8.cell? ⟨gq, 18, none⟩ = some (.slice B18 l18.length d18) := (blk_cell BQ.out 18).trans rfl
    go_upto_if 21 with (fail)
    generalize hn_ : decide (0 < l18.length) = bn
    have HN := Aside0.mk hn_
    clear hn_ hz18
    go_cut [] (fun wc => ∃ cs' : Array Value, Aside0 (cs'.size = 25) ∧ Aside0 (wc.heap[gq]? = some (.cells cs' 29 (0, 0))) ∧ Aside0 (wc.heap[gb]? = some (.cells #[.int .i64 a0, .int .i64 a1, .bool a2, .int .i64 a3, .string a4, .bool a5, .string a6, .slice A7 l7.length c7, .int .i64 a8, .bool a9, .bool a10, .string a11, .bool a12, .slice A13 l13.length c13, .bool a14, .int .i64 a15, .bool a16, .string a17, .slice A18 l18.length c18, .int .i64 a19, .bool a20, .int .i64 a21, .slice A22 l22.length c22, .slice A23 l23.length c23, .slice A24 l24.length c24] 29 (0, 0))) ∧ Aside0 (Below w.heap.size w wc))
    case first =>
      cases bn with
      | false =>
        go_wp2
        go_meet
        case rel => exact ⟨_, ⟨rfl⟩, BQ, BK, HB⟩
      | true =>
        have hn0 : 0 < (l18.length : Int) := by have := of_decide_eq_true HN.out; omega
        have hnm : (l18.length : Int) ≤ 900000 := by have := sum_l18 HS.out; exact this
        obtain ⟨v, HP, hv0, hvn⟩ := place_some k l18.length hn0 (by omega)
        have HPA := Aside0.mk HP
        clear HP
        obtain ⟨lv, hlv⟩ : ∃ lv, lv = l18.take v.toNat := ⟨_, rfl⟩
        have HLV := Aside0.mk hlv
        have HLN := Aside0.mk (show lv.length = v.toNat by rw [hlv, List.length_take]; omega)
        clear hlv
        have LW := cut_law (p := ⟨a0, a1, a2, a3, a4, a5, a6, l7, a8, a9, a10, a11, a12, l13, a14, a15, a16, a17, l18, a19, a20, a21, l22, l23, l24⟩) (v := v) HC.out HS.out hv0 hvn
        have HCV := Aside0.mk (show P.check ⟨a0, a1, a2, a3, a4, a5, a6, l7, a8, a9, a10, a11, a12, l13, a14, a15, a16, a17, lv, a19, a20, a21, l22, l23, l24⟩ = 0 by rw [HLV.out]; exact LW.1)
        have HSV := Aside0.mk (show P.sum ⟨a0, a1, a2, a3, a4, a5, a6, l7, a8, a9, a10, a11, a12, l13, a14, a15, a16, a17, lv, a19, a20, a21, l22, l23, l24⟩ ≤ 4294967280 by rw [HLV.out]; exact Int.le_trans LW.2.1 (by decide))
        obtain ⟨Lp, hLp⟩ : ∃ x, x = P.length ⟨a0, a1, a2, a3, a4, a5, a6, l7, a8, a9, a10, a11, a12, l13, a14, a15, a16, a17, l18, a19, a20, a21, l22, l23, l24⟩ := ⟨_, rfl⟩
        have hLp0 : 0 ≤ Lp ∧ Lp ≤ 268435455 := by rw [hLp]; exact LW.2.2.1
        have HLP := Aside0.mk hLp
        have HLQ := Aside0.mk (show P.length ⟨a0, a1, a2, a3, a4, a5, a6, l7, a8, a9, a10, a11, a12, l13, a14, a15, a16, a17, lv, a19, a20, a21, l22, l23, l24⟩ = Lp - l18.length + lv.length by rw [HLN.out, HLV.out, hLp, LW.2.2.2]; show P.length ⟨a0, a1, a2, a3, a4, a5, a6, l7, a8, a9, a10, a11, a12, l13, a14, a15, a16, a17, l18, a19, a20, a21, l22, l23, l24⟩ - (l18.length : Int) + v = P.length ⟨a0, a1, a2, a3, a4, a5, a6, l7, a8, a9, a10, a11, a12, l13, a14, a15, a16, a17, l18, a19, a20, a21, l22, l23, l24⟩ - (l18.length : Int) + (v.toNat : Int); rw [Int.toNat_of_nonneg hv0])
        have hlp1 := hLp0.1
        have hlp2 := hLp0.2
        have hvl : (lv.length : Int) = v := by have := HLN.out; omega
        have hlvn : (lv.length : Int) ≤ 900000 := by omega
        have HVL := Aside0.mk hvl
        clear LW hLp hLp0 hvl
        have hvd : v ≤ (d18 : Int) := by have := (FQ.out.rd _ (KeepBut.refl _ _ _)).k18; omega
        have hz18 : w8.cell? ⟨gq, 18, none⟩ = some (.slice B18 l18.length d18) := (blk_cell BQ.out 18).trans rfl
        have hf18 : w8.frozen? ⟨gq, 18, none⟩ = false := blk_frozen BQ.out 18
        go_upto_region 8 with (fail)
        go_cut [] (fun wc => Aside0 (wc.heap[gq]? = some (.cells #[.int .i64 a0, .int .i64 a1, .bool a2, .int .i64 a3, .string a4, .bool a5, .string a6, .slice B7 l7.length d7, .int .i64 a8, .bool a9, .bool a10, .string a11, .bool a12, .slice B13 l13.length d13, .bool a14, .int .i64 a15, .bool a16, .string a17, .slice B18 lv.length d18, .int .i64 a19, .bool a20, .int .i64 a21, .slice B22 l22.length d22, .slice B23 l23.length d23, .slice B24 l24.length d24] 29 (0, 0))) ∧ Aside0 (wc.heap[gb]? = some (.cells #[.int .i64 a0, .int .i64 a1, .bool a2, .int .i64 a3, .string a4, .bool a5, .string a6, .slice A7 l7.length c7, .int .i64 a8, .bool a9, .bool a10, .string a11, .bool a12, .slice A13 l13.length c13, .bool a14, .int .i64 a15, .bool a16, .string a17, .slice A18 l18.length c18, .int .i64 a19, .bool a20, .int .i64 a21, .slice A22 l22.length c22, .slice A23 l23.length c23, .slice A24 l24.length c24] 29 (0, 0))) ∧ Aside0 (Below w.heap.size w wc) ∧ Aside0 (Ft wc gq B7 d7 l7 B13 d13 l13 B18 d18 l18 B22 d22 l22 B23 d23 l23 B24 d24 l24))
        case first =>
          go_region_with ((go_at_call 8; (with_reducible refine (crierlaw2_place.calls k _ v _ HPA.out).mono ?_); rintro e w' ⟨rfl, ⟨nd, rfl⟩⟩))
          all_goals (go_wp2; go_meet; (case rel => exact ⟨⟨blk_put (cs' := #[.int .i64 a0, .int .i64 a1, .bool a2, .int .i64 a3, .string a4, .bool a5, .string a6, .slice B7 l7.length d7, .int .i64 a8, .bool a9, .bool a10, .string a11, .bool a12, .slice B13 l13.length d13, .bool a14, .int .i64 a15, .bool a16, .string a17, .slice B18 lv.length d18, .int .i64 a19, .bool a20, .int .i64 a21, .slice B22 l22.length d22, .slice B23 l23.length d23, .slice B24 l24.length d24]) BQ.out 18 _ (by rw [HLN.out]; rfl)⟩, ⟨blk_far (p := ⟨gq, 18, none⟩) BK.out NQ.out _⟩, ⟨below_set (by first | exact HB.out | exact pw_below_drewN HB.out _ | exact HB.out.drew) GQ.out⟩, ⟨FQ.out.step (Only.set (i := 18) _).2⟩⟩))
        case rest =>
          clear BQ BK HB FQ hz18 hf18
          obtain ⟨BQ, BK, HB, FQ⟩ := hcut
          obtain ⟨w9, hw9⟩ : ∃ x, x = wc := ⟨_, rfl⟩
          subst hw9
          have RQV : ∀ W, KeepBut w9 W gq none → Rd W B7 d7 l7 B13 d13 l13 B18 d18 lv B22 d22 l22 B23 d23 l23 B24 d24 l24 := fun W hW => by
            have h := FQ.out.rd W hW
            refine ⟨h.r7, h.k7, h.r13, h.k13, ?_, ?_, h.r22, h.k22, h.r23, h.k23, h.r24, h.k24⟩
            · rw [HLV.out]; exact Kd.C_take h.r18 (by have := HVL.out; omega)
            · have := HVL.out; have := h.k18; omega
          have RQVA := Aside0.mk RQV
          clear RQV
          have CQ := Aside0.mk (fun (W : World) (hT_ : HasT W) (hR_ : Rd W B7 d7 l7 B13 d13 l13 B18 d18 lv B22 d22 l22 B23 d23 l23 B24 d24 l24) => (show Calls Tryd.prog 9 #[.agg #[.int .i64 a0, .int .i64 a1, .bool a2, .int .i64 a3, .string a4, .bool a5, .string a6, .slice B7 l7.length d7, .int .i64 a8, .bool a9, .bool a10, .string a11, .bool a12, .slice B13 l13.length d13, .bool a14, .int .i64 a15, .bool a16, .string a17, .slice B18 lv.length d18, .int .i64 a19, .bool a20, .int .i64 a21, .slice B22 l22.length d22, .slice B23 l23.length d23, .slice B24 l24.length d24]] W fun e w' => e = .returned (.int .i64 0) ∧ Below W.heap.size W w' from by have h := Check_P a0 a1 a2 a3 a4 a5 a6 B7 d7 l7 a8 a9 a10 a11 a12 B13 d13 l13 a14 a15 a16 a17 B18 d18 lv a19 a20 a21 B22 d22 l22 B23 d23 l23 B24 d24 l24 W hT_ hR_ HSV.out; rw [HCV.out] at h; exact h))
          have LQ := Aside0.mk (fun (W : World) (hT_ : HasT W) (hR_ : Rd W B7 d7 l7 B13 d13 l13 B18 d18 lv B22 d22 l22 B23 d23 l23 B24 d24 l24) => (show Calls Tryd.prog 10 #[.agg #[.int .i64 a0, .int .i64 a1, .bool a2, .int .i64 a3, .string a4, .bool a5, .string a6, .slice B7 l7.length d7, .int .i64 a8, .bool a9, .bool a10, .string a11, .bool a12, .slice B13 l13.length d13, .bool a14, .int .i64 a15, .bool a16, .string a17, .slice B18 lv.length d18, .int .i64 a19, .bool a20, .int .i64 a21, .slice B22 l22.length d22, .slice B23 l23.length d23, .slice B24 l24.length d24]] W fun e w' => e = .returned (.int .i64 (Lp - l18.length + lv.length)) ∧ Below W.heap.size W w' from by have h := Length_P a0 a1 a2 a3 a4 a5 a6 B7 d7 l7 a8 a9 a10 a11 a12 B13 d13 l13 a14 a15 a16 a17 B18 d18 lv a19 a20 a21 B22 d22 l22 B23 d23 l23 B24 d24 l24 W hT_ hR_ HSV.out; rw [HLQ.out] at h; exact h))
          have LP := Aside0.mk (fun (W : World) (hT_ : HasT W) (hR_ : Rd W A7 c7 l7 A13 c13 l13 A18 c18 l18 A22 c22 l22 A23 c23 l23 A24 c24 l24) => (show Calls Tryd.prog 10 #[.agg #[.int .i64 a0, .int .i64 a1, .bool a2, .int .i64 a3, .string a4, .bool a5, .string a6, .slice A7 l7.length c7, .int .i64 a8, .bool a9, .bool a10, .string a11, .bool a12, .slice A13 l13.length c13, .bool a14, .int .i64 a15, .bool a16, .string a17, .slice A18 l18.length c18, .int .i64 a19, .bool a20, .int .i64 a21, .slice A22 l22.length c22, .slice A23 l23.length c23, .slice A24 l24.length c24]] W fun e w' => e = .returned (.int .i64 Lp) ∧ Below W.heap.size W w' from by have h := Length_P a0 a1 a2 a3 a4 a5 a6 A7 c7 l7 a8 a9 a10 a11 a12 A13 c13 l13 a14 a15 a16 a17 A18 c18 l18 a19 a20 a21 A22 c22 l22 A23 c23 l23 A24 c24 l24 W hT_ hR_ HS2.out; rw [← HLP.out] at h; exact h))
          have HK9 := Aside0.mk (KeepBut.refl w9 gq none)
          have hq1 : (Tryd.prog.info? 29).map (·.size) = some ([.int .i64 a0, .int .i64 a1, .bool a2, .int .i64 a3, .string a4, .bool a5, .string a6, .slice B7 l7.length d7, .int .i64 a8, .bool a9, .bool a10, .string a11, .bool a12, .slice B13 l13.length d13, .bool a14, .int .i64 a15, .bool a16, .string a17, .slice B18 lv.length d18, .int .i64 a19, .bool a20, .int .i64 a21, .slice B22 l22.length d22, .slice B23 l23.length d23, .slice B24 l24.length d24] : List Value).length := by kernel_rfl
          have hq2 : (Tryd.prog.info? 29).map (·.size) = some ([.int .i64 a0, .int .i64 a1, .bool a2, .int .i64 a3, .string a4, .bool a5, .string a6, .slice A7 l7.length c7, .int .i64 a8, .bool a9, .bool a10, .string a11, .bool a12, .slice A13 l13.length c13, .bool a14, .int .i64 a15, .bool a16, .string a17, .slice A18 l18.length c18, .int .i64 a19, .bool a20, .int .i64 a21, .slice A22 l22.length c22, .slice A23 l23.length c23, .slice A24 l24.length c24] : List Value).length := by kernel_rfl
          go_upto_region 9 with (fail)
          refine wp_region_noPanic ?_
          refine wp_region_held_drew (S := fun W => W.rangeAt gq 0 [.int .i64 a0, .int .i64 a1, .bool a2, .int .i64 a3, .string a4, .bool a5, .string a6, .slice B7 l7.length d7, .int .i64 a8, .bool a9, .bool a10, .string a11, .bool a12, .slice B13 l13.length d13, .bool a14, .int .i64 a15, .bool a16, .string a17, .slice B18 lv.length d18, .int .i64 a19, .bool a20, .int .i64 a21, .slice B22 l22.length d22, .slice B23 l23.length d23, .slice B24 l24.length d24] ∧ W.rangeAt gb 0 [.int .i64 a0, .int .i64 a1, .bool a2, .int .i64 a3, .string a4, .bool a5, .string a6, .slice A7 l7.length c7, .int .i64 a8, .bool a9, .bool a10, .string a11, .bool a12, .slice A13 l13.length c13, .bool a14, .int .i64 a15, .bool a16, .string a17, .slice A18 l18.length c18, .int .i64 a19, .bool a20, .int .i64 a21, .slice A22 l22.length c22, .slice A23 l23.length c23, .slice A24 l24.length c24] ∧ W.cell? ⟨gq, 18, none⟩ = some (.slice B18 lv.length d18)) (by kernel_rfl) ?hS (fun hHeld => ?_)
          case hS => (try dsimp only); exact ⟨rangeAt_block (by first | exact BQ.out | exact blk_drewN BQ.out _ | exact blk_drew BQ.out), rangeAt_block (by first | exact BK.out | exact blk_drewN BK.out _ | exact blk_drew BK.out), (blk_cell (by first | exact BQ.out | exact blk_drewN BQ.out _ | exact blk_drew BQ.out) 18).trans rfl⟩
          refine' wpAnyH_take (i := 0) (oi := { dst := some 31, op := Go.Op.load 29 (Go.Operand.tmp 5), type := 29, pos := "outright.go:55", after := #[], guard := none }) (v := _) rfl (by kernel_rfl) (by kernel_rfl) (by kernel_rfl) (fun _ _ _ h => h) (yieldsIf_load_mid (by rfl) _ _ rfl _ _ rfl _ _ ?hS1 ?hu1 ?hd1 ?hi1) (by assumption) ?rest1
          case hS1 => (intro w hSw; exact hSw.1)
          case hu1 => exact hu29
          case hd1 => rfl
          case hi1 => kernel_rfl
          try simp only [Act.put, List.setIfInBounds_toArray, List.set_cons_zero, List.set_cons_succ]
          refine wpAnyH_ready (rs := [1]) (by kernel_rfl) (by simp) ?_
          refine AllReadyH.cons (o := { dst := some 32, op := Go.Op.call { callee := Go.Callee.value (Go.Operand.func 9), args := #[Go.Operand.tmp 31], argTypes := #[29] }, type := 34, pos := "outright.go:55", after := #[{ on := 0, ground := Go.Ground.data }], guard := none }) rfl (fun K hK => ?_) AllReadyH.nil
          go_simp
          refine (CQ.out _ (HT.out.below (by repeat (first | exact HB.out | (with_reducible first | apply below_alloc | apply pw_below_drewN | apply below_drew1)))) (RQVA.out _ (by first | exact HK9.out | exact keep_drewN HK9.out _ | exact keep_drew HK9.out))).mono ?_
          rintro e w' ⟨rfl, hb⟩
          have n0_ := Aside0.mk (below_step (by repeat (first | exact HB.out | (with_reducible first | apply below_alloc | apply pw_below_drewN | apply below_drew1))) hb)
          have n1_ := Aside0.mk (blk_below (by first | exact BQ.out | exact blk_drewN BQ.out _ | exact blk_drew BQ.out) hb)
          have n2_ := Aside0.mk (blk_below (by first | exact BK.out | exact blk_drewN BK.out _ | exact blk_drew BK.out) hb)
          have n3_ := Aside0.mk (HK9.out.trans (KeepBut.of_below hb gq none) (.inl rfl))
          clear HB BQ BK HK9 hb
          have HB := n0_
          have BQ := n1_
          have BK := n2_
          have HK9 := n3_
          clear n0_ n1_ n2_ n3_
          go_wp2_with fail
          refine hK.out _ _ ?hSS2 (fun hHeld2 => ?_)
          case hSS2 => (try dsimp only); exact ⟨rangeAt_block (by first | exact BQ.out | exact blk_drewN BQ.out _ | exact blk_drew BQ.out), rangeAt_block (by first | exact BK.out | exact blk_drewN BK.out _ | exact blk_drew BK.out), (blk_cell (by first | exact BQ.out | exact blk_drewN BQ.out _ | exact blk_drew BQ.out) 18).trans rfl⟩
          clear hK K hHeld
          have hHeld := hHeld2
          clear hHeld2
          try simp only [Act.put, List.setIfInBounds_toArray, List.set_cons_zero, List.set_cons_succ]
          refine wpAnyH_take (i := 2) (oi := { dst := some 33, op := Go.Op.binOp Go.BinOp.neq 3 (Go.Operand.tmp 32) (Go.Operand.const (Go.Value.int Go.IntKind.i64 0)) 3, type := 4, pos := "outright.go:55", after := #[{ on := 1, ground := Go.Ground.data }], guard := none }) (v := ?v3) rfl (by kernel_rfl) (by kernel_rfl) (by kernel_rfl) (fun _ _ _ h => h) (Or.inl ⟨by rfl, ?hy3⟩) (by assumption) ?rest3
          case hy3 => (intro w hSw; (try dsimp only at hSw); (try go_simp); (try with_reducible rfl))
          try simp only [Act.put, List.setIfInBounds_toArray, List.set_cons_zero, List.set_cons_succ]
          refine wpAnyH_take (i := 3) (oi := { dst := some 34, op := Go.Op.move (Go.Operand.tmp 33), type := 4, pos := "outright.go:55", after := #[{ on := 2, ground := Go.Ground.data }, { on := 1, ground := Go.Ground.chain }], guard := none }) (v := ?v4) rfl (by kernel_rfl) (by kernel_rfl) (by kernel_rfl) (fun _ _ _ h => h) (Or.inl ⟨by rfl, ?hy4⟩) (by assumption) ?rest4
          case hy4 => (intro w hSw; (try dsimp only at hSw); (try go_simp); (try with_reducible rfl))
          try simp only [Act.put, List.setIfInBounds_toArray, List.set_cons_zero, List.set_cons_succ]
          refine' wpAnyH_take (i := 4) (oi := { dst := some 35, op := Go.Op.load 29 (Go.Operand.tmp 5), type := 29, pos := "outright.go:55", after := #[{ on := 3, ground := Go.Ground.guard }], guard := some (3, false) }) (v := _) rfl (by kernel_rfl) (by kernel_rfl) (by kernel_rfl) (fun _ _ _ h => h) (yieldsIf_load_mid (by rfl) _ _ rfl _ _ rfl _ _ ?hS5 ?hu5 ?hd5 ?hi5) (by assumption) ?rest5
          case hS5 => (intro w hSw; exact hSw.1)
          case hu5 => exact hu29
          case hd5 => rfl
          case hi5 => kernel_rfl
          try simp only [Act.put, List.setIfInBounds_toArray, List.set_cons_zero, List.set_cons_succ]
          refine' wpAnyH_take (i := 6) (oi := { dst := some 37, op := Go.Op.load 29 (Go.Operand.tmp 2), type := 29, pos := "outright.go:55", after := #[{ on := 3, ground := Go.Ground.guard }], guard := some (3, false) }) (v := _) rfl (by kernel_rfl) (by kernel_rfl) (by kernel_rfl) (fun _ _ _ h => h) (yieldsIf_load_mid (by rfl) _ _ rfl _ _ rfl _ _ ?hS6 ?hu6 ?hd6 ?hi6) (by assumption) ?rest6
          case hS6 => (intro w hSw; exact hSw.2.1)
          case hu6 => exact hu29
          case hd6 => rfl
          case hi6 => kernel_rfl
          try simp only [Act.put, List.setIfInBounds_toArray, List.set_cons_zero, List.set_cons_succ]
          refine wpAnyH_take (i := 8) (oi := { dst := some 39, op := Go.Op.move (Go.Operand.tmp 6), type := 3, pos := "outright.go:55", after := #[{ on := 3, ground := Go.Ground.guard }], guard := some (3, false) }) (v := ?v7) rfl (by kernel_rfl) (by kernel_rfl) (by kernel_rfl) (fun _ _ _ h => h) (Or.inl ⟨by rfl, ?hy7⟩) (by assumption) ?rest7
          case hy7 => (intro w hSw; (try dsimp only at hSw); (try go_simp); (try with_reducible rfl))
          try simp only [Act.put, List.setIfInBounds_toArray, List.set_cons_zero, List.set_cons_succ]
          refine wpAnyH_take (i := 10) (oi := { dst := some 41, op := Go.Op.fieldAddr 29 (Go.Operand.tmp 5) 14, type := 0, pos := "outright.go:55", after := #[{ on := 3, ground := Go.Ground.guard }], guard := some (3, false) }) (v := ?v8) rfl (by kernel_rfl) (by kernel_rfl) (by kernel_rfl) (fun _ _ _ h => h) (Or.inl ⟨by rfl, ?hy8⟩) (by assumption) ?rest8
          case hy8 => (intro w hSw; (try dsimp only at hSw); (try go_simp); (try with_reducible rfl))
          try simp only [Act.put, List.setIfInBounds_toArray, List.set_cons_zero, List.set_cons_succ]
          refine wpAnyH_take (i := 11) (oi := { dst := some 42, op := Go.Op.fieldAddr 24 (Go.Operand.tmp 41) 1, type := 0, pos := "outright.go:55", after := #[{ on := 10, ground := Go.Ground.data }, { on := 3, ground := Go.Ground.guard }], guard := some (3, false) }) (v := ?v9) rfl (by kernel_rfl) (by kernel_rfl) (by kernel_rfl) (fun _ _ _ h => h) (Or.inl ⟨by rfl, ?hy9⟩) (by assumption) ?rest9
          case hy9 => (intro w hSw; (try dsimp only at hSw); (try go_simp); (try with_reducible rfl))
          try simp only [Act.put, List.setIfInBounds_toArray, List.set_cons_zero, List.set_cons_succ]
          refine wpAnyH_take (i := 12) (oi := { dst := some 43, op := Go.Op.load 22 (Go.Operand.tmp 42), type := 22, pos := "outright.go:55", after := #[{ on := 11, ground := Go.Ground.data }, { on := 3, ground := Go.Ground.guard }], guard := some (3, false) }) (v := ?v10) rfl (by kernel_rfl) (by kernel_rfl) (by kernel_rfl) (fun _ _ _ h => h) (Or.inl ⟨by rfl, ?hy10⟩) (by assumption) ?rest10
          case hy10 => (intro w hSw; (try dsimp only at hSw); (try go_simp); (try with_reducible rfl))
          try simp only [Act.put, List.setIfInBounds_toArray, List.set_cons_zero, List.set_cons_succ]
          refine wpAnyH_take (i := 13) (oi := { dst := some 44, op := Go.Op.call { callee := Go.Callee.builtin Go.Builtin.len, args := #[Go.Operand.tmp 43], argTypes := #[22] }, type := 3, pos := "outright.go:55", after := #[{ on := 12, ground := Go.Ground.data }, { on := 3, ground := Go.Ground.guard }], guard := some (3, false) }) (v := ?v11) rfl (by kernel_rfl) (by kernel_rfl) (by kernel_rfl) (fun _ _ _ h => h) (Or.inl ⟨by rfl, ?hy11⟩) (by assumption) ?rest11
          case hy11 => (intro w hSw; (try dsimp only at hSw); (try go_simp); (try with_reducible rfl))
          try simp only [Act.put, List.setIfInBounds_toArray, List.set_cons_zero, List.set_cons_succ]
          refine wpAnyH_ready (rs := [5]) (by kernel_rfl) (by simp) ?_
          refine AllReadyH.cons (o := { dst := some 36, op := Go.Op.call { callee := Go.Callee.value (Go.Operand.func 10), args := #[Go.Operand.tmp 35], argTypes := #[29] }, type := 3, pos := "outright.go:55", after := #[{ on := 4, ground := Go.Ground.data }, { on := 3, ground := Go.Ground.chain }, { on := 3, ground := Go.Ground.guard }], guard := some (3, false) }) rfl (fun K hK => ?_) AllReadyH.nil
          go_simp
          refine (LQ.out _ (HT.out.below (by repeat (first | exact HB.out | (with_reducible first | apply below_alloc | apply pw_below_drewN | apply below_drew1)))) (RQVA.out _ (by first | exact HK9.out | exact keep_drewN HK9.out _ | exact keep_drew HK9.out))).mono ?_
          rintro e w' ⟨rfl, hb⟩
          have n0_ := Aside0.mk (below_step (by repeat (first | exact HB.out | (with_reducible first | apply below_alloc | apply pw_below_drewN | apply below_drew1))) hb)
          have n1_ := Aside0.mk (blk_below (by first | exact BQ.out | exact blk_drewN BQ.out _ | exact blk_drew BQ.out) hb)
          have n2_ := Aside0.mk (blk_below (by first | exact BK.out | exact blk_drewN BK.out _ | exact blk_drew BK.out) hb)
          have n3_ := Aside0.mk (HK9.out.trans (KeepBut.of_below hb gq none) (.inl rfl))
          clear HB BQ BK HK9 hb
          have HB := n0_
          have BQ := n1_
          have BK := n2_
          have HK9 := n3_
          clear n0_ n1_ n2_ n3_
          go_wp2_with fail
          refine hK.out _ _ ?hSS12 (fun hHeld2 => ?_)
          case hSS12 => (try dsimp only); exact ⟨rangeAt_block (by first | exact BQ.out | exact blk_drewN BQ.out _ | exact blk_drew BQ.out), rangeAt_block (by first | exact BK.out | exact blk_drewN BK.out _ | exact blk_drew BK.out), (blk_cell (by first | exact BQ.out | exact blk_drewN BQ.out _ | exact blk_drew BQ.out) 18).trans rfl⟩
          clear hK K hHeld
          have hHeld := hHeld2
          clear hHeld2
          try simp only [Act.put, List.setIfInBounds_toArray, List.set_cons_zero, List.set_cons_succ]
          refine wpAnyH_ready (rs := [7]) (by kernel_rfl) (by simp) ?_
          refine AllReadyH.cons (o := { dst := some 38, op := Go.Op.call { callee := Go.Callee.value (Go.Operand.func 10), args := #[Go.Operand.tmp 37], argTypes := #[29] }, type := 3, pos := "outright.go:55", after := #[{ on := 6, ground := Go.Ground.data }, { on := 5, ground := Go.Ground.chain }, { on := 3, ground := Go.Ground.guard }], guard := some (3, false) }) rfl (fun K hK => ?_) AllReadyH.nil
          go_simp
          refine (LP.out _ (HT.out.below (by repeat (first | exact HB.out | (with_reducible first | apply below_alloc | apply pw_below_drewN | apply below_drew1)))) (HR.out.below (by repeat (first | exact HB.out | (with_reducible first | apply below_alloc | apply pw_below_drewN | apply below_drew1))))).mono ?_
          rintro e w' ⟨rfl, hb⟩
          have n0_ := Aside0.mk (below_step (by repeat (first | exact HB.out | (with_reducible first | apply below_alloc | apply pw_below_drewN | apply below_drew1))) hb)
          have n1_ := Aside0.mk (blk_below (by first | exact BQ.out | exact blk_drewN BQ.out _ | exact blk_drew BQ.out) hb)
          have n2_ := Aside0.mk (blk_below (by first | exact BK.out | exact blk_drewN BK.out _ | exact blk_drew BK.out) hb)
          have n3_ := Aside0.mk (HK9.out.trans (KeepBut.of_below hb gq none) (.inl rfl))
          clear HB BQ BK HK9 hb
          have HB := n0_
          have BQ := n1_
          have BK := n2_
          have HK9 := n3_
          clear n0_ n1_ n2_ n3_
          go_wp2_with fail
          refine hK.out _ _ ?hSS13 (fun hHeld2 => ?_)
          case hSS13 => (try dsimp only); exact ⟨rangeAt_block (by first | exact BQ.out | exact blk_drewN BQ.out _ | exact blk_drew BQ.out), rangeAt_block (by first | exact BK.out | exact blk_drewN BK.out _ | exact blk_drew BK.out), (blk_cell (by first | exact BQ.out | exact blk_drewN BQ.out _ | exact blk_drew BQ.out) 18).trans rfl⟩
          clear hK K hHeld
          have hHeld := hHeld2
          clear hHeld2
          try simp only [Act.put, List.setIfInBounds_toArray, List.set_cons_zero, List.set_cons_succ]
          refine wpAnyH_take (i := 9) (oi := { dst := some 40, op := Go.Op.binOp Go.BinOp.sub 3 (Go.Operand.tmp 38) (Go.Operand.tmp 39) 3, type := 3, pos := "outright.go:55", after := #[{ on := 7, ground := Go.Ground.data }, { on := 8, ground := Go.Ground.data }, { on := 3, ground := Go.Ground.guard }], guard := some (3, false) }) (v := ?v14) rfl (by kernel_rfl) (by kernel_rfl) (by kernel_rfl) (fun _ _ _ h => h) (Or.inl ⟨by rfl, ?hy14⟩) (by assumption) ?rest14
          case hy14 => (intro w hSw; (try dsimp only at hSw); (try go_simp); (try with_reducible rfl))
          try simp only [Act.put, List.setIfInBounds_toArray, List.set_cons_zero, List.set_cons_succ]
          refine wpAnyH_take (i := 14) (oi := { dst := some 45, op := Go.Op.binOp Go.BinOp.add 3 (Go.Operand.tmp 40) (Go.Operand.tmp 44) 3, type := 3, pos := "outright.go:55", after := #[{ on := 9, ground := Go.Ground.data }, { on := 13, ground := Go.Ground.data }, { on := 3, ground := Go.Ground.guard }], guard := some (3, false) }) (v := ?v15) rfl (by kernel_rfl) (by kernel_rfl) (by kernel_rfl) (fun _ _ _ h => h) (Or.inl ⟨by rfl, ?hy15⟩) (by assumption) ?rest15
          case hy15 => (intro w hSw; (try dsimp only at hSw); (try go_simp); (try with_reducible rfl))
          try simp only [Act.put, List.setIfInBounds_toArray, List.set_cons_zero, List.set_cons_succ]
          refine wpAnyH_take (i := 15) (oi := { dst := some 46, op := Go.Op.binOp Go.BinOp.neq 3 (Go.Operand.tmp 36) (Go.Operand.tmp 45) 3, type := 4, pos := "outright.go:55", after := #[{ on := 5, ground := Go.Ground.data }, { on := 14, ground := Go.Ground.data }, { on := 3, ground := Go.Ground.guard }], guard := some (3, false) }) (v := ?v16) rfl (by kernel_rfl) (by kernel_rfl) (by kernel_rfl) (fun _ _ _ h => h) (Or.inl ⟨by rfl, ?hy16⟩) (by assumption) ?rest16
          case hy16 => (intro w hSw; (try dsimp only at hSw); (try go_simp); (try with_reducible rfl))
          try simp only [Act.put, List.setIfInBounds_toArray, List.set_cons_zero, List.set_cons_succ]
          refine wpAnyH_take (i := 16) (oi := { dst := some 47, op := Go.Op.pick (Go.Operand.tmp 34) (Go.Operand.const (Go.Value.bool true)) (Go.Operand.tmp 46), type := 4, pos := "outright.go:55", after := #[{ on := 3, ground := Go.Ground.data }, { on := 15, ground := Go.Ground.data }], guard := none }) (v := ?v17) rfl (by kernel_rfl) (by kernel_rfl) (by kernel_rfl) (fun _ _ _ h => h) (Or.inl ⟨by rfl, ?hy17⟩) (by assumption) ?rest17
          case hy17 => (intro w hSw; (try dsimp only at hSw); (try go_simp); (try with_reducible rfl))
          try simp only [Act.put, List.setIfInBounds_toArray, List.set_cons_zero, List.set_cons_succ]
          refine wpAnyH_done (by kernel_rfl) ?_ _
          refine NoPanic.normal ?_
          have hfin : (Lp - ↑l18.length + ↑lv.length != IntKind.i64.wrap (IntKind.i64.wrap (Lp - ↑l18.length) + ↑lv.length)) = false := by
            have h1 := HVL.out
            rw [show IntKind.i64.wrap (Lp - ↑l18.length) = Lp - ↑l18.length from IntWalk.i64_in _ (by omega), show IntKind.i64.wrap (Lp - ↑l18.length + ↑lv.length) = Lp - ↑l18.length + ↑lv.length from IntWalk.i64_in _ (by omega)]
            simp
          rw [hfin]
          clear hfin
          go_wp2
          go_meet
          case rel => exact ⟨_, ⟨rfl⟩, by first | exact BQ | exact ⟨blk_drewN BQ.out _⟩, by first | exact BK | exact ⟨blk_drewN BK.out _⟩, ⟨(by repeat (first | exact HB.out | (with_reducible first | apply below_alloc | apply pw_below_drewN | apply below_drew1)))⟩⟩
    case rest =>
      clear BQ BK HB FQ
      obtain ⟨cs', SZ, BQ, BK, HB⟩ := hcut
      obtain ⟨wk, hw_⟩ : ∃ x, x = wc := ⟨_, rfl⟩
      subst hw_
      try clear HN
      go_wp2_with (first | ((with_reducible refine gate_dst (N := 48) rfl ?_); refine wpList_load_row rfl 29 (.tmp 2) rfl gb rfl 29 #[.int .i64 a0, .int .i64 a1, .bool a2, .int .i64 a3, .string a4, .bool a5, .string a6, .slice A7 l7.length c7, .int .i64 a8, .bool a9, .bool a10, .string a11, .bool a12, .slice A13 l13.length c13, .bool a14, .int .i64 a15, .bool a16, .string a17, .slice A18 l18.length c18, .int .i64 a19, .bool a20, .int .i64 a21, .slice A22 l22.length c22, .slice A23 l23.length c23, .slice A24 l24.length c24] (0, 0) _ (by first | exact BK.out | exact blk_drewN BK.out _ | exact blk_drew BK.out) hu29 rfl (by kernel_rfl) ?_))
      refine (Copy_calls a0 a1 a2 a3 a4 a5 a6 A7 c7 l7 a8 a9 a10 a11 a12 A13 c13 l13 a14 a15 a16 a17 A18 c18 l18 a19 a20 a21 A22 c22 l22 A23 c23 l23 A24 c24 l24 _ (HR.out.below HB.out) HS2.out).mono ?_
      rintro e we ⟨E7, f7, E13, f13, E18, f18, E22, f22, E23, f23, E24, f24, rfl, hrq, hfq, hb⟩
      have FE := Aside0.mk (hfq gq (blk_lt BQ.out))
      have n_HB := Aside0.mk (below_step HB.out hb)
      have n_BQ := Aside0.mk (blk_below BQ.out hb)
      clear HB BQ
      have HB := n_HB
      have BQ := n_BQ
      clear n_HB n_BQ
      clear hb hrq hfq BK
      go_upto_region 12 with (first | (refine wpList_store_row rfl rfl 29 (.tmp 5) (.tmp 49) rfl gq rfl 29 _ #[.int .i64 a0, .int .i64 a1, .bool a2, .int .i64 a3, .string a4, .bool a5, .string a6, .slice E7 l7.length f7, .int .i64 a8, .bool a9, .bool a10, .string a11, .bool a12, .slice E13 l13.length f13, .bool a14, .int .i64 a15, .bool a16, .string a17, .slice E18 l18.length f18, .int .i64 a19, .bool a20, .int .i64 a21, .slice E22 l22.length f22, .slice E23 l23.length f23, .slice E24 l24.length f24] BQ.out rfl (by kernel_rfl) SZ.out rfl ?_; intro wl hx hk))
      have n0_ := Aside0.mk (hk.below HB.out GQ.out)
      have n1_ := Aside0.mk (FE.out.step hk.2)
      clear HB FE BQ
      have HB := n0_
      have FE := n1_
      have BQ := Aside0.mk hx
      clear n0_ n1_ hx hk SZ
      have hz22 : wl.cell? ⟨gq, 22, none⟩ = some (.slice E22 l22.length f22) := (blk_cell BQ.out 22).trans rfl
      go_upto_if 53 with (fail)
      generalize hn_ : decide ((1 : Int) < (l22.length : Int)) = bn
      have HN := Aside0.mk hn_
      clear hn_ hz22
      go_cut [] (fun wc => ∃ A2 c2 m22, Aside0 (Less l22 m22) ∧ Aside0 (wc.heap[gq]? = some (.cells #[.int .i64 a0, .int .i64 a1, .bool a2, .int .i64 a3, .string a4, .bool a5, .string a6, .slice E7 l7.length f7, .int .i64 a8, .bool a9, .bool a10, .string a11, .bool a12, .slice E13 l13.length f13, .bool a14, .int .i64 a15, .bool a16, .string a17, .slice E18 l18.length f18, .int .i64 a19, .bool a20, .int .i64 a21, .slice A2 m22.length c2, .slice E23 l23.length f23, .slice E24 l24.length f24] 29 (0, 0))) ∧ Aside0 (∀ W, KeepBut wc W gq none → Rd W E7 f7 l7 E13 f13 l13 E18 f18 l18 A2 c2 m22 E23 f23 l23 E24 f24 l24) ∧ Aside0 (Below w.heap.size w wc))
      case first =>
        cases bn with
        | false =>
          go_wp2
          go_meet
          case rel => exact ⟨_, _, _, ⟨.inl rfl⟩, BQ, ⟨FE.out.rd⟩, HB⟩
        | true =>
          have hn1 : 1 < (l22.length : Int) := by have := of_decide_eq_true HN.out; omega
          have hnm : (l22.length : Int) ≤ 900000 := sum_l22 HS.out
          obtain ⟨v, HP, hv0, hvn⟩ := place_some k l22.length (by omega) (by omega)
          have HPA := Aside0.mk HP
          clear HP
          have hz22 : wl.cell? ⟨gq, 22, none⟩ = some (.slice E22 l22.length f22) := (blk_cell BQ.out 22).trans rfl
          have hf22 : wl.frozen? ⟨gq, 22, none⟩ = false := blk_frozen BQ.out 22
          go_upto_region 14 with (first | (go_at_call 8; (with_reducible refine (crierlaw2_place.calls k _ v _ HPA.out).mono ?_); rintro e w' ⟨rfl, ⟨nd, rfl⟩⟩))
          have hvf : v ≤ (f22 : Int) := by have := (FE.out.rd _ (KeepBut.refl _ _ _)).k22; omega
          obtain ⟨ae, he22, _⟩ := (FE.out.rd _ (KeepBut.refl _ _ _)).r22.2.2 (by omega)
          cases he22
          have hz22 : (wl.drewN nd).cell? ⟨gq, 22, none⟩ = some (.slice (some ae) l22.length f22) := (blk_cell (blk_drewN BQ.out nd) 22).trans rfl
          have hf22 : (wl.drewN nd).frozen? ⟨gq, 22, none⟩ = false := blk_frozen (blk_drewN BQ.out nd) 22
          have hvl : v + 1 ≤ (l22.length : Int) := by omega
          have hfl : (l22.length : Int) ≤ (f22 : Int) := by have := (FE.out.rd _ (KeepBut.refl _ _ _)).k22; omega
          have hXT := Aside0.mk (fun (W' : World) (hW : KeepBut wl W' gq none) => C_take' ((FE.out.rd W' hW).r22) (m := v.toNat) (by omega))
          have hYD := Aside0.mk (fun (W' : World) (hW : KeepBut wl W' gq none) => C_drop' (c := f22) ((FE.out.rd W' hW).r22) (m := (v + 1).toNat) (by omega) (by omega))
          have hgl := Aside0.mk (show gq < wl.heap.size from blk_lt BQ.out)
          have hlb := Aside0.mk (show (v.toNat + (l22.length - (v + 1).toNat)) * 24 ≤ 140737488355328 by omega)
          have hwr : IntKind.i64.wrap (v + 1) = v + 1 := IntWalk.i64_in _ (by omega)
          have hv1 : 0 ≤ v + 1 := by omega
          go_region_law ((refine step_append_C k45 rfl (.tmp 63) (.tmp 68) 25 rfl 45 (.agg #[.string ⟨#[]⟩, .int .i64 0]) 24 Tryd.underlying25 cloneA_info rfl (by decide) (by decide) ae v.toNat (by rfl) (l22.take v.toNat) gq hgl.out (fun _ _ _ _ h => h) (fun W1 hW1 => hXT.out W1 ((keep_drewN (KeepBut.refl _ _ _) _).trans hW1 (.inl rfl))) _ _ _ (by rfl) (l22.drop (v + 1).toNat) (hYD.out _ (keep_drewN (KeepBut.refl _ _ _) _)) hlb.out ?_; intro A1 c1 w1 hlen hC hb; obtain ⟨m_, hm_⟩ : ∃ m, m = l22.take v.toNat ++ l22.drop (v + 1).toNat := ⟨_, rfl⟩; rw [← hm_] at hC hlen; rw [← hm_]; have HM_ := Aside0.mk hm_; have HLE := Aside0.mk hlen; have HCF := Aside0.mk hC; have HBB := Aside0.mk hb; clear hm_ hC hb hlen; have BQ1 := Aside0.mk (blk_below (blk_drewN BQ.out _) HBB.out); have hz1 : w1.cell? ⟨gq, 22, none⟩ = some (.slice (some ae) l22.length f22) := (blk_cell BQ1.out 22).trans rfl; have hf1 : w1.frozen? ⟨gq, 22, none⟩ = false := blk_frozen BQ1.out 22))
          all_goals (go_wp2; all_goals (go_meet; case rel => exact ⟨A1, c1, m_, ⟨.inr ⟨v.toNat, by omega, by omega, by rw [HM_.out, List.eraseIdx_eq_take_drop_succ, show (v + 1).toNat = v.toNat + 1 by omega]⟩⟩, ⟨blk_put BQ1.out 22 _ rfl⟩, ⟨fun W hW => by
            have h1_ := (Only.set (i := 22) _).2.trans hW (.inl rfl)
            have h := FE.out.rd W (((keep_drewN (KeepBut.refl _ _ _) _).trans (KeepBut.of_below HBB.out gq none) (.inl rfl)).trans h1_ (.inl rfl))
            exact ⟨h.r7, h.k7, h.r13, h.k13, h.r18, h.k18, HCF.out W h1_, HLE.out, h.r23, h.k23, h.r24, h.k24⟩⟩, ⟨below_set (below_step (pw_below_drewN HB.out _) HBB.out) GQ.out⟩⟩))
      case rest =>
        obtain ⟨A2, c2, m22, HL22, BQ, RD, HB⟩ := hcut
        obtain ⟨wm, hw_⟩ : ∃ x, x = wc := ⟨_, rfl⟩
        subst hw_
        clear FE
        try clear HN
        have hz24 : wm.cell? ⟨gq, 24, none⟩ = some (.slice E24 l24.length f24) := (blk_cell BQ.out 24).trans rfl
        go_upto_if 74 with (fail)
        generalize hn_ : decide ((1 : Int) < (l24.length : Int)) = bn
        have HN := Aside0.mk hn_
        clear hn_ hz24
        go_cut [] (fun wc => ∃ A3 c3 m24, Aside0 (Less l24 m24) ∧ Aside0 (wc.heap[gq]? = some (.cells #[.int .i64 a0, .int .i64 a1, .bool a2, .int .i64 a3, .string a4, .bool a5, .string a6, .slice E7 l7.length f7, .int .i64 a8, .bool a9, .bool a10, .string a11, .bool a12, .slice E13 l13.length f13, .bool a14, .int .i64 a15, .bool a16, .string a17, .slice E18 l18.length f18, .int .i64 a19, .bool a20, .int .i64 a21, .slice A2 m22.length c2, .slice E23 l23.length f23, .slice A3 m24.length c3] 29 (0, 0))) ∧ Aside0 (∀ W, KeepBut wc W gq none → Rd W E7 f7 l7 E13 f13 l13 E18 f18 l18 A2 c2 m22 E23 f23 l23 A3 c3 m24) ∧ Aside0 (Below w.heap.size w wc))
        case first =>
          cases bn with
          | false =>
            go_wp2
            go_meet
            case rel => exact ⟨_, _, _, ⟨.inl rfl⟩, BQ, RD, HB⟩
          | true =>
            have hn1 : 1 < (l24.length : Int) := by have := of_decide_eq_true HN.out; omega
            have hnm : (l24.length : Int) ≤ 900000 := sum_l24 HS.out
            obtain ⟨v, HP, hv0, hvn⟩ := place_some k l24.length (by omega) (by omega)
            have HPA := Aside0.mk HP
            clear HP
            have hz24 : wm.cell? ⟨gq, 24, none⟩ = some (.slice E24 l24.length f24) := (blk_cell BQ.out 24).trans rfl
            have hf24 : wm.frozen? ⟨gq, 24, none⟩ = false := blk_frozen BQ.out 24
            go_upto_region 17 with (first | (go_at_call 8; (with_reducible refine (crierlaw2_place.calls k _ v _ HPA.out).mono ?_); rintro e w' ⟨rfl, ⟨nd, rfl⟩⟩))
            have hvf : v ≤ (f24 : Int) := by have := (RD.out _ (KeepBut.refl _ _ _)).k24; omega
            obtain ⟨ae, he24, _⟩ := (RD.out _ (KeepBut.refl _ _ _)).r24.2.2 (by omega)
            cases he24
            have hz24 : (wm.drewN nd).cell? ⟨gq, 24, none⟩ = some (.slice (some ae) l24.length f24) := (blk_cell (blk_drewN BQ.out nd) 24).trans rfl
            have hf24 : (wm.drewN nd).frozen? ⟨gq, 24, none⟩ = false := blk_frozen (blk_drewN BQ.out nd) 24
            have hvl : v + 1 ≤ (l24.length : Int) := by omega
            have hfl : (l24.length : Int) ≤ (f24 : Int) := by have := (RD.out _ (KeepBut.refl _ _ _)).k24; omega
            have hXT := Aside0.mk (fun (W' : World) (hW : KeepBut wm W' gq none) => C_take' ((RD.out W' hW).r24) (m := v.toNat) (by omega))
            have hYD := Aside0.mk (fun (W' : World) (hW : KeepBut wm W' gq none) => (show Kd.string.C W' (if f24 = (v + 1).toNat then some ae else some (ae.add (v + 1).toNat)) (l24.length - (v + 1).toNat) (l24.drop (v + 1).toNat) by have h := C_drop' (c := f24) ((RD.out W' hW).r24) (m := (v + 1).toNat) (by omega) (by omega); rw [show (v + 1).toNat * Kd.string.sz = (v + 1).toNat from Nat.mul_one _] at h; exact h))
            have hgl := Aside0.mk (show gq < wm.heap.size from blk_lt BQ.out)
            have hlb := Aside0.mk (show (v.toNat + (l24.length - (v + 1).toNat)) * 16 ≤ 140737488355328 by omega)
            have hwr : IntKind.i64.wrap (v + 1) = v + 1 := IntWalk.i64_in _ (by omega)
            have hv1 : 0 ≤ v + 1 := by omega
            go_region_law (go_loud ((refine step_append_C Kd.string rfl (.tmp 84) (.tmp 89) 27 rfl 9 (.string ⟨#[]⟩) 16 Tryd.underlying27 cloneT_info rfl (by decide) (by decide) ae v.toNat (by rfl) (l24.take v.toNat) gq hgl.out (fun _ _ _ _ h => h) (fun W1 hW1 => hXT.out W1 ((keep_drewN (KeepBut.refl _ _ _) _).trans hW1 (.inl rfl))) _ _ _ (by rfl) (l24.drop (v + 1).toNat) (hYD.out _ (keep_drewN (KeepBut.refl _ _ _) _)) hlb.out ?_; intro A1 c1 w1 hlen hC hb; obtain ⟨m_, hm_⟩ : ∃ m, m = l24.take v.toNat ++ l24.drop (v + 1).toNat := ⟨_, rfl⟩; rw [← hm_] at hC hlen; rw [← hm_]; have HM_ := Aside0.mk hm_; have HLE := Aside0.mk hlen; have HCF := Aside0.mk hC; have HBB := Aside0.mk hb; clear hm_ hC hb hlen; have BQ1 := Aside0.mk (blk_below (blk_drewN BQ.out _) HBB.out); have hz1 : w1.cell? ⟨gq, 24, none⟩ = some (.slice (some ae) l24.length f24) := (blk_cell BQ1.out 24).trans rfl; have hf1 : w1.frozen? ⟨gq, 24, none⟩ = false := blk_frozen BQ1.out 24)))
            all_goals (go_wp2; all_goals (go_meet; case rel => exact ⟨A1, c1, m_, ⟨.inr ⟨v.toNat, by omega, by omega, by rw [HM_.out, List.eraseIdx_eq_take_drop_succ, show (v + 1).toNat = v.toNat + 1 by omega]⟩⟩, ⟨blk_put BQ1.out 24 _ rfl⟩, ⟨fun W hW => by
              have h1_ := (Only.set (i := 24) _).2.trans hW (.inl rfl)
              have h := RD.out W (((keep_drewN (KeepBut.refl _ _ _) _).trans (KeepBut.of_below HBB.out gq none) (.inl rfl)).trans h1_ (.inl rfl))
              exact ⟨h.r7, h.k7, h.r13, h.k13, h.r18, h.k18, h.r22, h.k22, h.r23, h.k23, HCF.out W h1_, HLE.out⟩⟩, ⟨below_set (below_step (pw_below_drewN HB.out _) HBB.out) GQ.out⟩⟩))
        case rest =>
          obtain ⟨A3, c3, m24, HL24, BQ, RD2, HB⟩ := hcut
          obtain ⟨wn, hw_⟩ : ∃ x, x = wc := ⟨_, rfl⟩
          subst hw_
          clear RD
          try clear HN
          have hf19 : wn.frozen? ⟨gq, 19, none⟩ = false := blk_frozen BQ.out 19
          have hz0 : wn.cell? ⟨gq, 0, none⟩ = some (.int .i64 a0) := (blk_cell BQ.out 0).trans rfl
          have hz19 : wn.cell? ⟨gq, 19, none⟩ = some (.int .i64 a19) := (blk_cell BQ.out 19).trans rfl
          have LL := less_law (p := ⟨a0, a1, a2, a3, a4, a5, a6, l7, a8, a9, a10, a11, a12, l13, a14, a15, a16, a17, l18, a19, a20, a21, l22, l23, l24⟩) HC.out HS.out HL22.out HL24.out
          have HC3 := Aside0.mk (show P.check ⟨a0, a1, a2, a3, a4, a5, a6, l7, a8, a9, a10, a11, a12, l13, a14, a15, a16, a17, l18, a19, a20, a21, m22, l23, m24⟩ = 0 from LL.1)
          have HS3 := Aside0.mk (show P.sum ⟨a0, a1, a2, a3, a4, a5, a6, l7, a8, a9, a10, a11, a12, l13, a14, a15, a16, a17, l18, a19, a20, a21, m22, l23, m24⟩ ≤ 4294967280 from Int.le_trans LL.2 (by decide))
          clear LL
          by_cases h3 : a0 = 3
          · subst h3
            by_cases h19 : 0 < a19
            · skip
              have QL := qos_law (p := ⟨3, a1, a2, a3, a4, a5, a6, l7, a8, a9, a10, a11, a12, l13, a14, a15, a16, a17, l18, a19, a20, a21, m22, l23, m24⟩) HC3.out rfl h19
              have HC4 := Aside0.mk (show P.check ⟨3, a1, a2, a3, a4, a5, a6, l7, a8, a9, a10, a11, a12, l13, a14, a15, a16, a17, l18, (3 - a19), a20, a21, m22, l23, m24⟩ = 0 from QL.2)
              have HS4 := Aside0.mk (show P.sum ⟨3, a1, a2, a3, a4, a5, a6, l7, a8, a9, a10, a11, a12, l13, a14, a15, a16, a17, l18, (3 - a19), a20, a21, m22, l23, m24⟩ ≤ 4294967280 from HS3.out)
              have h192 : a19 ≤ 2 := QL.1
              have hwr : IntKind.i64.wrap (3 - a19) = 3 - a19 := IntWalk.i64_in _ (by omega)
              clear QL HC3 HS3 HC HS2
              go_upto_region 20 with (fail)
              try rw [hwr]
              obtain ⟨wq, hwq⟩ : ∃ x, x = wn.setCell ⟨gq, 19, none⟩ (.int .i64 (3 - a19)) := ⟨_, rfl⟩
              rw [← hwq]
              have n0_ := Aside0.mk (show wq.heap[gq]? = some (.cells #[.int .i64 3, .int .i64 a1, .bool a2, .int .i64 a3, .string a4, .bool a5, .string a6, .slice E7 l7.length f7, .int .i64 a8, .bool a9, .bool a10, .string a11, .bool a12, .slice E13 l13.length f13, .bool a14, .int .i64 a15, .bool a16, .string a17, .slice E18 l18.length f18, .int .i64 (3 - a19), .bool a20, .int .i64 a21, .slice A2 m22.length c2, .slice E23 l23.length f23, .slice A3 m24.length c3] 29 (0, 0)) by rw [hwq]; exact blk_put BQ.out 19 _ rfl)
              have n1_ := Aside0.mk (show Rd wq E7 f7 l7 E13 f13 l13 E18 f18 l18 A2 c2 m22 E23 f23 l23 A3 c3 m24 by rw [hwq]; exact RD2.out _ (Only.set (i := 19) _).2)
              have n2_ := Aside0.mk (show Below w.heap.size w wq by rw [hwq]; exact below_set HB.out GQ.out)
              clear BQ RD2 HB hwq hz0 hz19 hf19; have BQ := n0_; have RD3 := n1_; have HB := n2_; clear n0_ n1_ n2_
              go_wp2_with (first | ((with_reducible refine gate_dst (N := 107) rfl ?_); refine wpList_load_row rfl 29 (.tmp 5) rfl gq rfl 29 #[.int .i64 3, .int .i64 a1, .bool a2, .int .i64 a3, .string a4, .bool a5, .string a6, .slice E7 l7.length f7, .int .i64 a8, .bool a9, .bool a10, .string a11, .bool a12, .slice E13 l13.length f13, .bool a14, .int .i64 a15, .bool a16, .string a17, .slice E18 l18.length f18, .int .i64 (3 - a19), .bool a20, .int .i64 a21, .slice A2 m22.length c2, .slice E23 l23.length f23, .slice A3 m24.length c3] (0, 0) _ (by first | exact BQ.out | exact blk_drewN BQ.out _ | exact blk_drew BQ.out) hu29 rfl (by kernel_rfl) ?_))
              have HK := Check_P 3 a1 a2 a3 a4 a5 a6 E7 f7 l7 a8 a9 a10 a11 a12 E13 f13 l13 a14 a15 a16 a17 E18 f18 l18 (3 - a19) a20 a21 A2 c2 m22 E23 f23 l23 A3 c3 m24 _ (HT.out.below HB.out) RD3.out HS4.out
              rw [HC4.out] at HK
              refine HK.mono ?_
              rintro e w5 ⟨rfl, hb⟩
              clear HK
              have n0_ := Aside0.mk (below_step HB.out hb); clear HB hb; have HB := n0_; clear n0_
              go_wp2
              go_ret
              exact ⟨rfl, HB.out⟩
            · have HC4 := HC3; have HS4 := HS3
              go_upto_region 20 with (fail)
              have RD3 := Aside0.mk (RD2.out _ (KeepBut.refl _ _ _)); clear RD2 hz0 hz19 hf19
              go_wp2_with (first | ((with_reducible refine gate_dst (N := 107) rfl ?_); refine wpList_load_row rfl 29 (.tmp 5) rfl gq rfl 29 #[.int .i64 3, .int .i64 a1, .bool a2, .int .i64 a3, .string a4, .bool a5, .string a6, .slice E7 l7.length f7, .int .i64 a8, .bool a9, .bool a10, .string a11, .bool a12, .slice E13 l13.length f13, .bool a14, .int .i64 a15, .bool a16, .string a17, .slice E18 l18.length f18, .int .i64 a19, .bool a20, .int .i64 a21, .slice A2 m22.length c2, .slice E23 l23.length f23, .slice A3 m24.length c3] (0, 0) _ (by first | exact BQ.out | exact blk_drewN BQ.out _ | exact blk_drew BQ.out) hu29 rfl (by kernel_rfl) ?_))
              have HK := Check_P 3 a1 a2 a3 a4 a5 a6 E7 f7 l7 a8 a9 a10 a11 a12 E13 f13 l13 a14 a15 a16 a17 E18 f18 l18 a19 a20 a21 A2 c2 m22 E23 f23 l23 A3 c3 m24 _ (HT.out.below HB.out) RD3.out HS4.out
              rw [HC4.out] at HK
              refine HK.mono ?_
              rintro e w5 ⟨rfl, hb⟩
              clear HK
              have n0_ := Aside0.mk (below_step HB.out hb); clear HB hb; have HB := n0_; clear n0_
              go_wp2
              go_ret
              exact ⟨rfl, HB.out⟩
          · have HC4 := HC3; have HS4 := HS3
            go_upto_region 20 with (fail)
            have RD3 := Aside0.mk (RD2.out _ (KeepBut.refl _ _ _)); clear RD2 hz0 hz19 hf19
            go_wp2_with (first | ((with_reducible refine gate_dst (N := 107) rfl ?_); refine wpList_load_row rfl 29 (.tmp 5) rfl gq rfl 29 #[.int .i64 a0, .int .i64 a1, .bool a2, .int .i64 a3, .string a4, .bool a5, .string a6, .slice E7 l7.length f7, .int .i64 a8, .bool a9, .bool a10, .string a11, .bool a12, .slice E13 l13.length f13, .bool a14, .int .i64 a15, .bool a16, .string a17, .slice E18 l18.length f18, .int .i64 a19, .bool a20, .int .i64 a21, .slice A2 m22.length c2, .slice E23 l23.length f23, .slice A3 m24.length c3] (0, 0) _ (by first | exact BQ.out | exact blk_drewN BQ.out _ | exact blk_drew BQ.out) hu29 rfl (by kernel_rfl) ?_))
            have HK := Check_P a0 a1 a2 a3 a4 a5 a6 E7 f7 l7 a8 a9 a10 a11 a12 E13 f13 l13 a14 a15 a16 a17 E18 f18 l18 a19 a20 a21 A2 c2 m22 E23 f23 l23 A3 c3 m24 _ (HT.out.below HB.out) RD3.out HS4.out
            rw [HC4.out] at HK
            refine HK.mono ?_
            rintro e w5 ⟨rfl, hb⟩
            clear HK
            have n0_ := Aside0.mk (below_step HB.out hb); clear HB hb; have HB := n0_; clear n0_
            go_wp2
            go_ret
            exact ⟨rfl, HB.out⟩
end Go.Proofs.YtipliohgnaoblaaDoor.Pk
