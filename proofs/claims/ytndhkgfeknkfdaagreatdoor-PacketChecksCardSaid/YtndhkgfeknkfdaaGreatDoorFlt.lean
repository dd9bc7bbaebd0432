/- packet.filters: whether all filters of a packet are filters. -/
import Derived.Test.YtndhkgfeknkfdaaGreatDoorLen
import Derived.Laws.EntriesVeiled
namespace Go.Proofs.YtndhkgfeknkfdaaGreatDoor.Pk
open Go.RowKit Go.Proofs.YtndhkgfeknkfdaaGreatDoor.Giv Go.Proofs.YtndhkgfeknkfdaaGreatDoorW.PrintWords Go.Proofs.YtndhkgfeknkfdaaGreatDoorW.PrintLast Go.Proofs.YtndhkgfeknkfdaaGreatDoorW.PrintMore Go.Proofs.YtndhkgfeknkfdaaGreatDoor.MPacketChecks
set_option linter.unusedVariables false
set_option linter.unusedSimpArgs false
set_option maxHeartbeats 8000000
set_option maxRecDepth 100000
/-- what topic.CheckFilter tells; whether it is bad -/
def ckF (s : ByteArray) : Int := if txt s = 0 then (if Cr.okF (Cr.levels (Cr.bl s)) = true then 0 else 52) else txt s
def badF (s : ByteArray) : Bool := ckF s != 0
theorem ckF_some {s : ByteArray} (h : s.size ≤ 4294967280) : topic_CheckFilter.f s = some (ckF s) := by unfold topic_CheckFilter.f ckF; rw [if_pos h]
theorem bad1_calls (s : ByteArray) (w : World) (hs : s.size ≤ 4294967280) :
    Calls Tryz.prog 146 #[.string s] w fun e w' => e = .returned (.bool (badF s)) ∧ Below w.heap.size w w' := by
  have HC := Aside0.mk (ckF_some hs)
  have HB := Aside0.mk (Below.refl w.heap.size w)
  clear hs
  go_enter Tryz.func146, Tryz.ntmps146
  go_wp2_with fail
  refine (topic_CheckFilter.calls s _ _ HC.out).mono ?_
  rintro e w9 ⟨rfl, hb⟩
  have n0_ := Aside0.mk (below_step HB.out hb)
  clear HB hb
  go_wp2
  go_ret
  exact ⟨rfl, n0_.out⟩
theorem bad2_calls (s : ByteArray) (q : Int) (gf : Nat) (w : World) (hs : s.size ≤ 4294967280)
    (hf : w.cell? ⟨gf, 0, none⟩ = some (.func (Fn.func 146) #[] #[])) :
    Calls Tryz.prog 150 #[.agg #[.string s, .int .i64 q], .pointer (some ⟨gf, 0, none⟩)] w fun e w' => e = .returned (.bool (badF s)) ∧ Below w.heap.size w w' := by
  have hu82 := Tryz.underlying82
  have HS := Aside0.mk hs
  have HB := Aside0.mk (Below.refl w.heap.size w)
  have hlt := World.block_lt_of_cell? w _ hf
  clear hs
  go_enter Tryz.func150, Tryz.ntmps150
  go_wp2_with fail
  refine (bad1_calls s _ HS.out).mono ?_
  rintro e w9 ⟨rfl, hb⟩
  have n0_ := Aside0.mk (below_step (below_alloc HB.out _) hb)
  clear HB hb
  go_wp2
  go_ret
  exact ⟨rfl, n0_.out⟩
theorem any_step {α : Type} (l : List α) (z : α) (p : α → Bool) (x : Int) (h0 : 0 ≤ x) (h1 : x < l.length) : (l.take (x + 1).toNat).any p = ((l.take x.toNat).any p || p (l.getD x.toNat z)) := by
  rw [take_at l z x h0 h1]; simp
theorem any_found {α : Type} (l : List α) (z : α) (p : α → Bool) (x : Int) (h0 : 0 ≤ x) (h1 : x < l.length) (h : p (l.getD x.toNat z) = true) : l.any p = true := by
  have hl : x.toNat < l.length := by omega
  rw [List.getD_eq_getElem?_getD, List.getElem?_eq_getElem hl] at h
  exact List.any_eq_true.2 ⟨_, List.getElem_mem hl, h⟩
theorem mem_at {α : Type} {P : α → Prop} (l : List α) (z : α) (x : Int) (h0 : 0 ≤ x) (h1 : x < l.length) (h : ∀ y ∈ l, P y) : P (l.getD x.toNat z) := by
  have hl : x.toNat < l.length := by omega
  rw [List.getD_eq_getElem?_getD, List.getElem?_eq_getElem hl]; exact h _ (List.getElem_mem hl)

theorem idxT_calls (A : Option Addr) (c : Nat) (l : List ByteArray) (w : World) (hr : Kd.C Kd.string w A l.length l) (hc : l.length ≤ c) (hl : (l.length : Int) ≤ 1125899906842624)
    (hs : ∀ y ∈ l, y.size ≤ 4294967280) :
    Calls Tryz.prog 206 #[.slice A l.length c, .func (Fn.func 146) #[] #[]] w fun e w' => ∃ i : Int, Aside0 (decide (0 ≤ i) = l.any (fun y => badF y)) ∧ e = .returned (.int .i64 i) ∧ Below w.heap.size w w' := by
  have hu82 := Tryz.underlying82
  have HR := Aside0.mk hr
  have HS := Aside0.mk hs
  have HB := Aside0.mk (Below.refl w.heap.size w)
  skip
  clear hr hs hc
  go_enter Tryz.func206, Tryz.ntmps206
  go_wp2_with fail
  go_loopw [8] (fun v wr => ∃ x : Int, v = .int .i64 x ∧ 0 ≤ x ∧ x ≤ l.length ∧ Aside0 ((l.take x.toNat).any (fun y => badF y) = false) ∧ Aside0 (Below w.heap.size w wr)) (fun v _ => l.length - (intOf v).toNat)
  case atStart => exact ⟨0, rfl, by omega, by omega, ⟨by simp⟩, HB⟩
  case round =>
    clear HB
    obtain ⟨x, rfl, hx0, hx1, EN, HB⟩ := hrel
    obtain ⟨wo, hwo⟩ : ∃ x, x = wr := ⟨_, rfl⟩
    subst hwo
    by_cases hlt : x < l.length
    · obtain ⟨ad, e, hy0⟩ := Kd.at_string HR.out x hx0 hlt
      cases e
      replace hy0 := (HB.out.cell (World.block_lt_of_cell? w _ hy0)).trans hy0
      have ST := Aside0.mk (any_step l ByteArray.empty (fun y => badF y) x hx0 hlt)
      have SZ := Aside0.mk (mem_at (P := fun y => y.size ≤ 4294967280) l ByteArray.empty x hx0 hlt HS.out)
      have FD := Aside0.mk (fun h => any_found l ByteArray.empty (fun y => badF y) x hx0 hlt h)
      skip
      go_wp2_with fail
      refine (bad1_calls (rdOf ByteArray.empty l x) _ SZ.out).mono ?_
      rintro e w9 ⟨rfl, hb⟩
      have n0_ := Aside0.mk (below_step HB.out hb)
      clear HB hb hy0
      have HB := n0_
      clear n0_
      cases hbd : badF (rdOf ByteArray.empty l x) with
      | true =>
        have FE := Aside0.mk (FD.out hbd)
        clear hbd FD ST
        go_wp2
        go_ret
        exact ⟨x, ⟨by rw [FE.out]; simpa using hx0⟩, rfl, HB.out⟩
      | false =>
        have SE := Aside0.mk (ST.out.trans (show ((l.take x.toNat).any (fun y => badF y) || badF (rdOf ByteArray.empty l x)) = false by rw [EN.out, hbd]; rfl))
        clear hbd FD ST
        go_wp2
        go_roundw
        case rel => exact ⟨x + 1, rfl, by omega, by omega, SE, HB⟩
        case measure => simp [intOf]; omega
    · have hxe : x = l.length := by omega
      have EN2 := Aside0.mk (show l.any (fun y => badF y) = false by have := EN.out; rw [hxe] at this; simpa using this)
      clear EN hxe
      go_wp2
      go_ret
      exact ⟨-1, ⟨by rw [EN2.out]; rfl⟩, rfl, HB.out⟩
theorem idxT_has (A : Option Addr) (c : Nat) (l : List ByteArray) (w : World) (hr : Kd.C Kd.string w A l.length l) (hc : l.length ≤ c) (hl : (l.length : Int) ≤ 1125899906842624)
    (hs : ∀ y ∈ l, y.size ≤ 4294967280) :
    Calls Tryz.prog 148 #[.slice A l.length c, .func (Fn.func 146) #[] #[]] w fun e w' => e = .returned (.bool (l.any (fun y => badF y))) ∧ Below w.heap.size w w' := by
  have HR := Aside0.mk hr
  have HS := Aside0.mk hs
  have HC := Aside0.mk hc
  have HB := Aside0.mk (Below.refl w.heap.size w)
  skip
  clear hr hs hc
  go_enter Tryz.func148, Tryz.ntmps148
  go_wp2_with fail
  refine (idxT_calls A c l  _ HR.out HC.out hl HS.out ).mono ?_
  rintro e w9 ⟨i, hi, rfl, hb⟩
  go_wp2
  go_ret
  exact ⟨by rw [← hi.out]; rfl, hb⟩

theorem idxA_calls (A : Option Addr) (c : Nat) (l : List S82) (gf : Nat) (w : World) (hr : Kd.C k82 w A l.length l) (hc : l.length ≤ c) (hl : (l.length : Int) ≤ 1125899906842624)
    (hs : ∀ y ∈ l, y.f0.size ≤ 4294967280) (hf : w.cell? ⟨gf, 0, none⟩ = some (.func (Fn.func 146) #[] #[])) :
    Calls Tryz.prog 207 #[.slice A l.length c, .func (Fn.func 150) #[] #[.pointer (some ⟨gf, 0, none⟩)]] w fun e w' => ∃ i : Int, Aside0 (decide (0 ≤ i) = l.any (fun y => badF y.f0)) ∧ e = .returned (.int .i64 i) ∧ Below w.heap.size w w' := by
  have hu82 := Tryz.underlying82
  have HR := Aside0.mk hr
  have HS := Aside0.mk hs
  have HB := Aside0.mk (Below.refl w.heap.size w)
  have HF := Aside0.mk hf; clear hf
  clear hr hs hc
  go_enter Tryz.func207, Tryz.ntmps207
  go_wp2_with fail
  go_loopw [8] (fun v wr => ∃ x : Int, v = .int .i64 x ∧ 0 ≤ x ∧ x ≤ l.length ∧ Aside0 ((l.take x.toNat).any (fun y => badF y.f0) = false) ∧ Aside0 (Below w.heap.size w wr)) (fun v _ => l.length - (intOf v).toNat)
  case atStart => exact ⟨0, rfl, by omega, by omega, ⟨by simp⟩, HB⟩
  case round =>
    clear HB
    obtain ⟨x, rfl, hx0, hx1, EN, HB⟩ := hrel
    obtain ⟨wo, hwo⟩ : ∃ x, x = wr := ⟨_, rfl⟩
    subst hwo
    by_cases hlt : x < l.length
    · obtain ⟨ad, e, hy0, hy1⟩ := at_T82 HR.out x hx0 hlt
      cases e
      replace hy0 := (HB.out.cell (World.block_lt_of_cell? w _ hy0)).trans hy0
      replace hy1 := (HB.out.cell (World.block_lt_of_cell? w _ hy1)).trans hy1
      have ST := Aside0.mk (any_step l z82 (fun y => badF y.f0) x hx0 hlt)
      have SZ := Aside0.mk (mem_at (P := fun y => y.f0.size ≤ 4294967280) l z82 x hx0 hlt HS.out)
      have FD := Aside0.mk (fun h => any_found l z82 (fun y => badF y.f0) x hx0 hlt h)
      skip
      go_wp2_with fail
      refine (bad2_calls (rd_T82 l x).f0 (rd_T82 l x).f1 gf _ SZ.out ((HB.out.cell (World.block_lt_of_cell? w _ HF.out)).trans HF.out)).mono ?_
      rintro e w9 ⟨rfl, hb⟩
      have n0_ := Aside0.mk (below_step HB.out hb)
      clear HB hb hy0 hy1
      have HB := n0_
      clear n0_
      cases hbd : badF ((rd_T82 l x).f0) with
      | true =>
        have FE := Aside0.mk (FD.out hbd)
        clear hbd FD ST
        go_wp2
        go_ret
        exact ⟨x, ⟨by rw [FE.out]; simpa using hx0⟩, rfl, HB.out⟩
      | false =>
        have SE := Aside0.mk (ST.out.trans (show ((l.take x.toNat).any (fun y => badF y.f0) || badF ((rd_T82 l x).f0)) = false by rw [EN.out, hbd]; rfl))
        clear hbd FD ST
        go_wp2
        go_roundw
        case rel => exact ⟨x + 1, rfl, by omega, by omega, SE, HB⟩
        case measure => simp [intOf]; omega
    · have hxe : x = l.length := by omega
      have EN2 := Aside0.mk (show l.any (fun y => badF y.f0) = false by have := EN.out; rw [hxe] at this; simpa using this)
      clear EN hxe
      go_wp2
      go_ret
      exact ⟨-1, ⟨by rw [EN2.out]; rfl⟩, rfl, HB.out⟩
theorem idxA_has (A : Option Addr) (c : Nat) (l : List S82) (gf : Nat) (w : World) (hr : Kd.C k82 w A l.length l) (hc : l.length ≤ c) (hl : (l.length : Int) ≤ 1125899906842624)
    (hs : ∀ y ∈ l, y.f0.size ≤ 4294967280) (hf : w.cell? ⟨gf, 0, none⟩ = some (.func (Fn.func 146) #[] #[])) :
    Calls Tryz.prog 149 #[.slice A l.length c, .func (Fn.func 150) #[] #[.pointer (some ⟨gf, 0, none⟩)]] w fun e w' => e = .returned (.bool (l.any (fun y => badF y.f0))) ∧ Below w.heap.size w w' := by
  have HR := Aside0.mk hr
  have HS := Aside0.mk hs
  have HC := Aside0.mk hc
  have HB := Aside0.mk (Below.refl w.heap.size w)
  have HF := Aside0.mk hf; clear hf
  clear hr hs hc
  go_enter Tryz.func149, Tryz.ntmps149
  go_wp2_with fail
  refine (idxA_calls A c l gf _ HR.out HC.out hl HS.out HF.out).mono ?_
  rintro e w9 ⟨i, hi, rfl, hb⟩
  go_wp2
  go_ret
  exact ⟨by rw [← hi.out]; rfl, hb⟩

def filtersV (l22 : List S82) (l24 : List ByteArray) : Bool := !l24.any (fun y => badF y) && !l22.any (fun y => badF y.f0)
theorem filters_calls (a0 : Int) (a1 : Int) (a2 : Bool) (a3 : Int) (a4 : ByteArray) (a5 : Bool) (a6 : ByteArray) (A7 : Option Addr) (c7 : Nat) (l7 : List Int) (a8 : Int) (a9 : Bool) (a10 : Bool) (a11 : ByteArray) (a12 : Bool) (A13 : Option Addr) (c13 : Nat) (l13 : List Int) (a14 : Bool) (a15 : Int) (a16 : Bool) (a17 : ByteArray) (A18 : Option Addr) (c18 : Nat) (l18 : List Int) (a19 : Int) (a20 : Bool) (a21 : Int) (A22 : Option Addr) (c22 : Nat) (l22 : List S82) (A23 : Option Addr) (c23 : Nat) (l23 : List Int) (A24 : Option Addr) (c24 : Nat) (l24 : List ByteArray) (w : World) (hr22 : Kd.C k82 w A22 l22.length l22) (hc22 : l22.length ≤ c22) (hr24 : Kd.C Kd.string w A24 l24.length l24) (hc24 : l24.length ≤ c24)
    (hl22 : (l22.length : Int) ≤ 1125899906842624) (hl24 : (l24.length : Int) ≤ 1125899906842624) (hs22 : ∀ y ∈ l22, y.f0.size ≤ 4294967280) (hs24 : ∀ y ∈ l24, y.size ≤ 4294967280) :
    Calls Tryz.prog 96 #[.agg #[.int .i64 a0, .int .i64 a1, .bool a2, .int .i64 a3, .string a4, .bool a5, .string a6, .slice A7 l7.length c7, .int .i64 a8, .bool a9, .bool a10, .string a11, .bool a12, .slice A13 l13.length c13, .bool a14, .int .i64 a15, .bool a16, .string a17, .slice A18 l18.length c18, .int .i64 a19, .bool a20, .int .i64 a21, .slice A22 l22.length c22, .slice A23 l23.length c23, .slice A24 l24.length c24]] w fun e w' => e = .returned (.bool (filtersV l22 l24)) ∧ Below w.heap.size w w' := by
  have hu29 := Tryz.underlying29
  have HR22 := Aside0.mk hr22
  have HR24 := Aside0.mk hr24
  have HC22 := Aside0.mk hc22
  have HC24 := Aside0.mk hc24
  have HS22 := Aside0.mk hs22
  have HS24 := Aside0.mk hs24
  clear hr22 hr24 hc22 hc24 hs22 hs24
  have HB := Aside0.mk (Below.refl w.heap.size w)
  go_enter Tryz.func96, Tryz.ntmps96
  go_upto_region 2 with (first | ((with_reducible refine gate_dst (N := 1) rfl ?_); refine box_event ?hg (N := 1) ?hd (cs := #[.int .i64 a0, .int .i64 a1, .bool a2, .int .i64 a3, .string a4, .bool a5, .string a6, .slice A7 l7.length c7, .int .i64 a8, .bool a9, .bool a10, .string a11, .bool a12, .slice A13 l13.length c13, .bool a14, .int .i64 a15, .bool a16, .string a17, .slice A18 l18.length c18, .int .i64 a19, .bool a20, .int .i64 a21, .slice A22 l22.length c22, .slice A23 l23.length c23, .slice A24 l24.length c24]) (t := 29) ?hr ?_; (case hd => rfl); (case hg => rfl); (case hr => first | (go_simp; done) | (go_simp; rfl)); intro gb hg w3 hbox hb; have n0_ := Aside0.mk (below_step (by repeat (first | (with_reducible first | exact HB.out | apply below_alloc | apply pw_below_drewN | apply below_drew1) | exact HB.out)) hb); clear HB; have HB := n0_; clear n0_; have BK := Aside0.mk hbox; have GB := Aside0.mk (blk_lt hbox); clear hb hbox hg))
  have BN := Aside0.mk (blk_new w3 (.cells #[.func (Fn.func 146) #[] #[]] 98 (0, 0)))
  have n0_ := Aside0.mk (below_alloc HB.out (.cells #[.func (Fn.func 146) #[] #[]] 98 (0, 0)))
  have n1_ := Aside0.mk (blk_alloc BK.out (.cells #[.func (Fn.func 146) #[] #[]] 98 (0, 0)))
  clear HB BK
  have HB := n0_
  have BK := n1_
  clear n0_ n1_ GB
  generalize (w3.alloc (.cells #[.func (Fn.func 146) #[] #[]] 98 (0, 0))) = w4 at *
  generalize w3.heap.size = gn at *
  have hz24 : w4.cell? ⟨gb, 24, none⟩ = some (.slice A24 l24.length c24) := (blk_cell BK.out 24).trans rfl
  have hy : w4.cell? ⟨gn, 0, none⟩ = some (.func (Fn.func 146) #[] #[]) := (blk_cell BN.out 0).trans rfl
  go_wp2_with fail
  refine (idxT_has A24 c24 l24 _ (Kd.C_below HR24.out HB.out) HC24.out hl24 HS24.out).mono ?_
  rintro e w5 ⟨rfl, hb⟩
  have n0_ := Aside0.mk (below_step HB.out hb)
  have n1_ := Aside0.mk (blk_below BK.out hb)
  have n2_ := Aside0.mk (blk_below BN.out hb)
  clear HB BK BN hb hy hz24
  have HB := n0_
  have BK := n1_
  have BN := n2_
  clear n0_ n1_ n2_
  have hz22 : w5.cell? ⟨gb, 22, none⟩ = some (.slice A22 l22.length c22) := (blk_cell BK.out 22).trans rfl
  cases hA : l24.any (fun y => badF y) with
  | true =>
    have HA := Aside0.mk hA
    clear hA
    go_wp2_with fail
    go_ret
    exact ⟨by unfold filtersV; rw [HA.out]; rfl, HB.out⟩
  | false =>
    have HA := Aside0.mk hA
    clear hA
    go_wp2_with fail
    refine (idxA_has A22 c22 l22 gn _ (Kd.C_below HR22.out HB.out) HC22.out hl22 HS22.out ((blk_cell BN.out 0).trans rfl)).mono ?_
    rintro e w6 ⟨rfl, hb⟩
    have n0_ := Aside0.mk (below_step HB.out hb)
    clear HB hb
    go_wp2_with fail
    go_ret
    exact ⟨by unfold filtersV; rw [HA.out]; rfl, n0_.out⟩

end Go.Proofs.YtndhkgfeknkfdaaGreatDoor.Pk
