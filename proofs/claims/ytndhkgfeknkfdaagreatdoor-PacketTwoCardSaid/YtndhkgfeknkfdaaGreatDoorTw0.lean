/- What PacketTwo's walk keeps. -/
import Derived.Test.YtndhkgfeknkfdaaGreatDoorBp
import Derived.Test.YtndhkgfeknkfdaaGreatDoorCpz
import Derived.Test.YtndhkgfeknkfdaaGreatDoorPok
namespace Go.Proofs.YtndhkgfeknkfdaaGreatDoor.Rm
open Go.RowKit Go.Proofs.YtndhkgfeknkfdaaGreatDoorW.PrintWords Go.Proofs.YtndhkgfeknkfdaaGreatDoorW.PrintLast Go.Proofs.YtndhkgfeknkfdaaGreatDoorW.PrintMore Go.Proofs.YtndhkgfeknkfdaaGreatDoor.MPacketChecks
set_option linter.unusedVariables false
set_option linter.unusedSimpArgs false
set_option maxHeartbeats 4000000
set_option maxRecDepth 100000
/-- all that L6 labels 0 stays as in w6 -/
structure Keep (base : Nat) (w0 w6 : World) (L6 : Nat → Nat) (L : Nat → Nat) (W : World) : Prop where
 size : w6.heap.size ≤ W.heap.size
 keep : ∀ k, k < w6.heap.size → L6 k = 0 → W.heap[k]? = w6.heap[k]? ∧ L k = 0
 s3 : Same3 w0 W
 b6 : Below base w0 w6
 bs : base ≤ w6.heap.size
 l0 : ∀ k, k < base → L6 k = 0
section
variable {base : Nat} {w0 w6 w W : World} {L6 L L' : Nat → Nat} {X : Nat → Prop}
theorem Keep.below (h : Keep base w0 w6 L6 L W) : Below base w0 W := ⟨h.s3.os, h.s3.tape, h.s3.output, Nat.le_trans h.b6.size h.size, fun k hk => ((h.keep k (Nat.lt_of_lt_of_le hk h.bs) (h.l0 k hk)).1).trans (h.b6.block k hk)⟩
theorem Keep.stb (h0 : ¬ X 0) : Stb X (Keep base w0 w6 L6) := fun L w L' w' h c s => ⟨Nat.le_trans h.size c.size, fun k hk e => by
 have h1 := h.keep k hk e
 have h2 := c.keep k (Nat.lt_of_lt_of_le hk h.size) (by rw [h1.2]; exact h0)
 exact ⟨h2.1.trans h1.1, h2.2.trans h1.2⟩, ⟨s.os.trans h.s3.os, s.tape.trans h.s3.tape, s.output.trans h.s3.output⟩, h.b6, h.bs, h.l0⟩
theorem Keep.blk (h : Keep base w0 w6 L6 L W) {g T : Nat} {cs : Array Value} (hb : w6.heap[g]? = some (.cells cs T (0, 0))) (hl : L6 g = 0) : W.heap[g]? = some (.cells cs T (0, 0)) := ((h.keep g (blk_lt hb) hl).1).trans hb
theorem In6.stb {b7 n7 b13 n13 b18 n18 b22 n22 b23 n23 b24 n24 : Nat} {tl7 tl13 tl18 tl22 tl23 tl24 : List Value} {bd : Nat} (hX : ∀ x, 800 ≤ x → x < 830 → ¬ X x) : Stb X (In6 b7 n7 b13 n13 b18 n18 b22 n22 b23 n23 b24 n24 tl7 tl13 tl18 tl22 tl23 tl24 bd) := fun L w L' w' h c s => by
 obtain ⟨x7, x13, x18, x22, x23, x24, h7, h13, h18, h22, h23, h24, hb⟩ := h
 exact ⟨x7, x13, x18, x22, x23, x24, Lnt.stb (fun _ _ _ _ h => h : Fl (Kd.int .u8)) (hX 807 (by decide) (by decide)) _ _ _ _ h7 c s, Lnt.stb (fun _ _ _ _ h => h : Fl (Kd.int .u8)) (hX 813 (by decide) (by decide)) _ _ _ _ h13 c s, Lnt.stb (fun _ _ _ _ h => h : Fl (Kd.int .u8)) (hX 818 (by decide) (by decide)) _ _ _ _ h18 c s, Lnt.stb (fun _ _ _ _ h => h : Fl k82) (hX 822 (by decide) (by decide)) _ _ _ _ h22 c s, Lnt.stb (fun _ _ _ _ h => h : Fl (Kd.int .i64)) (hX 823 (by decide) (by decide)) _ _ _ _ h23 c s, Lnt.stb (fun _ _ _ _ h => h : Fl Kd.string) (hX 824 (by decide) (by decide)) _ _ _ _ h24 c s, hb⟩
theorem In6.more {b7 n7 b13 n13 b18 n18 b22 n22 b23 n23 b24 n24 : Nat} {tl7 tl13 tl18 tl22 tl23 tl24 : List Value} {bd bd' : Nat} (h : In6 b7 n7 b13 n13 b18 n18 b22 n22 b23 n23 b24 n24 tl7 tl13 tl18 tl22 tl23 tl24 bd L W) (hb : bd ≤ bd') : In6 b7 n7 b13 n13 b18 n18 b22 n22 b23 n23 b24 n24 tl7 tl13 tl18 tl22 tl23 tl24 bd' L W := by
 obtain ⟨x7, x13, x18, x22, x23, x24, h7, h13, h18, h22, h23, h24, hy⟩ := h
 exact ⟨x7, x13, x18, x22, x23, x24, h7, h13, h18, h22, h23, h24, fun y h => Nat.le_trans (hy y h) hb⟩
end
theorem ya_spl : ∀ x, 800 ≤ x → x < 830 → ¬ Ya x := fun x h1 h2 h => by unfold Ya Bl at h; omega
theorem ya_0 : ¬ Ya 0 := fun h => by unfold Ya Bl at h; omega
theorem spl_0 : ¬ Spl 0 := fun h => by unfold Spl at h; omega
section
variable {base g : Nat} {E E' : (Nat → Nat) → World → Prop} {turn deep : Int} {seen : Nat → Int} {L L' : Nat → Nat} {w W : World} {N : Nat} {cs : Array Value} {D : Nat → List Value} {q0 q1 q2 q4 : Kq}
/-- new blocks, labelled as one likes -/
theorem Bq.news (h : Bq base g E turn deep seen L w N cs D q0 q1 q2 q4) (hE : Stb Ya E) (hb : Below w.heap.size w W) (hl : ∀ k, k < w.heap.size → L' k = L k) : Bq base g E turn deep seen L' W N cs D q0 q1 q2 q4 := by
 have hn : Only No L w L' W := (Only.below hb).relab hl
 exact ⟨⟨h.b.B.step hn (fun _ hx => hx.elim), h.b.S, Fa.stb hE _ _ _ _ h.b.F (hn.mono (fun _ hx => hx.elim)).chg (s3_below hb)⟩, h.d⟩
/-- what the lent lists alone are written -/
theorem Bq.spl (h : Bq base g E turn deep seen L w N cs D q0 q1 q2 q4) (ho : Only Spl L w L' W) (s3 : Same3 w W) (k : E' L' W) : Bq base g E' turn deep seen L' W N cs D q0 q1 q2 q4 := by
 have hF := h.b.F
 have h0 : ¬ Spl 0 := spl_0
 exact ⟨⟨h.b.B.step ho (fun x hx hb => by unfold Spl at hx; unfold Bl at hb; omega), h.b.S,
  Kr.stb (fun _ _ _ _ h => h : Fl (Kd.int .u8)) (fun hx => by unfold Spl at hx; omega) h0 _ _ _ _ hF.1 ho.chg s3, Kr.stb (fun _ _ _ _ h => h : Fl (Kd.int .i64)) (fun hx => by unfold Spl at hx; omega) h0 _ _ _ _ hF.2.1 ho.chg s3, Kr.stb (fun _ _ _ _ h => h : Fl Kd.string) (fun hx => by unfold Spl at hx; omega) h0 _ _ _ _ hF.2.2.1 ho.chg s3, Kr.stb (fun _ _ _ _ h => h : Fl k82) (fun hx => by unfold Spl at hx; omega) h0 _ _ _ _ hF.2.2.2.1 ho.chg s3, k⟩, h.d⟩
theorem Bq.more (h : Bq base g E turn deep seen L w N cs D q0 q1 q2 q4) {M : Nat} (hM : N ≤ M) : Bq base g E turn deep seen L w M cs D q0 q1 q2 q4 := ⟨⟨⟨h.b.B.blk, h.b.B.lab, h.b.B.ge, h.b.B.size, h.b.B.ne, fun i hi => by
 obtain ⟨V, h1, h2, h3, h4⟩ := h.b.B.row i hi
 exact ⟨V, h1, Nat.le_trans h2 hM, h3, h4⟩⟩, h.b.S, h.b.F⟩, ⟨h.d.d0.more hM, h.d.d1.more hM, h.d.d2.more hM, h.d.d4.more hM, h.d.o⟩⟩
theorem dsh_nil {k M : Nat} : Dq k M (fun _ => []) Kq.nil := ⟨rfl, rfl, rfl, rfl, rfl, rfl, rfl, rfl, rfl, rfl, rfl, Nat.zero_le _⟩
/-- a fresh Book -/
theorem Bq.zero {Z : Array Value} (hb : w.heap[g]? = some (.cells Z 62 (0, 0))) (hl : L g = 399) (hge : base ≤ g) (hz : Z.size = 193) (hn : ∀ i, i < 168 → Z[slot i]? = some (.slice none 0 0)) (hs : Sc Z false false 0 0 (fun _ => 0)) (hE : E L w) : Bq base g E 0 0 (fun _ => 0) L w 0 Z (fun _ => []) Kq.nil Kq.nil Kq.nil Kq.nil :=
 ⟨⟨Bok.zero hb hl hge hz (by decide) hn, hs, Kr.nil _ _ _ _ _ _, Kr.nil _ _ _ _ _ _, Kr.nil _ _ _ _ _ _, Kr.nil _ _ _ _ _ _, hE⟩, ⟨dsh_nil, dsh_nil, dsh_nil, dsh_nil, fun _ _ _ _ _ _ => rfl⟩⟩
end
/-- labels of new lists: by the type of the block -/
def tyL (n : Nat) (W : World) (L : Nat → Nat) (k : Nat) : Nat := if k < n then L k else match W.heap[k]? with
 | some (.cells _ te _) => if te = 5 then 1000 else if te = 3 then 1001 else if te = 9 then 1002 else if te = 82 then 1004 else 0
 | _ => 0
theorem tyL_new {n k te t : Nat} {W : World} {L : Nat → Nat} {cs : Array Value} {fr : Nat × Nat} (hk : n ≤ k) (h : W.heap[k]? = some (.cells cs te fr)) (ht : (if te = 5 then 1000 else if te = 3 then 1001 else if te = 9 then 1002 else if te = 82 then 1004 else 0) = t) : tyL n W L k = t := by
 unfold tyL
 rw [if_neg (by omega), h]
 exact ht
theorem ls_new {α : Type} {d : Kd α} {te t base n : Nat} {W : World} {L : Nat → Nat} {ok : Nat → Prop} {V : Value} {xs : List α} (h : d.R te W n ok V xs) (ht : (if te = 5 then 1000 else if te = 3 then 1001 else if te = 9 then 1002 else if te = 82 then 1004 else 0) = t) (hb : base ≤ n) : Ls d te base t (tyL n W L) W V xs := by
 obtain ⟨h0, inner, ho, hr⟩ := h
 refine Ls.of ⟨inner, own_weaken ho hb, hr.imp_ (fun _ _ hp => d.K_of_M hp)⟩ (fun b hb' => ?_)
 obtain ⟨cells, hc⟩ := own_typed ho b (rmb_own hb')
 exact tyL_new (own_base ho b (rmb_own hb')) hc ht
theorem ap_new {α β : Type} {d : Kd α} {d' : Kd β} {te te' t base n : Nat} {W w : World} {L : Nat → Nat} {ok : Nat → Prop} {u V : Value} {xs : List α} {ys : List β} (h : d.R te W n ok V xs) (hu : Ls d' te' base t L w u ys) (hn : w.heap.size ≤ n) : Ap u V := fun b h1 h2 => by
 obtain ⟨h0, inner, ho, hr⟩ := h
 have h3 := own_base ho b (rmb_own h2)
 have h4 := hu.lt h1
 omega
theorem ap_R {u V : Value} (h : ∀ k, u.ownBlock = some k → V.ownBlock = some k → False) : Ap u V := fun b h1 h2 => h b (rmb_own h1) (rmb_own h2)
/-- the labels behind Room.Packet: the Book's block, the lent lists -/
def lab6 (gB b7 b13 b18 b22 b23 b24 k : Nat) : Nat := if k = gB then 399 else if k = b7 then 807 else if k = b13 then 813 else if k = b18 then 818 else if k = b22 then 822 else if k = b23 then 823 else if k = b24 then 824 else 0
theorem in6_start {L : Nat → Nat} {base g N gB b7 b13 b18 b22 b23 b24 : Nat} {w : World} {cs : Array Value} {D : Nat → List (Value × Int)} (h : RoomAt L base w g N cs D) (hc : b7 < b18 ∧ b18 < b13 ∧ b13 < b22 ∧ b22 < b23 ∧ b23 < b24 ∧ gB < b7) {l7 l13 l18 l23 : List Int} {l22 : List S82} {l24 : List ByteArray} {bd : Nat}
  (m7 : Mem D 0 b7 l7.length 600) (m13 : Mem D 0 b13 l13.length 600) (m18 : Mem D 0 b18 l18.length 600) (m22 : Mem D 3 b22 l22.length 40) (m23 : Mem D 1 b23 l23.length 40) (m24 : Mem D 2 b24 l24.length 40)
  (hC : (Kd.int .u8).C w (some ⟨b7, 0, none⟩) l7.length l7 ∧ (Kd.int .u8).C w (some ⟨b13, 0, none⟩) l13.length l13 ∧ (Kd.int .u8).C w (some ⟨b18, 0, none⟩) l18.length l18 ∧ k82.C w (some ⟨b22, 0, none⟩) l22.length l22 ∧ (Kd.int .i64).C w (some ⟨b23, 0, none⟩) l23.length l23 ∧ Kd.string.C w (some ⟨b24, 0, none⟩) l24.length l24)
  (s7 : l7.length ≤ 1073741824) (s13 : l13.length ≤ 1073741824) (s18 : l18.length ≤ 1073741824) (s22 : l22.length ≤ 1073741824) (s23 : l23.length ≤ 1073741824) (s24 : l24.length ≤ 1073741824) (hb : ∀ y ∈ l24, y.size ≤ bd) : ∃ tl7 tl13 tl18 tl22 tl23 tl24, In6 b7 l7.length b13 l13.length b18 l18.length b22 l22.length b23 l23.length b24 l24.length tl7 tl13 tl18 tl22 tl23 tl24 bd (lab6 gB b7 b13 b18 b22 b23 b24) w := by
 obtain ⟨_, tl7, t7⟩ := h.lent (by decide) m7
 obtain ⟨_, tl13, t13⟩ := h.lent (by decide) m13
 obtain ⟨_, tl18, t18⟩ := h.lent (by decide) m18
 obtain ⟨_, tl22, t22⟩ := h.lent (by decide) m22
 obtain ⟨_, tl23, t23⟩ := h.lent (by decide) m23
 obtain ⟨_, tl24, t24⟩ := h.lent (by decide) m24
 refine ⟨tl7, tl13, tl18, tl22, tl23, tl24, l7, l13, l18, l22, l23, l24, lnt_of hC.1 t7 ?_ s7, lnt_of hC.2.1 t13 ?_ s13, lnt_of hC.2.2.1 t18 ?_ s18, lnt_of hC.2.2.2.1 t22 ?_ s22, lnt_of hC.2.2.2.2.1 t23 ?_ s23, lnt_of hC.2.2.2.2.2 t24 ?_ s24, hb⟩
 all_goals (unfold lab6; (repeat' split) <;> omega)
/-- the Room behind all: the lent lists' places alone have been written -/
theorem room_back {L L' : Nat → Nat} {base b0 g N gB b7 n7 b13 n13 b18 n18 b22 n22 b23 n23 b24 n24 : Nat} {tl7 tl13 tl18 tl22 tl23 tl24 : List Value} {bd bd' : Nat} {w0 w W : World} {cs : Array Value} {D : Nat → List (Value × Int)} {Lx : Nat → Nat} (h : RoomAt L base w g N cs D) (hg : L gB = 399)
  (m7 : Mem D 0 b7 n7 600) (m13 : Mem D 0 b13 n13 600) (m18 : Mem D 0 b18 n18 600) (m22 : Mem D 3 b22 n22 40) (m23 : Mem D 1 b23 n23 40) (m24 : Mem D 2 b24 n24 40)
  (h6 : In6 b7 n7 b13 n13 b18 n18 b22 n22 b23 n23 b24 n24 tl7 tl13 tl18 tl22 tl23 tl24 bd Lx w) (h6' : In6 b7 n7 b13 n13 b18 n18 b22 n22 b23 n23 b24 n24 tl7 tl13 tl18 tl22 tl23 tl24 bd' L' W) (hk : Keep b0 w0 w (lab6 gB b7 b13 b18 b22 b23 b24) L' W) : RoomAt L base W g N cs D := by
 have z7 := (h.lent (by decide) m7).1
 have z13 := (h.lent (by decide) m13).1
 have z18 := (h.lent (by decide) m18).1
 have z22 := (h.lent (by decide) m22).1
 have z23 := (h.lent (by decide) m23).1
 have z24 := (h.lent (by decide) m24).1
 obtain ⟨x7, x13, x18, x22, x23, x24, h7, h13, h18, h22, h23, h24, hb⟩ := h6
 obtain ⟨y7, y13, y18, y22, y23, y24, g7, g13, g18, g22, g23, g24, hb'⟩ := h6'
 refine h.poke kinds_inj hk.size (fun b hlt hr => (hk.keep b hlt ?_).1) (fun b hlt h0 => ?_)
 ·unfold Room at hr
  have hne : b ≠ gB := by rintro rfl; omega
  have e7 : b ≠ b7 := by rintro rfl; omega
  have e13 : b ≠ b13 := by rintro rfl; omega
  have e18 : b ≠ b18 := by rintro rfl; omega
  have e22 : b ≠ b22 := by rintro rfl; omega
  have e23 : b ≠ b23 := by rintro rfl; omega
  have e24 : b ≠ b24 := by rintro rfl; omega
  unfold lab6
  simp only [if_neg hne, if_neg e7, if_neg e13, if_neg e18, if_neg e22, if_neg e23, if_neg e24]
 ·have hne : b ≠ gB := by rintro rfl; omega
  by_cases e7 : b = b7
  ·subst e7; exact .inr ⟨0, n7, 600, tl7, by decide, m7, h7.tl, g7.tl⟩
  by_cases e13 : b = b13
  ·subst e13; exact .inr ⟨0, n13, 600, tl13, by decide, m13, h13.tl, g13.tl⟩
  by_cases e18 : b = b18
  ·subst e18; exact .inr ⟨0, n18, 600, tl18, by decide, m18, h18.tl, g18.tl⟩
  by_cases e22 : b = b22
  ·subst e22; exact .inr ⟨3, n22, 40, tl22, by decide, m22, h22.tl, g22.tl⟩
  by_cases e23 : b = b23
  ·subst e23; exact .inr ⟨1, n23, 40, tl23, by decide, m23, h23.tl, g23.tl⟩
  by_cases e24 : b = b24
  ·subst e24; exact .inr ⟨2, n24, 40, tl24, by decide, m24, h24.tl, g24.tl⟩
  exact .inl (hk.keep b hlt (by unfold lab6; simp only [if_neg hne, if_neg e7, if_neg e13, if_neg e18, if_neg e22, if_neg e23, if_neg e24])).1
end Go.Proofs.YtndhkgfeknkfdaaGreatDoor.Rm
/- One round of PacketTwo's loop in parts. -/
namespace Go.Proofs.YtndhkgfeknkfdaaGreatDoor.Rm
open Go.RowKit Go.Proofs.YtndhkgfeknkfdaaGreatDoorW.PrintWords Go.Proofs.YtndhkgfeknkfdaaGreatDoorW.PrintLast Go.Proofs.YtndhkgfeknkfdaaGreatDoorW.PrintMore Go.Proofs.YtndhkgfeknkfdaaGreatDoor.MPacketChecks
set_option linter.unusedVariables false
set_option linter.unusedSimpArgs false
set_option maxHeartbeats 4000000
set_option maxRecDepth 100000
/-- the Book takes a fresh copy -/
theorem round_packet (a0 : Int) (a1 : Int) (a2 : Bool) (a3 : Int) (a4 : ByteArray) (a5 : Bool) (a6 : ByteArray) (E7 : Option Addr) (e7 : Nat) (x7 : List Int) (a8 : Int) (a9 : Bool) (a10 : Bool) (a11 : ByteArray) (a12 : Bool) (E13 : Option Addr) (e13 : Nat) (x13 : List Int) (a14 : Bool) (a15 : Int) (a16 : Bool) (a17 : ByteArray) (E18 : Option Addr) (e18 : Nat) (x18 : List Int) (a19 : Int) (a20 : Bool) (a21 : Int) (E22 : Option Addr) (e22 : Nat) (x22 : List S82) (E23 : Option Addr) (e23 : Nat) (x23 : List Int) (E24 : Option Addr) (e24 : Nat) (x24 : List ByteArray) {base gB k n : Nat} {E : (Nat → Nat) → World → Prop} {seen : Nat → Int} {L : Nat → Nat} {wo x : World} {cs : Array Value} {D : Nat → List Value} {q0 q1 q2 q4 : Kq} {ok : Nat → Prop} (mk : Int)
  (hB : Bq base gB E k 0 seen L wo (24 * k) cs D q0 q1 q2 q4) (hf : q0.fs = [] ∧ q0.fr = [] ∧ q1.fs = [] ∧ q1.fr = [] ∧ q2.fs = [] ∧ q2.fr = [] ∧ q4.fs = [] ∧ q4.fr = []) (hs : ∀ j, 0 ≤ seen j ∧ seen j ≤ 6 * (k : Int)) (hk : k < 3) (hE : Stb Ya E) (hT : ∀ L W, E L W → Lib.TabIs Tryz.prog W "internal/strconv.uint64pow10" .u64 Lib.pow10Tab) (hbn : base ≤ wo.heap.size) (hn : wo.heap.size ≤ n) (hb : Below wo.heap.size wo x)
  (hr : Pk.Rd x E7 e7 x7 E13 e13 x13 E18 e18 x18 E22 e22 x22 E23 e23 x23 E24 e24 x24) (r7 : (Kd.int .u8).R 5 x n ok (.slice E7 x7.length e7) x7) (r13 : (Kd.int .u8).R 5 x n ok (.slice E13 x13.length e13) x13) (r18 : (Kd.int .u8).R 5 x n ok (.slice E18 x18.length e18) x18) (r22 : k82.R 82 x n ok (.slice E22 x22.length e22) x22) (r23 : (Kd.int .i64).R 3 x n ok (.slice E23 x23.length e23) x23) (r24 : Kd.string.R 9 x n ok (.slice E24 x24.length e24) x24) (p1 : (∀ k, (Value.slice E7 x7.length e7).ownBlock = some k → (Value.slice E13 x13.length e13).ownBlock = some k → False)) (p2 : (∀ k, (Value.slice E7 x7.length e7).ownBlock = some k → (Value.slice E18 x18.length e18).ownBlock = some k → False)) (p3 : (∀ k, (Value.slice E18 x18.length e18).ownBlock = some k → (Value.slice E13 x13.length e13).ownBlock = some k → False)) (z : x7.length ≤ 1000000 ∧ x13.length ≤ 1000000 ∧ x18.length ≤ 1000000 ∧ x22.length ≤ 1000000 ∧ x23.length ≤ 1000000 ∧ x24.length ≤ 1000000) :
  Calls Tryz.prog 13 #[.pointer (some ⟨gB, 0, none⟩), .agg #[.int .i64 a0, .int .i64 a1, .bool a2, .int .i64 a3, .string a4, .bool a5, .string a6, .slice E7 x7.length e7, .int .i64 a8, .bool a9, .bool a10, .string a11, .bool a12, .slice E13 x13.length e13, .bool a14, .int .i64 a15, .bool a16, .string a17, .slice E18 x18.length e18, .int .i64 a19, .bool a20, .int .i64 a21, .slice E22 x22.length e22, .slice E23 x23.length e23, .slice E24 x24.length e24], .int .i64 mk] x fun e w' => e = .returned (.tuple #[]) ∧ ∃ L' cs' D' q0' q1' q2' q4' seen', Bq base gB E ((k + 1 : Nat) : Int) 0 seen' L' w' (24 * (k + 1)) cs' D' q0' q1' q2' q4' ∧ (q0'.fs = [] ∧ q0'.fr = [] ∧ q1'.fs = [] ∧ q1'.fr = [] ∧ q2'.fs = [] ∧ q2'.fr = [] ∧ q4'.fs = [] ∧ q4'.fr = []) ∧ ∀ j, 0 ≤ seen' j ∧ seen' j ≤ 6 * ((k + 1 : Nat) : Int) := by
 have h0 : Bq base gB E k 0 seen (tyL n x L) x (24 * k) cs D q0 q1 q2 q4 := hB.news hE hb (fun j hj => if_pos (Nat.lt_of_lt_of_le hj hn))
 have h1 : Bq base gB (fun L W => (Ls (Kd.int .u8) 5 base 1000 L W (.slice E7 x7.length e7) x7 ∧ Ls (Kd.int .u8) 5 base 1000 L W (.slice E13 x13.length e13) x13 ∧ Ls (Kd.int .u8) 5 base 1000 L W (.slice E18 x18.length e18) x18 ∧ Ls k82 82 base 1004 L W (.slice E22 x22.length e22) x22 ∧ Ls (Kd.int .i64) 3 base 1001 L W (.slice E23 x23.length e23) x23 ∧ Ls Kd.string 9 base 1002 L W (.slice E24 x24.length e24) x24) ∧ E L W) k 0 seen (tyL n x L) x (24 * k) cs D q0 q1 q2 q4 := h0.put ⟨⟨ls_new r7 rfl (Nat.le_trans hbn hn), ls_new r13 rfl (Nat.le_trans hbn hn), ls_new r18 rfl (Nat.le_trans hbn hn), ls_new r22 rfl (Nat.le_trans hbn hn), ls_new r23 rfl (Nat.le_trans hbn hn), ls_new r24 rfl (Nat.le_trans hbn hn)⟩, h0.ext⟩
 refine (Bq.Packet a0 a1 a2 a3 a4 a5 a6 E7 e7 x7 a8 a9 a10 a11 a12 E13 e13 x13 a14 a15 a16 a17 E18 e18 x18 a19 a20 a21 E22 e22 x22 E23 e23 x23 E24 e24 x24 mk (6 * (k : Int)) h1 hf hE hT (by omega) (by omega) (by omega) hs (by omega) hr.k7 hr.k13 hr.k18 hr.k22 hr.k23 hr.k24 (by have := z.1; omega) (by have := z.2.1; omega) (by have := z.2.2.1; omega) (by have := z.2.2.2.1; omega) (by have := z.2.2.2.2.1; omega) (by have := z.2.2.2.2.2; omega) (fun p hp => by obtain ⟨_, _, h, _⟩ := hB.b.F.1.wn p hp; exact ap_new r7 h hn) (fun p hp => by obtain ⟨_, _, h, _⟩ := hB.b.F.1.ot p hp; exact ap_new r7 h hn) (fun p hp => by obtain ⟨_, _, h, _⟩ := hB.b.F.1.wn p hp; exact ap_new r13 h hn) (fun p hp => by obtain ⟨_, _, h, _⟩ := hB.b.F.1.ot p hp; exact ap_new r13 h hn) (fun p hp => by obtain ⟨_, _, h, _⟩ := hB.b.F.1.wn p hp; exact ap_new r18 h hn) (fun p hp => by obtain ⟨_, _, h, _⟩ := hB.b.F.1.ot p hp; exact ap_new r18 h hn) (fun p hp => by obtain ⟨_, _, h, _⟩ := hB.b.F.2.2.2.1.wn p hp; exact ap_new r22 h hn) (fun p hp => by obtain ⟨_, _, h, _⟩ := hB.b.F.2.2.2.1.ot p hp; exact ap_new r22 h hn) (fun p hp => by obtain ⟨_, _, h, _⟩ := hB.b.F.2.1.wn p hp; exact ap_new r23 h hn) (fun p hp => by obtain ⟨_, _, h, _⟩ := hB.b.F.2.1.ot p hp; exact ap_new r23 h hn) (fun p hp => by obtain ⟨_, _, h, _⟩ := hB.b.F.2.2.1.wn p hp; exact ap_new r24 h hn) (fun p hp => by obtain ⟨_, _, h, _⟩ := hB.b.F.2.2.1.ot p hp; exact ap_new r24 h hn) (ap_R p1) (ap_R p2) (ap_R (fun k h1 h2 => p3 k h2 h1))).mono ?_
 rintro e w' ⟨rfl, L', cs', D', q0', q1', q2', q4', seen', b, f, s⟩
 refine ⟨rfl, L', cs', D', q0', q1', q2', q4', seen', ?_, f, fun j => ?_⟩
 ·have e1 : ((k + 1 : Nat) : Int) = (k : Int) + 1 := by omega
  have e2 : 24 * (k + 1) = 24 * k + 24 := by omega
  rw [e1, e2]
  exact b
 ·have := s j
  omega
section
variable {base gB k : Nat} {w0 w6 : World} {L6 : Nat → Nat} {turn : Int} {N : Nat} {seen : Nat → Int} {L : Nat → Nat} {w W : World} {cs : Array Value} {D : Nat → List Value} {q0 q1 q2 q4 : Kq} {b7 n7 b13 n13 b18 n18 b22 n22 b23 n23 b24 n24 : Nat} {tl7 tl13 tl18 tl22 tl23 tl24 : List Value}
/-- the round's end without spoil -/
theorem round_plain (hB : Bq base gB (fun L W => Keep base w0 w6 L6 L W ∧ In6 b7 n7 b13 n13 b18 n18 b22 n22 b23 n23 b24 n24 tl7 tl13 tl18 tl22 tl23 tl24 (900000 + k * 1000000) L W) turn 0 seen L w N cs D q0 q1 q2 q4) : Bq base gB (fun L W => Keep base w0 w6 L6 L W ∧ In6 b7 n7 b13 n13 b18 n18 b22 n22 b23 n23 b24 n24 tl7 tl13 tl18 tl22 tl23 tl24 (900000 + (k + 1) * 1000000) L W) turn 0 seen L w N cs D q0 q1 q2 q4 :=
 hB.imp (fun _ _ h => ⟨h.1, h.2.more (by omega)⟩)
/-- the round's end with spoil -/
theorem round_spoil (a0 : Int) (a1 : Int) (a2 : Bool) (a3 : Int) (a4 : ByteArray) (a5 : Bool) (a6 : ByteArray) (c7 : Nat) (a8 : Int) (a9 : Bool) (a10 : Bool) (a11 : ByteArray) (a12 : Bool) (c13 : Nat) (a14 : Bool) (a15 : Int) (a16 : Bool) (a17 : ByteArray) (c18 : Nat) (a19 : Int) (a20 : Bool) (a21 : Int) (c22 : Nat) (c23 : Nat) (c24 : Nat) (hB : Bq base gB (fun L W => Keep base w0 w6 L6 L W ∧ In6 b7 n7 b13 n13 b18 n18 b22 n22 b23 n23 b24 n24 tl7 tl13 tl18 tl22 tl23 tl24 (900000 + k * 1000000) L W) turn 0 seen L w N cs D q0 q1 q2 q4) (hk : k < 3) (hz : n24 ≤ 1000000) :
  Calls Tryz.prog 15 #[.agg #[.int .i64 a0, .int .i64 a1, .bool a2, .int .i64 a3, .string a4, .bool a5, .string a6, .slice (some ⟨b7, 0, none⟩) n7 c7, .int .i64 a8, .bool a9, .bool a10, .string a11, .bool a12, .slice (some ⟨b13, 0, none⟩) n13 c13, .bool a14, .int .i64 a15, .bool a16, .string a17, .slice (some ⟨b18, 0, none⟩) n18 c18, .int .i64 a19, .bool a20, .int .i64 a21, .slice (some ⟨b22, 0, none⟩) n22 c22, .slice (some ⟨b23, 0, none⟩) n23 c23, .slice (some ⟨b24, 0, none⟩) n24 c24]] w fun e w' => e = .returned (.tuple #[]) ∧ ∃ L', Bq base gB (fun L W => Keep base w0 w6 L6 L W ∧ In6 b7 n7 b13 n13 b18 n18 b22 n22 b23 n23 b24 n24 tl7 tl13 tl18 tl22 tl23 tl24 (900000 + (k + 1) * 1000000) L W) turn 0 seen L' w' N cs D q0 q1 q2 q4 := by
 refine (spoil_calls a0 a1 a2 a3 a4 a5 a6 b7 n7 c7 a8 a9 a10 a11 a12 b13 n13 c13 a14 a15 a16 a17 b18 n18 c18 a19 a20 a21 b22 n22 c22 b23 n23 c23 b24 n24 c24 tl7 tl13 tl18 tl22 tl23 tl24 (900000 + k * 1000000) (by omega) L w hB.ext.2).mono ?_
 rintro e w' ⟨rfl, h6, ho, s3⟩
 exact ⟨rfl, _, hB.spl ho s3 ⟨Keep.stb spl_0 _ _ _ _ hB.ext.1 ho.chg s3, h6.more (by omega)⟩⟩
end
end Go.Proofs.YtndhkgfeknkfdaaGreatDoor.Rm
namespace Go.Proofs.YtndhkgfeknkfdaaGreatDoor.Rm
open Go.RowKit Go.Proofs.YtndhkgfeknkfdaaGreatDoorW.PrintWords Go.Proofs.YtndhkgfeknkfdaaGreatDoorW.PrintLast Go.Proofs.YtndhkgfeknkfdaaGreatDoorW.PrintMore Go.Proofs.YtndhkgfeknkfdaaGreatDoor.MPacketChecks
set_option maxRecDepth 100000
set_option maxHeartbeats 4000000
def zcell (j : Nat) : Value := if j < 2 then .bool false else if j < 4 then .int .i64 0 else if (j - 4) % 9 = 8 then .int .i64 0 else .slice none 0 0
def zBook : Array Value := ((List.range 193).map zcell).toArray
theorem zBook_at (j : Nat) (hj : j < 193) : zBook[j]? = some (zcell j) := by
 unfold zBook
 rw [List.getElem?_toArray, List.getElem?_map, List.getElem?_range hj]
 rfl
theorem zBook_slot (i : Nat) (hi : i < 168) : zBook[slot i]? = some (.slice none 0 0) := by
 have h : slot i = 4 + 9 * (i / 8) + i % 8 := by unfold slot; omega
 rw [zBook_at _ (by omega)]
 unfold zcell
 rw [if_neg (by omega), if_neg (by omega), if_neg (by omega)]
theorem zBook_sc : Sc zBook false false 0 0 (fun _ => 0) := ⟨zBook_at 0 (by decide), zBook_at 1 (by decide), zBook_at 2 (by decide), zBook_at 3 (by decide), fun k hk => by
 rw [zBook_at _ (by omega)]
 unfold zcell
 rw [if_neg (by omega), if_neg (by omega), if_pos (by omega)]⟩
theorem zBook_run (ev : Operand → Value) (o : Oper) (w : World) (ho : o.op = .build 62 #[]) : (execOp ev o).run Tryz.prog w = .ok (.value (.agg zBook)) w := by
 unfold execOp
 rw [ho]
 kernel_rfl
theorem zBook_box (ev : Operand → Value) (o : Oper) (x : Operand) (w : World) (ho : o.op = .box 62 x) (hx : ev x = .agg zBook) : (execOp ev o).run Tryz.prog w = .ok (.value (.pointer (some ⟨w.heap.size, 0, none⟩))) (w.alloc (.cells zBook 62 (0, 0))) := by
 unfold execOp
 rw [ho]
 simp only [hx]
 kernel_rfl
end Go.Proofs.YtndhkgfeknkfdaaGreatDoor.Rm
