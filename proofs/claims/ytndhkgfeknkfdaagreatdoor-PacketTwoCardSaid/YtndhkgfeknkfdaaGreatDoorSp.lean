/- Lists that were lent and are written; crierlaw2.spoil. -/
import Derived.Test.YtndhkgfeknkfdaaGreatDoorKr
import Derived.Test.YtndhkgfeknkfdaaGreatDoorBa
namespace Go.Proofs.YtndhkgfeknkfdaaGreatDoor.Rm
open Go.RowKit Go.Proofs.YtndhkgfeknkfdaaGreatDoorW.PrintWords Go.Proofs.YtndhkgfeknkfdaaGreatDoorW.PrintLast Go.Proofs.YtndhkgfeknkfdaaGreatDoorW.PrintMore Go.Proofs.YtndhkgfeknkfdaaGreatDoor.MPacketChecks
open Go.Act renaming put → zp
open List renaming setIfInBounds_toArray → zi, set_cons_zero → zz, set_cons_succ → zs
open Go.Proofs.YtndhkgfeknkfdaaGreatDoorW.PrintWords.Aside0 renaming mk → am
set_option linter.unusedVariables false
set_option linter.unusedSimpArgs false
set_option maxHeartbeats 4000000
set_option maxRecDepth 100000
/-- block b holds the n elements xs, and tl behind them -/
structure Lnt {α : Type} (d : Kd α) (te t b n : Nat) (tl : List Value) (xs : List α) (L : Nat → Nat) (W : World) : Prop where
 len : xs.length = n
 ex : ∃ cur, W.heap[b]? = some (.cells cur te (0, 0)) ∧ n * d.sz ≤ cur.size ∧ Reps (d.K W) d.sz xs (cur.toList.take (n * d.sz)) ∧ cur.toList.drop (n * d.sz) = tl
 lab : L b = t
 nm : n ≤ 1073741824
section
variable {α : Type} {d : Kd α} {te t b n q : Nat} {tl : List Value} {xs : List α} {L L' : Nat → Nat} {W W' : World} {X : Nat → Prop}
theorem Lnt.lt (h : Lnt d te t b n tl xs L W) : b < W.heap.size := by
 obtain ⟨cur, h1, _⟩ := h.ex
 exact blk_lt h1
theorem Lnt.move (hF : Fl d) (h : Lnt d te t b n tl xs L W) (h1 : W'.heap[b]? = W.heap[b]?) (h2 : L' b = L b) : Lnt d te t b n tl xs L' W' := ⟨h.len, by
 obtain ⟨cur, a1, a2, a3, a4⟩ := h.ex
 exact ⟨cur, h1.trans a1, a2, a3.imp_ (fun _ _ hp => hF _ _ _ _ hp), a4⟩, h2.trans h.lab, h.nm⟩
theorem Lnt.stb (hF : Fl d) (ht : ¬ X t) : Stb X (Lnt d te t b n tl xs) := fun L w L' w' hh c s =>
 hh.move hF (c.keep b hh.lt (by rw [hh.lab]; exact ht)).1 (c.keep b hh.lt (by rw [hh.lab]; exact ht)).2
theorem Lnt.C_ (h : Lnt d te t b n tl xs L W) : d.C W (some ⟨b, 0, none⟩) n xs := by
 obtain ⟨cur, a1, a2, a3, a4⟩ := h.ex
 refine ⟨h.len, by have := h.nm; omega, fun hn => ⟨_, rfl, fun j p hj => ⟨((cur.toList.take (n * d.sz)).drop (j * d.sz)).take d.sz, ?_, a3.2 j p hj, fun i u hu => ?_⟩⟩⟩
 ·exact d.K_len (a3.2 j p hj)
 ·rw [add_plain, blk_cell a1]
  rw [List.getElem?_take] at hu
  split at hu
  ·rw [List.getElem?_drop, List.getElem?_take] at hu
   split at hu
   ·simpa using hu
   ·cases hu
  ·cases hu
theorem Lnt.set_ (hF : Fl d) {cur : Array Value} {cells : List Value} {x : α} (h : Lnt d te t b n tl xs L W) (hb : W.heap[b]? = some (.cells cur te (0, 0))) (hq : q < n) (hx : d.K W x cells) (hw : W'.heap[b]? = some (.cells (setFrom cur (q * d.sz) cells) te (0, 0))) : Lnt d te t b n tl (xs.set q x) L W' := by
 obtain ⟨cur', a1, a2, a3, a4⟩ := h.ex
 rw [hb] at a1
 injection a1 with a1
 injection a1 with a1
 subst a1
 have hcl := d.K_len hx
 have hqs : q * d.sz + d.sz ≤ n * d.sz := by rw [← Nat.succ_mul]; exact Nat.mul_le_mul_right _ hq
 refine ⟨by rw [List.length_set]; exact h.len, ⟨_, hw, by rw [setFrom_size]; exact a2, ?_, ?_⟩, h.lab, h.nm⟩
 ·rw [setFrom_toList _ _ _ (by omega)]
  have hl_ : (cur.toList.take (q * d.sz)).length = q * d.sz := by rw [List.length_take]; simp only [Array.length_toList]; omega
  have e : (cur.toList.take (q * d.sz) ++ cells ++ cur.toList.drop (q * d.sz + cells.length)).take (n * d.sz) = (cur.toList.take (n * d.sz)).take (q * d.sz) ++ cells ++ (cur.toList.take (n * d.sz)).drop (q * d.sz + d.sz) := by
   rw [List.take_take, Nat.min_eq_left (by omega), List.drop_take, List.take_append, List.take_of_length_le (by rw [List.length_append, hl_]; omega), List.length_append, hl_, hcl]
  rw [e]
  exact Reps.set_ (a3.imp_ (fun _ _ hp => hF _ _ _ _ hp)) (hF _ _ _ _ hx) hcl (by rw [h.len]; exact hq)
 ·rw [setFrom_toList _ _ _ (by omega), ← a4]
  have hl_ : (cur.toList.take (q * d.sz) ++ cells).length = q * d.sz + d.sz := by rw [List.length_append, List.length_take, hcl]; simp only [Array.length_toList]; omega
  rw [List.drop_append, hl_, List.drop_of_length_le (by omega), List.nil_append, List.drop_drop, hcl]
  congr 1
  omega
end
def Spl (x : Nat) : Prop := 800 ≤ x ∧ x < 830

/-- the six lists of a packet that was lent -/
def In6 (b7 n7 b13 n13 b18 n18 b22 n22 b23 n23 b24 n24 : Nat) (tl7 tl13 tl18 tl22 tl23 tl24 : List Value) (bd : Nat) (L : Nat → Nat) (W : World) : Prop := ∃ x7 x13 x18 x22 x23 x24, Lnt (Kd.int .u8) 5 807 b7 n7 tl7 x7 L W ∧ Lnt (Kd.int .u8) 5 813 b13 n13 tl13 x13 L W ∧ Lnt (Kd.int .u8) 5 818 b18 n18 tl18 x18 L W ∧ Lnt k82 82 822 b22 n22 tl22 x22 L W ∧ Lnt (Kd.int .i64) 3 823 b23 n23 tl23 x23 L W ∧ Lnt Kd.string 9 824 b24 n24 tl24 x24 L W ∧ ∀ y ∈ x24, y.size ≤ bd
theorem lnt_at1 {c : Array Value} {n k : Nat} {v : Value} (hk : k < n) (h : List.take 1 (List.drop (k * 1) (c.toList.take (n * 1))) = [v]) : c[k]? = some v := by
 have e := congrArg (fun l => l[0]?) h
 simp only [List.getElem?_take, List.getElem?_drop, Nat.mul_one, Nat.add_zero, Nat.lt_one_iff, if_true, List.getElem?_cons_zero, hk] at e
 simpa using e
theorem lnt_at2 {c : Array Value} {n k : Nat} {x : S82} {w : World} (hk : k < n) (h : k82.K w x (List.take 2 (List.drop (k * 2) (c.toList.take (n * 2))))) : c[k * 2]? = some (.string x.f0) ∧ c[k * 2 + 1]? = some (.int .i64 x.f1) := by
 have h1 := k82_open h
 have e0 := congrArg (fun l => l[0]?) h1
 have e1 := congrArg (fun l => l[1]?) h1
 simp only [List.getElem?_take, List.getElem?_drop, Nat.add_zero, show (0 : Nat) < 2 by decide, show (1 : Nat) < 2 by decide, if_true, List.getElem?_cons_zero, List.getElem?_cons_succ, show k * 2 < n * 2 by omega, show k * 2 + 1 < n * 2 by omega] at e0 e1
 exact ⟨by simpa using e0, by simpa using e1⟩
theorem lnt_set1 {w : World} {b k te : Nat} {cur : Array Value} (h : w.heap[b]? = some (.cells cur te (0, 0))) (v : Value) : (w.setCell ⟨b, k, none⟩ v).heap[b]? = some (.cells (setFrom cur (k * 1) [v]) te (0, 0)) := by
 rw [Nat.mul_one]
 exact blk_set h k v
theorem lnt_set2 {w : World} {b k te : Nat} {cur : Array Value} {u : Value} (h : w.heap[b]? = some (.cells cur te (0, 0))) (hu : cur[k * 2]? = some u) (v : Value) : (w.setCell ⟨b, k * 2 + 1, none⟩ v).heap[b]? = some (.cells (setFrom cur (k * 2) [u, v]) te (0, 0)) := by
 have e : cur.setIfInBounds (k * 2) u = cur := by
  apply Array.ext_getElem?
  intro i
  rw [Array.getElem?_setIfInBounds]
  split
  ·rename_i e
   subst e
   rw [hu]
   simp
   exact (Array.getElem?_eq_some_iff.1 hu).1
  ·rfl
 show _ = some (Obj.cells ((cur.setIfInBounds (k * 2) u).setIfInBounds (k * 2 + 1) v) te (0, 0))
 rw [e]
 exact blk_set h _ v
theorem spoil_calls (a0 : Int) (a1 : Int) (a2 : Bool) (a3 : Int) (a4 : ByteArray) (a5 : Bool) (a6 : ByteArray) (b7 n7 c7 : Nat) (a8 : Int) (a9 : Bool) (a10 : Bool) (a11 : ByteArray) (a12 : Bool) (b13 n13 c13 : Nat) (a14 : Bool) (a15 : Int) (a16 : Bool) (a17 : ByteArray) (b18 n18 c18 : Nat) (a19 : Int) (a20 : Bool) (a21 : Int) (b22 n22 c22 : Nat) (b23 n23 c23 : Nat) (b24 n24 c24 : Nat) (tl7 tl13 tl18 tl22 tl23 tl24 : List Value) (bd : Nat) (hbd : bd ≤ 4611686018427387904) (L : Nat → Nat) (w : World) (h : In6 b7 n7 b13 n13 b18 n18 b22 n22 b23 n23 b24 n24 tl7 tl13 tl18 tl22 tl23 tl24 bd L w) :
  Calls Tryz.prog 15 #[.agg #[.int .i64 a0, .int .i64 a1, .bool a2, .int .i64 a3, .string a4, .bool a5, .string a6, .slice (some ⟨b7, 0, none⟩) n7 c7, .int .i64 a8, .bool a9, .bool a10, .string a11, .bool a12, .slice (some ⟨b13, 0, none⟩) n13 c13, .bool a14, .int .i64 a15, .bool a16, .string a17, .slice (some ⟨b18, 0, none⟩) n18 c18, .int .i64 a19, .bool a20, .int .i64 a21, .slice (some ⟨b22, 0, none⟩) n22 c22, .slice (some ⟨b23, 0, none⟩) n23 c23, .slice (some ⟨b24, 0, none⟩) n24 c24]] w fun e w' => e = .returned (.tuple #[]) ∧ In6 b7 n7 b13 n13 b18 n18 b22 n22 b23 n23 b24 n24 tl7 tl13 tl18 tl22 tl23 tl24 (bd + n24) (lab1 L w.heap.size 0) w' ∧ Only Spl L w (lab1 L w.heap.size 0) w' ∧ Same3 w w' := by
 have H6 := am h; clear h
 go_enter Tryz.func15, Tryz.ntmps15
 go_upto_region 1 with (first | ((with_reducible refine gate_dst (N := 1) rfl ?_); (refine box_event ?hg (N := 1) ?hd (cs := #[.int .i64 a0, .int .i64 a1, .bool a2, .int .i64 a3, .string a4, .bool a5, .string a6, .slice (some ⟨b7, 0, none⟩) n7 c7, .int .i64 a8, .bool a9, .bool a10, .string a11, .bool a12, .slice (some ⟨b13, 0, none⟩) n13 c13, .bool a14, .int .i64 a15, .bool a16, .string a17, .slice (some ⟨b18, 0, none⟩) n18 c18, .int .i64 a19, .bool a20, .int .i64 a21, .slice (some ⟨b22, 0, none⟩) n22 c22, .slice (some ⟨b23, 0, none⟩) n23 c23, .slice (some ⟨b24, 0, none⟩) n24 c24]) (t := 29) ?hr ?_; (case hd => rfl); (case hg => rfl); (case hr => first | (go_simp; done) | (go_simp; rfl)); intro ga hg w1 hbox hb; have HBX := am hbox; have HBB := am hb; have HGB := am hg; clear hbox hb hg)))
 try simp only [zp, zi, zz, zs]
 generalize (Value.agg #[.int .i64 a0, .int .i64 a1, .bool a2, .int .i64 a3, .string a4, .bool a5, .string a6, .slice (some ⟨b7, 0, none⟩) n7 c7, .int .i64 a8, .bool a9, .bool a10, .string a11, .bool a12, .slice (some ⟨b13, 0, none⟩) n13 c13, .bool a14, .int .i64 a15, .bool a16, .string a17, .slice (some ⟨b18, 0, none⟩) n18 c18, .int .i64 a19, .bool a20, .int .i64 a21, .slice (some ⟨b22, 0, none⟩) n22 c22, .slice (some ⟨b23, 0, none⟩) n23 c23, .slice (some ⟨b24, 0, none⟩) n24 c24]) = v0
 obtain ⟨L1, hL1⟩ : ∃ z, z = lab1 L w.heap.size 0 := ⟨_, rfl⟩
 have HS : Aside0 ((fun (bk : Nat) (W : World) => (∃ x7 x13 x18 x22 x23 x24, Lnt (Kd.int .u8) 5 807 b7 n7 tl7 x7 L1 W ∧ Lnt (Kd.int .u8) 5 813 b13 n13 tl13 x13 L1 W ∧ Lnt (Kd.int .u8) 5 818 b18 n18 tl18 x18 L1 W ∧ Lnt k82 82 822 b22 n22 tl22 x22 L1 W ∧ Lnt (Kd.int .i64) 3 823 b23 n23 tl23 x23 L1 W ∧ Lnt Kd.string 9 824 b24 n24 tl24 x24 L1 W ∧ ∀ y ∈ x24, y.size ≤ bk) ∧ Bk ga #[.int .i64 a0, .int .i64 a1, .bool a2, .int .i64 a3, .string a4, .bool a5, .string a6, .slice (some ⟨b7, 0, none⟩) n7 c7, .int .i64 a8, .bool a9, .bool a10, .string a11, .bool a12, .slice (some ⟨b13, 0, none⟩) n13 c13, .bool a14, .int .i64 a15, .bool a16, .string a17, .slice (some ⟨b18, 0, none⟩) n18 c18, .int .i64 a19, .bool a20, .int .i64 a21, .slice (some ⟨b22, 0, none⟩) n22 c22, .slice (some ⟨b23, 0, none⟩) n23 c23, .slice (some ⟨b24, 0, none⟩) n24 c24] 29 0 L1 W ∧ Only Spl L w L1 W ∧ Same3 w W) bd w1) := ⟨by rw [hL1]; obtain ⟨x7, x13, x18, x22, x23, x24, h7, h13, h18, h22, h23, h24, hbt⟩ := H6.out; exact ⟨⟨x7, x13, x18, x22, x23, x24, h7.move (fun _ _ _ _ h => h : Fl (Kd.int .u8)) (HBB.out.block b7 h7.lt) (lab1_old h7.lt), h13.move (fun _ _ _ _ h => h : Fl (Kd.int .u8)) (HBB.out.block b13 h13.lt) (lab1_old h13.lt), h18.move (fun _ _ _ _ h => h : Fl (Kd.int .u8)) (HBB.out.block b18 h18.lt) (lab1_old h18.lt), h22.move (fun _ _ _ _ h => h : Fl k82) (HBB.out.block b22 h22.lt) (lab1_old h22.lt), h23.move (fun _ _ _ _ h => h : Fl (Kd.int .i64)) (HBB.out.block b23 h23.lt) (lab1_old h23.lt), h24.move (fun _ _ _ _ h => h : Fl Kd.string) (HBB.out.block b24 h24.lt) (lab1_old h24.lt), hbt⟩, ⟨HBX.out, by rw [HGB.out]; exact lab1_new (Nat.le_refl _)⟩, on_new 0 HBB.out |>.mono (fun _ h => h.elim), s3_below HBB.out⟩⟩
 clear HBX HBB HGB H6
 obtain ⟨SP, hSP⟩ : ∃ z : Nat → World → Prop, z = (fun (bk : Nat) (W : World) => (∃ x7 x13 x18 x22 x23 x24, Lnt (Kd.int .u8) 5 807 b7 n7 tl7 x7 L1 W ∧ Lnt (Kd.int .u8) 5 813 b13 n13 tl13 x13 L1 W ∧ Lnt (Kd.int .u8) 5 818 b18 n18 tl18 x18 L1 W ∧ Lnt k82 82 822 b22 n22 tl22 x22 L1 W ∧ Lnt (Kd.int .i64) 3 823 b23 n23 tl23 x23 L1 W ∧ Lnt Kd.string 9 824 b24 n24 tl24 x24 L1 W ∧ ∀ y ∈ x24, y.size ≤ bk) ∧ Bk ga #[.int .i64 a0, .int .i64 a1, .bool a2, .int .i64 a3, .string a4, .bool a5, .string a6, .slice (some ⟨b7, 0, none⟩) n7 c7, .int .i64 a8, .bool a9, .bool a10, .string a11, .bool a12, .slice (some ⟨b13, 0, none⟩) n13 c13, .bool a14, .int .i64 a15, .bool a16, .string a17, .slice (some ⟨b18, 0, none⟩) n18 c18, .int .i64 a19, .bool a20, .int .i64 a21, .slice (some ⟨b22, 0, none⟩) n22 c22, .slice (some ⟨b23, 0, none⟩) n23 c23, .slice (some ⟨b24, 0, none⟩) n24 c24] 29 0 L1 W ∧ Only Spl L w L1 W ∧ Same3 w W) := ⟨_, rfl⟩; rw [← hSP] at HS; have HSP := am hSP; clear hSP
 have hb7_ : n7 ≤ 1073741824 := by have h_ := HS.out; rw [HSP.out] at h_; obtain ⟨⟨_, _, _, _, _, _, h7_, h13_, h18_, h22_, h23_, h24_, _⟩, _⟩ := h_; exact h7_.nm
 have hb13_ : n13 ≤ 1073741824 := by have h_ := HS.out; rw [HSP.out] at h_; obtain ⟨⟨_, _, _, _, _, _, h7_, h13_, h18_, h22_, h23_, h24_, _⟩, _⟩ := h_; exact h13_.nm
 have hb18_ : n18 ≤ 1073741824 := by have h_ := HS.out; rw [HSP.out] at h_; obtain ⟨⟨_, _, _, _, _, _, h7_, h13_, h18_, h22_, h23_, h24_, _⟩, _⟩ := h_; exact h18_.nm
 have hb22_ : n22 ≤ 1073741824 := by have h_ := HS.out; rw [HSP.out] at h_; obtain ⟨⟨_, _, _, _, _, _, h7_, h13_, h18_, h22_, h23_, h24_, _⟩, _⟩ := h_; exact h22_.nm
 have hb23_ : n23 ≤ 1073741824 := by have h_ := HS.out; rw [HSP.out] at h_; obtain ⟨⟨_, _, _, _, _, _, h7_, h13_, h18_, h22_, h23_, h24_, _⟩, _⟩ := h_; exact h23_.nm
 have hb24_ : n24 ≤ 1073741824 := by have h_ := HS.out; rw [HSP.out] at h_; obtain ⟨⟨_, _, _, _, _, _, h7_, h13_, h18_, h22_, h23_, h24_, _⟩, _⟩ := h_; exact h24_.nm
 go_wp2
 go_loopw [2] (fun i wr => ∃ k : Nat, k ≤ n13 ∧ i = .int .i64 k ∧ Aside0 (SP bd wr)) (fun i _ => n13 - (intOf i).toNat)
 case atStart => exact ⟨0, Nat.zero_le _, rfl, HS⟩
 case round =>
  clear HS
  obtain ⟨k, hk, rfl, HS⟩ := hrel
  obtain ⟨wo, hwo⟩ : ∃ x, x = wr := ⟨_, rfl⟩; subst hwo
  have h_ := HS.out; rw [HSP.out] at h_; obtain ⟨⟨x7, x13, x18, x22, x23, x24, h7, h13, h18, h22, h23, h24, hbt⟩, hbk, hon, hs3⟩ := h_
  have pc : wo.cell? ⟨ga, 13, none⟩ = some (.slice (some ⟨b13, 0, none⟩) n13 c13) := (blk_cell hbk.blk 13).trans rfl
  by_cases hlt : k < n13
  ·obtain ⟨cur, e1, e2, e3, e4⟩ := h13.ex
   obtain ⟨x, hx⟩ : ∃ x, x13[k]? = some x := ⟨_, List.getElem?_eq_getElem (by rw [h13.len]; exact hlt)⟩
   have hK := e3.2 k x hx
   have hsz_ : k * 1 + 1 ≤ n13 * 1 := by omega
   rw [show ((Kd.int .u8)).sz = 1 from rfl] at e2 hK
   have hc_ : cur[k]? = some (.int .u8 x) := lnt_at1 hlt hK
   have EB := am e1; have HC := am hc_; have HK := am hbk; have H13 := am h13; clear e1 hc_ e3 e4 hK
   have HR := am (And.intro h7 (And.intro h18 (And.intro h22 (And.intro h23 (And.intro h24 (And.intro hbt (And.intro hon hs3))))))); clear h7 h18 h22 h23 h24 hbt hon hs3 hbk h13
   go_upto_region 4 with (fail)
   clear pc
   refine wp_region_noPanic ?_
   refine wp_region_last_drew (S := fun W => W.heap[ga]? = some (.cells #[.int .i64 a0, .int .i64 a1, .bool a2, .int .i64 a3, .string a4, .bool a5, .string a6, .slice (some ⟨b7, 0, none⟩) n7 c7, .int .i64 a8, .bool a9, .bool a10, .string a11, .bool a12, .slice (some ⟨b13, 0, none⟩) n13 c13, .bool a14, .int .i64 a15, .bool a16, .string a17, .slice (some ⟨b18, 0, none⟩) n18 c18, .int .i64 a19, .bool a20, .int .i64 a21, .slice (some ⟨b22, 0, none⟩) n22 c22, .slice (some ⟨b23, 0, none⟩) n23 c23, .slice (some ⟨b24, 0, none⟩) n24 c24] 29 (0, 0)) ∧ W.heap[b13]? = some (.cells cur 5 (0, 0))) (ds := [10]) (by kernel_rfl) ?hS0 (fun hHeld => ?_)
   case hS0 => exact ⟨HK.out.blk, EB.out⟩
   refine tk 0 hHeld ?_
   try simp only [zp, zi, zz, zs]
   refine tk 1 hHeld ?_ (hy := fun w_ hSw => by (try dsimp only at hSw); have P1__ := (show w_.cell? ⟨ga, 13, none⟩ = some (.slice (some ⟨b13, 0, none⟩) n13 c13) from (blk_cell hSw.1 13).trans rfl); have P2__ := (blk_cell hSw.2 (k)).trans HC.out; (try go_simp); (try with_reducible rfl))
   try simp only [zp, zi, zz, zs]
   refine tk 2 hHeld ?_
   try simp only [zp, zi, zz, zs]
   refine tk 3 hHeld ?_
   try simp only [zp, zi, zz, zs]
   refine tk 4 hHeld ?_ (hy := fun w_ hSw => by (try dsimp only at hSw); have P1__ := (show w_.cell? ⟨ga, 13, none⟩ = some (.slice (some ⟨b13, 0, none⟩) n13 c13) from (blk_cell hSw.1 13).trans rfl); have P2__ := (blk_cell hSw.2 (k)).trans HC.out; (try go_simp); (try with_reducible rfl))
   try simp only [zp, zi, zz, zs]
   refine tk 5 hHeld ?_
   try simp only [zp, zi, zz, zs]
   refine tk 6 hHeld ?_
   try simp only [zp, zi, zz, zs]
   refine tk 7 hHeld ?_ (hy := fun w_ hSw => by (try dsimp only at hSw); have P1__ := (show w_.cell? ⟨ga, 13, none⟩ = some (.slice (some ⟨b13, 0, none⟩) n13 c13) from (blk_cell hSw.1 13).trans rfl); have P2__ := (blk_cell hSw.2 (k)).trans HC.out; (try go_simp); (try with_reducible rfl))
   try simp only [zp, zi, zz, zs]
   refine tk 8 hHeld ?_
   try simp only [zp, zi, zz, zs]
   refine tk 9 hHeld ?_
   try simp only [zp, zi, zz, zs]
   refine t2 10 (fun K hK => ?_)
   refine raw_st (w1 := wo.drew.setCell ⟨b13, k, none⟩ (.int .u8 ((x + 1) % 256))) (by rfl) rfl ?hr11 ?_
   case hr11 => (have hca := (blk_cell EB.out (k)).trans HC.out; have hfa := blk_frozen EB.out (k); first | (go_simp; done) | (go_simp; rfl) | (go_simp; trace_state))
   refine hK.out _ _ ?_
   clear hK K
   try simp only [zp, zi, zz, zs]
   refine wpAnyLast_done (by kernel_rfl) ?_ _
   refine NoPanic.normal ?_
   have hS_ : SP bd (wo.drew.setCell ⟨b13, k, none⟩ (.int .u8 ((x + 1) % 256))) := by
    rw [HSP.out]; obtain ⟨h7, h18, h22, h23, h24, hbt, hon, hs3⟩ := HR.out
    have hO : Only (Is 813) L1 wo L1 (wo.drew.setCell ⟨b13, k, none⟩ (.int .u8 ((x + 1) % 256))) := (only_drew (X := Is 813)).trans (Only.set b13 (k) (.int .u8 ((x + 1) % 256)) H13.out.lab)
    have s3_ : Same3 wo (wo.drew.setCell ⟨b13, k, none⟩ (.int .u8 ((x + 1) % 256))) := ⟨rfl, rfl, rfl⟩
    have hn_ := H13.out.set_ (W' := wo.drew.setCell ⟨b13, k, none⟩ (.int .u8 ((x + 1) % 256))) (q := k) (x := ((x + 1) % 256)) (fun _ _ _ _ h => h : Fl (Kd.int .u8)) EB.out hlt rfl (lnt_set1 (w := wo.drew) EB.out _)
    exact ⟨⟨x7, _, x18, x22, x23, x24, Lnt.stb (fun _ _ _ _ h => h : Fl (Kd.int .u8)) (fun h => by cases h) _ _ _ _ h7 hO.chg s3_, hn_, Lnt.stb (fun _ _ _ _ h => h : Fl (Kd.int .u8)) (fun h => by cases h) _ _ _ _ h18 hO.chg s3_, Lnt.stb (fun _ _ _ _ h => h : Fl k82) (fun h => by cases h) _ _ _ _ h22 hO.chg s3_, Lnt.stb (fun _ _ _ _ h => h : Fl (Kd.int .i64)) (fun h => by cases h) _ _ _ _ h23 hO.chg s3_, Lnt.stb (fun _ _ _ _ h => h : Fl Kd.string) (fun h => by cases h) _ _ _ _ h24 hO.chg s3_, hbt⟩, HK.out.step hO (fun h => by cases h), hon.trans (hO.mono (fun y hy => by rw [show y = 813 from hy]; exact ⟨by decide, by decide⟩)), ⟨s3_.os.trans hs3.os, s3_.tape.trans hs3.tape, s3_.output.trans hs3.output⟩⟩
   obtain ⟨w9, hw_⟩ : ∃ z, z = wo.drew.setCell ⟨b13, k, none⟩ (.int .u8 ((x + 1) % 256)) := ⟨_, rfl⟩; rw [← hw_] at hS_ ⊢; clear hw_
   go_wp2
   go_roundw
   case rel => exact ⟨k + 1, by omega, by go_num, ⟨hS_⟩⟩
   case measure => simp [intOf]; omega
  ·obtain rfl : n13 = k := by omega
   clear h7 h13 h18 h22 h23 h24 hbt hbk hon hs3
   go_wp2
   go_loopw [3] (fun i wr => ∃ k : Nat, k ≤ n7 ∧ i = .int .i64 k ∧ Aside0 (SP bd wr)) (fun i _ => n7 - (intOf i).toNat)
   case atStart => exact ⟨0, Nat.zero_le _, rfl, HS⟩
   case round =>
    clear HS
    obtain ⟨k, hk, rfl, HS⟩ := hrel
    obtain ⟨wo, hwo⟩ : ∃ x, x = wr := ⟨_, rfl⟩; subst hwo
    have h_ := HS.out; rw [HSP.out] at h_; obtain ⟨⟨x7, x13, x18, x22, x23, x24, h7, h13, h18, h22, h23, h24, hbt⟩, hbk, hon, hs3⟩ := h_
    have pc : wo.cell? ⟨ga, 7, none⟩ = some (.slice (some ⟨b7, 0, none⟩) n7 c7) := (blk_cell hbk.blk 7).trans rfl
    by_cases hlt : k < n7
    ·obtain ⟨cur, e1, e2, e3, e4⟩ := h7.ex
     obtain ⟨x, hx⟩ : ∃ x, x7[k]? = some x := ⟨_, List.getElem?_eq_getElem (by rw [h7.len]; exact hlt)⟩
     have hK := e3.2 k x hx
     have hsz_ : k * 1 + 1 ≤ n7 * 1 := by omega
     rw [show ((Kd.int .u8)).sz = 1 from rfl] at e2 hK
     have hc_ : cur[k]? = some (.int .u8 x) := lnt_at1 hlt hK
     have EB := am e1; have HC := am hc_; have HK := am hbk; have H7 := am h7; clear e1 hc_ e3 e4 hK
     have HR := am (And.intro h13 (And.intro h18 (And.intro h22 (And.intro h23 (And.intro h24 (And.intro hbt (And.intro hon hs3))))))); clear h13 h18 h22 h23 h24 hbt hon hs3 hbk h7
     go_upto_region 8 with (fail)
     clear pc
     refine wp_region_noPanic ?_
     refine wp_region_last_drew (S := fun W => W.heap[ga]? = some (.cells #[.int .i64 a0, .int .i64 a1, .bool a2, .int .i64 a3, .string a4, .bool a5, .string a6, .slice (some ⟨b7, 0, none⟩) n7 c7, .int .i64 a8, .bool a9, .bool a10, .string a11, .bool a12, .slice (some ⟨b13, 0, none⟩) n13 c13, .bool a14, .int .i64 a15, .bool a16, .string a17, .slice (some ⟨b18, 0, none⟩) n18 c18, .int .i64 a19, .bool a20, .int .i64 a21, .slice (some ⟨b22, 0, none⟩) n22 c22, .slice (some ⟨b23, 0, none⟩) n23 c23, .slice (some ⟨b24, 0, none⟩) n24 c24] 29 (0, 0)) ∧ W.heap[b7]? = some (.cells cur 5 (0, 0))) (ds := [12]) (by kernel_rfl) ?hS0 (fun hHeld => ?_)
     case hS0 => exact ⟨HK.out.blk, EB.out⟩
     refine tk 0 hHeld ?_
     try simp only [zp, zi, zz, zs]
     refine tk 1 hHeld ?_
     try simp only [zp, zi, zz, zs]
     refine tk 2 hHeld ?_ (hy := fun w_ hSw => by (try dsimp only at hSw); have P1__ := (show w_.cell? ⟨ga, 7, none⟩ = some (.slice (some ⟨b7, 0, none⟩) n7 c7) from (blk_cell hSw.1 7).trans rfl); have P2__ := (blk_cell hSw.2 (k)).trans HC.out; (try go_simp); (try with_reducible rfl))
     try simp only [zp, zi, zz, zs]
     refine tk 3 hHeld ?_
     try simp only [zp, zi, zz, zs]
     refine tk 4 hHeld ?_
     try simp only [zp, zi, zz, zs]
     refine tk 5 hHeld ?_
     try simp only [zp, zi, zz, zs]
     refine tk 6 hHeld ?_ (hy := fun w_ hSw => by (try dsimp only at hSw); have P1__ := (show w_.cell? ⟨ga, 7, none⟩ = some (.slice (some ⟨b7, 0, none⟩) n7 c7) from (blk_cell hSw.1 7).trans rfl); have P2__ := (blk_cell hSw.2 (k)).trans HC.out; (try go_simp); (try with_reducible rfl))
     try simp only [zp, zi, zz, zs]
     refine tk 7 hHeld ?_
     try simp only [zp, zi, zz, zs]
     refine tk 8 hHeld ?_
     try simp only [zp, zi, zz, zs]
     refine tk 9 hHeld ?_ (hy := fun w_ hSw => by (try dsimp only at hSw); have P1__ := (show w_.cell? ⟨ga, 7, none⟩ = some (.slice (some ⟨b7, 0, none⟩) n7 c7) from (blk_cell hSw.1 7).trans rfl); have P2__ := (blk_cell hSw.2 (k)).trans HC.out; (try go_simp); (try with_reducible rfl))
     try simp only [zp, zi, zz, zs]
     refine tk 10 hHeld ?_
     try simp only [zp, zi, zz, zs]
     refine tk 11 hHeld ?_
     try simp only [zp, zi, zz, zs]
     refine t2 12 (fun K hK => ?_)
     refine raw_st (w1 := wo.drew.setCell ⟨b7, k, none⟩ (.int .u8 ((x + 1) % 256))) (by rfl) rfl ?hr24 ?_
     case hr24 => (have hca := (blk_cell EB.out (k)).trans HC.out; have hfa := blk_frozen EB.out (k); first | (go_simp; done) | (go_simp; rfl) | (go_simp; trace_state))
     refine hK.out _ _ ?_
     clear hK K
     try simp only [zp, zi, zz, zs]
     refine wpAnyLast_done (by kernel_rfl) ?_ _
     refine NoPanic.normal ?_
     have hS_ : SP bd (wo.drew.setCell ⟨b7, k, none⟩ (.int .u8 ((x + 1) % 256))) := by
      rw [HSP.out]; obtain ⟨h13, h18, h22, h23, h24, hbt, hon, hs3⟩ := HR.out
      have hO : Only (Is 807) L1 wo L1 (wo.drew.setCell ⟨b7, k, none⟩ (.int .u8 ((x + 1) % 256))) := (only_drew (X := Is 807)).trans (Only.set b7 (k) (.int .u8 ((x + 1) % 256)) H7.out.lab)
      have s3_ : Same3 wo (wo.drew.setCell ⟨b7, k, none⟩ (.int .u8 ((x + 1) % 256))) := ⟨rfl, rfl, rfl⟩
      have hn_ := H7.out.set_ (W' := wo.drew.setCell ⟨b7, k, none⟩ (.int .u8 ((x + 1) % 256))) (q := k) (x := ((x + 1) % 256)) (fun _ _ _ _ h => h : Fl (Kd.int .u8)) EB.out hlt rfl (lnt_set1 (w := wo.drew) EB.out _)
      exact ⟨⟨_, x13, x18, x22, x23, x24, hn_, Lnt.stb (fun _ _ _ _ h => h : Fl (Kd.int .u8)) (fun h => by cases h) _ _ _ _ h13 hO.chg s3_, Lnt.stb (fun _ _ _ _ h => h : Fl (Kd.int .u8)) (fun h => by cases h) _ _ _ _ h18 hO.chg s3_, Lnt.stb (fun _ _ _ _ h => h : Fl k82) (fun h => by cases h) _ _ _ _ h22 hO.chg s3_, Lnt.stb (fun _ _ _ _ h => h : Fl (Kd.int .i64)) (fun h => by cases h) _ _ _ _ h23 hO.chg s3_, Lnt.stb (fun _ _ _ _ h => h : Fl Kd.string) (fun h => by cases h) _ _ _ _ h24 hO.chg s3_, hbt⟩, HK.out.step hO (fun h => by cases h), hon.trans (hO.mono (fun y hy => by rw [show y = 807 from hy]; exact ⟨by decide, by decide⟩)), ⟨s3_.os.trans hs3.os, s3_.tape.trans hs3.tape, s3_.output.trans hs3.output⟩⟩
     obtain ⟨w9, hw_⟩ : ∃ z, z = wo.drew.setCell ⟨b7, k, none⟩ (.int .u8 ((x + 1) % 256)) := ⟨_, rfl⟩; rw [← hw_] at hS_ ⊢; clear hw_
     go_wp2
     go_roundw
     case rel => exact ⟨k + 1, by omega, by go_num, ⟨hS_⟩⟩
     case measure => simp [intOf]; omega
    ·obtain rfl : n7 = k := by omega
     clear h7 h13 h18 h22 h23 h24 hbt hbk hon hs3
     go_wp2
     go_loopw [4] (fun i wr => ∃ k : Nat, k ≤ n18 ∧ i = .int .i64 k ∧ Aside0 (SP bd wr)) (fun i _ => n18 - (intOf i).toNat)
     case atStart => exact ⟨0, Nat.zero_le _, rfl, HS⟩
     case round =>
      clear HS
      obtain ⟨k, hk, rfl, HS⟩ := hrel
      obtain ⟨wo, hwo⟩ : ∃ x, x = wr := ⟨_, rfl⟩; subst hwo
      have h_ := HS.out; rw [HSP.out] at h_; obtain ⟨⟨x7, x13, x18, x22, x23, x24, h7, h13, h18, h22, h23, h24, hbt⟩, hbk, hon, hs3⟩ := h_
      have pc : wo.cell? ⟨ga, 18, none⟩ = some (.slice (some ⟨b18, 0, none⟩) n18 c18) := (blk_cell hbk.blk 18).trans rfl
      by_cases hlt : k < n18
      ·obtain ⟨cur, e1, e2, e3, e4⟩ := h18.ex
       obtain ⟨x, hx⟩ : ∃ x, x18[k]? = some x := ⟨_, List.getElem?_eq_getElem (by rw [h18.len]; exact hlt)⟩
       have hK := e3.2 k x hx
       have hsz_ : k * 1 + 1 ≤ n18 * 1 := by omega
       rw [show ((Kd.int .u8)).sz = 1 from rfl] at e2 hK
       have hc_ : cur[k]? = some (.int .u8 x) := lnt_at1 hlt hK
       have EB := am e1; have HC := am hc_; have HK := am hbk; have H18 := am h18; clear e1 hc_ e3 e4 hK
       have HR := am (And.intro h7 (And.intro h13 (And.intro h22 (And.intro h23 (And.intro h24 (And.intro hbt (And.intro hon hs3))))))); clear h7 h13 h22 h23 h24 hbt hon hs3 hbk h18
       go_upto_region 12 with (fail)
       clear pc
       refine wp_region_noPanic ?_
       refine wp_region_last_drew (S := fun W => W.heap[ga]? = some (.cells #[.int .i64 a0, .int .i64 a1, .bool a2, .int .i64 a3, .string a4, .bool a5, .string a6, .slice (some ⟨b7, 0, none⟩) n7 c7, .int .i64 a8, .bool a9, .bool a10, .string a11, .bool a12, .slice (some ⟨b13, 0, none⟩) n13 c13, .bool a14, .int .i64 a15, .bool a16, .string a17, .slice (some ⟨b18, 0, none⟩) n18 c18, .int .i64 a19, .bool a20, .int .i64 a21, .slice (some ⟨b22, 0, none⟩) n22 c22, .slice (some ⟨b23, 0, none⟩) n23 c23, .slice (some ⟨b24, 0, none⟩) n24 c24] 29 (0, 0)) ∧ W.heap[b18]? = some (.cells cur 5 (0, 0))) (ds := [12]) (by kernel_rfl) ?hS0 (fun hHeld => ?_)
       case hS0 => exact ⟨HK.out.blk, EB.out⟩
       refine tk 0 hHeld ?_
       try simp only [zp, zi, zz, zs]
       refine tk 1 hHeld ?_
       try simp only [zp, zi, zz, zs]
       refine tk 2 hHeld ?_ (hy := fun w_ hSw => by (try dsimp only at hSw); have P1__ := (show w_.cell? ⟨ga, 18, none⟩ = some (.slice (some ⟨b18, 0, none⟩) n18 c18) from (blk_cell hSw.1 18).trans rfl); have P2__ := (blk_cell hSw.2 (k)).trans HC.out; (try go_simp); (try with_reducible rfl))
       try simp only [zp, zi, zz, zs]
       refine tk 3 hHeld ?_
       try simp only [zp, zi, zz, zs]
       refine tk 4 hHeld ?_
       try simp only [zp, zi, zz, zs]
       refine tk 5 hHeld ?_
       try simp only [zp, zi, zz, zs]
       refine tk 6 hHeld ?_ (hy := fun w_ hSw => by (try dsimp only at hSw); have P1__ := (show w_.cell? ⟨ga, 18, none⟩ = some (.slice (some ⟨b18, 0, none⟩) n18 c18) from (blk_cell hSw.1 18).trans rfl); have P2__ := (blk_cell hSw.2 (k)).trans HC.out; (try go_simp); (try with_reducible rfl))
       try simp only [zp, zi, zz, zs]
       refine tk 7 hHeld ?_
       try simp only [zp, zi, zz, zs]
       refine tk 8 hHeld ?_
       try simp only [zp, zi, zz, zs]
       refine tk 9 hHeld ?_ (hy := fun w_ hSw => by (try dsimp only at hSw); have P1__ := (show w_.cell? ⟨ga, 18, none⟩ = some (.slice (some ⟨b18, 0, none⟩) n18 c18) from (blk_cell hSw.1 18).trans rfl); have P2__ := (blk_cell hSw.2 (k)).trans HC.out; (try go_simp); (try with_reducible rfl))
       try simp only [zp, zi, zz, zs]
       refine tk 10 hHeld ?_
       try simp only [zp, zi, zz, zs]
       refine tk 11 hHeld ?_
       try simp only [zp, zi, zz, zs]
       refine t2 12 (fun K hK => ?_)
       refine raw_st (w1 := wo.drew.setCell ⟨b18, k, none⟩ (.int .u8 ((x + 1) % 256))) (by rfl) rfl ?hr37 ?_
       case hr37 => (have hca := (blk_cell EB.out (k)).trans HC.out; have hfa := blk_frozen EB.out (k); first | (go_simp; done) | (go_simp; rfl) | (go_simp; trace_state))
       refine hK.out _ _ ?_
       clear hK K
       try simp only [zp, zi, zz, zs]
       refine wpAnyLast_done (by kernel_rfl) ?_ _
       refine NoPanic.normal ?_
       have hS_ : SP bd (wo.drew.setCell ⟨b18, k, none⟩ (.int .u8 ((x + 1) % 256))) := by
        rw [HSP.out]; obtain ⟨h7, h13, h22, h23, h24, hbt, hon, hs3⟩ := HR.out
        have hO : Only (Is 818) L1 wo L1 (wo.drew.setCell ⟨b18, k, none⟩ (.int .u8 ((x + 1) % 256))) := (only_drew (X := Is 818)).trans (Only.set b18 (k) (.int .u8 ((x + 1) % 256)) H18.out.lab)
        have s3_ : Same3 wo (wo.drew.setCell ⟨b18, k, none⟩ (.int .u8 ((x + 1) % 256))) := ⟨rfl, rfl, rfl⟩
        have hn_ := H18.out.set_ (W' := wo.drew.setCell ⟨b18, k, none⟩ (.int .u8 ((x + 1) % 256))) (q := k) (x := ((x + 1) % 256)) (fun _ _ _ _ h => h : Fl (Kd.int .u8)) EB.out hlt rfl (lnt_set1 (w := wo.drew) EB.out _)
        exact ⟨⟨x7, x13, _, x22, x23, x24, Lnt.stb (fun _ _ _ _ h => h : Fl (Kd.int .u8)) (fun h => by cases h) _ _ _ _ h7 hO.chg s3_, Lnt.stb (fun _ _ _ _ h => h : Fl (Kd.int .u8)) (fun h => by cases h) _ _ _ _ h13 hO.chg s3_, hn_, Lnt.stb (fun _ _ _ _ h => h : Fl k82) (fun h => by cases h) _ _ _ _ h22 hO.chg s3_, Lnt.stb (fun _ _ _ _ h => h : Fl (Kd.int .i64)) (fun h => by cases h) _ _ _ _ h23 hO.chg s3_, Lnt.stb (fun _ _ _ _ h => h : Fl Kd.string) (fun h => by cases h) _ _ _ _ h24 hO.chg s3_, hbt⟩, HK.out.step hO (fun h => by cases h), hon.trans (hO.mono (fun y hy => by rw [show y = 818 from hy]; exact ⟨by decide, by decide⟩)), ⟨s3_.os.trans hs3.os, s3_.tape.trans hs3.tape, s3_.output.trans hs3.output⟩⟩
       obtain ⟨w9, hw_⟩ : ∃ z, z = wo.drew.setCell ⟨b18, k, none⟩ (.int .u8 ((x + 1) % 256)) := ⟨_, rfl⟩; rw [← hw_] at hS_ ⊢; clear hw_
       go_wp2
       go_roundw
       case rel => exact ⟨k + 1, by omega, by go_num, ⟨hS_⟩⟩
       case measure => simp [intOf]; omega
      ·obtain rfl : n18 = k := by omega
       clear h7 h13 h18 h22 h23 h24 hbt hbk hon hs3
       go_wp2
       go_loopw [5] (fun i wr => ∃ k : Nat, k ≤ n22 ∧ i = .int .i64 k ∧ Aside0 (SP bd wr)) (fun i _ => n22 - (intOf i).toNat)
       case atStart => exact ⟨0, Nat.zero_le _, rfl, HS⟩
       case round =>
        clear HS
        obtain ⟨k, hk, rfl, HS⟩ := hrel
        obtain ⟨wo, hwo⟩ : ∃ x, x = wr := ⟨_, rfl⟩; subst hwo
        have h_ := HS.out; rw [HSP.out] at h_; obtain ⟨⟨x7, x13, x18, x22, x23, x24, h7, h13, h18, h22, h23, h24, hbt⟩, hbk, hon, hs3⟩ := h_
        have pc : wo.cell? ⟨ga, 22, none⟩ = some (.slice (some ⟨b22, 0, none⟩) n22 c22) := (blk_cell hbk.blk 22).trans rfl
        by_cases hlt : k < n22
        ·obtain ⟨cur, e1, e2, e3, e4⟩ := h22.ex
         obtain ⟨x, hx⟩ : ∃ x, x22[k]? = some x := ⟨_, List.getElem?_eq_getElem (by rw [h22.len]; exact hlt)⟩
         have hK := e3.2 k x hx
         have hsz_ : k * 2 + 2 ≤ n22 * 2 := by omega
         rw [show (k82).sz = 2 from rfl] at e2 hK
         obtain ⟨hc0_, hc_⟩ := lnt_at2 hlt hK
         have EB := am e1; have HC := am hc_; have HK := am hbk; have H22 := am h22; have HC0 := am hc0_; clear hc0_; clear e1 hc_ e3 e4 hK
         have HR := am (And.intro h7 (And.intro h13 (And.intro h18 (And.intro h23 (And.intro h24 (And.intro hbt (And.intro hon hs3))))))); clear h7 h13 h18 h23 h24 hbt hon hs3 hbk h22
         go_upto_region 16 with (fail)
         clear pc
         refine wp_region_noPanic ?_
         refine wp_region_last_drew (S := fun W => W.heap[ga]? = some (.cells #[.int .i64 a0, .int .i64 a1, .bool a2, .int .i64 a3, .string a4, .bool a5, .string a6, .slice (some ⟨b7, 0, none⟩) n7 c7, .int .i64 a8, .bool a9, .bool a10, .string a11, .bool a12, .slice (some ⟨b13, 0, none⟩) n13 c13, .bool a14, .int .i64 a15, .bool a16, .string a17, .slice (some ⟨b18, 0, none⟩) n18 c18, .int .i64 a19, .bool a20, .int .i64 a21, .slice (some ⟨b22, 0, none⟩) n22 c22, .slice (some ⟨b23, 0, none⟩) n23 c23, .slice (some ⟨b24, 0, none⟩) n24 c24] 29 (0, 0)) ∧ W.heap[b22]? = some (.cells cur 82 (0, 0))) (ds := [12]) (by kernel_rfl) ?hS0 (fun hHeld => ?_)
         case hS0 => exact ⟨HK.out.blk, EB.out⟩
         refine tk 0 hHeld ?_
         try simp only [zp, zi, zz, zs]
         refine tk 1 hHeld ?_ (hy := fun w_ hSw => by (try dsimp only at hSw); have P1__ := (show w_.cell? ⟨ga, 22, none⟩ = some (.slice (some ⟨b22, 0, none⟩) n22 c22) from (blk_cell hSw.1 22).trans rfl); have P2__ := (blk_cell hSw.2 (k * 2 + 1)).trans HC.out; (try go_simp); (try with_reducible rfl))
         try simp only [zp, zi, zz, zs]
         refine tk 2 hHeld ?_
         try simp only [zp, zi, zz, zs]
         refine tk 3 hHeld ?_
         try simp only [zp, zi, zz, zs]
         refine tk 4 hHeld ?_ (hy := fun w_ hSw => by (try dsimp only at hSw); have P1__ := (show w_.cell? ⟨ga, 22, none⟩ = some (.slice (some ⟨b22, 0, none⟩) n22 c22) from (blk_cell hSw.1 22).trans rfl); have P2__ := (blk_cell hSw.2 (k * 2 + 1)).trans HC.out; (try go_simp); (try with_reducible rfl))
         try simp only [zp, zi, zz, zs]
         refine tk 5 hHeld ?_
         try simp only [zp, zi, zz, zs]
         refine tk 6 hHeld ?_
         try simp only [zp, zi, zz, zs]
         refine tk 7 hHeld ?_
         try simp only [zp, zi, zz, zs]
         refine tk 8 hHeld ?_ (hy := fun w_ hSw => by (try dsimp only at hSw); have P1__ := (show w_.cell? ⟨ga, 22, none⟩ = some (.slice (some ⟨b22, 0, none⟩) n22 c22) from (blk_cell hSw.1 22).trans rfl); have P2__ := (blk_cell hSw.2 (k * 2 + 1)).trans HC.out; (try go_simp); (try with_reducible rfl))
         try simp only [zp, zi, zz, zs]
         refine tk 9 hHeld ?_
         try simp only [zp, zi, zz, zs]
         refine tk 10 hHeld ?_
         try simp only [zp, zi, zz, zs]
         refine tk 11 hHeld ?_
         try simp only [zp, zi, zz, zs]
         refine t2 12 (fun K hK => ?_)
         refine raw_st (w1 := wo.drew.setCell ⟨b22, k * 2 + 1, none⟩ (.int .i64 (IntKind.i64.wrap (x.f1 + 1)))) (by rfl) rfl ?hr50 ?_
         case hr50 => (have hca := (blk_cell EB.out (k * 2 + 1)).trans HC.out; have hfa := blk_frozen EB.out (k * 2 + 1); first | (go_simp; done) | (go_simp; rfl) | (go_simp; trace_state))
         refine hK.out _ _ ?_
         clear hK K
         try simp only [zp, zi, zz, zs]
         refine wpAnyLast_done (by kernel_rfl) ?_ _
         refine NoPanic.normal ?_
         have hS_ : SP bd (wo.drew.setCell ⟨b22, k * 2 + 1, none⟩ (.int .i64 (IntKind.i64.wrap (x.f1 + 1)))) := by
          rw [HSP.out]; obtain ⟨h7, h13, h18, h23, h24, hbt, hon, hs3⟩ := HR.out
          have hO : Only (Is 822) L1 wo L1 (wo.drew.setCell ⟨b22, k * 2 + 1, none⟩ (.int .i64 (IntKind.i64.wrap (x.f1 + 1)))) := (only_drew (X := Is 822)).trans (Only.set b22 (k * 2 + 1) (.int .i64 (IntKind.i64.wrap (x.f1 + 1))) H22.out.lab)
          have s3_ : Same3 wo (wo.drew.setCell ⟨b22, k * 2 + 1, none⟩ (.int .i64 (IntKind.i64.wrap (x.f1 + 1)))) := ⟨rfl, rfl, rfl⟩
          have hn_ := H22.out.set_ (W' := wo.drew.setCell ⟨b22, k * 2 + 1, none⟩ (.int .i64 (IntKind.i64.wrap (x.f1 + 1)))) (q := k) (x := ⟨x.f0, IntKind.i64.wrap (x.f1 + 1)⟩) (fun _ _ _ _ h => h : Fl k82) EB.out hlt (k82_mk _ _) (lnt_set2 (w := wo.drew) EB.out HC0.out _)
          exact ⟨⟨x7, x13, x18, _, x23, x24, Lnt.stb (fun _ _ _ _ h => h : Fl (Kd.int .u8)) (fun h => by cases h) _ _ _ _ h7 hO.chg s3_, Lnt.stb (fun _ _ _ _ h => h : Fl (Kd.int .u8)) (fun h => by cases h) _ _ _ _ h13 hO.chg s3_, Lnt.stb (fun _ _ _ _ h => h : Fl (Kd.int .u8)) (fun h => by cases h) _ _ _ _ h18 hO.chg s3_, hn_, Lnt.stb (fun _ _ _ _ h => h : Fl (Kd.int .i64)) (fun h => by cases h) _ _ _ _ h23 hO.chg s3_, Lnt.stb (fun _ _ _ _ h => h : Fl Kd.string) (fun h => by cases h) _ _ _ _ h24 hO.chg s3_, hbt⟩, HK.out.step hO (fun h => by cases h), hon.trans (hO.mono (fun y hy => by rw [show y = 822 from hy]; exact ⟨by decide, by decide⟩)), ⟨s3_.os.trans hs3.os, s3_.tape.trans hs3.tape, s3_.output.trans hs3.output⟩⟩
         obtain ⟨w9, hw_⟩ : ∃ z, z = wo.drew.setCell ⟨b22, k * 2 + 1, none⟩ (.int .i64 (IntKind.i64.wrap (x.f1 + 1))) := ⟨_, rfl⟩; rw [← hw_] at hS_ ⊢; clear hw_
         go_wp2
         go_roundw
         case rel => exact ⟨k + 1, by omega, by go_num, ⟨hS_⟩⟩
         case measure => simp [intOf]; omega
        ·obtain rfl : n22 = k := by omega
         clear h7 h13 h18 h22 h23 h24 hbt hbk hon hs3
         go_wp2
         go_loopw [6] (fun i wr => ∃ k : Nat, k ≤ n23 ∧ i = .int .i64 k ∧ Aside0 (SP bd wr)) (fun i _ => n23 - (intOf i).toNat)
         case atStart => exact ⟨0, Nat.zero_le _, rfl, HS⟩
         case round =>
          clear HS
          obtain ⟨k, hk, rfl, HS⟩ := hrel
          obtain ⟨wo, hwo⟩ : ∃ x, x = wr := ⟨_, rfl⟩; subst hwo
          have h_ := HS.out; rw [HSP.out] at h_; obtain ⟨⟨x7, x13, x18, x22, x23, x24, h7, h13, h18, h22, h23, h24, hbt⟩, hbk, hon, hs3⟩ := h_
          have pc : wo.cell? ⟨ga, 23, none⟩ = some (.slice (some ⟨b23, 0, none⟩) n23 c23) := (blk_cell hbk.blk 23).trans rfl
          by_cases hlt : k < n23
          ·obtain ⟨cur, e1, e2, e3, e4⟩ := h23.ex
           obtain ⟨x, hx⟩ : ∃ x, x23[k]? = some x := ⟨_, List.getElem?_eq_getElem (by rw [h23.len]; exact hlt)⟩
           have hK := e3.2 k x hx
           have hsz_ : k * 1 + 1 ≤ n23 * 1 := by omega
           rw [show ((Kd.int .i64)).sz = 1 from rfl] at e2 hK
           have hc_ : cur[k]? = some (.int .i64 x) := lnt_at1 hlt hK
           have EB := am e1; have HC := am hc_; have HK := am hbk; have H23 := am h23; clear e1 hc_ e3 e4 hK
           have HR := am (And.intro h7 (And.intro h13 (And.intro h18 (And.intro h22 (And.intro h24 (And.intro hbt (And.intro hon hs3))))))); clear h7 h13 h18 h22 h24 hbt hon hs3 hbk h23
           go_upto_region 20 with (fail)
           clear pc
           refine wp_region_noPanic ?_
           refine wp_region_last_drew (S := fun W => W.heap[ga]? = some (.cells #[.int .i64 a0, .int .i64 a1, .bool a2, .int .i64 a3, .string a4, .bool a5, .string a6, .slice (some ⟨b7, 0, none⟩) n7 c7, .int .i64 a8, .bool a9, .bool a10, .string a11, .bool a12, .slice (some ⟨b13, 0, none⟩) n13 c13, .bool a14, .int .i64 a15, .bool a16, .string a17, .slice (some ⟨b18, 0, none⟩) n18 c18, .int .i64 a19, .bool a20, .int .i64 a21, .slice (some ⟨b22, 0, none⟩) n22 c22, .slice (some ⟨b23, 0, none⟩) n23 c23, .slice (some ⟨b24, 0, none⟩) n24 c24] 29 (0, 0)) ∧ W.heap[b23]? = some (.cells cur 3 (0, 0))) (ds := [10]) (by kernel_rfl) ?hS0 (fun hHeld => ?_)
           case hS0 => exact ⟨HK.out.blk, EB.out⟩
           refine tk 0 hHeld ?_
           try simp only [zp, zi, zz, zs]
           refine tk 1 hHeld ?_ (hy := fun w_ hSw => by (try dsimp only at hSw); have P1__ := (show w_.cell? ⟨ga, 23, none⟩ = some (.slice (some ⟨b23, 0, none⟩) n23 c23) from (blk_cell hSw.1 23).trans rfl); have P2__ := (blk_cell hSw.2 (k)).trans HC.out; (try go_simp); (try with_reducible rfl))
           try simp only [zp, zi, zz, zs]
           refine tk 2 hHeld ?_
           try simp only [zp, zi, zz, zs]
           refine tk 3 hHeld ?_
           try simp only [zp, zi, zz, zs]
           refine tk 4 hHeld ?_ (hy := fun w_ hSw => by (try dsimp only at hSw); have P1__ := (show w_.cell? ⟨ga, 23, none⟩ = some (.slice (some ⟨b23, 0, none⟩) n23 c23) from (blk_cell hSw.1 23).trans rfl); have P2__ := (blk_cell hSw.2 (k)).trans HC.out; (try go_simp); (try with_reducible rfl))
           try simp only [zp, zi, zz, zs]
           refine tk 5 hHeld ?_
           try simp only [zp, zi, zz, zs]
           refine tk 6 hHeld ?_
           try simp only [zp, zi, zz, zs]
           refine tk 7 hHeld ?_ (hy := fun w_ hSw => by (try dsimp only at hSw); have P1__ := (show w_.cell? ⟨ga, 23, none⟩ = some (.slice (some ⟨b23, 0, none⟩) n23 c23) from (blk_cell hSw.1 23).trans rfl); have P2__ := (blk_cell hSw.2 (k)).trans HC.out; (try go_simp); (try with_reducible rfl))
           try simp only [zp, zi, zz, zs]
           refine tk 8 hHeld ?_
           try simp only [zp, zi, zz, zs]
           refine tk 9 hHeld ?_
           try simp only [zp, zi, zz, zs]
           refine t2 10 (fun K hK => ?_)
           refine raw_st (w1 := wo.drew.setCell ⟨b23, k, none⟩ (.int .i64 (IntKind.i64.wrap (x + 1)))) (by rfl) rfl ?hr61 ?_
           case hr61 => (have hca := (blk_cell EB.out (k)).trans HC.out; have hfa := blk_frozen EB.out (k); first | (go_simp; done) | (go_simp; rfl) | (go_simp; trace_state))
           refine hK.out _ _ ?_
           clear hK K
           try simp only [zp, zi, zz, zs]
           refine wpAnyLast_done (by kernel_rfl) ?_ _
           refine NoPanic.normal ?_
           have hS_ : SP bd (wo.drew.setCell ⟨b23, k, none⟩ (.int .i64 (IntKind.i64.wrap (x + 1)))) := by
            rw [HSP.out]; obtain ⟨h7, h13, h18, h22, h24, hbt, hon, hs3⟩ := HR.out
            have hO : Only (Is 823) L1 wo L1 (wo.drew.setCell ⟨b23, k, none⟩ (.int .i64 (IntKind.i64.wrap (x + 1)))) := (only_drew (X := Is 823)).trans (Only.set b23 (k) (.int .i64 (IntKind.i64.wrap (x + 1))) H23.out.lab)
            have s3_ : Same3 wo (wo.drew.setCell ⟨b23, k, none⟩ (.int .i64 (IntKind.i64.wrap (x + 1)))) := ⟨rfl, rfl, rfl⟩
            have hn_ := H23.out.set_ (W' := wo.drew.setCell ⟨b23, k, none⟩ (.int .i64 (IntKind.i64.wrap (x + 1)))) (q := k) (x := (IntKind.i64.wrap (x + 1))) (fun _ _ _ _ h => h : Fl (Kd.int .i64)) EB.out hlt rfl (lnt_set1 (w := wo.drew) EB.out _)
            exact ⟨⟨x7, x13, x18, x22, _, x24, Lnt.stb (fun _ _ _ _ h => h : Fl (Kd.int .u8)) (fun h => by cases h) _ _ _ _ h7 hO.chg s3_, Lnt.stb (fun _ _ _ _ h => h : Fl (Kd.int .u8)) (fun h => by cases h) _ _ _ _ h13 hO.chg s3_, Lnt.stb (fun _ _ _ _ h => h : Fl (Kd.int .u8)) (fun h => by cases h) _ _ _ _ h18 hO.chg s3_, Lnt.stb (fun _ _ _ _ h => h : Fl k82) (fun h => by cases h) _ _ _ _ h22 hO.chg s3_, hn_, Lnt.stb (fun _ _ _ _ h => h : Fl Kd.string) (fun h => by cases h) _ _ _ _ h24 hO.chg s3_, hbt⟩, HK.out.step hO (fun h => by cases h), hon.trans (hO.mono (fun y hy => by rw [show y = 823 from hy]; exact ⟨by decide, by decide⟩)), ⟨s3_.os.trans hs3.os, s3_.tape.trans hs3.tape, s3_.output.trans hs3.output⟩⟩
           obtain ⟨w9, hw_⟩ : ∃ z, z = wo.drew.setCell ⟨b23, k, none⟩ (.int .i64 (IntKind.i64.wrap (x + 1))) := ⟨_, rfl⟩; rw [← hw_] at hS_ ⊢; clear hw_
           go_wp2
           go_roundw
           case rel => exact ⟨k + 1, by omega, by go_num, ⟨hS_⟩⟩
           case measure => simp [intOf]; omega
          ·obtain rfl : n23 = k := by omega
           clear h7 h13 h18 h22 h23 h24 hbt hbk hon hs3
           go_wp2
           go_loopw [7] (fun i wr => ∃ k : Nat, k ≤ n24 ∧ i = .int .i64 k ∧ Aside0 (SP (bd + k) wr)) (fun i _ => n24 - (intOf i).toNat)
           case atStart => exact ⟨0, Nat.zero_le _, rfl, HS⟩
           case round =>
            clear HS
            obtain ⟨k, hk, rfl, HS⟩ := hrel
            obtain ⟨wo, hwo⟩ : ∃ x, x = wr := ⟨_, rfl⟩; subst hwo
            have h_ := HS.out; rw [HSP.out] at h_; obtain ⟨⟨x7, x13, x18, x22, x23, x24, h7, h13, h18, h22, h23, h24, hbt⟩, hbk, hon, hs3⟩ := h_
            have pc : wo.cell? ⟨ga, 24, none⟩ = some (.slice (some ⟨b24, 0, none⟩) n24 c24) := (blk_cell hbk.blk 24).trans rfl
            by_cases hlt : k < n24
            ·obtain ⟨cur, e1, e2, e3, e4⟩ := h24.ex
             obtain ⟨x, hx⟩ : ∃ x, x24[k]? = some x := ⟨_, List.getElem?_eq_getElem (by rw [h24.len]; exact hlt)⟩
             have hK := e3.2 k x hx
             have hsz_ : k * 1 + 1 ≤ n24 * 1 := by omega
             rw [show (Kd.string).sz = 1 from rfl] at e2 hK
             have hc_ : cur[k]? = some (.string x) := lnt_at1 hlt hK
             have EB := am e1; have HC := am hc_; have HK := am hbk; have H24 := am h24; clear e1 hc_ e3 e4 hK
             have HR := am (And.intro h7 (And.intro h13 (And.intro h18 (And.intro h22 (And.intro h23 (And.intro hbt (And.intro hon hs3))))))); clear h7 h13 h18 h22 h23 hbt hon hs3 hbk h24
             have hxb : x.size + 1 ≤ 9223372036854775807 := by obtain ⟨_, _, _, _, _, hbt_, _⟩ := HR.out; have h1_ := hbt_ x (List.mem_of_getElem? hx); omega
             have hxe : (9223372036854775807 < x.size + 1) = False := by simp; omega
             go_upto_region 24 with (fail)
             clear pc
             refine wp_region_noPanic ?_
             refine wp_region_last_drew (S := fun W => W.heap[ga]? = some (.cells #[.int .i64 a0, .int .i64 a1, .bool a2, .int .i64 a3, .string a4, .bool a5, .string a6, .slice (some ⟨b7, 0, none⟩) n7 c7, .int .i64 a8, .bool a9, .bool a10, .string a11, .bool a12, .slice (some ⟨b13, 0, none⟩) n13 c13, .bool a14, .int .i64 a15, .bool a16, .string a17, .slice (some ⟨b18, 0, none⟩) n18 c18, .int .i64 a19, .bool a20, .int .i64 a21, .slice (some ⟨b22, 0, none⟩) n22 c22, .slice (some ⟨b23, 0, none⟩) n23 c23, .slice (some ⟨b24, 0, none⟩) n24 c24] 29 (0, 0)) ∧ W.heap[b24]? = some (.cells cur 9 (0, 0))) (ds := [10]) (by kernel_rfl) ?hS0 (fun hHeld => ?_)
             case hS0 => exact ⟨HK.out.blk, EB.out⟩
             refine tk 0 hHeld ?_
             try simp only [zp, zi, zz, zs]
             refine tk 1 hHeld ?_ (hy := fun w_ hSw => by (try dsimp only at hSw); have P1__ := (show w_.cell? ⟨ga, 24, none⟩ = some (.slice (some ⟨b24, 0, none⟩) n24 c24) from (blk_cell hSw.1 24).trans rfl); have P2__ := (blk_cell hSw.2 (k)).trans HC.out; (try go_simp); (try with_reducible rfl))
             try simp only [zp, zi, zz, zs]
             refine tk 2 hHeld ?_
             try simp only [zp, zi, zz, zs]
             refine tk 3 hHeld ?_
             try simp only [zp, zi, zz, zs]
             refine tk 4 hHeld ?_ (hy := fun w_ hSw => by (try dsimp only at hSw); have P1__ := (show w_.cell? ⟨ga, 24, none⟩ = some (.slice (some ⟨b24, 0, none⟩) n24 c24) from (blk_cell hSw.1 24).trans rfl); have P2__ := (blk_cell hSw.2 (k)).trans HC.out; (try go_simp); (try with_reducible rfl))
             try simp only [zp, zi, zz, zs]
             refine tk 5 hHeld ?_
             try simp only [zp, zi, zz, zs]
             refine tk 6 hHeld ?_
             try simp only [zp, zi, zz, zs]
             refine tk 7 hHeld ?_ (hy := fun w_ hSw => by (try dsimp only at hSw); have P1__ := (show w_.cell? ⟨ga, 24, none⟩ = some (.slice (some ⟨b24, 0, none⟩) n24 c24) from (blk_cell hSw.1 24).trans rfl); have P2__ := (blk_cell hSw.2 (k)).trans HC.out; (try go_simp); (try with_reducible rfl))
             try simp only [zp, zi, zz, zs]
             refine tk 8 hHeld ?_
             try simp only [zp, zi, zz, zs]
             refine tk 9 hHeld ?_
             try simp only [zp, zi, zz, zs]
             refine t2 10 (fun K hK => ?_)
             refine raw_st (w1 := wo.drew.setCell ⟨b24, k, none⟩ (.string (x ++ ⟨#[47]⟩))) (by rfl) rfl ?hr72 ?_
             case hr72 => (have hca := (blk_cell EB.out (k)).trans HC.out; have hfa := blk_frozen EB.out (k); first | (go_simp; done) | (go_simp; rfl) | (go_simp; trace_state))
             refine hK.out _ _ ?_
             clear hK K
             try simp only [zp, zi, zz, zs]
             refine wpAnyLast_done (by kernel_rfl) ?_ _
             refine NoPanic.normal ?_
             have hS_ : SP (bd + (k + 1)) (wo.drew.setCell ⟨b24, k, none⟩ (.string (x ++ ⟨#[47]⟩))) := by
              rw [HSP.out]; obtain ⟨h7, h13, h18, h22, h23, hbt, hon, hs3⟩ := HR.out
              have hO : Only (Is 824) L1 wo L1 (wo.drew.setCell ⟨b24, k, none⟩ (.string (x ++ ⟨#[47]⟩))) := (only_drew (X := Is 824)).trans (Only.set b24 (k) (.string (x ++ ⟨#[47]⟩)) H24.out.lab)
              have s3_ : Same3 wo (wo.drew.setCell ⟨b24, k, none⟩ (.string (x ++ ⟨#[47]⟩))) := ⟨rfl, rfl, rfl⟩
              have hn_ := H24.out.set_ (W' := wo.drew.setCell ⟨b24, k, none⟩ (.string (x ++ ⟨#[47]⟩))) (q := k) (x := (x ++ ⟨#[47]⟩)) (fun _ _ _ _ h => h : Fl Kd.string) EB.out hlt rfl (lnt_set1 (w := wo.drew) EB.out _)
              exact ⟨⟨x7, x13, x18, x22, x23, _, Lnt.stb (fun _ _ _ _ h => h : Fl (Kd.int .u8)) (fun h => by cases h) _ _ _ _ h7 hO.chg s3_, Lnt.stb (fun _ _ _ _ h => h : Fl (Kd.int .u8)) (fun h => by cases h) _ _ _ _ h13 hO.chg s3_, Lnt.stb (fun _ _ _ _ h => h : Fl (Kd.int .u8)) (fun h => by cases h) _ _ _ _ h18 hO.chg s3_, Lnt.stb (fun _ _ _ _ h => h : Fl k82) (fun h => by cases h) _ _ _ _ h22 hO.chg s3_, Lnt.stb (fun _ _ _ _ h => h : Fl (Kd.int .i64)) (fun h => by cases h) _ _ _ _ h23 hO.chg s3_, hn_, (fun y hy => (List.mem_or_eq_of_mem_set hy).elim (fun h => by have := hbt y h; omega) (fun h => by rw [h, ByteArray.size_append]; have := hbt x (List.mem_of_getElem? hx); have e_ : (⟨#[47]⟩ : ByteArray).size = 1 := rfl; omega))⟩, HK.out.step hO (fun h => by cases h), hon.trans (hO.mono (fun y hy => by rw [show y = 824 from hy]; exact ⟨by decide, by decide⟩)), ⟨s3_.os.trans hs3.os, s3_.tape.trans hs3.tape, s3_.output.trans hs3.output⟩⟩
             obtain ⟨w9, hw_⟩ : ∃ z, z = wo.drew.setCell ⟨b24, k, none⟩ (.string (x ++ ⟨#[47]⟩)) := ⟨_, rfl⟩; rw [← hw_] at hS_ ⊢; clear hw_
             go_wp2
             go_roundw
             case rel => exact ⟨k + 1, by omega, by go_num, ⟨hS_⟩⟩
             case measure => simp [intOf]; omega
            ·obtain rfl : n24 = k := by omega
             clear h7 h13 h18 h22 h23 h24 hbt hbk hon hs3
             go_wp2
             first | go_end0 | ((try simp only [Exit.inBlock, Exit.then]); refine bodyPost_ret (results_none rfl _ _ _) rfl ?_)
             have h_ := HS.out; rw [HSP.out] at h_; obtain ⟨h1_, _, h2_, h3_⟩ := h_; rw [hL1] at h1_ h2_; exact ⟨rfl, h1_, h2_, h3_⟩
end Go.Proofs.YtndhkgfeknkfdaaGreatDoor.Rm
