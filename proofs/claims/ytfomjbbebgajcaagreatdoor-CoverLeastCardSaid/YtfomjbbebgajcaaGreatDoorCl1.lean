/- What CoverLeast's walk keeps. -/
import Derived.Test.YtfomjbbebgajcaaGreatDoorBd
import Derived.Test.YtfomjbbebgajcaaGreatDoorHdr
namespace Go.Proofs.YtfomjbbebgajcaaGreatDoor.Rm
open Go.RowKit Go.Proofs.YtfomjbbebgajcaaGreatDoorW.PrintWords Go.Proofs.YtfomjbbebgajcaaGreatDoorW.PrintLast Go.Proofs.YtfomjbbebgajcaaGreatDoorW.PrintMore Go.Proofs.YtfomjbbebgajcaaGreatDoor.MCoverLeast
set_option linter.unusedVariables false
set_option linter.unusedSimpArgs false
set_option maxHeartbeats 4000000
set_option maxRecDepth 100000
/-- block b holds the n elements xs, and tl behind them -/
structure Lnt {α : Type} (d : Kd α) (te t b n : Nat) (tl : List Value) (xs : List α) (L : Nat → Nat) (W : World) : Prop where
 len : xs.length = n
 ex : ∃ cur, W.heap[b]? = some (.cells cur te (0, 0)) ∧ n * d.sz ≤ cur.size ∧ Reps (d.K W) d.sz xs (cur.toList.take (n * d.sz)) ∧ cur.toList.drop (n * d.sz) = tl
 lab : L b = t
 nm : n ≤ 1073741824
section
variable {α : Type} {d : Kd α} {te t b n q : Nat} {tl : List Value} {xs : List α} {L L' : Nat → Nat} {W W' : World} {X : Nat → Prop}
theorem Lnt.lt (h : Lnt d te t b n tl xs L W) : b < W.heap.size := by
 obtain ⟨cur, h1, _⟩ := h.ex
 exact blk_lt h1
theorem Lnt.move (hF : Fl d) (h : Lnt d te t b n tl xs L W) (h1 : W'.heap[b]? = W.heap[b]?) (h2 : L' b = L b) : Lnt d te t b n tl xs L' W' := ⟨h.len, by
 obtain ⟨cur, a1, a2, a3, a4⟩ := h.ex
 exact ⟨cur, h1.trans a1, a2, a3.imp_ (fun _ _ hp => hF _ _ _ _ hp), a4⟩, h2.trans h.lab, h.nm⟩
theorem Lnt.stb (hF : Fl d) (ht : ¬ X t) : Stb X (Lnt d te t b n tl xs) := fun L w L' w' hh c s =>
 hh.move hF (c.keep b hh.lt (by rw [hh.lab]; exact ht)).1 (c.keep b hh.lt (by rw [hh.lab]; exact ht)).2
theorem Lnt.C_ (h : Lnt d te t b n tl xs L W) : d.C W (some ⟨b, 0, none⟩) n xs := by
 obtain ⟨cur, a1, a2, a3, a4⟩ := h.ex
 refine ⟨h.len, by have := h.nm; omega, fun hn => ⟨_, rfl, fun j p hj => ⟨((cur.toList.take (n * d.sz)).drop (j * d.sz)).take d.sz, ?_, a3.2 j p hj, fun i u hu => ?_⟩⟩⟩
 ·exact d.K_len (a3.2 j p hj)
 ·rw [add_plain, blk_cell a1]
  rw [List.getElem?_take] at hu
  split at hu
  ·rw [List.getElem?_drop, List.getElem?_take] at hu
   split at hu
   ·simpa using hu
   ·cases hu
  ·cases hu
theorem Lnt.set_ (hF : Fl d) {cur : Array Value} {cells : List Value} {x : α} (h : Lnt d te t b n tl xs L W) (hb : W.heap[b]? = some (.cells cur te (0, 0))) (hq : q < n) (hx : d.K W x cells) (hw : W'.heap[b]? = some (.cells (setFrom cur (q * d.sz) cells) te (0, 0))) : Lnt d te t b n tl (xs.set q x) L W' := by
 obtain ⟨cur', a1, a2, a3, a4⟩ := h.ex
 rw [hb] at a1
 injection a1 with a1
 injection a1 with a1
 subst a1
 have hcl := d.K_len hx
 have hqs : q * d.sz + d.sz ≤ n * d.sz := by rw [← Nat.succ_mul]; exact Nat.mul_le_mul_right _ hq
 refine ⟨by rw [List.length_set]; exact h.len, ⟨_, hw, by rw [setFrom_size]; exact a2, ?_, ?_⟩, h.lab, h.nm⟩
 ·rw [setFrom_toList _ _ _ (by omega)]
  have hl_ : (cur.toList.take (q * d.sz)).length = q * d.sz := by rw [List.length_take]; simp only [Array.length_toList]; omega
  have e : (cur.toList.take (q * d.sz) ++ cells ++ cur.toList.drop (q * d.sz + cells.length)).take (n * d.sz) = (cur.toList.take (n * d.sz)).take (q * d.sz) ++ cells ++ (cur.toList.take (n * d.sz)).drop (q * d.sz + d.sz) := by
   rw [List.take_take, Nat.min_eq_left (by omega), List.drop_take, List.take_append, List.take_of_length_le (by rw [List.length_append, hl_]; omega), List.length_append, hl_, hcl]
  rw [e]
  exact Reps.set_ (a3.imp_ (fun _ _ hp => hF _ _ _ _ hp)) (hF _ _ _ _ hx) hcl (by rw [h.len]; exact hq)
 ·rw [setFrom_toList _ _ _ (by omega), ← a4]
  have hl_ : (cur.toList.take (q * d.sz) ++ cells).length = q * d.sz + d.sz := by rw [List.length_append, List.length_take, hcl]; simp only [Array.length_toList]; omega
  rw [List.drop_append, hl_, List.drop_of_length_le (by omega), List.nil_append, List.drop_drop, hcl]
  congr 1
  omega
end
def Spl (x : Nat) : Prop := 800 ≤ x ∧ x < 830

theorem lnt_set1 {w : World} {b k te : Nat} {cur : Array Value} (h : w.heap[b]? = some (.cells cur te (0, 0))) (v : Value) : (w.setCell ⟨b, k, none⟩ v).heap[b]? = some (.cells (setFrom cur (k * 1) [v]) te (0, 0)) := by
 rw [Nat.mul_one]
 exact blk_set h k v
/-- D' holds what D holds -/
def Mor (D D' : Nat → List (Value × Int)) : Prop := ∀ i p, p ∈ D i → p ∈ D' i
/-- kind i holds block b's list of n with room behind -/
def Mem (D : Nat → List (Value × Int)) (i b n room : Nat) : Prop := ∃ c, ((.slice (some ⟨b, 0, none⟩) (n + room) c, (n : Int)) : Value × Int) ∈ D i
theorem put_mem {D : Nat → List (Value × Int)} {i : Nat} {p : Value × Int} : p ∈ put D i p i := by
 unfold put
 rw [if_pos rfl]
 exact List.mem_append_right _ (List.mem_singleton.2 rfl)
/-- block b's cells from place n on -/
def Tl (te sz b n : Nat) (tl : List Value) (W : World) : Prop := ∃ cur, W.heap[b]? = some (.cells cur te (0, 0)) ∧ cur.toList.drop (n * sz) = tl
theorem Lnt.tl {α : Type} {d : Kd α} {te t b n : Nat} {tl : List Value} {xs : List α} {L : Nat → Nat} {W : World} (h : Lnt d te t b n tl xs L W) : Tl te d.sz b n tl W := by
 obtain ⟨cur, a1, a2, a3, a4⟩ := h.ex
 exact ⟨cur, a1, a4⟩
/-- what reads as a list, in a block of its own -/
theorem lnt_of {α : Type} {d : Kd α} {te t b n : Nat} {tl : List Value} {xs : List α} {L : Nat → Nat} {W : World} (hC : d.C W (some ⟨b, 0, none⟩) n xs) (hT : Tl te d.sz b n tl W) (hL : L b = t) (hn : n ≤ 1073741824) : Lnt d te t b n tl xs L W := by
 obtain ⟨cur, hb, ht⟩ := hT
 have hlen : xs.length = n := hC.1
 have hcell : ∀ (j : Nat) (p : α), xs[j]? = some p → ∃ c, c.length = d.sz ∧ d.K W p c ∧ ∀ i u, c[i]? = some u → cur.toList[j * d.sz + i]? = some u := fun j p hj => by
  have hjl : j < xs.length := by
   rcases Nat.lt_or_ge j xs.length with h | h
   ·exact h
   ·rw [List.getElem?_eq_none h] at hj; cases hj
  obtain ⟨ad, e, hc⟩ := hC.2.2 (by omega)
  obtain rfl : (⟨b, 0, none⟩ : Addr) = ad := Option.some.inj e
  obtain ⟨c, h1, h2, h3⟩ := hc j p hj
  refine ⟨c, h1, h2, fun i u hu => ?_⟩
  have h4 := h3 i u hu
  rw [add_plain, blk_cell hb] at h4
  simpa using h4
 have hle : n * d.sz ≤ cur.size := by
  rcases Nat.eq_zero_or_pos n with h0 | h0
  ·rw [h0]; omega
  rcases Nat.eq_zero_or_pos d.sz with hz | hz
  ·rw [hz]; omega
  obtain ⟨p, hp⟩ : ∃ p, xs[n - 1]? = some p := ⟨_, List.getElem?_eq_getElem (by omega)⟩
  obtain ⟨c, h1, h2, h3⟩ := hcell _ p hp
  obtain ⟨u, hu⟩ : ∃ u, c[d.sz - 1]? = some u := ⟨_, List.getElem?_eq_getElem (by omega)⟩
  have h4 := h3 _ u hu
  have h5 : (n - 1) * d.sz + (d.sz - 1) < cur.toList.length := by
   rcases Nat.lt_or_ge ((n - 1) * d.sz + (d.sz - 1)) cur.toList.length with h | h
   ·exact h
   ·rw [List.getElem?_eq_none h] at h4; cases h4
  rw [Array.length_toList] at h5
  have h6 : n * d.sz = (n - 1) * d.sz + d.sz := by rw [← Nat.succ_mul, show (n - 1).succ = n by omega]
  omega
 refine ⟨hlen, ⟨cur, hb, hle, ⟨by rw [List.length_take, Array.length_toList, hlen]; omega, fun j p hj => ?_⟩, ht⟩, hL, hn⟩
 obtain ⟨c, h1, h2, h3⟩ := hcell j p hj
 have hjl : j < n := by
  rcases Nat.lt_or_ge j xs.length with h | h
  ·omega
  ·rw [List.getElem?_eq_none h] at hj; cases hj
 have h6 : (j + 1) * d.sz ≤ n * d.sz := Nat.mul_le_mul_right _ hjl
 rw [Nat.succ_mul] at h6
 have e : ((cur.toList.take (n * d.sz)).drop (j * d.sz)).take d.sz = c := by
  apply List.ext_getElem?
  intro i
  rw [List.getElem?_take]
  split
  ·rename_i hi
   rw [List.getElem?_drop, List.getElem?_take, if_pos (by omega)]
   rw [h3 i _ (List.getElem?_eq_getElem (by omega : i < c.length)), List.getElem?_eq_getElem]
  ·rename_i hi
   rw [List.getElem?_eq_none (by omega)]
 rw [e]
 exact h2
/-- what a Room says of a list that it lent -/
theorem At.lent {kinds : Nat → Kind} {ti tR : TypeId} {L : Nat → Nat} {base : Nat} {w : World} {g N : Nat} {cs : Array Value} {D : Nat → List (Value × Int)} (h : At kinds ti tR L base w g N cs D) {i b n room : Nat} (hi : i < 17) (hm : Mem D i b n room) : L b = 0 ∧ ∃ tl, Tl (kinds i).el (kinds i).sz b n tl w := by
 obtain ⟨c, hc⟩ := hm
 obtain ⟨V, U, _, _, h2⟩ := h.two i hi
 obtain ⟨j, hj⟩ := List.getElem?_of_mem hc
 obtain ⟨b', m', c', k', cur, e1, e2, e3, e4, e5, e6, e7, e8⟩ := h2.inn j _ hj
 injection e1 with e1 _ _
 injection e1 with e1
 injection e1 with e1
 subst e1
 exact ⟨e7, _, cur, e6, rfl⟩
/-- the Room behind writes into the first places of lists that it lent -/
theorem At.poke {kinds : Nat → Kind} {ti tR : TypeId} {L : Nat → Nat} {base : Nat} {w W : World} {g N : Nat} {cs : Array Value} {D : Nat → List (Value × Int)} (h : At kinds ti tR L base w g N cs D)
  (hK : ∀ i i', i < 17 → i' < 17 → (kinds i).on = true → (kinds i').on = true → (kinds i).el = (kinds i').el → i = i')
  (hs : w.heap.size ≤ W.heap.size) (hx : ∀ b, b < w.heap.size → Room (L b) → W.heap[b]? = w.heap[b]?)
  (hp : ∀ b, b < w.heap.size → L b = 0 → W.heap[b]? = w.heap[b]? ∨ ∃ i n room tl, i < 17 ∧ Mem D i b n room ∧ Tl (kinds i).el (kinds i).sz b n tl w ∧ Tl (kinds i).el (kinds i).sz b n tl W) : At kinds ti tR L base W g N cs D where
 blk := (hx g (blk_lt h.blk) (by rw [h.lab]; exact ⟨by decide, by decide⟩)).trans h.blk
 lab := h.lab
 ge := h.ge
 low := h.low
 size := h.size
 two := fun i hi => by
  obtain ⟨V, U, h1, h2, h3⟩ := h.two i hi
  refine ⟨V, U, h1, h2, ⟨h3.le, own_move h3.ov (fun b hb => hx b (own_lt h3.ov b hb) (by rw [h3.lv b hb]; exact ⟨by omega, by omega⟩)), h3.lv, own_move h3.ou (fun b hb => hx b (own_lt h3.ou b hb) (by rw [h3.lu b hb]; exact ⟨by omega, by omega⟩)), h3.lu, fun j p hj => ?_, h3.dis, h3.off⟩⟩
  obtain ⟨b, m, c, k, cur, e1, e2, e3, e4, e5, e6, e7, e8⟩ := h3.inn j p hj
  rcases hp b (blk_lt e6) e7 with hb | ⟨i', n, room, tl, hi', hm, ⟨c1, t1, t2⟩, ⟨c2, t3, t4⟩⟩
  ·refine ⟨b, m, c, k, cur, e1, e2, e3, e4, e5, hb.trans e6, e7, fun q hq => ?_⟩
   obtain ⟨ce, hce, hc⟩ := e8 q hq
   refine ⟨ce, hce, fun r u hu => ?_⟩
   rw [← hc r u hu]
   exact World.cell?_of_block (w := w) hb
  ·obtain ⟨c', hc'⟩ := hm
   rw [e6] at t1
   injection t1 with t1
   injection t1 with t1 t1'
   subst t1
   obtain ⟨V', U', _, _, h3'⟩ := h.two i' hi'
   have on1 : (kinds i).on = true := by
    cases ho : (kinds i).on with
    | true => rfl
    | false => rw [(h3.off ho).2] at hj; simp at hj
   have on2 : (kinds i').on = true := by
    cases ho : (kinds i').on with
    | true => rfl
    | false => rw [(h3'.off ho).2] at hc'; simp at hc'
   obtain rfl := hK i i' hi hi' on1 on2 t1'
   obtain ⟨j', hj'⟩ := List.getElem?_of_mem hc'
   obtain rfl := h3.dis j j' p _ b hj hj' (by rw [e1]; rfl) rfl
   rw [hj] at hj'
   injection hj' with hj'
   subst hj'
   obtain rfl : n = k := Int.ofNat.inj e2
   refine ⟨b, m, c, n, c2, e1, e2, e3, e4, e5, t3, e7, fun q hq => ?_⟩
   obtain ⟨ce, hce, hc⟩ := e8 q hq
   refine ⟨ce, hce, fun r u hu => ?_⟩
   have h9 := hc r u hu
   rw [blk_cell e6] at h9
   rw [blk_cell t3]
   have e9 : ∀ x : Nat, (c2.toList.drop (n * (kinds i).sz))[x]? = (cur.toList.drop (n * (kinds i).sz))[x]? := fun x => by rw [t4, t2]
   have e10 := e9 (q * (kinds i).sz + r)
   rw [List.getElem?_drop, List.getElem?_drop, ← Nat.add_assoc, ← Nat.add_mul, Array.getElem?_toList, Array.getElem?_toList] at e10
   rw [e10]
   exact h9
theorem kinds_inj : ∀ i i', i < 17 → i' < 17 → (kinds i).on = true → (kinds i').on = true → (kinds i).el = (kinds i').el → i = i' := by
 have h : ∀ i, i < 17 → ∀ i', i' < 17 → (kinds i).on = true → (kinds i').on = true → (kinds i).el = (kinds i').el → i = i' := by decide
 exact fun i i' hi hi' => h i hi i' hi'
/-- all that L6 labels 0 stays as in w6 -/
structure Keep (base : Nat) (w0 w6 : World) (L6 : Nat → Nat) (L : Nat → Nat) (W : World) : Prop where
 size : w6.heap.size ≤ W.heap.size
 keep : ∀ k, k < w6.heap.size → L6 k = 0 → W.heap[k]? = w6.heap[k]? ∧ L k = 0
 s3 : Same3 w0 W
 b6 : Below base w0 w6
 bs : base ≤ w6.heap.size
 l0 : ∀ k, k < base → L6 k = 0
section
variable {base : Nat} {w0 w6 w W : World} {L6 L L' : Nat → Nat} {X : Nat → Prop}
theorem Keep.below (h : Keep base w0 w6 L6 L W) : Below base w0 W := ⟨h.s3.os, h.s3.tape, h.s3.output, Nat.le_trans h.b6.size h.size, fun k hk => ((h.keep k (Nat.lt_of_lt_of_le hk h.bs) (h.l0 k hk)).1).trans (h.b6.block k hk)⟩
theorem Keep.stb (h0 : ¬ X 0) : Stb X (Keep base w0 w6 L6) := fun L w L' w' h c s => ⟨Nat.le_trans h.size c.size, fun k hk e => by
 have h1 := h.keep k hk e
 have h2 := c.keep k (Nat.lt_of_lt_of_le hk h.size) (by rw [h1.2]; exact h0)
 exact ⟨h2.1.trans h1.1, h2.2.trans h1.2⟩, ⟨s.os.trans h.s3.os, s.tape.trans h.s3.tape, s.output.trans h.s3.output⟩, h.b6, h.bs, h.l0⟩
/-- the lent list -/
def In1 (b n : Nat) (tl : List Value) (bd : Nat) (L : Nat → Nat) (W : World) : Prop := ∃ x, Lnt Kd.string 9 824 b n tl x L W ∧ ∀ y ∈ x, y.size ≤ bd
theorem In1.stb {b n : Nat} {tl : List Value} {bd : Nat} (hX : ∀ x, 800 ≤ x → x < 830 → ¬ X x) : Stb X (In1 b n tl bd) := fun L w L' w' h c s => by
 obtain ⟨x, h, hb⟩ := h
 exact ⟨x, Lnt.stb (fun _ _ _ _ h => h : Fl Kd.string) (hX 824 (by decide) (by decide)) _ _ _ _ h c s, hb⟩
theorem In1.more {b n : Nat} {tl : List Value} {bd bd' : Nat} (h : In1 b n tl bd L W) (hb : bd ≤ bd') : In1 b n tl bd' L W := by
 obtain ⟨x, h, hy⟩ := h
 exact ⟨x, h, fun y h => Nat.le_trans (hy y h) hb⟩
end
theorem ya_spl : ∀ x, 800 ≤ x → x < 830 → ¬ Ya x := fun x h1 h2 h => by unfold Ya Bl at h; omega
theorem ya_0 : ¬ Ya 0 := fun h => by unfold Ya Bl at h; omega
theorem spl_0 : ¬ Spl 0 := fun h => by unfold Spl at h; omega
section
variable {base g : Nat} {E E' : (Nat → Nat) → World → Prop} {turn deep : Int} {seen : Nat → Int} {L L' : Nat → Nat} {w W : World} {N : Nat} {cs : Array Value} {D : Nat → List Value} {q2 : Kq}
/-- new blocks, labelled as one likes -/
theorem Bq.news (h : Bq base g E turn deep seen L w N cs D q2) (hE : Stb Ya E) (hb : Below w.heap.size w W) (hl : ∀ k, k < w.heap.size → L' k = L k) : Bq base g E turn deep seen L' W N cs D q2 := by
 have hn : Only No L w L' W := (Only.below hb).relab hl
 exact ⟨⟨h.b.B.step hn (fun _ hx => hx.elim), h.b.S, Fa.stb hE _ _ _ _ h.b.F (hn.mono (fun _ hx => hx.elim)).chg (s3_below hb)⟩, h.d⟩
/-- what the lent list alone is written -/
theorem Bq.spl (h : Bq base g E turn deep seen L w N cs D q2) (ho : Only Spl L w L' W) (s3 : Same3 w W) (k : E' L' W) : Bq base g E' turn deep seen L' W N cs D q2 := by
 have hF := h.b.F
 have h0 : ¬ Spl 0 := spl_0
 exact ⟨⟨h.b.B.step ho (fun x hx hb => by unfold Spl at hx; unfold Bl at hb; omega), h.b.S, Kr.stb (fun _ _ _ _ h => h : Fl Kd.string) (fun hx => by unfold Spl at hx; omega) h0 _ _ _ _ hF.1 ho.chg s3, k⟩, h.d⟩
theorem dsh_nil {k M : Nat} : Dq k M (fun _ => []) Kq.nil := ⟨rfl, rfl, rfl, rfl, rfl, rfl, rfl, rfl, rfl, rfl, rfl, Nat.zero_le _⟩
/-- a fresh Book -/
theorem Bq.zero {Z : Array Value} (hb : w.heap[g]? = some (.cells Z 55 (0, 0))) (hl : L g = 399) (hge : base ≤ g) (hz : Z.size = 193) (hn : ∀ i, i < 168 → Z[slot i]? = some (.slice none 0 0)) (hs : Sc Z false false 0 0 (fun _ => 0)) (hE : E L w) : Bq base g E 0 0 (fun _ => 0) L w 0 Z (fun _ => []) Kq.nil :=
 ⟨⟨Bok.zero hb hl hge hz (by decide) hn, hs, Kr.nil _ _ _ _ _ _, hE⟩, ⟨dsh_nil, fun _ _ _ => rfl⟩⟩
end
/-- labels of new lists: by the type of the block -/
def tyL (n : Nat) (W : World) (L : Nat → Nat) (k : Nat) : Nat := if k < n then L k else match W.heap[k]? with
 | some (.cells _ te _) => if te = 9 then 1002 else 0
 | _ => 0
theorem tyL_new {n k : Nat} {W : World} {L : Nat → Nat} {cs : Array Value} {fr : Nat × Nat} (hk : n ≤ k) (h : W.heap[k]? = some (.cells cs 9 fr)) : tyL n W L k = 1002 := by
 unfold tyL
 rw [if_neg (by omega), h]
 rfl
theorem ls_new {base n : Nat} {W : World} {L : Nat → Nat} {ok : Nat → Prop} {V : Value} {xs : List ByteArray} (h : Kd.string.R 9 W n ok V xs) (hb : base ≤ n) : Ls Kd.string 9 base 1002 (tyL n W L) W V xs := by
 obtain ⟨h0, inner, ho, hr⟩ := h
 refine Ls.of ⟨inner, own_weaken ho hb, hr.imp_ (fun _ _ hp => Kd.string.K_of_M hp)⟩ (fun b hb' => ?_)
 obtain ⟨cells, hc⟩ := own_typed ho b (rmb_own hb')
 exact tyL_new (own_base ho b (rmb_own hb')) hc
theorem ap_new {α : Type} {d' : Kd α} {te' t base n : Nat} {W w : World} {L : Nat → Nat} {ok : Nat → Prop} {u V : Value} {xs : List ByteArray} {ys : List α} (h : Kd.string.R 9 W n ok V xs) (hu : Ls d' te' base t L w u ys) (hn : w.heap.size ≤ n) : Ap u V := fun b h1 h2 => by
 obtain ⟨h0, inner, ho, hr⟩ := h
 have h3 := own_base ho b (rmb_own h2)
 have h4 := hu.lt h1
 omega
/-- the labels behind Room.Texts: the Book's block, the lent list -/
def labg (gB b k : Nat) : Nat := if k = gB then 399 else if k = b then 824 else 0
theorem in1_start {L : Nat → Nat} {base g N gB b : Nat} {w : World} {cs : Array Value} {D : Nat → List (Value × Int)} (h : RoomAt L base w g N cs D) (hc : gB < b) {l : List ByteArray} {bd : Nat} (m : Mem D 2 b l.length 40) (hC : Kd.string.C w (some ⟨b, 0, none⟩) l.length l) (s : l.length ≤ 1073741824) (hb : ∀ y ∈ l, y.size ≤ bd) :
  ∃ tl, In1 b l.length tl bd (labg gB b) w := by
 obtain ⟨_, tl, t⟩ := h.lent (by decide) m
 refine ⟨tl, l, lnt_of hC t ?_ s, hb⟩
 unfold labg
 rw [if_neg (by omega), if_pos rfl]
/-- the Room behind all: the lent list's places alone have been written -/
theorem room_back {L L' : Nat → Nat} {base b0 g N gB b n : Nat} {tl : List Value} {bd bd' : Nat} {w0 w W : World} {cs : Array Value} {D : Nat → List (Value × Int)} {Lx : Nat → Nat} (h : RoomAt L base w g N cs D) (hg : L gB = 399) (m : Mem D 2 b n 40)
  (h6 : In1 b n tl bd Lx w) (h6' : In1 b n tl bd' L' W) (hk : Keep b0 w0 w (labg gB b) L' W) : RoomAt L base W g N cs D := by
 have z := (h.lent (by decide) m).1
 obtain ⟨x, hx, hb⟩ := h6
 obtain ⟨y, gx, hb'⟩ := h6'
 refine h.poke kinds_inj hk.size (fun k hlt hr => (hk.keep k hlt ?_).1) (fun k hlt h0 => ?_)
 ·unfold Room at hr
  have hne : k ≠ gB := by rintro rfl; omega
  have e : k ≠ b := by rintro rfl; omega
  unfold labg
  simp only [if_neg hne, if_neg e]
 ·have hne : k ≠ gB := by rintro rfl; omega
  by_cases e : k = b
  ·subst e; exact .inr ⟨2, n, 40, tl, by decide, m, hx.tl, gx.tl⟩
  exact .inl (hk.keep k hlt (by unfold labg; simp only [if_neg hne, if_neg e])).1
end Go.Proofs.YtfomjbbebgajcaaGreatDoor.Rm
namespace Go.Proofs.YtfomjbbebgajcaaGreatDoor.Rm
open Go.RowKit Go.Proofs.YtfomjbbebgajcaaGreatDoorW.PrintWords Go.Proofs.YtfomjbbebgajcaaGreatDoorW.PrintLast Go.Proofs.YtfomjbbebgajcaaGreatDoorW.PrintMore Go.Proofs.YtfomjbbebgajcaaGreatDoor.MCoverLeast
set_option maxRecDepth 100000
set_option maxHeartbeats 4000000
def zcell (j : Nat) : Value := if j < 2 then .bool false else if j < 4 then .int .i64 0 else if (j - 4) % 9 = 8 then .int .i64 0 else .slice none 0 0
def zBook : Array Value := ((List.range 193).map zcell).toArray
theorem zBook_at (j : Nat) (hj : j < 193) : zBook[j]? = some (zcell j) := by
 unfold zBook
 rw [List.getElem?_toArray, List.getElem?_map, List.getElem?_range hj]
 rfl
theorem zBook_slot (i : Nat) (hi : i < 168) : zBook[slot i]? = some (.slice none 0 0) := by
 have h : slot i = 4 + 9 * (i / 8) + i % 8 := by unfold slot; omega
 rw [zBook_at _ (by omega)]
 unfold zcell
 rw [if_neg (by omega), if_neg (by omega), if_neg (by omega)]
theorem zBook_sc : Sc zBook false false 0 0 (fun _ => 0) := ⟨zBook_at 0 (by decide), zBook_at 1 (by decide), zBook_at 2 (by decide), zBook_at 3 (by decide), fun k hk => by
 rw [zBook_at _ (by omega)]
 unfold zcell
 rw [if_neg (by omega), if_neg (by omega), if_pos (by omega)]⟩
theorem zBook_run (ev : Operand → Value) (o : Oper) (w : World) (ho : o.op = .build 55 #[]) : (execOp ev o).run Tryz.prog w = .ok (.value (.agg zBook)) w := by
 unfold execOp
 rw [ho]
 kernel_rfl
theorem zBook_box (ev : Operand → Value) (o : Oper) (x : Operand) (w : World) (ho : o.op = .box 55 x) (hx : ev x = .agg zBook) : (execOp ev o).run Tryz.prog w = .ok (.value (.pointer (some ⟨w.heap.size, 0, none⟩))) (w.alloc (.cells zBook 55 (0, 0))) := by
 unfold execOp
 rw [ho]
 simp only [hx]
 kernel_rfl
end Go.Proofs.YtfomjbbebgajcaaGreatDoor.Rm
