/- crierroom.Room: its lists by labels: what is laid has label 0 and stays. -/
import Derived.Test.YtfomjbbebgajcaaGreatDoorWMore
import Derived.Deep.MidRow
import Derived.ArgAppend
import Derived.Deep.RegionLaw
import Derived.Deep.RegionLawGrows
import Derived.Test.YtfomjbbebgajcaaGreatDoorWWords
namespace Go.Proofs.YtfomjbbebgajcaaGreatDoor.Rm
open Go.RowKit Go.Proofs.YtfomjbbebgajcaaGreatDoorW.PrintWords Go.Proofs.YtfomjbbebgajcaaGreatDoorW.PrintLast Go.Proofs.YtfomjbbebgajcaaGreatDoorW.PrintMore
set_option linter.unusedVariables false
set_option linter.unusedSimpArgs false
/-- what has a label that X doesn't hold stays; old blocks keep their labels -/
structure Only (X : Nat → Prop) (L : Nat → Nat) (w : World) (L' : Nat → Nat) (W : World) : Prop where
 size : w.heap.size ≤ W.heap.size
 keep : ∀ k, k < w.heap.size → ¬ X (L k) → W.heap[k]? = w.heap[k]?
 lab : ∀ k, k < w.heap.size → L' k = L k
def Not0 (x : Nat) : Prop := x ≠ 0
def Room (x : Nat) : Prop := 1 ≤ x ∧ x < 100
def Is (y x : Nat) : Prop := x = y
def No (x : Nat) : Prop := False
section
variable {X Y : Nat → Prop} {L L1 L2 : Nat → Nat} {w w1 w2 W : World}
theorem Only.trans (h : Only X L w L1 w1) (k : Only X L1 w1 L2 w2) : Only X L w L2 w2 :=
 ⟨Nat.le_trans h.size k.size, fun i hi hx => (k.keep i (Nat.lt_of_lt_of_le hi h.size) (by rw [h.lab i hi]; exact hx)).trans (h.keep i hi hx), fun i hi => (k.lab i (Nat.lt_of_lt_of_le hi h.size)).trans (h.lab i hi)⟩
theorem Only.mono (h : Only X L w L1 w1) (hx : ∀ x, X x → Y x) : Only Y L w L1 w1 := ⟨h.size, fun i hi hy => h.keep i hi (fun h' => hy (hx _ h')), h.lab⟩
theorem Only.below (h : Below w.heap.size w W) : Only X L w L W := ⟨h.size, fun k hk _ => h.block k hk, fun _ _ => rfl⟩
theorem Only.relab (h : Only X L w L1 w1) (hl : ∀ k, k < w.heap.size → L2 k = L1 k) : Only X L w L2 w1 := ⟨h.size, h.keep, fun k hk => (hl k hk).trans (h.lab k hk)⟩
theorem Only.set (g j : Nat) (u : Value) (hg : X (L g)) : Only X L w L (w.setCell ⟨g, j, none⟩ u) := ⟨by simp [World.setCell], fun k hk hx => Below.heap_setCell w _ u k (fun e => hx (by rw [e]; exact hg)), fun _ _ => rfl⟩
end
/-- what is labelled 0 stays, and stays labelled so -/
def Soft (L : Nat → Nat) (w : World) (L' : Nat → Nat) (W : World) : Prop := w.heap.size ≤ W.heap.size ∧ ∀ k, k < w.heap.size → L k = 0 → W.heap[k]? = w.heap[k]? ∧ L' k = 0
theorem Soft.refl (L : Nat → Nat) (w : World) : Soft L w L w := ⟨Nat.le_refl _, fun _ _ h => ⟨rfl, h⟩⟩
theorem Soft.trans {L L1 L2 : Nat → Nat} {w w1 w2 : World} (h : Soft L w L1 w1) (k : Soft L1 w1 L2 w2) : Soft L w L2 w2 := ⟨Nat.le_trans h.1 k.1, fun i hi h0 => by
 have h1 := h.2 i hi h0
 have h2 := k.2 i (Nat.lt_of_lt_of_le hi h.1) h1.2
 exact ⟨h2.1.trans h1.1, h2.2⟩⟩
theorem Only.soft {X : Nat → Prop} {L L1 : Nat → Nat} {w w1 : World} (h : Only X L w L1 w1) (hX : ¬ X 0) : Soft L w L1 w1 := ⟨h.size, fun k hk h0 => ⟨h.keep k hk (by rw [h0]; exact hX), (h.lab k hk).trans h0⟩⟩
/-- a fact that stays as long as what is labelled 0 stays -/
def Firm (L : Nat → Nat) (w : World) (F : World → Prop) : Prop := ∀ L' W, Soft L w L' W → F W
theorem Firm.now {L : Nat → Nat} {w : World} {F : World → Prop} (h : Firm L w F) : F w := h L w (Soft.refl _ _)
theorem Firm.step {L L1 : Nat → Nat} {w w1 : World} {F : World → Prop} (h : Firm L w F) (k : Soft L w L1 w1) : Firm L1 w1 F := fun L' W hW => h L' W (k.trans hW)
theorem Firm.only {X : Nat → Prop} {L L1 : Nat → Nat} {w w1 : World} {F : World → Prop} (h : Firm L w F) (k : Only X L w L1 w1) (hX : ¬ X 0) : Firm L1 w1 F := h.step (k.soft hX)
/-- a kind of list: the type of the outer list's elements, of the inner list's elements, their cells, the marks; is it used? -/
structure Kind where
 e : TypeId
 el : TypeId
 sz : Nat
 mrk : Nat → List Value → Prop
 on : Bool
/-- an inner list: the marks behind its first places -/
def Inner (kd : Kind) (L : Nat → Nat) (w : World) (v : Value) (n : Int) : Prop :=
 ∃ b m c k cur, v = .slice (some ⟨b, 0, none⟩) m c ∧ n = (k : Nat) ∧ k ≤ m ∧ m ≤ c ∧ m ≤ 140737488355328 ∧ w.heap[b]? = some (.cells cur kd.el (0, 0)) ∧ L b = 0 ∧ ∀ q, k + q < m → ∃ ce, kd.mrk q ce ∧ ∀ (r : Nat) (u : Value), ce[r]? = some u → w.cell? ⟨b, (k + q) * kd.sz + r, none⟩ = some u
theorem Inner.step {kd : Kind} {L L' : Nat → Nat} {w W : World} {v : Value} {n : Int} (h : Inner kd L w v n) (k : Soft L w L' W) : Inner kd L' W v n := by
 obtain ⟨b, m, c, j, cur, h1, h2, h3, h4, h4', h5, h6, h7⟩ := h
 have hb := (k.2 b (blk_lt h5) h6).1
 refine ⟨b, m, c, j, cur, h1, h2, h3, h4, h4', hb.trans h5, (k.2 b (blk_lt h5) h6).2, fun q hq => ?_⟩
 obtain ⟨ce, hce, hc⟩ := h7 q hq
 refine ⟨ce, hce, fun r u hu => ?_⟩
 rw [← hc r u hu]
 exact World.cell?_of_block (w := w) hb
/-- a kind's two lists -/
structure Two (kd : Kind) (ti : TypeId) (x : Nat) (L : Nat → Nat) (base : Nat) (w : World) (N : Nat) (V U : Value) (ps : List (Value × Int)) : Prop where
 le : ps.length ≤ N
 ov : w.ownsRow base kd.e 1 V ps.length (ps.map Prod.fst)
 lv : ∀ k, V.ownBlock = some k → L k = x
 ou : w.ownsRow base ti 1 U ps.length (nums .i64 (ps.map Prod.snd))
 lu : ∀ k, U.ownBlock = some k → L k = x + 1
 inn : ∀ (j : Nat) (p : Value × Int), ps[j]? = some p → Inner kd L w p.1 p.2
 dis : ∀ (j j' : Nat) (p p' : Value × Int) (b : Nat), ps[j]? = some p → ps[j']? = some p' → p.1.ownBlock = some b → p'.1.ownBlock = some b → j = j'
 off : kd.on = false → V = .slice none 0 0 ∧ ps = []
theorem Two.step {kd : Kind} {ti : TypeId} {x base N : Nat} {L L' : Nat → Nat} {w W : World} {V U : Value} {ps : List (Value × Int)} (h : Two kd ti x L base w N V U ps) {X : Nat → Prop} (k : Only X L w L' W) (hX : ¬ X 0) (h1 : ¬ X x) (h2 : ¬ X (x + 1)) : Two kd ti x L' base W N V U ps where
 le := h.le
 ov := own_move h.ov (fun b hb => k.keep b (own_lt h.ov b hb) (by rw [h.lv b hb]; exact h1))
 lv := fun b hb => by rw [k.lab b (own_lt h.ov b hb)]; exact h.lv b hb
 ou := own_move h.ou (fun b hb => k.keep b (own_lt h.ou b hb) (by rw [h.lu b hb]; exact h2))
 lu := fun b hb => by rw [k.lab b (own_lt h.ou b hb)]; exact h.lu b hb
 inn := fun j p hp => (h.inn j p hp).step (k.soft hX)
 dis := h.dis
 off := h.off
theorem Two.nil (kd : Kind) (ti : TypeId) (x : Nat) (L : Nat → Nat) (base : Nat) (w : World) (N : Nat) : Two kd ti x L base w N (.slice none 0 0) (.slice none 0 0) [] :=
 ⟨Nat.zero_le _, own_nil _ _ _ _, fun k hk => by simp [Value.ownBlock] at hk, by simpa [nums] using own_nil w base ti 1, fun k hk => by simp [Value.ownBlock] at hk, fun j p hp => by simp at hp, fun j j' p p' b hp => by simp at hp, fun _ => ⟨rfl, rfl⟩⟩
/-- the room: block g; D: its lists, kind by kind -/
structure At (kinds : Nat → Kind) (ti tR : TypeId) (L : Nat → Nat) (base : Nat) (w : World) (g N : Nat) (cs : Array Value) (D : Nat → List (Value × Int)) : Prop where
 blk : w.heap[g]? = some (.cells cs tR (0, 0))
 lab : L g = 99
 ge : base ≤ g
 low : ∀ k, k < base → L k = 0
 size : cs.size = 34
 two : ∀ i, i < 17 → ∃ V U, cs[2 * i]? = some V ∧ cs[2 * i + 1]? = some U ∧ Two (kinds i) ti (2 * i + 1) L base w N V U (D i)
/-- one list more of kind i -/
def put (D : Nat → List (Value × Int)) (i : Nat) (p : Value × Int) : Nat → List (Value × Int) := fun j => if j = i then D i ++ [p] else D j
section
variable {kinds : Nat → Kind} {ti tR : TypeId} {L L' : Nat → Nat} {base : Nat} {w W w1 w2 : World} {g N N' : Nat} {cs : Array Value} {D : Nat → List (Value × Int)}
theorem At.step (h : At kinds ti tR L base w g N cs D) {X : Nat → Prop} (k : Only X L w L' W) (hX : ∀ x, X x → ¬ Room x ∧ x ≠ 0) : At kinds ti tR L' base W g N cs D where
 blk := (k.keep g (blk_lt h.blk) (by rw [h.lab]; exact fun hx => (hX _ hx).1 ⟨by decide, by decide⟩)).trans h.blk
 lab := (k.lab g (blk_lt h.blk)).trans h.lab
 ge := h.ge
 low := fun i hi => (k.lab i (by have := blk_lt h.blk; have := h.ge; omega)).trans (h.low i hi)
 size := h.size
 two := fun i hi => by
  obtain ⟨V, U, h1, h2, h3⟩ := h.two i hi
  exact ⟨V, U, h1, h2, h3.step k (fun h0 => (hX _ h0).2 rfl) (fun h0 => (hX _ h0).1 ⟨by omega, by omega⟩) (fun h0 => (hX _ h0).1 ⟨by omega, by omega⟩)⟩
theorem At.below (h : At kinds ti tR L base w g N cs D) (k : Below w.heap.size w W) : At kinds ti tR L base W g N cs D := h.step (X := No) (Only.below k) (fun _ hx => hx.elim)
/-- labels behind a list that was laid: F's block 0, V's and U's the room's -/
def relab (L : Nat → Nat) (n : Nat) (V : Value) (x : Nat) (U F : Value) : Nat → Nat := fun k => if F.ownBlock = some k then 0 else if k < n then L k else if V.ownBlock = some k then x else if U.ownBlock = some k then x + 1 else 0
/-- one list more: behind both appends and both stores; t: the label that the list had while it was made -/
theorem At.laid (h : At kinds ti tR L base w g N cs D) {i : Nat} (hi : i < 17) {V U V' U' F : Value} (hV : cs[2 * i]? = some V) (hU : cs[2 * i + 1]? = some U) (h2 : Two (kinds i) ti (2 * i + 1) L base w N V U (D i)) (hne : (kinds i).e ≠ ti) (heR : (kinds i).e ≠ tR) (hiR : ti ≠ tR) (hon : (kinds i).on = true)
  {e0 : TypeId} {sz0 m bF t : Nat} {inner : List Value} (hF : w.ownsRow bF e0 sz0 F m inner) (he0 : e0 = (kinds i).el) (ht : 100 ≤ t) (hFl : ∀ k, F.ownBlock = some k → L k = t)
  {wa wb : World} (ha : w.grownBy wa V.ownBlock) (hVo : wa.ownsRow base (kinds i).e 1 V' ((D i).length + 1) ((D i).map Prod.fst ++ [F])) (hVat : V'.ownBlock = V.ownBlock ∨ ∃ b, V'.ownBlock = some b ∧ w.heap.size ≤ b)
  (hb : (wa.setCell ⟨g, 2 * i, none⟩ V').grownBy wb U.ownBlock) {n : Nat} (hUo : wb.ownsRow base ti 1 U' ((D i).length + 1) (nums .i64 ((D i).map Prod.snd) ++ [.int .i64 (n : Nat)])) (hUat : U'.ownBlock = U.ownBlock ∨ ∃ b, U'.ownBlock = some b ∧ (wa.setCell ⟨g, 2 * i, none⟩ V').heap.size ≤ b)
  (hnm : n ≤ m) (hm : m ≤ 140737488355328) (hmk : ∀ q, n + q < m → ∃ ce, (kinds i).mrk q ce ∧ ∀ (r : Nat) (u : Value), ce[r]? = some u → inner[(n + q) * (kinds i).sz + r]? = some u) (hm0 : 0 < m) (hsz : sz0 = (kinds i).sz) :
  ∃ L', At kinds ti tR L' base (wb.setCell ⟨g, 2 * i + 1, none⟩ U') g (N + 1) ((cs.setIfInBounds (2 * i) V').setIfInBounds (2 * i + 1) U') (put D i (F, (n : Nat))) ∧ w.heap.size ≤ (wb.setCell ⟨g, 2 * i + 1, none⟩ U').heap.size ∧
   (∀ k, k < w.heap.size → ¬ Room (L k) → (wb.setCell ⟨g, 2 * i + 1, none⟩ U').heap[k]? = w.heap[k]?) ∧ (∀ k, k < w.heap.size → F.ownBlock ≠ some k → L' k = L k) ∧
   (wb.setCell ⟨g, 2 * i + 1, none⟩ U').ownsRow bF e0 sz0 F m inner ∧ (∀ k, F.ownBlock = some k → L' k = 0) := by
 have hgw : g < w.heap.size := blk_lt h.blk
 have hbase : base ≤ w.heap.size := by have := h.ge; omega
 have hsa : w.heap.size ≤ wa.heap.size := ha.size
 have hsb : wa.heap.size ≤ wb.heap.size := by have := hb.size; simpa [World.setCell] using this
 have hVlt : ∀ k, V.ownBlock = some k → k < w.heap.size := own_lt h2.ov
 have hUlt : ∀ k, U.ownBlock = some k → k < w.heap.size := own_lt h2.ou
 have hFlt : ∀ k, F.ownBlock = some k → k < w.heap.size := own_lt hF
 have hVl : ∀ k, V'.ownBlock = some k → (V.ownBlock = some k ∧ k < w.heap.size) ∨ w.heap.size ≤ k := fun k hk => by
  rcases hVat with e | ⟨b, e, hb⟩
  ·rw [e] at hk; exact .inl ⟨hk, hVlt k hk⟩
  ·rw [e] at hk; obtain rfl := Option.some.inj hk; exact .inr hb
 have hUl : ∀ k, U'.ownBlock = some k → (U.ownBlock = some k ∧ k < w.heap.size) ∨ wa.heap.size ≤ k := fun k hk => by
  rcases hUat with e | ⟨b, e, hb⟩
  ·rw [e] at hk; exact .inl ⟨hk, hUlt k hk⟩
  ·rw [e] at hk; obtain rfl := Option.some.inj hk; exact .inr (by simpa [World.setCell] using hb)
 have hgV : some g ≠ V.ownBlock := own_ne h2.ov h.blk heR
 have hgU : some g ≠ U.ownBlock := own_ne h2.ou h.blk hiR
 have hk1 : ∀ k, k < w.heap.size → some k ≠ V.ownBlock → wa.heap[k]? = w.heap[k]? := fun k hk hv => ha.block k hk hv
 have hk2 : ∀ k, k < wa.heap.size → k ≠ g → some k ≠ U.ownBlock → wb.heap[k]? = wa.heap[k]? := fun k hk hg hu =>
  (hb.block k (by simpa [World.setCell] using hk) hu).trans (Below.heap_setCell _ _ _ _ hg)
 have hk3 : ∀ k, k ≠ g → (wb.setCell ⟨g, 2 * i + 1, none⟩ U').heap[k]? = wb.heap[k]? := fun k hg => Below.heap_setCell _ _ _ _ hg
 have hkw : ∀ k, k < w.heap.size → k ≠ g → some k ≠ V.ownBlock → some k ≠ U.ownBlock → (wb.setCell ⟨g, 2 * i + 1, none⟩ U').heap[k]? = w.heap[k]? := fun k hk hg hv hu =>
  (hk3 k hg).trans ((hk2 k (by omega) hg hu).trans (hk1 k (by omega) hv))
 have hbs : wb.heap.size = (wb.setCell ⟨g, 2 * i + 1, none⟩ U').heap.size := by simp [World.setCell]
 have hkeep : ∀ k, k < w.heap.size → ¬ Room (L k) → (wb.setCell ⟨g, 2 * i + 1, none⟩ U').heap[k]? = w.heap[k]? := fun k hk hx => by
  refine hkw k hk ?_ ?_ ?_
  ·rintro rfl
   exact hx (by rw [h.lab]; exact ⟨by decide, by decide⟩)
  ·intro e
   exact hx (by rw [h2.lv k e.symm]; exact ⟨by omega, by omega⟩)
  ·intro e
   exact hx (by rw [h2.lu k e.symm]; exact ⟨by omega, by omega⟩)
 have hVU : ∀ k, V'.ownBlock = some k → some k ≠ U.ownBlock := fun k hk e => by
  have hk' := hUlt k e.symm
  obtain ⟨c1, h1⟩ := own_typed h2.ou k e.symm
  rcases hVl k hk with ⟨h3, _⟩ | h3
  ·obtain ⟨c2, h4⟩ := own_typed h2.ov k h3
   rw [h1] at h4
   injection h4 with h4
   injection h4 with _ h4
   exact hne h4.symm
  ·omega
 have hgV' : ∀ k, V'.ownBlock = some k → k ≠ g := fun k hk e => by
  subst e
  rcases hVl k hk with ⟨h3, _⟩ | h3
  ·exact hgV h3.symm
  ·omega
 have hgU' : ∀ k, U'.ownBlock = some k → k ≠ g := fun k hk e => by
  subst e
  rcases hUl k hk with ⟨h3, _⟩ | h3
  ·exact hgU h3.symm
  ·omega
 have hFR : ∀ k, F.ownBlock = some k → ¬ Room (L k) := fun k hk hr => by
  rw [hFl k hk] at hr
  have := hr.2
  omega
 have hov : (wb.setCell ⟨g, 2 * i + 1, none⟩ U').ownsRow base (kinds i).e 1 V' ((D i).length + 1) ((D i).map Prod.fst ++ [F]) :=
  own_move hVo (fun k hk => (hk3 k (hgV' k hk)).trans (hk2 k (own_lt hVo k hk) (hgV' k hk) (hVU k hk)))
 have hou : (wb.setCell ⟨g, 2 * i + 1, none⟩ U').ownsRow base ti 1 U' ((D i).length + 1) (nums .i64 ((D i).map Prod.snd) ++ [.int .i64 (n : Nat)]) :=
  own_move hUo (fun k hk => hk3 k (hgU' k hk))
 have hoF : (wb.setCell ⟨g, 2 * i + 1, none⟩ U').ownsRow bF e0 sz0 F m inner := own_move hF (fun k hk => hkeep k (hFlt k hk) (hFR k hk))
 have hga : wa.heap[g]? = some (.cells cs tR (0, 0)) := (hk1 g (by omega) hgV).trans h.blk
 have hgs : (wa.setCell ⟨g, 2 * i, none⟩ V').heap[g]? = some (.cells (cs.setIfInBounds (2 * i) V') tR (0, 0)) := blk_set hga _ _
 have hgb : wb.heap[g]? = some (.cells (cs.setIfInBounds (2 * i) V') tR (0, 0)) := (hb.block g (by simp [World.setCell]; omega) hgU).trans hgs
 have hge : (wb.setCell ⟨g, 2 * i + 1, none⟩ U').heap[g]? = some (.cells ((cs.setIfInBounds (2 * i) V').setIfInBounds (2 * i + 1) U') tR (0, 0)) := blk_set hgb _ _
 have hFV : ∀ k, F.ownBlock = some k → V'.ownBlock ≠ some k := fun k hk e => by
  have hkk := hFlt k hk
  rcases hVl k e with ⟨h3, _⟩ | h3
  ·have h4 := h2.lv k h3
   rw [hFl k hk] at h4
   omega
  ·omega
 have hFU : ∀ k, F.ownBlock = some k → U'.ownBlock ≠ some k := fun k hk e => by
  have hkk := hFlt k hk
  rcases hUl k e with ⟨h3, _⟩ | h3
  ·have h4 := h2.lu k h3
   rw [hFl k hk] at h4
   omega
  ·omega
 have hF0 : ∀ k, F.ownBlock = some k → relab L w.heap.size V' (2 * i + 1) U' F k = 0 := fun k hk => if_pos hk
 have hold : ∀ k, k < w.heap.size → F.ownBlock ≠ some k → relab L w.heap.size V' (2 * i + 1) U' F k = L k := fun k hk hf => by
  unfold relab
  rw [if_neg hf, if_pos hk]
 have hUV' : ∀ k, U'.ownBlock = some k → V'.ownBlock ≠ some k := fun k hk e => by
  obtain ⟨c1, h1⟩ := own_typed hou k hk
  obtain ⟨c2, h4⟩ := own_typed hov k e
  rw [h1] at h4
  injection h4 with h4
  injection h4 with _ h4
  exact hne h4.symm
 have hsoft : Soft L w (relab L w.heap.size V' (2 * i + 1) U' F) (wb.setCell ⟨g, 2 * i + 1, none⟩ U') := by
  refine ⟨by omega, fun k hk h0 => ⟨hkeep k hk (fun hr => by have := hr.1; omega), ?_⟩⟩
  by_cases hf : F.ownBlock = some k
  ·exact hF0 k hf
  ·rw [hold k hk hf, h0]
 refine ⟨relab L w.heap.size V' (2 * i + 1) U' F, ⟨hge, ?_, h.ge, fun k hk => ?_, by simp [h.size], fun j hj => ?_⟩, by omega, hkeep, hold, hoF, hF0⟩
 ·rw [hold g hgw (fun e => by have h4 := hFl g e; rw [h.lab] at h4; omega)]
  exact h.lab
 ·by_cases hf : F.ownBlock = some k
  ·exact hF0 k hf
  ·rw [hold k (by omega) hf]
   exact h.low k hk
 by_cases hji : j = i
 ·subst hji
  refine ⟨V', U', ?_, ?_, ?_⟩
  ·rw [Array.getElem?_setIfInBounds_ne (by omega), Array.getElem?_setIfInBounds_self_of_lt (by rw [h.size]; omega)]
  ·rw [Array.getElem?_setIfInBounds_self_of_lt (by simp [h.size]; omega)]
  have hput : put D j (F, (n : Int)) j = D j ++ [(F, (n : Int))] := if_pos rfl
  rw [hput]
  have hlast : ∀ q p, (D j ++ [(F, (n : Int))])[q]? = some p → (D j)[q]? = some p ∨ q = (D j).length ∧ p = (F, (n : Int)) := fun q p hp => by
   rcases Nat.lt_or_ge q (D j).length with hq | hq
   ·rw [List.getElem?_append_left hq] at hp; exact .inl hp
   ·rw [List.getElem?_append_right hq] at hp
    rcases Nat.eq_zero_or_pos (q - (D j).length) with h0 | h0
    ·rw [h0] at hp; exact .inr ⟨by omega, by simpa using hp.symm⟩
    ·rw [List.getElem?_eq_none (by simp; omega)] at hp; cases hp
  have holdb : ∀ (q : Nat) (p : Value × Int) (b : Nat), (D j)[q]? = some p → p.1.ownBlock = some b → L b = 0 := fun q p b hp hb => by
   obtain ⟨b', m', c', k', cur, e1, _, _, _, _, e2, e3, _⟩ := h2.inn q p hp
   rw [e1] at hb
   have : b' = b := by simpa [Value.ownBlock] using hb
   subst this
   exact e3
  refine ⟨by have := h2.le; simp; omega, by simpa using hov, fun k hk => ?_, by simpa [nums] using hou, fun k hk => ?_, fun q p hp => ?_, fun q q' p p' b hp hp' hb1 hb2 => ?_, fun hf => by rw [hon] at hf; cases hf⟩
  ·have hf : F.ownBlock ≠ some k := fun e => hFV k e hk
   rcases hVl k hk with ⟨h3, h4⟩ | h3
   ·rw [hold k h4 hf]; exact h2.lv k h3
   ·unfold relab; rw [if_neg hf, if_neg (by omega), if_pos hk]
  ·have hf : F.ownBlock ≠ some k := fun e => hFU k e hk
   rcases hUl k hk with ⟨h3, h4⟩ | h3
   ·rw [hold k h4 hf]; exact h2.lu k h3
   ·unfold relab; rw [if_neg hf, if_neg (by omega), if_neg (hUV' k hk), if_pos hk]
  ·rcases hlast q p hp with hp | ⟨_, rfl⟩
   ·exact (h2.inn q p hp).step hsoft
   ·obtain ⟨b, c, rfl, hb0, hmc⟩ := hF.form hm0
    obtain ⟨cur, hcur⟩ := own_typed hoF b rfl
    refine ⟨b, m, c, n, cur, rfl, rfl, hnm, own_le hF, hm, by rw [hcur, he0], hF0 b rfl, fun q hq => ?_⟩
    obtain ⟨ce, hce, hc⟩ := hmk q hq
    refine ⟨ce, hce, fun r u hu => ?_⟩
    have := hoF.cells (g := b) rfl ((n + q) * (kinds j).sz + r) u (hc r u hu)
    rwa [add_plain] at this
  ·rcases hlast q p hp with hp | ⟨e1, rfl⟩
   ·rcases hlast q' p' hp' with hp' | ⟨e2, rfl⟩
    ·exact h2.dis q q' p p' b hp hp' hb1 hb2
    ·have h3 := holdb q p b hp hb1
     have h4 := hFl b hb2
     omega
   ·rcases hlast q' p' hp' with hp' | ⟨e2, rfl⟩
    ·have h3 := holdb q' p' b hp' hb2
     have h4 := hFl b hb1
     omega
    ·omega
 ·obtain ⟨V1, U1, h1, h3, h4⟩ := h.two j hj
  have hput : put D i (F, (n : Int)) j = D j := if_neg hji
  rw [hput]
  have hFT : ∀ k, L k = 2 * j + 1 ∨ L k = 2 * j + 2 → F.ownBlock ≠ some k := fun k hk e => by
   have := hFl k e
   omega
  have hkj : ∀ k, k < w.heap.size → L k = 2 * j + 1 ∨ L k = 2 * j + 2 → (wb.setCell ⟨g, 2 * i + 1, none⟩ U').heap[k]? = w.heap[k]? := fun k hk hl => by
   refine hkw k hk ?_ ?_ ?_
   ·rintro rfl
    rw [h.lab] at hl
    omega
   ·intro e
    rw [h2.lv k e.symm] at hl
    omega
   ·intro e
    rw [h2.lu k e.symm] at hl
    omega
  refine ⟨V1, U1, ?_, ?_, ?_⟩
  ·rw [Array.getElem?_setIfInBounds_ne (by omega), Array.getElem?_setIfInBounds_ne (by omega)]; exact h1
  ·rw [Array.getElem?_setIfInBounds_ne (by omega), Array.getElem?_setIfInBounds_ne (by omega)]; exact h3
  ·exact ⟨Nat.le_succ_of_le h4.le, own_move h4.ov (fun b hb => hkj b (own_lt h4.ov b hb) (.inl (h4.lv b hb))), fun b hb => by rw [hold b (own_lt h4.ov b hb) (hFT b (.inl (h4.lv b hb)))]; exact h4.lv b hb,
    own_move h4.ou (fun b hb => hkj b (own_lt h4.ou b hb) (.inr (h4.lu b hb))), fun b hb => by rw [hold b (own_lt h4.ou b hb) (hFT b (.inr (h4.lu b hb)))]; exact h4.lu b hb,
    fun q p hp => (h4.inn q p hp).step hsoft, h4.dis, h4.off⟩
end
end Go.Proofs.YtfomjbbebgajcaaGreatDoor.Rm
/- append of a list onto a freshly built, empty slice: an own row that reads as the list. -/
namespace Go.Proofs.YtfomjbbebgajcaaGreatDoor.Rm
open Go.RowKit Go.Proofs.YtfomjbbebgajcaaGreatDoorW.PrintWords Go.Proofs.YtfomjbbebgajcaaGreatDoorW.PrintLast Go.Proofs.YtfomjbbebgajcaaGreatDoorW.PrintMore
set_option linter.unusedVariables false
set_option linter.unusedSimpArgs false
theorem run_append_new {P : Program} {α : Type} (d : Kd α) {W : World} (base : Nat) (t ty e : TypeId) (z : Value) (bytes : Nat) (ht : P.underlying t = some (.slice e)) (hinfo : (P.info? e).map (fun i => (i.zero, i.size, i.bytes)) = some (some z, d.sz, bytes))
  (hz : z.cells.size = d.sz) (hs0 : 0 < d.sz) (hb0 : 0 < bytes) (b : Nat) (hb : W.heap[b]? = some (.cells #[] e (0, 0))) (hbase : base ≤ b) (hKW : ∀ (W1 W2 : World) x cs, d.K W1 x cs → d.K W2 x cs) (A : Option Addr) (m c : Nat) (ys : List α) (HY : d.C W A m ys) (hl : m * bytes ≤ 140737488355328) :
  ∃ v1 w1, (Builtin.append_ #[t, t] ty #[.slice (some ⟨b, 0, none⟩) 0 0, .slice A m c]).run P W = .ok v1 w1 ∧ Below W.heap.size W w1 ∧ OwnRow (d.K w1) e d.sz w1 base v1 ys ∧ ∃ b', v1.ownBlock = some b' ∧ b ≤ b' := by
 obtain ⟨i0, hi, hzz⟩ := Option.map_eq_some_iff.1 hinfo
 simp only [Prod.mk.injEq] at hzz
 obtain ⟨hz0, hz1, hz2⟩ := hzz
 have hm : ys.length = m := HY.1
 have hbl : b < W.heap.size := (Array.getElem?_eq_some_iff.1 hb).1
 have hlen : m ≤ 140737488355328 := Nat.le_trans (Nat.le_mul_of_pos_right _ hb0) hl
 rcases Nat.eq_zero_or_pos m with h0 | h0
 ·subst h0
  obtain rfl : ys = [] := List.eq_nil_of_length_eq_zero hm
  refine ⟨.slice (some ⟨b, 0, none⟩) 0 0, W, ?_, Below.refl _ _, ?_, b, rfl, Nat.le_refl _⟩
  ·rcases A with _ | a2
   ·simp [Builtin.append_, run_underlying ht, sizeOf, typeInfo, hi, Builtin.lenOf, Builtin.firstCells, storeCells]
   ·simp [Builtin.append_, run_underlying ht, sizeOf, typeInfo, hi, Builtin.lenOf, Builtin.firstCells, storeCells, loadCells, loadCellsFrom]
  ·refine ⟨[], ⟨by simp, .inr ⟨b, 0, #[], rfl, hbase, hb, Nat.le_refl _, Nat.zero_le _, by simp, by simp⟩⟩, Reps.none _ _⟩
 ·obtain ⟨a2, rfl, _⟩ := HY.2.2 h0
  obtain ⟨news, hnr, hnc⟩ := ReadsRow.inner_ HY
  obtain ⟨v', w', hrun, r1, r2⟩ := run_append_arg_grows (P := P) W t ty e i0 z d.sz bytes ht hi hz0 hz1 hz2 hz hs0 ⟨b, 0, none⟩ 0 0 [] (by simp) (by intro j u hu; simp at hu) a2 m c news (by rw [hnr.1, hm]) hnc (by omega) (by unfold maxLen; omega) (by rw [Nat.zero_add]; exact hl)
  have hbb : Below W.heap.size W w' := pw_below_grown (Below.refl _ _) none (Nat.le_refl _) r2 (fun k hk => by cases hk)
  have ho : OwnRow (d.K w') e d.sz w' W.heap.size v' ys := ⟨news, by rw [hm]; simpa using r1, hnr.imp_ (fun _ _ hp => hKW _ _ _ _ hp)⟩
  refine ⟨v', w', hrun, hbb, ho.lower (by omega), ?_⟩
  obtain ⟨inner, hin, _⟩ := ho
  rcases hin.2 with ⟨hv, hv0⟩ | ⟨g, cap, cur, rfl, hg, _⟩
  ·omega
  ·exact ⟨g, rfl, by omega⟩
theorem wpList_append_new {P : Program} {ops : Array Oper} {rest : List Oper} {o : Oper} {a : Act} {W : World} {Q : Exit → Act → World → Prop} {α : Type} (d : Kd α) (hgd : o.guard = none) (base : Nat) (s x : Operand) (t : TypeId) (hop : o.op = Op.call { callee := Callee.builtin Builtin.append, args := #[s, x], argTypes := #[t, t] }) (e : TypeId) (z : Value) (bytes : Nat) (ht : P.underlying t = some (.slice e)) (hinfo : (P.info? e).map (fun i => (i.zero, i.size, i.bytes)) = some (some z, d.sz, bytes))
  (hz : z.cells.size = d.sz) (hs0 : 0 < d.sz) (hb0 : 0 < bytes) (b : Nat) (hs : a.eval s = .slice (some ⟨b, 0, none⟩) 0 0) (hb : W.heap[b]? = some (.cells #[] e (0, 0))) (hbase : base ≤ b) (hKW : ∀ (W1 W2 : World) x cs, d.K W1 x cs → d.K W2 x cs) (A : Option Addr) (m c : Nat) (hx : a.eval x = .slice A m c) (ys : List α) (HY : d.C W A m ys) (hl : m * bytes ≤ 140737488355328)
  (h : ∀ v1 w1, OwnRow (d.K w1) e d.sz w1 base v1 ys → (∃ b', v1.ownBlock = some b' ∧ b ≤ b') → Below W.heap.size W w1 → wpList P ops Q rest (a.put o.dst v1) w1) : wpList P ops Q (o :: rest) a W :=
 wpList_plain hgd fun K hK => by
  obtain ⟨v1, w1, hrun, hb1, ho, hat⟩ := run_append_new (P := P) d base t o.type e z bytes ht hinfo hz hs0 hb0 b hb hbase hKW A m c ys HY hl
  unfold Oper.wp
  simp [execOp, hop, resolve, invoke, builtin, hs, hx, hrun, Result.andThen]
  exact hK _ _ (h v1 w1 ho hat hb1)
end Go.Proofs.YtfomjbbebgajcaaGreatDoor.Rm
/- events on blocks that are known whole. -/
namespace Go.Proofs.YtfomjbbebgajcaaGreatDoor.Rm
open Go.RowKit Go.Proofs.YtfomjbbebgajcaaGreatDoorW.PrintWords Go.Proofs.YtfomjbbebgajcaaGreatDoorW.PrintLast Go.Proofs.YtfomjbbebgajcaaGreatDoorW.PrintMore
set_option linter.unusedVariables false
set_option linter.unusedSimpArgs false
/-- block g alone is written -/
structure One (w W : World) (g : Nat) : Prop where
 os : W.os = w.os
 tape : W.tape = w.tape
 output : W.output = w.output
 size : W.heap.size = w.heap.size
 keep : ∀ k, k ≠ g → W.heap[k]? = w.heap[k]?
theorem One.only {X : Nat → Prop} {L : Nat → Nat} {w W : World} {g : Nat} (h : One w W g) (hX : X (L g)) : Only X L w L W := ⟨Nat.le_of_eq h.size.symm, fun k _ hx => h.keep k (fun e => hx (by rw [e]; exact hX)), fun _ _ => rfl⟩
theorem One.cell (w : World) (g j : Nat) (v : Value) : One w (w.setCell ⟨g, j, none⟩ v) g := ⟨rfl, rfl, rfl, by simp [World.setCell], fun k hk => Below.heap_setCell _ _ _ _ hk⟩
def setFrom (cs : Array Value) (j : Nat) : List Value → Array Value
 | [] => cs
 | v :: r => setFrom (cs.setIfInBounds j v) (j + 1) r
theorem setFrom_size (vs : List Value) : ∀ (cs : Array Value) (j : Nat), (setFrom cs j vs).size = cs.size := by
 induction vs with
 | nil => intro cs j; rfl
 | cons v r ih => intro cs j; rw [setFrom, ih, Array.size_setIfInBounds]
section
variable {P : Program} {ops : Array Oper} {rest : List Oper} {o : Oper} {a : Act} {Q : Exit → Act → World → Prop} {w : World}
end
end Go.Proofs.YtfomjbbebgajcaaGreatDoor.Rm
