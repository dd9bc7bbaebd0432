/- What can be read as a datum of a type reads as its kind: numbers, bools, texts, lists, structs (for a law's arguments). -/
import Derived.Test.YtndhkgfeknkfdaaGreatDoorMPacketChecksx
import Derived.ChangeArms
import Derived.ChangeSame
import Derived.ChangeSlices
import Derived.SizedLaws
import Derived.OpenShut
import Derived.SliceStrings
namespace Go.Proofs.YtndhkgfeknkfdaaGreatDoor.Tod
open Go.RowKit Go.ChangeShapes Go.Proofs.YtndhkgfeknkfdaaGreatDoorW.PrintWords Go.Proofs.YtndhkgfeknkfdaaGreatDoorW.PrintLast Go.Proofs.YtndhkgfeknkfdaaGreatDoorW.PrintMore
set_option linter.unusedVariables false
set_option linter.unusedSimpArgs false
set_option maxRecDepth 100000
/-- a datum of type t that can be read, no part of it larger than memory: it reads as kind d, and B of it -/
def Opens (P : Program) (w : World) (t : TypeId) {α : Type} (d : Kd α) (B : α → Prop) : Prop :=
 ∀ (H : Type) (enc : TypeId × Value → H) (base : Nat) (spare : Nat → Bool) (held : Bool) (fuel : Nat) (cs : List Value) (y : DataW H × List MemPlace),
  DataW.trod enc P w base spare held fuel t cs = some y → (∀ n ∈ y.1.weights P t, n ≤ reachBytes) → ∃ x, d.K w x cs ∧ B x
theorem Opens.int {P : Program} {w : World} {t : TypeId} {k : IntKind} (ht : P.underlying t = some (.int k)) : Opens P w t (Kd.int k) (fun x => (Lit.int k x).wf = true) := by
 intro H enc base spare held fuel cs y h _
 obtain ⟨n, rfl, _, hw⟩ := DataW.trod_int ht h
 exact ⟨n, rfl, hw⟩
theorem Opens.bool {P : Program} {w : World} {t : TypeId} (ht : P.underlying t = some .bool) : Opens P w t Kd.bool (fun _ => True) := by
 intro H enc base spare held fuel cs y h _
 obtain ⟨b, rfl, _⟩ := DataW.trod_bool ht h
 exact ⟨b, rfl, trivial⟩
theorem Opens.string {P : Program} {w : World} {t : TypeId} (ht : P.underlying t = some .string) : Opens P w t Kd.string (fun s => s.size ≤ reachBytes) := by
 intro H enc base spare held fuel cs y h hw
 obtain ⟨s, rfl, hy, _⟩ := DataW.trod_string ht h
 refine ⟨s, rfl, ?_⟩
 have := hw s.data.toList.length (by rw [hy]; simp [DataW.weights])
 rw [Array.length_toList] at this
 exact this
theorem weightsAll_mem {H : Type} {P : Program} {e : TypeId} : ∀ {ds : List (DataW H)} {d : DataW H}, d ∈ ds → ∀ n ∈ d.weights P e, n ∈ DataW.weightsAll P e ds
 | d0 :: ds, d, hd, n, hn => by
  rw [DataW.weightsAll, List.mem_append]
  rcases List.mem_cons.1 hd with rfl | hd
  ·exact .inl hn
  ·exact .inr (weightsAll_mem hd n hn)
theorem pick {α : Type} {Q : Nat → α → Prop} : ∀ (n : Nat), (∀ i, i < n → ∃ x, Q i x) → ∃ l : List α, l.length = n ∧ ∀ j p, l[j]? = some p → Q j p
 | 0, _ => ⟨[], rfl, fun j p h => by simp at h⟩
 | n + 1, h => by
  obtain ⟨l, hl, hq⟩ := pick n (fun i hi => h i (by omega))
  obtain ⟨x, hx⟩ := h n (by omega)
  refine ⟨l ++ [x], by simp [hl], fun j p hj => ?_⟩
  by_cases hjl : j < l.length
  ·exact hq j p (by rwa [List.getElem?_append_left hjl] at hj)
  ·rw [List.getElem?_append_right (by omega)] at hj
   have h0 : j - l.length = 0 := by
    have := (List.getElem?_eq_some_iff.1 hj).1
    simp at this; omega
   rw [h0] at hj
   simp at hj
   subst hj
   have : j = n := by omega
   subst this; exact hx
theorem Opens.slice {P : Program} {w : World} {t e : TypeId} {α : Type} {d : Kd α} {B : α → Prop} (ht : P.underlying t = some (.slice e)) (hc : P.cellsOf e = d.sz) (hb : 1 ≤ P.bytesOf e) (he : Opens P w e d B) :
  Opens P w t (Kd.slice e d) (fun l => l.length ≤ reachBytes ∧ ∀ x ∈ l, B x) := by
 intro H enc base spare held fuel cs y h hw
 rcases DataW.trod_slice ht h with ⟨rfl, rfl⟩ | ⟨a, len, cap, elems, rest, n, rfl, rfl, rfl, hba, hlc, hcm, hel, hE, _, _⟩
 ·exact ⟨[], ⟨none, 0, rfl, Nat.le_refl _, Kd.C_nil _ _⟩, Nat.zero_le _, fun x hx => by simp at hx⟩
 ·have hW : (elems.length + rest.length) * P.bytesOf e ≤ reachBytes := by
   have := hw ((elems.length + rest.length) * P.bytesOf e) (by simp [DataW.weights, ht])
   exact this
  have hlr : elems.length ≤ reachBytes := Nat.le_trans (Nat.le_trans (Nat.le_add_right _ _) (Nat.le_mul_of_pos_right _ hb)) hW
  have hat : ∀ i, i < len → ∃ x, ∃ c, c.length = d.sz ∧ d.K w x c ∧ B x ∧ ∀ j u, c[j]? = some u → w.cell? (a.add (i * d.sz + j)) = some u := by
   intro i hi
   have h1 := hE i hi
   have hi2 : i < elems.length := by omega
   rw [List.getElem?_eq_getElem hi2] at h1
   obtain ⟨c, hc1, hc2⟩ := Option.bind_eq_some_iff.1 h1
   obtain ⟨_, hl, hcell⟩ := World.cells?_some hc1
   have hm0 : ∀ m ∈ (elems[i].1).weights P e, m ≤ reachBytes := fun m hm => hw m (by
    simp only [DataW.weights, ht]
    exact List.mem_cons.2 (.inr (List.mem_append.2 (.inl (weightsAll_mem (d := elems[i].1) (List.mem_map.2 ⟨elems[i], List.getElem_mem hi2, rfl⟩) m hm)))))
   obtain ⟨x, hx, hB⟩ := he H enc base spare held n c _ hc2 hm0
   refine ⟨x, c, by rw [hl, hc], hx, hB, fun j u hu => ?_⟩
   have hj : j < P.cellsOf e := by rw [← hl]; exact (List.getElem?_eq_some_iff.1 hu).1
   have := (hcell j hj).trans hu
   rw [Addr.add_add, hc] at this
   exact this
  obtain ⟨l, hll, hq⟩ := pick len hat
  refine ⟨l, ⟨some a, cap, by rw [hll], by omega, rfl, by rw [hll]; unfold maxLen at hcm; omega, fun _ => ⟨a, rfl, fun j p hj => ?_⟩⟩, by omega, fun x hx => ?_⟩
  ·obtain ⟨c, h1, h2, _, h4⟩ := hq j p hj
   exact ⟨c, h1, h2, h4⟩
  ·obtain ⟨j, hj, rfl⟩ := List.mem_iff_getElem.1 hx
   obtain ⟨c, _, _, h3, _⟩ := hq j _ (List.getElem?_eq_getElem hj)
   exact h3
/-- fields that lie one behind the other, from offset o on -/
def OpensF (P : Program) (w : World) (fs : List Field) (o : Nat) {α : Type} (d : Kd α) (B : α → Prop) : Prop :=
 ∀ (H : Type) (enc : TypeId × Value → H) (base : Nat) (spare : Nat → Bool) (held : Bool) (fuel : Nat) (cs : List Value) (xs : List (DataW H × List MemPlace)), cs.length = d.sz → xs.length = fs.length →
  (∀ (i : Nat) (f : Field), fs[i]? = some f → DataW.trod enc P w base spare held fuel f.type ((cs.drop (f.offset - o)).take (P.cellsOf f.type)) = xs[i]?) →
  (∀ m ∈ DataW.weightsEach P (fs.map (·.type)) (xs.map (·.1)), m ≤ reachBytes) → ∃ x, d.K w x cs ∧ B x
theorem OpensF.one {P : Program} {w : World} {f : Field} {o : Nat} {α : Type} {d : Kd α} {B : α → Prop} (ho : f.offset = o) (hc : P.cellsOf f.type = d.sz) (h : Opens P w f.type d B) : OpensF P w [f] o d B := by
 intro H enc base spare held fuel cs xs hl hx ht hw
 obtain ⟨y, rfl⟩ : ∃ y, xs = [y] := by
  cases xs with
  | nil => simp at hx
  | cons y r => cases r with
   | nil => exact ⟨y, rfl⟩
   | cons _ _ => simp at hx
 have h0 := ht 0 f rfl
 rw [ho, Nat.sub_self, List.drop_zero, List.take_of_length_le (by omega)] at h0
 exact h H enc base spare held fuel cs y h0 (fun m hm => hw m (by simp [DataW.weightsEach, hm]))
theorem OpensF.cons {P : Program} {w : World} {f : Field} {fs : List Field} {o : Nat} {α β : Type} {d : Kd α} {B : α → Prop} {d2 : Kd β} {B2 : β → Prop} (ho : f.offset = o) (hc : P.cellsOf f.type = d.sz) (hfs : (fs.all fun g => decide (o + d.sz ≤ g.offset)) = true) (h : Opens P w f.type d B)
  (h2 : OpensF P w fs (o + d.sz) d2 B2) : OpensF P w (f :: fs) o (Kd.pair d d2) (fun x => B x.1 ∧ B2 x.2) := by
 intro H enc base spare held fuel cs xs hl hx ht hw
 obtain ⟨y, ys, rfl⟩ : ∃ y ys, xs = y :: ys := by
  cases xs with
  | nil => simp at hx
  | cons y r => exact ⟨y, r, rfl⟩
 have hl2 : cs.length = d.sz + d2.sz := hl
 have h0 := ht 0 f rfl
 rw [ho, Nat.sub_self, List.drop_zero, hc] at h0
 obtain ⟨x, hx1, hB1⟩ := h H enc base spare held fuel _ y h0 (fun m hm => hw m (by simp [DataW.weightsEach, hm]))
 obtain ⟨z, hz1, hB2⟩ := h2 H enc base spare held fuel (cs.drop d.sz) ys (by rw [List.length_drop]; omega) (by simpa using hx) (fun i g hg => by
  have h3 := ht (i + 1) g (by simpa using hg)
  have h4 : o + d.sz ≤ g.offset := by
   have := List.all_eq_true.1 hfs g (List.mem_of_getElem? hg)
   simpa using this
  rw [List.drop_drop, show d.sz + (g.offset - (o + d.sz)) = g.offset - o by omega]
  simpa using h3) (fun m hm => hw m (by simp [DataW.weightsEach, hm]))
 exact ⟨(x, z), ⟨cs.take d.sz, cs.drop d.sz, (List.take_append_drop _ _).symm, hx1, hz1⟩, hB1, hB2⟩
theorem Opens.struct {P : Program} {w : World} {t : TypeId} {fs : Array Field} {α β : Type} {d : Kd α} {B : α → Prop} (f : β → α) (g : α → β) (hg : ∀ z, f (g z) = z) (ht : P.underlying t = some (.struct fs)) (hc : P.cellsOf t = d.sz) (h : OpensF P w fs.toList 0 d B) :
  Opens P w t (Kd.iso d f) (fun x => B (f x)) := by
 intro H enc base spare held fuel cs y hy hw
 obtain ⟨xs, n, rfl, rfl, hl, hlen, hf⟩ := DataW.trod_struct ht hy
 obtain ⟨z, hz, hB⟩ := h H enc base spare held n cs xs (by rw [hl, hc]) (by simpa using hlen) (fun i fd hfd => by rw [Nat.sub_zero]; exact hf i fd (by simpa using hfd)) (fun m hm => hw m (by simp only [DataW.weights, ht]; exact hm))
 exact ⟨g z, by show d.K w (f (g z)) cs; rw [hg]; exact hz, by show B (f (g z)); rw [hg]; exact hB⟩
open Go.Proofs.YtndhkgfeknkfdaaGreatDoor.MPacketChecks
theorem open82 (w : World) : Opens Tryz.prog w 82 k82 (fun x : S82 => x.f0.size ≤ reachBytes ∧ (Lit.int .i64 x.f1).wf = true) := Opens.struct (P := Tryz.prog) (w := w) (fun x : S82 => (x.f0, x.f1)) (fun z => ⟨z.1, z.2⟩) (fun _ => rfl) Tryz.underlying82 (by kernel_rfl) (OpensF.cons rfl (by kernel_rfl) (by kernel_rfl) (Opens.string Tryz.underlying9) (OpensF.one rfl (by kernel_rfl) (Opens.int Tryz.underlying3)))
theorem open24 (w : World) : Opens Tryz.prog w 24 k24 (fun x : S24 => x.f0.size ≤ reachBytes ∧ (x.f1.length ≤ reachBytes ∧ ∀ y ∈ x.f1, ((Lit.int .u8 y).wf = true)) ∧ (Lit.int .i64 x.f2).wf = true ∧ True) := Opens.struct (P := Tryz.prog) (w := w) (fun x : S24 => (x.f0, x.f1, x.f2, x.f3)) (fun z => ⟨z.1, z.2.1, z.2.2.1, z.2.2.2⟩) (fun _ => rfl) Tryz.underlying24 (by kernel_rfl) (OpensF.cons rfl (by kernel_rfl) (by kernel_rfl) (Opens.string Tryz.underlying9) (OpensF.cons rfl (by kernel_rfl) (by kernel_rfl) (Opens.slice Tryz.underlying22 (by kernel_rfl) (by decide +kernel) (Opens.int Tryz.underlying5)) (OpensF.cons rfl (by kernel_rfl) (by kernel_rfl) (Opens.int Tryz.underlying3) (OpensF.one rfl (by kernel_rfl) (Opens.bool Tryz.underlying4)))))
theorem open29 (w : World) : Opens Tryz.prog w 29 k29 (fun x : S29 => (Lit.int .i64 x.f0).wf = true ∧ (Lit.int .i64 x.f1).wf = true ∧ True ∧ (Lit.int .i64 x.f3).wf = true ∧ x.f4.size ≤ reachBytes ∧ True ∧ (x.f6.f0.size ≤ reachBytes ∧ (x.f6.f1.length ≤ reachBytes ∧ ∀ y ∈ x.f6.f1, ((Lit.int .u8 y).wf = true)) ∧ (Lit.int .i64 x.f6.f2).wf = true ∧ True) ∧ True ∧ x.f8.size ≤ reachBytes ∧ True ∧ (x.f10.length ≤ reachBytes ∧ ∀ y ∈ x.f10, ((Lit.int .u8 y).wf = true)) ∧ True ∧ (Lit.int .i64 x.f12).wf = true ∧ True ∧ (x.f14.f0.size ≤ reachBytes ∧ (x.f14.f1.length ≤ reachBytes ∧ ∀ y ∈ x.f14.f1, ((Lit.int .u8 y).wf = true)) ∧ (Lit.int .i64 x.f14.f2).wf = true ∧ True) ∧ (Lit.int .i64 x.f15).wf = true ∧ (x.f16.length ≤ reachBytes ∧ ∀ y ∈ x.f16, (y.f0.size ≤ reachBytes ∧ (Lit.int .i64 y.f1).wf = true)) ∧ (x.f17.length ≤ reachBytes ∧ ∀ y ∈ x.f17, ((Lit.int .i64 y).wf = true)) ∧ (x.f18.length ≤ reachBytes ∧ ∀ y ∈ x.f18, (y.size ≤ reachBytes))) := Opens.struct (P := Tryz.prog) (w := w) (fun x : S29 => (x.f0, x.f1, x.f2, x.f3, x.f4, x.f5, x.f6, x.f7, x.f8, x.f9, x.f10, x.f11, x.f12, x.f13, x.f14, x.f15, x.f16, x.f17, x.f18)) (fun z => ⟨z.1, z.2.1, z.2.2.1, z.2.2.2.1, z.2.2.2.2.1, z.2.2.2.2.2.1, z.2.2.2.2.2.2.1, z.2.2.2.2.2.2.2.1, z.2.2.2.2.2.2.2.2.1, z.2.2.2.2.2.2.2.2.2.1, z.2.2.2.2.2.2.2.2.2.2.1, z.2.2.2.2.2.2.2.2.2.2.2.1, z.2.2.2.2.2.2.2.2.2.2.2.2.1, z.2.2.2.2.2.2.2.2.2.2.2.2.2.1, z.2.2.2.2.2.2.2.2.2.2.2.2.2.2.1, z.2.2.2.2.2.2.2.2.2.2.2.2.2.2.2.1, z.2.2.2.2.2.2.2.2.2.2.2.2.2.2.2.2.1, z.2.2.2.2.2.2.2.2.2.2.2.2.2.2.2.2.2.1, z.2.2.2.2.2.2.2.2.2.2.2.2.2.2.2.2.2.2⟩) (fun _ => rfl) Tryz.underlying29 (by kernel_rfl) (OpensF.cons rfl (by kernel_rfl) (by kernel_rfl) (Opens.int Tryz.underlying3) (OpensF.cons rfl (by kernel_rfl) (by kernel_rfl) (Opens.int Tryz.underlying3) (OpensF.cons rfl (by kernel_rfl) (by kernel_rfl) (Opens.bool Tryz.underlying4) (OpensF.cons rfl (by kernel_rfl) (by kernel_rfl) (Opens.int Tryz.underlying3) (OpensF.cons rfl (by kernel_rfl) (by kernel_rfl) (Opens.string Tryz.underlying9) (OpensF.cons rfl (by kernel_rfl) (by kernel_rfl) (Opens.bool Tryz.underlying4) (OpensF.cons rfl (by kernel_rfl) (by kernel_rfl) (open24 w) (OpensF.cons rfl (by kernel_rfl) (by kernel_rfl) (Opens.bool Tryz.underlying4) (OpensF.cons rfl (by kernel_rfl) (by kernel_rfl) (Opens.string Tryz.underlying9) (OpensF.cons rfl (by kernel_rfl) (by kernel_rfl) (Opens.bool Tryz.underlying4) (OpensF.cons rfl (by kernel_rfl) (by kernel_rfl) (Opens.slice Tryz.underlying22 (by kernel_rfl) (by decide +kernel) (Opens.int Tryz.underlying5)) (OpensF.cons rfl (by kernel_rfl) (by kernel_rfl) (Opens.bool Tryz.underlying4) (OpensF.cons rfl (by kernel_rfl) (by kernel_rfl) (Opens.int Tryz.underlying3) (OpensF.cons rfl (by kernel_rfl) (by kernel_rfl) (Opens.bool Tryz.underlying4) (OpensF.cons rfl (by kernel_rfl) (by kernel_rfl) (open24 w) (OpensF.cons rfl (by kernel_rfl) (by kernel_rfl) (Opens.int Tryz.underlying3) (OpensF.cons rfl (by kernel_rfl) (by kernel_rfl) (Opens.slice Tryz.underlying25 (by kernel_rfl) (by decide +kernel) (open82 w)) (OpensF.cons rfl (by kernel_rfl) (by kernel_rfl) (Opens.slice Tryz.underlying26 (by kernel_rfl) (by decide +kernel) (Opens.int Tryz.underlying3)) (OpensF.one rfl (by kernel_rfl) (Opens.slice Tryz.underlying27 (by kernel_rfl) (by decide +kernel) (Opens.string Tryz.underlying9)))))))))))))))))))))
end Go.Proofs.YtndhkgfeknkfdaaGreatDoor.Tod
