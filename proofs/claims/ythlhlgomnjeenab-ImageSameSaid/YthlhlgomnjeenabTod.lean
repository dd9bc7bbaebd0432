/- What can be read as a datum of a type reads as its kind: numbers, bools, texts, lists, structs (for a law's arguments). -/
import Derived.Test.YthlhlgomnjeenabPImageSamex0
import Derived.Test.YthlhlgomnjeenabEr
import Derived.Test.YthlhlgomnjeenabCo
import Derived.ChangeArms
import Derived.ChangeSame
import Derived.ChangeSlices
import Derived.SizedLaws
import Derived.OpenShut
import Derived.SliceStrings
namespace Go.Proofs.Ythlhlgomnjeenab.Tod
open Go.RowKit Go.ChangeShapes Go.Proofs.YthlhlgomnjeenabW.PrintWords Go.Proofs.YthlhlgomnjeenabW.PrintLast Go.Proofs.YthlhlgomnjeenabW.PrintMore
set_option linter.unusedVariables false
set_option linter.unusedSimpArgs false
set_option maxRecDepth 100000
/-- a datum of type t that can be read, no part of it larger than memory: it reads as kind d, and B of it -/
def Opens (P : Program) (w : World) (t : TypeId) {α : Type} (d : Kd α) (B : α → Prop) : Prop :=
  ∀ (H : Type) (enc : TypeId × Value → H) (base : Nat) (spare : Nat → Bool) (held : Bool) (fuel : Nat) (cs : List Value) (y : DataW H × List MemPlace),
    DataW.trod enc P w base spare held fuel t cs = some y → (∀ n ∈ y.1.weights P t, n ≤ reachBytes) → ∃ x, d.K w x cs ∧ B x
theorem Opens.int {P : Program} {w : World} {t : TypeId} {k : IntKind} (ht : P.underlying t = some (.int k)) : Opens P w t (Kd.int k) (fun x => (Lit.int k x).wf = true) := by
  intro H enc base spare held fuel cs y h _
  obtain ⟨n, rfl, _, hw⟩ := DataW.trod_int ht h
  exact ⟨n, rfl, hw⟩
theorem Opens.bool {P : Program} {w : World} {t : TypeId} (ht : P.underlying t = some .bool) : Opens P w t Kd.bool (fun _ => True) := by
  intro H enc base spare held fuel cs y h _
  obtain ⟨b, rfl, _⟩ := DataW.trod_bool ht h
  exact ⟨b, rfl, trivial⟩
theorem Opens.string {P : Program} {w : World} {t : TypeId} (ht : P.underlying t = some .string) : Opens P w t Kd.string (fun s => s.size ≤ reachBytes) := by
  intro H enc base spare held fuel cs y h hw
  obtain ⟨s, rfl, hy, _⟩ := DataW.trod_string ht h
  refine ⟨s, rfl, ?_⟩
  have := hw s.data.toList.length (by rw [hy]; simp [DataW.weights])
  rw [Array.length_toList] at this
  exact this
theorem weightsAll_mem {H : Type} {P : Program} {e : TypeId} : ∀ {ds : List (DataW H)} {d : DataW H}, d ∈ ds → ∀ n ∈ d.weights P e, n ∈ DataW.weightsAll P e ds
  | d0 :: ds, d, hd, n, hn => by
    rw [DataW.weightsAll, List.mem_append]
    rcases List.mem_cons.1 hd with rfl | hd
    · exact .inl hn
    · exact .inr (weightsAll_mem hd n hn)
theorem pick {α : Type} {Q : Nat → α → Prop} : ∀ (n : Nat), (∀ i, i < n → ∃ x, Q i x) → ∃ l : List α, l.length = n ∧ ∀ j p, l[j]? = some p → Q j p
  | 0, _ => ⟨[], rfl, fun j p h => by simp at h⟩
  | n + 1, h => by
    obtain ⟨l, hl, hq⟩ := pick n (fun i hi => h i (by omega))
    obtain ⟨x, hx⟩ := h n (by omega)
    refine ⟨l ++ [x], by simp [hl], fun j p hj => ?_⟩
    by_cases hjl : j < l.length
    · exact hq j p (by rwa [List.getElem?_append_left hjl] at hj)
    · rw [List.getElem?_append_right (by omega)] at hj
      have h0 : j - l.length = 0 := by
        have := (List.getElem?_eq_some_iff.1 hj).1
        simp at this; omega
      rw [h0] at hj
      simp at hj
      subst hj
      have : j = n := by omega
      subst this; exact hx
theorem Opens.slice {P : Program} {w : World} {t e : TypeId} {α : Type} {d : Kd α} {B : α → Prop} (ht : P.underlying t = some (.slice e)) (hc : P.cellsOf e = d.sz) (hb : 1 ≤ P.bytesOf e) (he : Opens P w e d B) :
    Opens P w t (Kd.slice e d) (fun l => l.length ≤ reachBytes ∧ ∀ x ∈ l, B x) := by
  intro H enc base spare held fuel cs y h hw
  rcases DataW.trod_slice ht h with ⟨rfl, rfl⟩ | ⟨a, len, cap, elems, rest, n, rfl, rfl, rfl, hba, hlc, hcm, hel, hE, _, _⟩
  · exact ⟨[], ⟨none, 0, rfl, Nat.le_refl _, Kd.C_nil _ _⟩, Nat.zero_le _, fun x hx => by simp at hx⟩
  · have hW : (elems.length + rest.length) * P.bytesOf e ≤ reachBytes := by
      have := hw ((elems.length + rest.length) * P.bytesOf e) (by simp [DataW.weights, ht])
      exact this
    have hlr : elems.length ≤ reachBytes := Nat.le_trans (Nat.le_trans (Nat.le_add_right _ _) (Nat.le_mul_of_pos_right _ hb)) hW
    have hat : ∀ i, i < len → ∃ x, ∃ c, c.length = d.sz ∧ d.K w x c ∧ B x ∧ ∀ j u, c[j]? = some u → w.cell? (a.add (i * d.sz + j)) = some u := by
      intro i hi
      have h1 := hE i hi
      have hi2 : i < elems.length := by omega
      rw [List.getElem?_eq_getElem hi2] at h1
      obtain ⟨c, hc1, hc2⟩ := Option.bind_eq_some_iff.1 h1
      obtain ⟨_, hl, hcell⟩ := World.cells?_some hc1
      have hm0 : ∀ m ∈ (elems[i].1).weights P e, m ≤ reachBytes := fun m hm => hw m (by
        simp only [DataW.weights, ht]
        exact List.mem_cons.2 (.inr (List.mem_append.2 (.inl (weightsAll_mem (d := elems[i].1) (List.mem_map.2 ⟨elems[i], List.getElem_mem hi2, rfl⟩) m hm)))))
      obtain ⟨x, hx, hB⟩ := he H enc base spare held n c _ hc2 hm0
      refine ⟨x, c, by rw [hl, hc], hx, hB, fun j u hu => ?_⟩
      have hj : j < P.cellsOf e := by rw [← hl]; exact (List.getElem?_eq_some_iff.1 hu).1
      have := (hcell j hj).trans hu
      rw [Addr.add_add, hc] at this
      exact this
    obtain ⟨l, hll, hq⟩ := pick len hat
    refine ⟨l, ⟨some a, cap, by rw [hll], by omega, rfl, by rw [hll]; unfold maxLen at hcm; omega, fun _ => ⟨a, rfl, fun j p hj => ?_⟩⟩, by omega, fun x hx => ?_⟩
    · obtain ⟨c, h1, h2, _, h4⟩ := hq j p hj
      exact ⟨c, h1, h2, h4⟩
    · obtain ⟨j, hj, rfl⟩ := List.mem_iff_getElem.1 hx
      obtain ⟨c, _, _, h3, _⟩ := hq j _ (List.getElem?_eq_getElem hj)
      exact h3
/-- fields that lie one behind the other, from offset o on -/
def OpensF (P : Program) (w : World) (fs : List Field) (o : Nat) {α : Type} (d : Kd α) (B : α → Prop) : Prop :=
  ∀ (H : Type) (enc : TypeId × Value → H) (base : Nat) (spare : Nat → Bool) (held : Bool) (fuel : Nat) (cs : List Value) (xs : List (DataW H × List MemPlace)), cs.length = d.sz → xs.length = fs.length →
    (∀ (i : Nat) (f : Field), fs[i]? = some f → DataW.trod enc P w base spare held fuel f.type ((cs.drop (f.offset - o)).take (P.cellsOf f.type)) = xs[i]?) →
    (∀ m ∈ DataW.weightsEach P (fs.map (·.type)) (xs.map (·.1)), m ≤ reachBytes) → ∃ x, d.K w x cs ∧ B x
theorem OpensF.one {P : Program} {w : World} {f : Field} {o : Nat} {α : Type} {d : Kd α} {B : α → Prop} (ho : f.offset = o) (hc : P.cellsOf f.type = d.sz) (h : Opens P w f.type d B) : OpensF P w [f] o d B := by
  intro H enc base spare held fuel cs xs hl hx ht hw
  obtain ⟨y, rfl⟩ : ∃ y, xs = [y] := by
    cases xs with
    | nil => simp at hx
    | cons y r => cases r with
      | nil => exact ⟨y, rfl⟩
      | cons _ _ => simp at hx
  have h0 := ht 0 f rfl
  rw [ho, Nat.sub_self, List.drop_zero, List.take_of_length_le (by omega)] at h0
  exact h H enc base spare held fuel cs y h0 (fun m hm => hw m (by simp [DataW.weightsEach, hm]))
theorem OpensF.cons {P : Program} {w : World} {f : Field} {fs : List Field} {o : Nat} {α β : Type} {d : Kd α} {B : α → Prop} {d2 : Kd β} {B2 : β → Prop} (ho : f.offset = o) (hc : P.cellsOf f.type = d.sz) (hfs : (fs.all fun g => decide (o + d.sz ≤ g.offset)) = true) (h : Opens P w f.type d B)
    (h2 : OpensF P w fs (o + d.sz) d2 B2) : OpensF P w (f :: fs) o (Kd.pair d d2) (fun x => B x.1 ∧ B2 x.2) := by
  intro H enc base spare held fuel cs xs hl hx ht hw
  obtain ⟨y, ys, rfl⟩ : ∃ y ys, xs = y :: ys := by
    cases xs with
    | nil => simp at hx
    | cons y r => exact ⟨y, r, rfl⟩
  have hl2 : cs.length = d.sz + d2.sz := hl
  have h0 := ht 0 f rfl
  rw [ho, Nat.sub_self, List.drop_zero, hc] at h0
  obtain ⟨x, hx1, hB1⟩ := h H enc base spare held fuel _ y h0 (fun m hm => hw m (by simp [DataW.weightsEach, hm]))
  obtain ⟨z, hz1, hB2⟩ := h2 H enc base spare held fuel (cs.drop d.sz) ys (by rw [List.length_drop]; omega) (by simpa using hx) (fun i g hg => by
    have h3 := ht (i + 1) g (by simpa using hg)
    have h4 : o + d.sz ≤ g.offset := by
      have := List.all_eq_true.1 hfs g (List.mem_of_getElem? hg)
      simpa using this
    rw [List.drop_drop, show d.sz + (g.offset - (o + d.sz)) = g.offset - o by omega]
    simpa using h3) (fun m hm => hw m (by simp [DataW.weightsEach, hm]))
  exact ⟨(x, z), ⟨cs.take d.sz, cs.drop d.sz, (List.take_append_drop _ _).symm, hx1, hz1⟩, hB1, hB2⟩
theorem Opens.struct {P : Program} {w : World} {t : TypeId} {fs : Array Field} {α β : Type} {d : Kd α} {B : α → Prop} (f : β → α) (g : α → β) (hg : ∀ z, f (g z) = z) (ht : P.underlying t = some (.struct fs)) (hc : P.cellsOf t = d.sz) (h : OpensF P w fs.toList 0 d B) :
    Opens P w t (Kd.iso d f) (fun x => B (f x)) := by
  intro H enc base spare held fuel cs y hy hw
  obtain ⟨xs, n, rfl, rfl, hl, hlen, hf⟩ := DataW.trod_struct ht hy
  obtain ⟨z, hz, hB⟩ := h H enc base spare held n cs xs (by rw [hl, hc]) (by simpa using hlen) (fun i fd hfd => by rw [Nat.sub_zero]; exact hf i fd (by simpa using hfd)) (fun m hm => hw m (by simp only [DataW.weights, ht]; exact hm))
  exact ⟨g z, by show d.K w (f (g z)) cs; rw [hg]; exact hz, by show B (f (g z)); rw [hg]; exact hB⟩
open Go.Proofs.Ythlhlgomnjeenab.PImageSame Go.Proofs.Ythlhlgomnjeenab.Rm
def b90 (x : S90) : Prop := x.f0.size ≤ reachBytes ∧ (Lit.int .i64 x.f1).wf = true
theorem open90 (w : World) : Opens Try.prog w 90 k90 b90 := (Opens.struct (P := Try.prog) (w := w) (fun x : S90 => (x.f0, x.f1)) (fun z => ⟨z.1, z.2⟩) (fun _ => rfl) Try.underlying90 (by kernel_rfl) (OpensF.cons rfl (by kernel_rfl) (by kernel_rfl) (Opens.string Try.underlying9) (OpensF.one rfl (by kernel_rfl) (Opens.int Try.underlying3))) : Opens Try.prog w 90 k90 (fun x : S90 => x.f0.size ≤ reachBytes ∧ (Lit.int .i64 x.f1).wf = true))
def b72 (x : S72) : Prop := x.f0.size ≤ reachBytes ∧ (x.f1.length ≤ reachBytes ∧ ∀ y ∈ x.f1, (Lit.int .u8 y).wf = true) ∧ (Lit.int .i64 x.f2).wf = true ∧ True
theorem open72 (w : World) : Opens Try.prog w 72 k72 b72 := (Opens.struct (P := Try.prog) (w := w) (fun x : S72 => (x.f0, x.f1, x.f2, x.f3)) (fun z => ⟨z.1, z.2.1, z.2.2.1, z.2.2.2⟩) (fun _ => rfl) Try.underlying72 (by kernel_rfl) (OpensF.cons rfl (by kernel_rfl) (by kernel_rfl) (Opens.string Try.underlying9) (OpensF.cons rfl (by kernel_rfl) (by kernel_rfl) (Opens.slice Try.underlying70 (by kernel_rfl) (by decide +kernel) (Opens.int Try.underlying5)) (OpensF.cons rfl (by kernel_rfl) (by kernel_rfl) (Opens.int Try.underlying3) (OpensF.one rfl (by kernel_rfl) (Opens.bool Try.underlying4))))) : Opens Try.prog w 72 k72 (fun x : S72 => x.f0.size ≤ reachBytes ∧ (x.f1.length ≤ reachBytes ∧ ∀ y ∈ x.f1, (Lit.int .u8 y).wf = true) ∧ (Lit.int .i64 x.f2).wf = true ∧ True))
def b76 (x : S76) : Prop := (Lit.int .i64 x.f0).wf = true ∧ b72 x.f1 ∧ True
theorem open76 (w : World) : Opens Try.prog w 76 k76 b76 := (Opens.struct (P := Try.prog) (w := w) (fun x : S76 => (x.f0, x.f1, x.f2)) (fun z => ⟨z.1, z.2.1, z.2.2⟩) (fun _ => rfl) Try.underlying76 (by kernel_rfl) (OpensF.cons rfl (by kernel_rfl) (by kernel_rfl) (Opens.int Try.underlying3) (OpensF.cons rfl (by kernel_rfl) (by kernel_rfl) (open72 w) (OpensF.one rfl (by kernel_rfl) (Opens.bool Try.underlying4)))) : Opens Try.prog w 76 k76 (fun x : S76 => (Lit.int .i64 x.f0).wf = true ∧ b72 x.f1 ∧ True))
def b62 (x : S62) : Prop := (Lit.int .i64 x.f0).wf = true ∧ (x.f1.length ≤ reachBytes ∧ ∀ y ∈ x.f1, b76 y) ∧ (x.f2.length ≤ reachBytes ∧ ∀ y ∈ x.f2, b72 y)
theorem open62 (w : World) : Opens Try.prog w 62 k62 b62 := (Opens.struct (P := Try.prog) (w := w) (fun x : S62 => (x.f0, x.f1, x.f2)) (fun z => ⟨z.1, z.2.1, z.2.2⟩) (fun _ => rfl) Try.underlying62 (by kernel_rfl) (OpensF.cons rfl (by kernel_rfl) (by kernel_rfl) (Opens.int Try.underlying3) (OpensF.cons rfl (by kernel_rfl) (by kernel_rfl) (Opens.slice Try.underlying60 (by kernel_rfl) (by decide +kernel) (open76 w)) (OpensF.one rfl (by kernel_rfl) (Opens.slice Try.underlying23 (by kernel_rfl) (by decide +kernel) (open72 w))))) : Opens Try.prog w 62 k62 (fun x : S62 => (Lit.int .i64 x.f0).wf = true ∧ (x.f1.length ≤ reachBytes ∧ ∀ y ∈ x.f1, b76 y) ∧ (x.f2.length ≤ reachBytes ∧ ∀ y ∈ x.f2, b72 y)))
def b64 (x : S64) : Prop := x.f0.size ≤ reachBytes ∧ (x.f1.length ≤ reachBytes ∧ ∀ y ∈ x.f1, b90 y) ∧ b62 x.f2 ∧ (x.f3.length ≤ reachBytes ∧ ∀ y ∈ x.f3, (Lit.int .i64 y).wf = true)
theorem open64 (w : World) : Opens Try.prog w 64 k64 b64 := (Opens.struct (P := Try.prog) (w := w) (fun x : S64 => (x.f0, x.f1, x.f2, x.f3)) (fun z => ⟨z.1, z.2.1, z.2.2.1, z.2.2.2⟩) (fun _ => rfl) Try.underlying64 (by kernel_rfl) (OpensF.cons rfl (by kernel_rfl) (by kernel_rfl) (Opens.string Try.underlying9) (OpensF.cons rfl (by kernel_rfl) (by kernel_rfl) (Opens.slice Try.underlying59 (by kernel_rfl) (by decide +kernel) (open90 w)) (OpensF.cons rfl (by kernel_rfl) (by kernel_rfl) (open62 w) (OpensF.one rfl (by kernel_rfl) (Opens.slice Try.underlying30 (by kernel_rfl) (by decide +kernel) (Opens.int Try.underlying3)))))) : Opens Try.prog w 64 k64 (fun x : S64 => x.f0.size ≤ reachBytes ∧ (x.f1.length ≤ reachBytes ∧ ∀ y ∈ x.f1, b90 y) ∧ b62 x.f2 ∧ (x.f3.length ≤ reachBytes ∧ ∀ y ∈ x.f3, (Lit.int .i64 y).wf = true)))
def b66 (x : S66) : Prop := x.f0.size ≤ reachBytes ∧ x.f1.size ≤ reachBytes
theorem open66 (w : World) : Opens Try.prog w 66 k66 b66 := (Opens.struct (P := Try.prog) (w := w) (fun x : S66 => (x.f0, x.f1)) (fun z => ⟨z.1, z.2⟩) (fun _ => rfl) Try.underlying66 (by kernel_rfl) (OpensF.cons rfl (by kernel_rfl) (by kernel_rfl) (Opens.string Try.underlying9) (OpensF.one rfl (by kernel_rfl) (Opens.string Try.underlying9))) : Opens Try.prog w 66 k66 (fun x : S66 => x.f0.size ≤ reachBytes ∧ x.f1.size ≤ reachBytes))
structure S26 where
  f0 : Int
  f1 : List S64
  f2 : List S72
  f3 : List S66
def k26 : Kd S26 := Kd.iso (Kd.pair (Kd.int .i64) (Kd.pair (Kd.slice 64 k64) (Kd.pair (Kd.slice 72 k72) (Kd.slice 66 k66)))) (fun x : S26 => (x.f0, x.f1, x.f2, x.f3))
def b26 (x : S26) : Prop := (Lit.int .i64 x.f0).wf = true ∧ (x.f1.length ≤ reachBytes ∧ ∀ y ∈ x.f1, b64 y) ∧ (x.f2.length ≤ reachBytes ∧ ∀ y ∈ x.f2, b72 y) ∧ (x.f3.length ≤ reachBytes ∧ ∀ y ∈ x.f3, b66 y)
theorem open26 (w : World) : Opens Try.prog w 26 k26 b26 := (Opens.struct (P := Try.prog) (w := w) (fun x : S26 => (x.f0, x.f1, x.f2, x.f3)) (fun z => ⟨z.1, z.2.1, z.2.2.1, z.2.2.2⟩) (fun _ => rfl) Try.underlying26 (by kernel_rfl) (OpensF.cons rfl (by kernel_rfl) (by kernel_rfl) (Opens.int Try.underlying3) (OpensF.cons rfl (by kernel_rfl) (by kernel_rfl) (Opens.slice Try.underlying22 (by kernel_rfl) (by decide +kernel) (open64 w)) (OpensF.cons rfl (by kernel_rfl) (by kernel_rfl) (Opens.slice Try.underlying23 (by kernel_rfl) (by decide +kernel) (open72 w)) (OpensF.one rfl (by kernel_rfl) (Opens.slice Try.underlying24 (by kernel_rfl) (by decide +kernel) (open66 w)))))) : Opens Try.prog w 26 k26 (fun x : S26 => (Lit.int .i64 x.f0).wf = true ∧ (x.f1.length ≤ reachBytes ∧ ∀ y ∈ x.f1, b64 y) ∧ (x.f2.length ≤ reachBytes ∧ ∀ y ∈ x.f2, b72 y) ∧ (x.f3.length ≤ reachBytes ∧ ∀ y ∈ x.f3, b66 y)))
theorem k26_open {w : World} {x : S26} {cs : List Value} (h : k26.K w x cs) : ∃ A1 c1 A2 c2 A3 c3, cs = [.int .i64 x.f0, .slice A1 x.f1.length c1, .slice A2 x.f2.length c2, .slice A3 x.f3.length c3] ∧ x.f1.length ≤ c1 ∧ k64.C w A1 x.f1.length x.f1 ∧ x.f2.length ≤ c2 ∧ k72.C w A2 x.f2.length x.f2 ∧ x.f3.length ≤ c3 ∧ k66.C w A3 x.f3.length x.f3 := by
  obtain ⟨_, _, rfl, rfl, ⟨_, _, rfl, ⟨A1, c1, rfl, l1, g1⟩, ⟨_, _, rfl, ⟨A2, c2, rfl, l2, g2⟩, ⟨A3, c3, rfl, l3, g3⟩⟩⟩⟩ := h
  exact ⟨A1, c1, A2, c2, A3, c3, rfl, l1, g1, l2, g2, l3, g3⟩
theorem wM_of {x : S72} (h : b72 x) : wM x := fun y hy => bounds_u8 (h.2.1.2 y hy)
theorem wS_of {x : S64} (h : b64 x) : wS x := ⟨fun y hy => wM_of (h.2.2.1.2.1.2 y hy).2.1, fun y hy => wM_of (h.2.2.1.2.2.2 y hy)⟩
theorem zM_of {x : S72} (h : b72 x) : zM x := h.1
theorem zS_of {x : S64} (h : b64 x) : zS x := ⟨h.1, fun y hy => (h.2.1.2 y hy).1, fun y hy => zM_of (h.2.2.1.2.1.2 y hy).2.1, fun y hy => zM_of (h.2.2.1.2.2.2 y hy)⟩
theorem zG_of {x : S66} (h : b66 x) : zG x := ⟨h.1, h.2⟩
end Go.Proofs.Ythlhlgomnjeenab.Tod
