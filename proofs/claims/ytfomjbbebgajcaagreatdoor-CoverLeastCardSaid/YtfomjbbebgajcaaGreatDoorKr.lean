/- crierkept.Book: the lists of one kind: those that wait, are out, are fresh. -/
import Derived.Test.YtfomjbbebgajcaaGreatDoorBk
import Derived.ArgAppend
namespace Go.Proofs.YtfomjbbebgajcaaGreatDoor.Rm
open Go.RowKit Go.Proofs.YtfomjbbebgajcaaGreatDoorW.PrintWords Go.Proofs.YtfomjbbebgajcaaGreatDoorW.PrintLast Go.Proofs.YtfomjbbebgajcaaGreatDoorW.PrintMore
set_option linter.unusedVariables false
set_option linter.unusedSimpArgs false
/-- what has a label that X doesn't hold stays, and keeps its label -/
structure Chg (X : Nat → Prop) (L : Nat → Nat) (w : World) (L' : Nat → Nat) (W : World) : Prop where
 size : w.heap.size ≤ W.heap.size
 keep : ∀ k, k < w.heap.size → ¬ X (L k) → W.heap[k]? = w.heap[k]? ∧ L' k = L k
section
variable {X Y : Nat → Prop} {L L1 L2 : Nat → Nat} {w w1 w2 : World}
theorem Chg.mono (h : Chg X L w L1 w1) (hx : ∀ x, X x → Y x) : Chg Y L w L1 w1 := ⟨h.size, fun i hi hy => h.keep i hi (fun h' => hy (hx _ h'))⟩
theorem Only.chg (h : Only X L w L1 w1) : Chg X L w L1 w1 := ⟨h.size, fun k hk hx => ⟨h.keep k hk hx, h.lab k hk⟩⟩
theorem Chg.soft (h : Chg X L w L1 w1) (h0 : ¬ X 0) : Soft L w L1 w1 := ⟨h.size, fun k hk e => by
 have := h.keep k hk (by rw [e]; exact h0)
 exact ⟨this.1, by rw [this.2, e]⟩⟩
end
/-- a kind without rows inside -/
def Fl {α : Type} (d : Kd α) : Prop := ∀ (W1 W2 : World) x cs, d.K W1 x cs → d.K W2 x cs
/-- a list with a block of its own (label t), or empty and without room -/
def Ls {α : Type} (d : Kd α) (te base t : Nat) (L : Nat → Nat) (W : World) (v : Value) (xs : List α) : Prop :=
 (∃ b c cur, v = .slice (some ⟨b, 0, none⟩) xs.length (c + 1) ∧ base ≤ b ∧ W.heap[b]? = some (.cells cur te (0, 0)) ∧ xs.length ≤ c + 1 ∧ c + 1 ≤ maxLen ∧ cur.size = (c + 1) * d.sz ∧ Reps (d.K W) d.sz xs (cur.toList.take (xs.length * d.sz)) ∧ L b = t) ∨ (xs = [] ∧ ∃ A, v = .slice A 0 0)
def Ap (u v : Value) : Prop := ∀ b, rmb u = some b → rmb v = some b → False
def lenV : Value → Nat
 | .slice _ n _ => n
 | _ => 0
def Un (u v : Value) : Prop := ∀ b, rmb u = some b → rmb v = some b → lenV u ≤ lenV v
theorem Ap.symm {u v : Value} (h : Ap u v) : Ap v u := fun b h1 h2 => h b h2 h1
theorem Ap.un {u v : Value} (h : Ap u v) : Un u v := fun b h1 h2 => (h b h1 h2).elim
section
variable {α : Type} {d : Kd α} {te base t b : Nat} {v v' : Value} {xs : List α} {L L' : Nat → Nat} {W W' : World} {X : Nat → Prop}
theorem Ls.of (h : OwnRow (d.K W) te d.sz W base v xs) (hl : ∀ b, rmb v = some b → L b = t) : Ls d te base t L W v xs := by
 obtain ⟨inner, ho, hr⟩ := h
 rcases ho.2 with ⟨rfl, e⟩ | ⟨g, cap, cur, rfl, hb, hg, hn, hm, hs, ht⟩
 ·exact .inr ⟨List.eq_nil_of_length_eq_zero e, none, rfl⟩
 ·rcases cap with _ | c
  ·have e : xs.length = 0 := by omega
   exact .inr ⟨List.eq_nil_of_length_eq_zero e, some ⟨g, 0, none⟩, by rw [e]⟩
  ·exact .inl ⟨g, c, cur, rfl, hb, hg, hn, hm, hs, by rw [ht]; exact hr, hl g rfl⟩
theorem Ls.row (h : Ls d te base t L W v xs) : OwnRow (d.K W) te d.sz W base v xs ∨ (xs = [] ∧ ∃ A, v = .slice A 0 0) := by
 rcases h with ⟨b, c, cur, rfl, hb, hg, hn, hm, hs, hr, hl⟩ | h
 ·exact .inl ⟨_, ⟨by rw [hr.1], .inr ⟨b, c + 1, cur, rfl, hb, hg, hn, hm, hs, rfl⟩⟩, hr⟩
 ·exact .inr h
theorem Ls.slice_ (h : Ls d te base t L W v xs) : ∃ A c, v = .slice A xs.length c ∧ xs.length ≤ c := by
 rcases h with ⟨b, c, cur, rfl, hb, hg, hn, hm, hs, hr, hl⟩ | ⟨rfl, A, rfl⟩
 ·exact ⟨_, _, rfl, hn⟩
 ·exact ⟨A, 0, rfl, Nat.le_refl _⟩
theorem Ls.C_ (h : Ls d te base t L W v xs) : ∃ A c, v = .slice A xs.length c ∧ xs.length ≤ c ∧ d.C W A xs.length xs := by
 rcases h.row with h | ⟨rfl, A, rfl⟩
 ·exact h.reads
 ·exact ⟨A, 0, rfl, Nat.le_refl _, rfl, by simp, fun h => absurd h (Nat.lt_irrefl 0)⟩
theorem Ls.lt (h : Ls d te base t L W v xs) (hb : rmb v = some b) : b < W.heap.size := by
 rcases h with ⟨b', c, cur, rfl, _, hg, _⟩ | ⟨_, A, rfl⟩
 ·obtain rfl : b' = b := by simpa [rmb] using hb
  exact blk_lt hg
 ·cases A <;> simp [rmb] at hb
theorem Ls.lab (h : Ls d te base t L W v xs) (hb : rmb v = some b) : L b = t := by
 rcases h with ⟨b', c, cur, rfl, _, hg, _, _, _, _, hl⟩ | ⟨_, A, rfl⟩
 ·obtain rfl : b' = b := by simpa [rmb] using hb
  exact hl
 ·cases A <;> simp [rmb] at hb
theorem Ls.len_ (h : Ls d te base t L W v xs) : lenV v = xs.length := by
 obtain ⟨A, c, rfl, _⟩ := h.slice_
 rfl
theorem Ls.move (hF : Fl d) (h : Ls d te base t L W v xs) (hm : ∀ b, rmb v = some b → W'.heap[b]? = W.heap[b]? ∧ L' b = L b) : Ls d te base t L' W' v xs := by
 rcases h with ⟨b, c, cur, rfl, hb, hg, hn, hm', hs, hr, hl⟩ | h
 ·have := hm b rfl
  exact .inl ⟨b, c, cur, rfl, hb, this.1.trans hg, hn, hm', hs, hr.imp_ (fun _ _ hp => hF _ _ _ _ hp), this.2.trans hl⟩
 ·exact .inr h
/-- its block keeps its size and its first places -/
theorem Ls.grew (hF : Fl d) (h : Ls d te base t L W v xs) (hm : ∀ b cur, rmb v = some b → W.heap[b]? = some (.cells cur te (0, 0)) → ∃ cur', W'.heap[b]? = some (.cells cur' te (0, 0)) ∧ cur'.size = cur.size ∧ cur'.toList.take (lenV v * d.sz) = cur.toList.take (lenV v * d.sz) ∧ L' b = L b) : Ls d te base t L' W' v xs := by
 rcases h with ⟨b, c, cur, rfl, hb, hg, hn, hm', hs, hr, hl⟩ | h
 ·obtain ⟨cur', h1, h2, h3, h4⟩ := hm b cur rfl hg
  refine .inl ⟨b, c, cur', rfl, hb, h1, hn, hm', h2.trans hs, ?_, h4.trans hl⟩
  rw [show cur'.toList.take (xs.length * d.sz) = cur.toList.take (xs.length * d.sz) from h3]
  exact hr.imp_ (fun _ _ hp => hF _ _ _ _ hp)
 ·exact .inr h
theorem Ls.step (hF : Fl d) (h : Ls d te base t L W v xs) (k : Chg X L W L' W') (hX : ¬ X t) : Ls d te base t L' W' v xs := h.move hF (fun b hb => k.keep b (h.lt hb) (by rw [h.lab hb]; exact hX))
theorem Cpy.soft_ (h : Cpy d v xs L W) (k : Soft L W L' W') : Cpy d v xs L' W' := by
 obtain ⟨A, c, e, hc, hf⟩ := h
 exact ⟨A, c, e, hc, hf.step k⟩
end
/-- one kind: ps what waits, with its notes; os what is out, with what it was told; fs what is written and not laid on yet -/
structure Kr {α : Type} (d : Kd α) (te base t : Nat) (L : Nat → Nat) (W : World) (ps os : List (Value × Value)) (fs : List Value) : Prop where
 wn : ∀ p ∈ ps, ∃ xs, xs.length ≤ 536870912 ∧ Ls d te base t L W p.1 xs ∧ Cpy d p.2 xs L W
 ot : ∀ p ∈ os, ∃ xs, xs.length ≤ 536871112 ∧ Ls d te base t L W p.1 xs ∧ Cpy d p.2 xs L W
 fr : ∀ v ∈ fs, ∃ xs, xs.length ≤ 536870912 ∧ Ls d te base t L W v xs
 apw : (ps.map Prod.fst ++ fs).Pairwise Ap
 apo : ∀ o ∈ os, ∀ p ∈ ps, Ap o.1 p.1
 apf : ∀ o ∈ os, ∀ f ∈ fs, Un o.1 f
/-- a list that is neither waiting nor fresh, under which what is out may lie -/
structure Cur (ps os : List (Value × Value)) (fs : List Value) (g : Value) : Prop where
 w : ∀ p ∈ ps, Ap g p.1
 f : ∀ f ∈ fs, Ap g f
 o : ∀ o ∈ os, Un o.1 g
section
variable {α : Type} {d : Kd α} {te base t b : Nat} {u v v' : Value} {xs : List α} {L L' : Nat → Nat} {W W' : World} {X : Nat → Prop} {ps ps1 ps2 os : List (Value × Value)} {fs : List Value}
theorem Kr.nil (d : Kd α) (te base t : Nat) (L : Nat → Nat) (W : World) : Kr d te base t L W [] [] [] := ⟨by simp, by simp, by simp, by simp, by simp, by simp⟩
/-- any change: what each list asks for -/
theorem Kr.move (hF : Fl d) (h : Kr d te base t L W ps os fs) (hs : Soft L W L' W') (hp : ∀ p ∈ ps, ∀ xs, Ls d te base t L W p.1 xs → Ls d te base t L' W' p.1 xs) (ho : ∀ p ∈ os, ∀ xs, Ls d te base t L W p.1 xs → Ls d te base t L' W' p.1 xs) (hf : ∀ v ∈ fs, ∀ xs, Ls d te base t L W v xs → Ls d te base t L' W' v xs) : Kr d te base t L' W' ps os fs where
 wn := fun p hm => by
  obtain ⟨xs, h1, h2, h3⟩ := h.wn p hm
  exact ⟨xs, h1, hp p hm xs h2, h3.soft_ hs⟩
 ot := fun p hm => by
  obtain ⟨xs, h1, h2, h3⟩ := h.ot p hm
  exact ⟨xs, h1, ho p hm xs h2, h3.soft_ hs⟩
 fr := fun p hm => by
  obtain ⟨xs, h1, h2⟩ := h.fr p hm
  exact ⟨xs, h1, hf p hm xs h2⟩
 apw := h.apw
 apo := h.apo
 apf := h.apf
theorem Kr.step (hF : Fl d) (h : Kr d te base t L W ps os fs) (k : Chg X L W L' W') (hX : ¬ X t) (h0 : ¬ X 0) : Kr d te base t L' W' ps os fs :=
 h.move hF (k.soft h0) (fun _ _ _ hl => hl.step hF k hX) (fun _ _ _ hl => hl.step hF k hX) (fun _ _ _ hl => hl.step hF k hX)
/-- one block alone is written, and it is none of theirs -/
theorem Kr.off (hF : Fl d) (h : Kr d te base t L W ps os fs) (hz : W.heap.size ≤ W'.heap.size) (hk : ∀ k, k < W.heap.size → k ≠ b → W'.heap[k]? = W.heap[k]? ∧ L' k = L k) (hb : L b ≠ 0) (hp : ∀ p ∈ ps, rmb p.1 ≠ some b) (ho : ∀ p ∈ os, rmb p.1 ≠ some b) (hf : ∀ v ∈ fs, rmb v ≠ some b) : Kr d te base t L' W' ps os fs :=
 h.move hF ⟨hz, fun k hk' h0 => by
   have := hk k hk' (fun e => hb (by rw [← e]; exact h0))
   exact ⟨this.1, by rw [this.2, h0]⟩⟩
  (fun p hm _ hl => hl.move hF (fun k hkb => hk k (hl.lt hkb) (fun e => hp p hm (by rw [hkb, e]))))
  (fun p hm _ hl => hl.move hF (fun k hkb => hk k (hl.lt hkb) (fun e => ho p hm (by rw [hkb, e]))))
  (fun p hm _ hl => hl.move hF (fun k hkb => hk k (hl.lt hkb) (fun e => hf p hm (by rw [hkb, e]))))
theorem Kr.push (h : Kr d te base t L W ps os []) (hv : Ls d te base t L W v xs) (hu : Cpy d u xs L W) (hl : xs.length ≤ 536870912) (ha : ∀ p ∈ ps, Ap p.1 v) (ho : ∀ o ∈ os, Ap o.1 v) : Kr d te base t L W (ps ++ [(v, u)]) os [] where
 wn := fun p hm => by
  rcases List.mem_append.1 hm with hm | hm
  ·exact h.wn p hm
  ·obtain rfl := List.mem_singleton.1 hm
   exact ⟨xs, hl, hv, hu⟩
 ot := h.ot
 fr := h.fr
 apw := by
  have h1 := h.apw
  rw [List.append_nil] at h1 ⊢
  rw [List.map_append, List.pairwise_append]
  refine ⟨h1, by simp, fun x hx y hy => ?_⟩
  obtain ⟨p, hp, rfl⟩ := List.mem_map.1 hx
  obtain rfl : y = v := by simpa using hy
  exact ha p hp
 apo := fun o hm p hp => by
  rcases List.mem_append.1 hp with hp | hp
  ·exact h.apo o hm p hp
  ·obtain rfl := List.mem_singleton.1 hp
   exact ho o hm
 apf := fun o hm f hf => by simp at hf
/-- a list that waits is taken out -/
theorem Kr.take (h : Kr d te base t L W (ps1 ++ (v, u) :: ps2) os fs) : Kr d te base t L W (ps1 ++ ps2) os fs ∧ (∃ xs, xs.length ≤ 536870912 ∧ Ls d te base t L W v xs ∧ Cpy d u xs L W) ∧ (∀ p ∈ ps1 ++ ps2, Ap v p.1) ∧ (∀ f ∈ fs, Ap v f) ∧ (∀ o ∈ os, Ap o.1 v) := by
 have hsub : ∀ p, p ∈ ps1 ++ ps2 → p ∈ ps1 ++ (v, u) :: ps2 := fun p hp => by
  rcases List.mem_append.1 hp with hp | hp
  ·exact List.mem_append_left _ hp
  ·exact List.mem_append_right _ (List.mem_cons_of_mem _ hp)
 have hme : (v, u) ∈ ps1 ++ (v, u) :: ps2 := List.mem_append_right _ List.mem_cons_self
 have ha := h.apw
 rw [List.map_append, List.map_cons, List.append_assoc, List.cons_append, List.pairwise_append, List.pairwise_cons] at ha
 obtain ⟨a1, ⟨a2, a3⟩, a4⟩ := ha
 refine ⟨⟨fun p hp => h.wn p (hsub p hp), h.ot, h.fr, ?_, fun o ho p hp => h.apo o ho p (hsub p hp), h.apf⟩, h.wn _ hme, fun p hp => ?_, fun f hf => a2 f (List.mem_append_right _ hf), fun o ho => h.apo o ho _ hme⟩
 ·rw [List.map_append, List.append_assoc, List.pairwise_append]
  exact ⟨a1, a3, fun x hx y hy => a4 x hx y (List.mem_cons_of_mem _ hy)⟩
 ·rcases List.mem_append.1 hp with hp | hp
  ·exact (a4 p.1 (List.mem_map.2 ⟨p, hp, rfl⟩) v List.mem_cons_self).symm
  ·exact a2 p.1 (List.mem_append_left _ (List.mem_map.2 ⟨p, hp, rfl⟩))
/-- it was written, is out, and fresh -/
theorem Kr.put (h : Kr d te base t L W ps os fs) (hv : Ls d te base t L W v xs) (hu : Cpy d u xs L W) (hl : xs.length ≤ 536870912) (ha : ∀ p ∈ ps, Ap v p.1) (hf : ∀ f ∈ fs, Ap v f) (ho : ∀ o ∈ os, Ap o.1 v) : Kr d te base t L W ps (os ++ [(v, u)]) (fs ++ [v]) where
 wn := h.wn
 ot := fun p hm => by
  rcases List.mem_append.1 hm with hm | hm
  ·exact h.ot p hm
  ·obtain rfl := List.mem_singleton.1 hm
   exact ⟨xs, by omega, hv, hu⟩
 fr := fun p hm => by
  rcases List.mem_append.1 hm with hm | hm
  ·exact h.fr p hm
  ·obtain rfl := List.mem_singleton.1 hm
   exact ⟨xs, hl, hv⟩
 apw := by
  rw [← List.append_assoc, List.pairwise_append]
  refine ⟨h.apw, by simp, fun x hx y hy => ?_⟩
  obtain rfl : y = v := by simpa using hy
  rcases List.mem_append.1 hx with hx | hx
  ·obtain ⟨p, hp, rfl⟩ := List.mem_map.1 hx
   exact (ha p hp).symm
  ·exact (hf x hx).symm
 apo := fun o hm p hp => by
  rcases List.mem_append.1 hm with hm | hm
  ·exact h.apo o hm p hp
  ·obtain rfl := List.mem_singleton.1 hm
   exact ha p hp
 apf := fun o hm f hm2 => by
  rcases List.mem_append.1 hm with h1 | h1
  ·rcases List.mem_append.1 hm2 with h2 | h2
   ·exact h.apf o h1 f h2
   ·have e := List.mem_singleton.1 h2
    rw [e]
    exact (ho o h1).un
  ·have e := List.mem_singleton.1 h1
   rw [e]
   rcases List.mem_append.1 hm2 with h2 | h2
   ·exact (hf f h2).un
   ·have e2 := List.mem_singleton.1 h2
    rw [e2]
    exact fun _ _ _ => Nat.le_refl _
/-- a fresh list is taken out -/
theorem Kr.takef (h : Kr d te base t L W ps os (v :: fs)) : Kr d te base t L W ps os fs ∧ (∃ xs, xs.length ≤ 536870912 ∧ Ls d te base t L W v xs) ∧ Cur ps os fs v := by
 have ha := h.apw
 rw [List.pairwise_append, List.pairwise_cons] at ha
 obtain ⟨a1, ⟨a2, a3⟩, a4⟩ := ha
 refine ⟨⟨h.wn, h.ot, fun f hf => h.fr f (List.mem_cons_of_mem _ hf), ?_, h.apo, fun o ho f hf => h.apf o ho f (List.mem_cons_of_mem _ hf)⟩, h.fr v List.mem_cons_self, fun p hp => (a4 p.1 (List.mem_map.2 ⟨p, hp, rfl⟩) v List.mem_cons_self).symm, a2, fun o ho => h.apf o ho v List.mem_cons_self⟩
 rw [List.pairwise_append]
 exact ⟨a1, a3, fun x hx y hy => a4 x hx y (List.mem_cons_of_mem _ hy)⟩
/-- it was laid on, and is out -/
theorem Kr.putf (h : Kr d te base t L W ps os fs) (hv : Ls d te base t L W v xs) (hu : Cpy d u xs L W) (hl : xs.length ≤ 536871112) (hc : Cur ps os fs v) : Kr d te base t L W ps (os ++ [(v, u)]) fs where
 wn := h.wn
 ot := fun p hm => by
  rcases List.mem_append.1 hm with hm | hm
  ·exact h.ot p hm
  ·obtain rfl := List.mem_singleton.1 hm
   exact ⟨xs, hl, hv, hu⟩
 fr := h.fr
 apw := h.apw
 apo := fun o hm p hp => by
  rcases List.mem_append.1 hm with hm | hm
  ·exact h.apo o hm p hp
  ·obtain rfl := List.mem_singleton.1 hm
   exact hc.w p hp
 apf := fun o hm f hf => by
  rcases List.mem_append.1 hm with hm | hm
  ·exact h.apf o hm f hf
  ·obtain rfl := List.mem_singleton.1 hm
   exact (hc.f f hf).un
end
/-- one element is laid behind list g: the list behind it is g' -/
structure Gw (te sz : Nat) (W W' : World) (g g' : Value) : Prop where
 same : Same3 W W'
 size : W.heap.size ≤ W'.heap.size
 far : ∀ k, k < W.heap.size → rmb g ≠ some k → W'.heap[k]? = W.heap[k]?
 own : ∀ b cur, rmb g = some b → W.heap[b]? = some (.cells cur te (0, 0)) → ∃ cur', W'.heap[b]? = some (.cells cur' te (0, 0)) ∧ cur'.size = cur.size ∧ cur'.toList.take (lenV g * sz) = cur.toList.take (lenV g * sz)
 at_ : rmb g' = rmb g ∨ ∃ b, rmb g' = some b ∧ W.heap.size ≤ b
 len : lenV g ≤ lenV g'
section
variable {α : Type} {d : Kd α} {te base t : Nat} {g g' v : Value} {xs ys : List α} {L : Nat → Nat} {W W' : World} {ps os : List (Value × Value)} {fs : List Value}
theorem Ls.gw (hF : Fl d) (hg : Gw te d.sz W W' g g') (hv : Ls d te base t L W v xs) (hu : Un v g) : Ls d te base t (lab1 L W.heap.size t) W' v xs := by
 refine hv.grew hF (fun b cur hb hc => ?_)
 have hlt := hv.lt hb
 by_cases e : rmb g = some b
 ·obtain ⟨cur', h1, h2, h3⟩ := hg.own b cur e hc
  refine ⟨cur', h1, h2, ?_, lab1_old hlt⟩
  have hle := Nat.mul_le_mul_right d.sz (hu b hb e)
  have h4 := congrArg (List.take (lenV v * d.sz)) h3
  rw [List.take_take, List.take_take, Nat.min_eq_left hle] at h4
  exact h4
 ·exact ⟨cur, (hg.far b hlt e).trans hc, rfl, rfl, lab1_old hlt⟩
theorem Gw.chg (hg : Gw te d.sz W W' g g') (hl : Ls d te base t L W g xs) : Chg (Is t) L W (lab1 L W.heap.size t) W' := ⟨hg.size, fun k hk hx => ⟨hg.far k hk (fun e => hx (hl.lab e)), lab1_old hk⟩⟩
theorem Kr.gw (hF : Fl d) (ht : t ≠ 0) (h : Kr d te base t L W ps os fs) (hl : Ls d te base t L W g ys) (hg : Gw te d.sz W W' g g') (hc : Cur ps os fs g) : Kr d te base t (lab1 L W.heap.size t) W' ps os fs ∧ Cur ps os fs g' := by
 refine ⟨h.move hF ((hg.chg hl).soft (fun h0 => ht h0.symm)) (fun p hp _ hx => hx.gw hF hg (hc.w p hp).symm.un) (fun p hp _ hx => hx.gw hF hg (hc.o p hp)) (fun p hp _ hx => hx.gw hF hg (hc.f p hp).symm.un), fun p hp b h1 h2 => ?_, fun p hp b h1 h2 => ?_, fun p hp b h1 h2 => ?_⟩
 ·obtain ⟨ys, _, hy, _⟩ := h.wn p hp
  rcases hg.at_ with e | ⟨b', e, hb'⟩
  ·exact hc.w p hp b (by rw [← e]; exact h1) h2
  ·have := hy.lt h2
   rw [e] at h1
   obtain rfl := Option.some.inj h1
   omega
 ·obtain ⟨ys, _, hy⟩ := h.fr p hp
  rcases hg.at_ with e | ⟨b', e, hb'⟩
  ·exact hc.f p hp b (by rw [← e]; exact h1) h2
  ·have := hy.lt h2
   rw [e] at h1
   obtain rfl := Option.some.inj h1
   omega
 ·obtain ⟨ys, _, hy, _⟩ := h.ot p hp
  rcases hg.at_ with e | ⟨b', e, hb'⟩
  ·exact Nat.le_trans (hc.o p hp b h1 (by rw [← e]; exact h2)) hg.len
  ·have := hy.lt h1
   rw [e] at h2
   obtain rfl := Option.some.inj h2
   omega
end
section
variable {P : Program} {α : Type} {d : Kd α} {te base t : Nat} {g : Value} {xs : List α} {L : Nat → Nat} {W : World}
theorem run_append_ls (hF : Fl d) (hl : Ls d te base t L W g xs) (tt ty : TypeId) (z : Value) (bytes : Nat) (ht : P.underlying tt = some (.slice te)) (hinfo : (P.info? te).map (fun i => (i.zero, i.size, i.bytes)) = some (some z, d.sz, bytes)) (hz : z.cells.size = d.sz) (hs0 : 0 < d.sz) (hb0 : 0 < bytes)
  (x : α) (cs : List Value) (hK : d.K W x cs) (hbase : base ≤ W.heap.size) (hn : (xs.length + 1) * bytes ≤ 140737488355328) :
  ∃ g' W', (Builtin.append_ #[tt, tt] ty #[g, .slice (some ⟨W.heap.size, 0, none⟩) 1 1]).run P (W.alloc (.cells cs.toArray te)) = .ok g' W' ∧ Ls d te base t (lab1 L W.heap.size t) W' g' (xs ++ [x]) ∧ Gw te d.sz W W' g g' := by
 obtain ⟨i0, hi, hzz⟩ := Option.map_eq_some_iff.1 hinfo
 simp only [Prod.mk.injEq] at hzz
 obtain ⟨hz0, hz1, hz2⟩ := hzz
 have hlen : xs.length + 1 ≤ 140737488355328 := Nat.le_trans (Nat.le_mul_of_pos_right _ hb0) hn
 have hcl : cs.length = d.sz := d.K_len hK
 have hnews : ∀ j u, cs[j]? = some u → (W.alloc (.cells cs.toArray te)).cell? ((⟨W.heap.size, 0, none⟩ : Addr).add j) = some u := by
  simpa using World.news_of_block (cs := cs.toArray) (t := te) (fr := (0, 0)) (heap_alloc_new W (.cells cs.toArray te))
 have hsz : (W.alloc (.cells cs.toArray te)).heap.size = W.heap.size + 1 := by simp
 -- a new row: nothing old has changed
 have new : ∀ (g' : Value) (W' : World) (inner : List Value), W'.ownsRow W.heap.size te d.sz g' (xs.length + 1) (inner ++ cs) → (W.alloc (.cells cs.toArray te)).grownBy W' none → Reps (d.K W') d.sz xs inner → Ls d te base t (lab1 L W.heap.size t) W' g' (xs ++ [x]) ∧ Gw te d.sz W W' g g' := by
  intro g' W' inner ho hgr hr
  have hO : OwnRow (d.K W') te d.sz W' base g' (xs ++ [x]) := ⟨inner ++ cs, by simpa using own_weaken ho hbase, hr.snoc (hF _ _ _ _ hK) hcl⟩
  have hold : ∀ k, k < W.heap.size → W'.heap[k]? = W.heap[k]? := fun k hk => (hgr.block k (by omega) (by simp)).trans (heap_alloc_old W _ hk)
  refine ⟨Ls.of hO (fun b hb => lab1_new (own_base ho b (rmb_own hb))), ⟨hgr.os, hgr.tape, hgr.output⟩, by have := hgr.size; omega, fun k hk _ => hold k hk, fun b cur hb hc => ⟨cur, (hold b (blk_lt hc)).trans hc, rfl, rfl⟩, ?_, ?_⟩
  ·obtain ⟨b, c, rfl, hb, hc⟩ := ho.form (by omega)
   rcases c with _ | c
   ·have := own_le ho; omega
   ·exact .inr ⟨b, rfl, hb⟩
  ·obtain ⟨A, c, rfl⟩ := own_slice ho
   rw [hl.len_]; show _ ≤ xs.length + 1; omega
 have hgrow : ∀ (a : Addr) (cap : Nat), g = .slice (some a) xs.length cap → cap < xs.length + 1 → ∀ inner, inner.length = xs.length * d.sz → Reps (d.K W) d.sz xs inner → (∀ j u, inner[j]? = some u → W.cell? (a.add j) = some u) → ∃ g' W', (Builtin.append_ #[tt, tt] ty #[g, .slice (some ⟨W.heap.size, 0, none⟩) 1 1]).run P (W.alloc (.cells cs.toArray te)) = .ok g' W' ∧ Ls d te base t (lab1 L W.heap.size t) W' g' (xs ++ [x]) ∧ Gw te d.sz W W' g g' := by
  intro a cap hg hc inner h1 h2 h3
  obtain ⟨g', W', hrun, r1, r2⟩ := run_append_arg_grows (P := P) (W.alloc (.cells cs.toArray te)) tt ty te i0 z d.sz bytes ht hi hz0 hz1 hz2 hz hs0 a xs.length cap inner h1 (fun j u hu => (World.cell?_alloc_lt _ _ _ (World.block_lt_of_cell? _ _ (h3 j u hu))).trans (h3 j u hu)) ⟨W.heap.size, 0, none⟩ 1 1 cs (by rw [hcl, Nat.one_mul]) hnews hc (by unfold maxLen; omega) hn
  rw [hg]
  rw [hg] at new
  have hr' : Reps (d.K W') d.sz xs inner := h2.imp_ (fun _ _ hp => hF _ _ _ _ hp)
  have := new g' W' inner (own_weaken r1 (by omega)) r2 hr'
  exact ⟨g', W', hrun, this⟩
 rcases hl with ⟨b, c, cur, rfl, hb, hg, hn1, hm, hs, hr, hlb⟩ | ⟨rfl, A, rfl⟩
 ·have hcell : ∀ j u, (cur.toList.take (xs.length * d.sz))[j]? = some u → W.cell? ((⟨b, 0, none⟩ : Addr).add j) = some u := fun j u hu => by
   rw [add_plain, blk_cell hg]
   rw [List.getElem?_take] at hu
   split at hu
   ·simpa using hu
   ·cases hu
  by_cases hroom : xs.length + 1 ≤ c + 1
  ·have hbl := blk_lt hg
   have hg1 : (W.alloc (.cells cs.toArray te)).heap[b]? = some (.cells cur te (0, 0)) := (heap_alloc_old W _ hbl).trans hg
   have hfit : xs.length * d.sz + cs.length ≤ cur.size := by rw [hcl, hs, ← Nat.succ_mul]; exact Nat.mul_le_mul_right _ hroom
   have hrun := run_append_room (P := P) (W.alloc (.cells cs.toArray te)) tt ty te i0 ht hi b xs.length (c + 1) cur hg1 ⟨W.heap.size, 0, none⟩ 1 1 cs (by rw [hcl, hz1, Nat.one_mul]) hnews (d.K_one hK) hroom (by rw [hz1]; exact hfit)
   rw [hz1] at hrun
   refine ⟨_, _, hrun, .inl ⟨b, c, _, by simp, hb, setRow_heap _ b cur _ te _ hg1, by simpa using hroom, hm, ?_, ?_, (lab1_old hbl).trans hlb⟩, ⟨rfl, rfl, rfl⟩, by simp, fun k hk he => ?_, fun b' cur' hb' hc' => ?_, .inl rfl, Nat.le_succ _⟩
   ·simp only [List.size_toArray, List.length_append, List.length_take, List.length_drop, Array.length_toList]
    omega
   ·have hl1 : (cur.toList.take (xs.length * d.sz) ++ cs).length = (xs ++ [x]).length * d.sz := by
     rw [List.length_append, hr.1, hcl, List.length_append, List.length_singleton, Nat.add_mul, Nat.one_mul]
    have e1 : ((cur.toList.take (xs.length * d.sz) ++ cs ++ cur.toList.drop (xs.length * d.sz + cs.length)).toArray.toList.take ((xs ++ [x]).length * d.sz)) = cur.toList.take (xs.length * d.sz) ++ cs := by
     rw [← hl1]; exact List.take_left
    rw [e1]
    exact Reps.snoc (hr.imp_ (fun _ _ hp => hF _ _ _ _ hp)) (hF _ _ _ _ hK) hcl
   ·exact (setRow_other _ b k _ (fun e => he (by rw [e]; rfl))).trans (heap_alloc_old W _ hk)
   ·obtain rfl : b = b' := by simpa [rmb] using hb'
    rw [hg] at hc'
    injection hc' with hc'
    injection hc' with e1
    subst e1
    refine ⟨_, setRow_heap _ b cur _ te _ hg1, ?_, ?_⟩
    ·simp only [List.size_toArray, List.length_append, List.length_take, List.length_drop, Array.length_toList]
     omega
    ·show List.take (xs.length * d.sz) (cur.toList.take (xs.length * d.sz) ++ cs ++ cur.toList.drop (xs.length * d.sz + cs.length)) = List.take (xs.length * d.sz) cur.toList
     rw [List.append_assoc, List.take_append_of_le_length (by rw [hr.1]; exact Nat.le_refl _), List.take_take, Nat.min_self]
  ·exact hgrow ⟨b, 0, none⟩ (c + 1) rfl (by omega) _ hr.1 hr hcell
 ·rcases A with _ | a
  ·have hown : (W.alloc (.cells cs.toArray te)).ownsRow W.heap.size te d.sz (.slice none 0 0) 0 [] := own_nil _ _ _ _
   obtain ⟨g', W', hrun, r1, r2, _⟩ := run_append_own (P := P) (W.alloc (.cells cs.toArray te)) W.heap.size tt ty te i0 z d.sz bytes ht hi hz0 hz1 hz2 hz hs0 (.slice none 0 0) 0 [] hown ⟨W.heap.size, 0, none⟩ 1 1 cs (by rw [hcl, Nat.one_mul]) hnews (d.K_one hK) (by unfold maxLen; omega) (by simpa using hn) (by omega)
   exact ⟨g', W', hrun, new g' W' [] (by simpa using r1) (by simpa [Value.ownBlock] using r2) (Reps.none _ _)⟩
  ·exact hgrow a 0 rfl (by simp) [] (by simp) (Reps.none _ _) (fun j u hu => by simp at hu)
end

end Go.Proofs.YtfomjbbebgajcaaGreatDoor.Rm
/- crierkept.Book: its state: rows, scalars, and facts that stay while the rows turn. -/
namespace Go.Proofs.YtfomjbbebgajcaaGreatDoor.Rm
open Go.RowKit Go.Proofs.YtfomjbbebgajcaaGreatDoorW.PrintWords Go.Proofs.YtfomjbbebgajcaaGreatDoorW.PrintLast Go.Proofs.YtfomjbbebgajcaaGreatDoorW.PrintMore
set_option linter.unusedVariables false
set_option linter.unusedSimpArgs false
/-- a fact that stays while what has a label in X turns -/
def Stb (X : Nat → Prop) (F : (Nat → Nat) → World → Prop) : Prop := ∀ L w L' w', F L w → Chg X L w L' w' → Same3 w w' → F L' w'
/-- the book's labels, and t -/
def Yt (t x : Nat) : Prop := Bl x ∨ x = t
section
variable {X Y : Nat → Prop} {F G : (Nat → Nat) → World → Prop}
theorem Stb.and (h : Stb X F) (k : Stb X G) : Stb X (fun L w => F L w ∧ G L w) := fun L w L' w' hh c s => ⟨h _ _ _ _ hh.1 c s, k _ _ _ _ hh.2 c s⟩
theorem Stb.mono (h : Stb X F) (k : ∀ x, Y x → X x) : Stb Y F := fun L w L' w' hh c s => h _ _ _ _ hh (c.mono k) s
theorem Kr.stb {α : Type} {d : Kd α} {te base t : Nat} {ps os : List (Value × Value)} {fs : List Value} (hF : Fl d) (ht : ¬ X t) (h0 : ¬ X 0) : Stb X (fun L w => Kr d te base t L w ps os fs) := fun L w L' w' hh c s => hh.step hF c ht h0
end
/-- a row that was taken out of the book -/
structure Old (base e t : Nat) (V : Value) (xs : List Value) (L : Nat → Nat) (w : World) : Prop where
 own : w.ownsRow base e 1 V xs.length xs
 lab : ∀ k, V.ownBlock = some k → L k = t
theorem Old.stb {X : Nat → Prop} {base e t : Nat} {V : Value} {xs : List Value} (ht : ¬ X t) : Stb X (Old base e t V xs) := fun L w L' w' hh c s =>
 ⟨own_move hh.own (fun b hb => (c.keep b (own_lt hh.own b hb) (by rw [hh.lab b hb]; exact ht)).1), fun b hb => ((c.keep b (own_lt hh.own b hb) (by rw [hh.lab b hb]; exact ht)).2).trans (hh.lab b hb)⟩
/-- place j of a row that was taken out -/
theorem Old.place {base e t : Nat} {V : Value} {xs : List Value} {L : Nat → Nat} {w : World} (h : Old base e t V xs L w) {j : Nat} {v : Value} (hj : xs[j]? = some v) : ∃ b c, V = .slice (some ⟨b, 0, none⟩) xs.length c ∧ xs.length ≤ c ∧ b < w.heap.size ∧ w.cell? ⟨b, j, none⟩ = some v ∧ L b = t := by
 obtain ⟨b, c, e1, h1, h2, h3⟩ := own_place h.own hj
 exact ⟨b, c, e1, h1, h2, h3, h.lab b (by rw [e1]; rfl)⟩
/-- what lies below the call's start stays; which labels may have turned since (L0, ws) -/
structure Bas (base : Nat) (w0 : World) (X : Nat → Prop) (L0 : Nat → Nat) (ws : World) (L : Nat → Nat) (w : World) : Prop where
 low : ∀ k, k < base → L k = 0
 sz : base ≤ w.heap.size
 bel : Below base w0 w
 chg : Chg X L0 ws L w
structure Bst (et : Nat → TypeId) (tB base g : Nat) (F : (Nat → Nat) → World → Prop) (bad : Bool) (turn deep : Int) (seen : Nat → Int) (L : Nat → Nat) (w : World) (N : Nat) (cs : Array Value) (D : Nat → List Value) : Prop where
 B : Bok et tB L base w g N cs D
 S : Sc cs false bad turn deep seen
 F : F L w
section
variable {et : Nat → TypeId} {tB base g t : Nat} {F G : (Nat → Nat) → World → Prop} {bad : Bool} {turn deep : Int} {seen : Nat → Int} {L : Nat → Nat} {w wa W : World} {N : Nat} {cs : Array Value} {D D' : Nat → List Value}
theorem yt_bl : ∀ x, Bl x → Yt t x := fun _ h => .inl h
theorem yt_is : ∀ x, Is t x → Yt t x := fun _ h => .inr h
theorem Bst.imp (h : Bst et tB base g F bad turn deep seen L w N cs D) (k : ∀ L w, F L w → G L w) : Bst et tB base g G bad turn deep seen L w N cs D := ⟨h.B, h.S, k _ _ h.F⟩
theorem Bst.cell (h : Bst et tB base g F bad turn deep seen L w N cs D) (j : Nat) : w.cell? ⟨g, j, none⟩ = cs[j]? := blk_cell h.B.blk j
theorem Bst.push (h : Bst et tB base g F bad turn deep seen L w N cs D) (hF : Stb Bl F) {i : Nat} (hi : i < 168) {V V' v : Value} (hV : cs[slot i]? = some V) (ha : w.grownBy wa V.ownBlock)
  (ho : wa.ownsRow base (et i) 1 V' ((D i).length + 1) (D i ++ [v])) (hat : V'.ownBlock = V.ownBlock ∨ ∃ b, V'.ownBlock = some b ∧ w.heap.size ≤ b) :
  Bst et tB base g F bad turn deep seen (lab1 L w.heap.size (400 + i)) (wa.setCell ⟨g, slot i, none⟩ V') (N + 1) (cs.setIfInBounds (slot i) V') (fun j => if j = i then D i ++ [v] else D j) := by
 obtain ⟨n0, n1⟩ := h.B.push hi hV ha ho hat
 exact ⟨n0, h.S.row i V' hi, hF _ _ _ _ h.F n1.chg ⟨ha.os, ha.tape, ha.output⟩⟩
theorem Bst.new (h : Bst et tB base g F bad turn deep seen L w N cs D) (hF : Stb Bl F) (t : Nat) (hb : Below w.heap.size w W) : Bst et tB base g F bad turn deep seen (lab1 L w.heap.size t) W N cs D := by
 have hn := on_new (L := L) t hb
 exact ⟨h.B.step hn (fun _ hx => hx.elim), h.S, hF _ _ _ _ h.F (hn.mono (fun _ hx => hx.elim)).chg ⟨hb.os, hb.tape, hb.output⟩⟩
theorem Bst.drew (h : Bst et tB base g F bad turn deep seen L w N cs D) (hF : Stb Bl F) : Bst et tB base g F bad turn deep seen L w.drew N cs D :=
 ⟨h.B.step (only_drew (X := No)) (fun _ hx => hx.elim), h.S, hF _ _ _ _ h.F ((only_drew (X := No)).mono (fun _ hx => hx.elim)).chg s3_drew⟩
theorem Bst.drewN (h : Bst et tB base g F bad turn deep seen L w N cs D) (hF : Stb Bl F) (n : Nat) : Bst et tB base g F bad turn deep seen L (w.drewN n) N cs D :=
 have hn : Only No L w L (w.drewN n) := ⟨Nat.le_refl _, fun _ _ _ => rfl, fun _ _ => rfl⟩
 ⟨h.B.step hn (fun _ hx => hx.elim), h.S, hF _ _ _ _ h.F (hn.mono (fun _ hx => hx.elim)).chg ⟨rfl, rfl, rfl⟩⟩
theorem Bst.scalar (h : Bst et tB base g F bad turn deep seen L w N cs D) (hF : Stb Bl F) {s : Nat} (u : Value) {bad' : Bool} {turn' deep' : Int} {seen' : Nat → Int} (hs : ∀ i, i < 168 → slot i ≠ s) (hS : Sc (cs.setIfInBounds s u) false bad' turn' deep' seen') :
  Bst et tB base g F bad' turn' deep' seen' L (w.setCell ⟨g, s, none⟩ u) N (cs.setIfInBounds s u) D := by
 obtain ⟨n0, n1⟩ := h.B.scalar u hs
 exact ⟨n0, hS, hF _ _ _ _ h.F n1.chg ⟨rfl, rfl, rfl⟩⟩
/-- row i is taken out: nil stands in its place -/
theorem Bst.clear (h : Bst et tB base g F bad turn deep seen L w N cs D) (hF : Stb Bl F) {i : Nat} (hi : i < 168) {V : Value} (hV : cs[slot i]? = some V) {t : Nat} (ht : ¬ Bl t) (ht0 : t ≠ 0) :
  Bst et tB base g (fun L w => F L w ∧ Old base (et i) t V (D i) L w) bad turn deep seen (relb L V t) (w.setCell ⟨g, slot i, none⟩ (.slice none 0 0)) N (cs.setIfInBounds (slot i) (.slice none 0 0)) (fun j => if j = i then [] else D j) := by
 obtain ⟨n0, n1, n2, n3, n4⟩ := h.B.clear hi hV ht ht0
 refine ⟨n0, h.S.row i _ hi, hF _ _ _ _ h.F ⟨by simp [World.setCell], fun k hk hx => ⟨n3 k (fun e => hx (by rw [e, h.B.lab]; exact ⟨by decide, by decide⟩)), n4 k hx⟩⟩ ⟨rfl, rfl, rfl⟩, n1, n2⟩
theorem Bst.clear0 (h : Bst et tB base g F bad turn deep seen L w N cs D) (hF : Stb Bl F) {i : Nat} (hi : i < 168) :
  Bst et tB base g F bad turn deep seen L (w.setCell ⟨g, slot i, none⟩ (.slice none 0 0)) N (cs.setIfInBounds (slot i) (.slice none 0 0)) (fun j => if j = i then [] else D j) := by
 obtain ⟨n0, n1⟩ := h.B.clear0 hi
 exact ⟨n0, h.S.row i _ hi, hF _ _ _ _ h.F n1.chg ⟨rfl, rfl, rfl⟩⟩
theorem Bst.bound (h : Bst et tB base g F bad turn deep seen L w N cs D) {M : Nat} (hM : ∀ i, i < 168 → (D i).length ≤ M) : Bst et tB base g F bad turn deep seen L w M cs D :=
 ⟨⟨h.B.blk, h.B.lab, h.B.ge, h.B.size, h.B.ne, fun i hi => by
  obtain ⟨V, h1, h2, h3, h4⟩ := h.B.row i hi
  exact ⟨V, h1, hM i hi, h3, h4⟩⟩, h.S, h.F⟩
theorem Bst.row (h : Bst et tB base g F bad turn deep seen L w N cs D) (i : Nat) (hi : i < 168) (s : Nat) (hs : slot i = s) : ∃ V, cs[s]? = some V ∧ w.cell? ⟨g, s, none⟩ = some V ∧ (D i).length ≤ N ∧ w.ownsRow base (et i) 1 V (D i).length (D i) ∧ (∃ A c, V = .slice A (D i).length c) ∧ ∀ k, V.ownBlock = some k → L k = 400 + i := by
 obtain ⟨V, h1, h2, h3, h4⟩ := h.B.row i hi
 subst hs
 exact ⟨V, h1, (h.cell _).trans h1, h2, h3, own_slice h3, h4⟩
theorem Bst.relD (h : Bst et tB base g F bad turn deep seen L w N cs D) (hD : D = D') : Bst et tB base g F bad turn deep seen L w N cs D' := hD ▸ h
end
section
variable {α : Type} {d : Kd α} {te base t : Nat} {et : Nat → TypeId} {tB g : Nat} {G : (Nat → Nat) → World → Prop} {bad : Bool} {turn deep : Int} {seen : Nat → Int} {L : Nat → Nat} {w W : World} {N : Nat} {cs : Array Value} {D : Nat → List Value} {ps os : List (Value × Value)} {fs : List Value} {v v' : Value} {xs ys : List α} {b : Nat}
/-- kind d's lists, and all that stays -/
def FK (d : Kd α) (te base t : Nat) (G : (Nat → Nat) → World → Prop) (ps os : List (Value × Value)) (fs : List Value) (L : Nat → Nat) (w : World) : Prop := Kr d te base t L w ps os fs ∧ G L w
theorem FK.stb (hF : Fl d) (ht : ¬ Bl t) (hG : Stb (Yt t) G) : Stb Bl (FK d te base t G ps os fs) := (Kr.stb hF ht (fun h : Bl 0 => absurd h.1 (by decide))).and (hG.mono yt_bl)
/-- one block that is none of the lists' is written -/
theorem Bst.write (h : Bst et tB base g (FK d te base t G ps os fs) bad turn deep seen L w N cs D) (hF : Fl d) (ht : ¬ Bl t) (ht0 : t ≠ 0) (hG : Stb (Yt t) G) (hk : One w W b) (hlb : L b = t) (hp : ∀ p ∈ ps, rmb p.1 ≠ some b) (ho : ∀ p ∈ os, rmb p.1 ≠ some b) (hf : ∀ v ∈ fs, rmb v ≠ some b) :
  Bst et tB base g (FK d te base t G ps os fs) bad turn deep seen L W N cs D := by
 have hn := on_one hk hlb
 refine ⟨h.B.step hn (fun x hx => by rw [show x = t from hx]; exact ht), h.S, h.F.1.off hF (Nat.le_of_eq hk.size.symm) (fun k _ hkb => ⟨hk.keep k hkb, rfl⟩) (by rw [hlb]; exact ht0) hp ho hf, hG _ _ _ _ h.F.2 (hn.mono yt_is).chg (s3_one hk)⟩
/-- an element was laid behind list v -/
theorem Bst.gw (h : Bst et tB base g (FK d te base t G ps os fs) bad turn deep seen L w N cs D) (hF : Fl d) (ht : ¬ Bl t) (ht0 : t ≠ 0) (hG : Stb (Yt t) G) (hv : Ls d te base t L w v xs) (hg : Gw te d.sz w W v v') (hc : Cur ps os fs v) :
  Bst et tB base g (FK d te base t G ps os fs) bad turn deep seen (lab1 L w.heap.size t) W N cs D ∧ Cur ps os fs v' := by
 obtain ⟨k1, k2⟩ := h.F.1.gw hF ht0 hv hg hc
 have hn : Only (Is t) L w (lab1 L w.heap.size t) W := ⟨hg.size, fun k hk hx => hg.far k hk (fun e => hx (hv.lab e)), fun k hk => lab1_old hk⟩
 exact ⟨⟨h.B.step hn (fun x hx => by rw [show x = t from hx]; exact ht), h.S, k1, hG _ _ _ _ h.F.2 (hn.mono yt_is).chg hg.same⟩, k2⟩
end
/-- kind k's rows: ps what waits, os what is out, fs what is fresh -/
structure Dsh (k M : Nat) (D : Nat → List Value) (ps os : List (Value × Value)) (fs : List Value) (mq dq fr : List Int) : Prop where
 out : D (8 * k) = os.map Prod.fst
 told : D (8 * k + 1) = os.map Prod.snd
 waits : D (8 * k + 2) = ps.map Prod.fst
 note : D (8 * k + 3) = ps.map Prod.snd
 fresh : D (8 * k + 4) = fs
 mark : D (8 * k + 5) = nums .i64 mq
 due : D (8 * k + 6) = nums .i64 dq
 from_ : D (8 * k + 7) = nums .i64 fr
 lm : mq.length = ps.length
 ld : dq.length = ps.length
 lf : fr.length = fs.length
 le : os.length + 2 * ps.length + fs.length ≤ M
theorem Dsh.len {k M : Nat} {D : Nat → List Value} {ps os : List (Value × Value)} {fs : List Value} {mq dq fr : List Int} (h : Dsh k M D ps os fs mq dq fr) : ∀ i, i / 8 = k → (D i).length ≤ M := fun i hi => by
 have h1 := h.le; have h2 := h.lm; have h3 := h.ld; have h4 := h.lf
 have : i = 8 * k ∨ i = 8 * k + 1 ∨ i = 8 * k + 2 ∨ i = 8 * k + 3 ∨ i = 8 * k + 4 ∨ i = 8 * k + 5 ∨ i = 8 * k + 6 ∨ i = 8 * k + 7 := by omega
 rcases this with e | e | e | e | e | e | e | e <;> subst e
 ·rw [h.out, List.length_map]; omega
 ·rw [h.told, List.length_map]; omega
 ·rw [h.waits, List.length_map]; omega
 ·rw [h.note, List.length_map]; omega
 ·rw [h.fresh]; omega
 ·rw [h.mark, nums_length]; omega
 ·rw [h.due, nums_length]; omega
 ·rw [h.from_, nums_length]; omega
theorem map_at {α β : Type} (f : α → β) {l : List α} {k : Nat} {p : α} (h : l[k]? = some p) : (l.map f)[k]? = some (f p) := by rw [List.getElem?_map, h]; rfl
theorem nums_at {l : List Int} {k : Nat} {x : Int} (h : l[k]? = some x) : (nums .i64 l)[k]? = some (.int .i64 x) := map_at _ h
theorem drop_at {α : Type} {l : List α} {k : Nat} {p : α} (h : l[k]? = some p) : l.drop k = p :: l.drop (k + 1) := by
 obtain ⟨h1, h2⟩ := List.getElem?_eq_some_iff.1 h
 rw [List.drop_eq_getElem_cons h1, h2]
theorem bound_of {k N : Nat} {D D' : Nat → List Value} (h1 : ∀ i, i < 168 → i / 8 ≠ k → D' i = D i) (h2 : ∀ i, i < 168 → (D i).length ≤ N) (h3 : ∀ i, i / 8 = k → (D' i).length ≤ N) : ∀ i, i < 168 → (D' i).length ≤ N := fun i hi => by
 by_cases e : i / 8 = k
 ·exact h3 i e
 ·rw [h1 i hi e]; exact h2 i hi
def upd (D : Nat → List Value) (i : Nat) (x : Value) : Nat → List Value := fun j => if j = i then D i ++ [x] else D j
theorem upd_eq {D : Nat → List Value} {i : Nat} {x : Value} : upd D i x i = D i ++ [x] := if_pos rfl
theorem upd_ne {D : Nat → List Value} {i j : Nat} {x : Value} (h : j ≠ i) : upd D i x j = D j := if_neg h
section
variable {k M : Nat} {D : Nat → List Value} {ps os : List (Value × Value)} {fs : List Value} {mq dq fr : List Int} {v u : Value} {m n : Int}
theorem Dsh.pushW (h : Dsh k M D ps os fs mq dq fr) (hM : os.length + 2 * (ps.length + 1) + fs.length ≤ M) : Dsh k M (upd (upd (upd (upd D (8 * k + 2) v) (8 * k + 3) u) (8 * k + 5) (.int .i64 m)) (8 * k + 6) (.int .i64 n)) (ps ++ [(v, u)]) os fs (mq ++ [m]) (dq ++ [n]) fr where
 out := by rw [upd_ne (by omega), upd_ne (by omega), upd_ne (by omega), upd_ne (by omega)]; exact h.out
 told := by rw [upd_ne (by omega), upd_ne (by omega), upd_ne (by omega), upd_ne (by omega)]; exact h.told
 waits := by rw [upd_ne (by omega), upd_ne (by omega), upd_ne (by omega), upd_eq, h.waits]; simp
 note := by rw [upd_ne (by omega), upd_ne (by omega), upd_eq, upd_ne (by omega), h.note]; simp
 fresh := by rw [upd_ne (by omega), upd_ne (by omega), upd_ne (by omega), upd_ne (by omega)]; exact h.fresh
 mark := by rw [upd_ne (by omega), upd_eq, upd_ne (by omega), upd_ne (by omega), h.mark]; simp [nums]
 due := by rw [upd_eq, upd_ne (by omega), upd_ne (by omega), upd_ne (by omega), h.due]; simp [nums]
 from_ := by rw [upd_ne (by omega), upd_ne (by omega), upd_ne (by omega), upd_ne (by omega)]; exact h.from_
 lm := by simp [h.lm]
 ld := by simp [h.ld]
 lf := h.lf
 le := by simp; omega
theorem Dsh.pushO (h : Dsh k M D ps os fs mq dq fr) (hM : os.length + 1 + 2 * ps.length + (fs.length + 1) ≤ M) : Dsh k M (upd (upd (upd (upd D (8 * k) v) (8 * k + 1) u) (8 * k + 4) v) (8 * k + 7) (.int .i64 m)) ps (os ++ [(v, u)]) (fs ++ [v]) mq dq (fr ++ [m]) where
 out := by rw [upd_ne (by omega), upd_ne (by omega), upd_ne (by omega), upd_eq, h.out]; simp
 told := by rw [upd_ne (by omega), upd_ne (by omega), upd_eq, upd_ne (by omega), h.told]; simp
 waits := by rw [upd_ne (by omega), upd_ne (by omega), upd_ne (by omega), upd_ne (by omega)]; exact h.waits
 note := by rw [upd_ne (by omega), upd_ne (by omega), upd_ne (by omega), upd_ne (by omega)]; exact h.note
 fresh := by rw [upd_ne (by omega), upd_eq, upd_ne (by omega), upd_ne (by omega), h.fresh]
 mark := by rw [upd_ne (by omega), upd_ne (by omega), upd_ne (by omega), upd_ne (by omega)]; exact h.mark
 due := by rw [upd_ne (by omega), upd_ne (by omega), upd_ne (by omega), upd_ne (by omega)]; exact h.due
 from_ := by rw [upd_eq, upd_ne (by omega), upd_ne (by omega), upd_ne (by omega), h.from_]; simp [nums]
 lm := h.lm
 ld := h.ld
 lf := by simp [h.lf]
 le := by simp; omega
/-- (the fresh ones stand in their row till the last one was laid on) -/
theorem Dsh.pushG (h : Dsh k M D ps os fs mq dq fr) {M' : Nat} (hM : os.length + 1 + 2 * ps.length + fs.length ≤ M') : Dsh k M' (upd (upd D (8 * k) v) (8 * k + 1) u) ps (os ++ [(v, u)]) fs mq dq fr where
 out := by rw [upd_ne (by omega), upd_eq, h.out]; simp
 told := by rw [upd_eq, upd_ne (by omega), h.told]; simp
 waits := by rw [upd_ne (by omega), upd_ne (by omega)]; exact h.waits
 note := by rw [upd_ne (by omega), upd_ne (by omega)]; exact h.note
 fresh := by rw [upd_ne (by omega), upd_ne (by omega)]; exact h.fresh
 mark := by rw [upd_ne (by omega), upd_ne (by omega)]; exact h.mark
 due := by rw [upd_ne (by omega), upd_ne (by omega)]; exact h.due
 from_ := by rw [upd_ne (by omega), upd_ne (by omega)]; exact h.from_
 lm := h.lm
 ld := h.ld
 lf := h.lf
 le := by simp; omega
end
/-- the four rows that are taken out -/
def GO (et : Nat → TypeId) (k base : Nat) (V2 V3 V5 V6 : Value) (ps : List (Value × Value)) (mq dq : List Int) (G : (Nat → Nat) → World → Prop) (L : Nat → Nat) (w : World) : Prop :=
 G L w ∧ Old base (et (8 * k + 2)) 600 V2 (ps.map Prod.fst) L w ∧ Old base (et (8 * k + 3)) 601 V3 (ps.map Prod.snd) L w ∧ Old base (et (8 * k + 5)) 602 V5 (nums .i64 mq) L w ∧ Old base (et (8 * k + 6)) 603 V6 (nums .i64 dq) L w
section
variable {α : Type} {d : Kd α} {te base t k g : Nat} {et : Nat → TypeId} {tB : TypeId} {G : (Nat → Nat) → World → Prop} {turn deep : Int} {seen : Nat → Int} {L : Nat → Nat} {w W : World} {N j : Nat} {cs : Array Value} {D D0 : Nat → List Value} {ps qs os rs : List (Value × Value)} {fs : List Value} {mq dq fr mq' dq' : List Int} {v v' u V2 V3 V5 V6 : Value} {xs ys : List α}
theorem GO.stb (ht : ¬ Bl t) (h1 : t < 600 ∨ 603 < t) (hG : Stb (Yt t) G) : Stb (Yt t) (GO et k base V2 V3 V5 V6 ps mq dq G) :=
 hG.and ((Old.stb (by rintro (h | h); exact absurd h.2 (by decide); omega)).and ((Old.stb (by rintro (h | h); exact absurd h.2 (by decide); omega)).and ((Old.stb (by rintro (h | h); exact absurd h.2 (by decide); omega)).and (Old.stb (by rintro (h | h); exact absurd h.2 (by decide); omega)))))
theorem Bst.clear4 (h : Bst et tB base g (FK d te base t G ps os fs) false turn deep seen L w N cs D) (hk : 8 * k + 7 < 168) (hF : Fl d) (ht : ¬ Bl t) (hG : Stb (Yt t) G) (hD : Dsh k N D ps os fs mq dq fr)
  (hV2 : cs[slot (8 * k + 2)]? = some V2) (hV3 : cs[slot (8 * k + 3)]? = some V3) (hV5 : cs[slot (8 * k + 5)]? = some V5) (hV6 : cs[slot (8 * k + 6)]? = some V6) :
  ∃ L' cs' D', Bst et tB base g (FK d te base t (GO et k base V2 V3 V5 V6 ps mq dq G) ps os fs) false turn deep seen L' ((((w.setCell ⟨g, slot (8 * k + 2), none⟩ (.slice none 0 0)).setCell ⟨g, slot (8 * k + 3), none⟩ (.slice none 0 0)).setCell ⟨g, slot (8 * k + 5), none⟩ (.slice none 0 0)).setCell ⟨g, slot (8 * k + 6), none⟩ (.slice none 0 0)) N cs' D' ∧
   Dsh k N D' [] os fs [] [] fr ∧ ∀ i, i < 168 → i / 8 ≠ k → D' i = D i := by
 have s0 : Stb Bl (FK d te base t G ps os fs) := FK.stb hF ht hG
 have ne : ∀ a b : Nat, a < 168 → b < 168 → a ≠ b → slot a ≠ slot b := fun a b _ _ hab e => hab (slot_inj e)
 have o6 : ∀ (t' : Nat) (V : Value) (xs : List Value) (e : TypeId), 600 ≤ t' → Stb Bl (Old base e t' V xs) := fun t' V xs e ht' => Old.stb (fun h => by have := h.2; omega)
 have b6 : ∀ t', 600 ≤ t' → ¬ Bl t' := fun t' ht' h => by have := h.2; omega
 have a1 := h.clear s0 (i := 8 * k + 2) (by omega) hV2 (b6 600 (by omega)) (by omega)
 have s1 := s0.and (o6 600 V2 (D (8 * k + 2)) (et (8 * k + 2)) (by omega))
 have a2 := a1.clear s1 (i := 8 * k + 3) (by omega) ((Array.getElem?_setIfInBounds_ne (ne _ _ (by omega) (by omega) (by omega))).trans hV3) (b6 601 (by omega)) (by omega)
 have s2 := s1.and (o6 601 V3 ((fun j => if j = 8 * k + 2 then [] else D j) (8 * k + 3)) (et (8 * k + 3)) (by omega))
 have a3 := a2.clear s2 (i := 8 * k + 5) (by omega) ((Array.getElem?_setIfInBounds_ne (ne _ _ (by omega) (by omega) (by omega))).trans ((Array.getElem?_setIfInBounds_ne (ne _ _ (by omega) (by omega) (by omega))).trans hV5)) (b6 602 (by omega)) (by omega)
 have s3 := s2.and (o6 602 V5 ((fun j => if j = 8 * k + 3 then [] else (fun j => if j = 8 * k + 2 then [] else D j) j) (8 * k + 5)) (et (8 * k + 5)) (by omega))
 have a4 := a3.clear s3 (i := 8 * k + 6) (by omega) ((Array.getElem?_setIfInBounds_ne (ne _ _ (by omega) (by omega) (by omega))).trans ((Array.getElem?_setIfInBounds_ne (ne _ _ (by omega) (by omega) (by omega))).trans ((Array.getElem?_setIfInBounds_ne (ne _ _ (by omega) (by omega) (by omega))).trans hV6))) (b6 603 (by omega)) (by omega)
 refine ⟨_, _, _, a4.imp (fun L w hh => ?_), ?_, ?_⟩
 ·obtain ⟨⟨⟨⟨⟨h1, h2⟩, h3⟩, h4⟩, h5⟩, h6⟩ := hh
  refine ⟨h1, h2, by rw [← hD.waits]; exact h3, ?_, ?_, ?_⟩
  ·rw [if_neg (by omega), hD.note] at h4; exact h4
  ·rw [if_neg (by omega), if_neg (by omega), hD.mark] at h5; exact h5
  ·rw [if_neg (by omega), if_neg (by omega), if_neg (by omega), hD.due] at h6; exact h6
 ·have hle := hD.le
  refine ⟨?_, ?_, ?_, ?_, ?_, ?_, ?_, ?_, rfl, rfl, hD.lf, by simp only [List.length_nil]; omega⟩
  ·rw [if_neg (by omega), if_neg (by omega), if_neg (by omega), if_neg (by omega)]; exact hD.out
  ·rw [if_neg (by omega), if_neg (by omega), if_neg (by omega), if_neg (by omega)]; exact hD.told
  ·rw [if_neg (by omega), if_neg (by omega), if_neg (by omega), if_pos (by omega)]; rfl
  ·rw [if_neg (by omega), if_neg (by omega), if_pos (by omega)]; rfl
  ·rw [if_neg (by omega), if_neg (by omega), if_neg (by omega), if_neg (by omega)]; exact hD.fresh
  ·rw [if_neg (by omega), if_pos (by omega)]; rfl
  ·rw [if_pos (by omega)]; rfl
  ·rw [if_neg (by omega), if_neg (by omega), if_neg (by omega), if_neg (by omega)]; exact hD.from_
 ·intro i hi he
  show (if i = 8 * k + 6 then [] else (if i = 8 * k + 5 then [] else (if i = 8 * k + 3 then [] else (if i = 8 * k + 2 then [] else D i)))) = D i
  rw [if_neg (by omega), if_neg (by omega), if_neg (by omega), if_neg (by omega)]
/-- the head of the round of mark..: j lists have been looked at -/
def Mrel (d : Kd α) (te base t : Nat) (et : Nat → TypeId) (tB : TypeId) (g k : Nat) (G : (Nat → Nat) → World → Prop) (turn deep : Int) (seen : Nat → Int) (N : Nat) (D0 : Nat → List Value) (ps : List (Value × Value)) (j : Nat) (w : World) : Prop :=
 ∃ L cs D qs os fs mq dq fr, Bst et tB base g (FK d te base t G (qs ++ ps.drop j) os fs) false turn deep seen L w N cs D ∧ Dsh k N D qs os fs mq dq fr ∧ os.length + 2 * (qs.length + (ps.length - j)) + fs.length ≤ N ∧ ∀ i, i < 168 → i / 8 ≠ k → D i = D0 i
theorem Mrel.start (h : Bst et tB base g (FK d te base t G ps os []) false turn deep seen L w N cs D) (hD : Dsh k N D [] os [] [] [] []) (hN : os.length + 2 * ps.length ≤ N) (ho : ∀ i, i < 168 → i / 8 ≠ k → D i = D0 i) : Mrel d te base t et tB g k G turn deep seen N D0 ps 0 w :=
 ⟨L, cs, D, [], os, [], [], [], [], h, hD, by simpa using hN, ho⟩
theorem Mrel.wait {m n : Int} (hp : ps[j]? = some (v, u)) (hD : Dsh k N D qs os fs mq dq fr) (hN : os.length + 2 * (qs.length + (ps.length - j)) + fs.length ≤ N) (ho : ∀ i, i < 168 → i / 8 ≠ k → D i = D0 i) (hl : ∀ i, i < 168 → (D i).length ≤ N)
  (h : Bst et tB base g (FK d te base t G (qs ++ ps.drop j) os fs) false turn deep seen L w (N + 4) cs (upd (upd (upd (upd D (8 * k + 2) v) (8 * k + 3) u) (8 * k + 5) (.int .i64 m)) (8 * k + 6) (.int .i64 n))) : Mrel d te base t et tB g k G turn deep seen N D0 ps (j + 1) w := by
 have hj := (List.getElem?_eq_some_iff.1 hp).1
 have hD' := hD.pushW (v := v) (u := u) (m := m) (n := n) (by omega)
 have ho' : ∀ i, i < 168 → i / 8 ≠ k → (upd (upd (upd (upd D (8 * k + 2) v) (8 * k + 3) u) (8 * k + 5) (.int .i64 m)) (8 * k + 6) (.int .i64 n)) i = D i := fun i hi he => by
  rw [upd_ne (by omega), upd_ne (by omega), upd_ne (by omega), upd_ne (by omega)]
 rw [drop_at hp, ← List.singleton_append, ← List.append_assoc] at h
 exact ⟨L, cs, _, qs ++ [(v, u)], os, fs, mq ++ [m], dq ++ [n], fr, h.bound (bound_of ho' hl hD'.len), hD', by simp; omega, fun i hi he => (ho' i hi he).trans (ho i hi he)⟩
theorem Mrel.put {m : Int} {u' : Value} (hp : ps[j]? = some (v, u)) (hD : Dsh k N D qs os fs mq dq fr) (hN : os.length + 2 * (qs.length + (ps.length - j)) + fs.length ≤ N) (ho : ∀ i, i < 168 → i / 8 ≠ k → D i = D0 i) (hl : ∀ i, i < 168 → (D i).length ≤ N)
  (hxl : xs.length ≤ 536870912) (ha : ∀ p ∈ qs ++ ps.drop (j + 1), Ap v p.1) (hf : ∀ f ∈ fs, Ap v f) (hoo : ∀ o ∈ os, Ap o.1 v)
  (h : Bst et tB base g (fun L w => (FK d te base t G (qs ++ ps.drop (j + 1)) os fs L w ∧ Ls d te base t L w v xs) ∧ Cpy d u' xs L w) false turn deep seen L w (N + 4) cs (upd (upd (upd (upd D (8 * k) v) (8 * k + 1) u') (8 * k + 4) v) (8 * k + 7) (.int .i64 m))) : Mrel d te base t et tB g k G turn deep seen N D0 ps (j + 1) w := by
 have hj := (List.getElem?_eq_some_iff.1 hp).1
 have hD' := hD.pushO (v := v) (u := u') (m := m) (by omega)
 have ho' : ∀ i, i < 168 → i / 8 ≠ k → (upd (upd (upd (upd D (8 * k) v) (8 * k + 1) u') (8 * k + 4) v) (8 * k + 7) (.int .i64 m)) i = D i := fun i hi he => by
  rw [upd_ne (by omega), upd_ne (by omega), upd_ne (by omega), upd_ne (by omega)]
 exact ⟨L, cs, _, qs, os ++ [(v, u')], fs ++ [v], mq, dq, fr ++ [m], (h.imp (fun L w hh => ⟨hh.1.1.1.put hh.1.2 hh.2 hxl ha hf hoo, hh.1.1.2⟩)).bound (bound_of ho' hl hD'.len), hD', by simp; omega, fun i hi he => (ho' i hi he).trans (ho i hi he)⟩
/-- what mark.. leaves -/
def Mend (d : Kd α) (te base t : Nat) (et : Nat → TypeId) (tB : TypeId) (g k : Nat) (G : (Nat → Nat) → World → Prop) (turn deep : Int) (seen : Nat → Int) (N : Nat) (D0 : Nat → List Value) (e : Ending) (w : World) : Prop :=
 e = .returned (.tuple #[]) ∧ ∃ L cs D qs os fs mq dq fr, Bst et tB base g (FK d te base t G qs os fs) false turn deep seen L w N cs D ∧ Dsh k N D qs os fs mq dq fr ∧ ∀ i, i < 168 → i / 8 ≠ k → D i = D0 i
theorem Mrel.end_ (h : Mrel d te base t et tB g k (GO et k base V2 V3 V5 V6 ps mq dq G) turn deep seen N D0 ps ps.length w) : Mend d te base t et tB g k G turn deep seen N D0 (.returned (.tuple #[])) w := by
 obtain ⟨L, cs, D, qs, os, fs, mq, dq, fr, h1, h2, _, h4⟩ := h
 rw [List.drop_length, List.append_nil] at h1
 exact ⟨rfl, L, cs, D, qs, os, fs, mq, dq, fr, h1.imp (fun L w hh => ⟨hh.1, hh.2.1⟩), h2, h4⟩
end
/-- places of a list are written -/
theorem Reps.set_ {α : Type} {R : α → List Value → Prop} {sz q : Nat} {xs : List α} {cs c : List Value} {x : α} (h : Reps R sz xs cs) (hx : R x c) (hc : c.length = sz) (hq : q < xs.length) : Reps R sz (xs.set q x) (cs.take (q * sz) ++ c ++ cs.drop (q * sz + sz)) := by
 have h1 : q * sz + sz ≤ cs.length := by rw [h.1, ← Nat.succ_mul]; exact Nat.mul_le_mul_right _ hq
 refine ⟨by simp only [List.length_append, List.length_take, List.length_drop, hc, List.length_set, Nat.min_eq_left (show q * sz ≤ cs.length by omega)]; rw [← h.1]; omega, fun j p hj => ?_⟩
 rw [List.getElem?_set] at hj
 have hl : (cs.take (q * sz)).length = q * sz := by rw [List.length_take]; omega
 by_cases e : q = j
 ·subst e
  rw [if_pos rfl] at hj
  split at hj
  ·obtain rfl := Option.some.inj hj
   rw [List.append_assoc, List.drop_append_of_le_length (by omega), List.drop_of_length_le (by omega), List.nil_append, List.take_append_of_le_length (by omega), List.take_of_length_le (by omega)]
   exact hx
  ·exact absurd hq ‹_›
 ·rw [if_neg e] at hj
  have hr := h.2 j p hj
  have hjl := (List.getElem?_eq_some_iff.1 hj).1
  rcases Nat.lt_or_ge j q with hlt | hge
  ·have h2 : j * sz + sz ≤ q * sz := by rw [← Nat.succ_mul]; exact Nat.mul_le_mul_right _ hlt
   rw [List.append_assoc, List.drop_append_of_le_length (by omega), List.take_append_of_le_length (by rw [List.length_drop]; omega), List.drop_take, List.take_take, Nat.min_eq_left (by omega)]
   exact hr
  ·have h2 : q * sz + sz ≤ j * sz := by rw [← Nat.succ_mul]; exact Nat.mul_le_mul_right _ (by omega)
   have h3 : (cs.take (q * sz) ++ c).length = q * sz + sz := by rw [List.length_append, hl, hc]
   rw [List.drop_append, h3, List.drop_of_length_le (by omega), List.nil_append, List.drop_drop, show q * sz + sz + (j * sz - (q * sz + sz)) = j * sz by omega]
   exact hr
theorem setFrom_toList (vs : List Value) : ∀ (cs : Array Value) (j : Nat), j + vs.length ≤ cs.size → (setFrom cs j vs).toList = cs.toList.take j ++ vs ++ cs.toList.drop (j + vs.length) := by
 induction vs with
 | nil => intro cs j h; simp [setFrom]
 | cons v r ih =>
  intro cs j h
  simp only [List.length_cons] at h
  rw [setFrom, ih _ _ (by simp; omega)]
  apply List.ext_getElem?
  intro i
  simp only [Array.toList_setIfInBounds, List.append_assoc, List.getElem?_append, List.getElem?_take, List.getElem?_drop, List.getElem?_set, List.length_append, List.length_take, List.length_set, Array.length_toList, List.length_cons]
  rcases Nat.lt_trichotomy i j with hi | hi | hi
  ·simp only [show i < min (j + 1) cs.size by omega, show i < min j cs.size by omega, if_true, show i < j + 1 by omega, hi, show ¬ j = i by omega, if_false]
  ·subst hi
   simp only [show i < min (i + 1) cs.size by omega, show ¬ i < min i cs.size by omega, if_true, if_false, show i < i + 1 by omega, show i < cs.size by omega, show i - min i cs.size = 0 by omega]
   rfl
  ·have e1 : i - min (j + 1) cs.size = i - (j + 1) := by omega
   have e2 : i - min j cs.size = (i - (j + 1)) + 1 := by omega
   simp only [show ¬ i < min (j + 1) cs.size by omega, show ¬ i < min j cs.size by omega, if_false, e1, e2, List.cons_append, List.getElem?_cons_succ, List.getElem?_append, List.getElem?_drop, List.getElem?_set]
   by_cases hr : i - (j + 1) < r.length
   ·(try rw [if_pos hr]); rw [if_pos (show i - (j + 1) + 1 < r.length + 1 by omega)]
   ·(try rw [if_neg hr]); rw [if_neg (show ¬ i - (j + 1) + 1 < r.length + 1 by omega)]
    have e3 : ¬ (j = j + 1 + r.length + (i - (j + 1) - r.length)) := by omega
    rw [if_neg e3]
    congr 1
    omega
theorem Ls.set_ {α : Type} {d : Kd α} {te base t : Nat} {L : Nat → Nat} {W W' : World} {xs : List α} {x : α} {b n c q : Nat} {cur : Array Value} {cells : List Value} (hF : Fl d) (h : Ls d te base t L W (.slice (some ⟨b, 0, none⟩) n c) xs) (hq : q < xs.length) (hb : W.heap[b]? = some (.cells cur te (0, 0))) (hx : d.K W x cells)
  (hw : W'.heap[b]? = some (.cells (setFrom cur (q * d.sz) cells) te (0, 0))) : Ls d te base t L W' (.slice (some ⟨b, 0, none⟩) n c) (xs.set q x) := by
 rcases h with ⟨b', c', cur', e, h1, h2, h3, h4, h5, h6, h7⟩ | ⟨rfl, _⟩
 ·injection e with e1 e2 e3
  obtain rfl : b = b' := by simpa using e1
  rw [hb] at h2
  injection h2 with h2
  injection h2 with h2
  subst h2
  have hcl := d.K_len hx
  have hxs : xs.length * d.sz ≤ cur.size := by rw [h5]; exact Nat.mul_le_mul_right _ h3
  have hqs : q * d.sz + d.sz ≤ xs.length * d.sz := by rw [← Nat.succ_mul]; exact Nat.mul_le_mul_right _ hq
  refine .inl ⟨b, c', _, by rw [List.length_set, e2, e3], h1, hw, by rw [List.length_set]; exact h3, h4, by rw [setFrom_size]; exact h5, ?_, h7⟩
  rw [List.length_set, setFrom_toList _ _ _ (by omega)]
  have hl_ : (cur.toList.take (q * d.sz)).length = q * d.sz := by rw [List.length_take]; simp only [Array.length_toList]; omega
  have e : (cur.toList.take (q * d.sz) ++ cells ++ cur.toList.drop (q * d.sz + cells.length)).take (xs.length * d.sz) = (cur.toList.take (xs.length * d.sz)).take (q * d.sz) ++ cells ++ (cur.toList.take (xs.length * d.sz)).drop (q * d.sz + d.sz) := by
   rw [List.take_take, Nat.min_eq_left (by omega), List.drop_take, List.take_append, List.take_of_length_le (by rw [List.length_append, hl_]; omega), List.length_append, hl_, hcl]
  rw [e]
  exact Reps.set_ (h6.imp_ (fun _ _ hp => hF _ _ _ _ hp)) (hF _ _ _ _ hx) hcl hq
 ·exact absurd hq (by simp)
section
variable {et : Nat → TypeId} {tB base g t n : Nat} {F : (Nat → Nat) → World → Prop} {bad : Bool} {turn deep : Int} {seen : Nat → Int} {L : Nat → Nat} {w : World} {N : Nat} {cs : Array Value} {D : Nat → List Value} {xs : List Value}
/-- row i, n long -/
theorem Bst.rowN (h : Bst et tB base g F bad turn deep seen L w N cs D) {i : Nat} (hi : i < 168) {s : Nat} (hs : slot i = s) (hx : D i = xs) (hn : xs.length = n) : ∃ A c, cs[s]? = some (.slice A n c) ∧ w.cell? ⟨g, s, none⟩ = some (.slice A n c) ∧ w.frozen? ⟨g, s, none⟩ = false := by
 obtain ⟨V, h1, h2, h3, h4, ⟨A, c, e⟩, h6⟩ := h.row i hi s hs
 rw [hx, hn] at e
 subst e
 exact ⟨A, c, h1, h2, blk_frozen h.B.blk _⟩
theorem Bst.rowB (h : Bst et tB base g F bad turn deep seen L w N cs D) {i : Nat} (hi : i < 168) {s : Nat} (hs : slot i = s) (hx : D i = xs) (hn : xs.length = n) (h0 : 0 < n) : ∃ b c, cs[s]? = some (.slice (some ⟨b, 0, none⟩) n c) ∧ w.cell? ⟨g, s, none⟩ = some (.slice (some ⟨b, 0, none⟩) n c) ∧ w.frozen? ⟨g, s, none⟩ = false ∧ ∀ (j : Nat) (v : Value), xs[j]? = some v → w.cell? ⟨b, j, none⟩ = some v := by
 obtain ⟨V, h1, h2, h3, h4, _, h6⟩ := h.row i hi s hs
 rw [hx] at h4
 have e0 : xs[0]? = some xs[0] := List.getElem?_eq_getElem (by omega)
 obtain ⟨b, c, e, e2, e3, e4⟩ := own_place h4 e0
 rw [hn] at e
 subst e
 refine ⟨b, c, h1, h2, blk_frozen h.B.blk _, fun j v hj => ?_⟩
 obtain ⟨b', c', e5, _, _, e6⟩ := own_place h4 hj
 injection e5 with e5
 injection e5 with e5
 injection e5 with e5
 rw [← e5] at e6
 exact e6
theorem Old.at_ {e b c : Nat} (h : Old base e t (.slice (some ⟨b, 0, none⟩) n c) xs L w) {j : Nat} {v : Value} (hj : xs[j]? = some v) : w.cell? ⟨b, j, none⟩ = some v ∧ L b = t ∧ b < w.heap.size := by
 obtain ⟨b', c', e5, _, e7, e6, e8⟩ := h.place hj
 injection e5 with e5
 injection e5 with e5
 injection e5 with e5
 rw [← e5] at e6 e7 e8
 exact ⟨e6, e8, e7⟩
end
theorem bl_big {t : Nat} (h : 568 ≤ t) : ¬ Bl t := fun x => by have := x.2; omega
theorem Bst.and {et : Nat → TypeId} {tB base g : Nat} {F F2 : (Nat → Nat) → World → Prop} {bad : Bool} {turn deep : Int} {seen : Nat → Int} {L : Nat → Nat} {w : World} {N : Nat} {cs : Array Value} {D : Nat → List Value} (h : Bst et tB base g F bad turn deep seen L w N cs D) (k : F2 L w) : Bst et tB base g (fun L w => F L w ∧ F2 L w) bad turn deep seen L w N cs D := ⟨h.B, h.S, h.F, k⟩
theorem Cpy.stb {α : Type} {d : Kd α} {u : Value} {xs : List α} : Stb Bl (fun L w => Cpy d u xs L w) := fun L w L' w' hh c s => hh.soft_ (c.soft (fun h => absurd h.1 (by decide)))
theorem Ls.stb {α : Type} {d : Kd α} {te base t : Nat} {v : Value} {xs : List α} {X : Nat → Prop} (hF : Fl d) (ht : ¬ X t) : Stb X (fun L w => Ls d te base t L w v xs) := fun L w L' w' hh c s => hh.step hF c ht
theorem ls_C {α : Type} {d : Kd α} {te base t n c : Nat} {L : Nat → Nat} {w : World} {A : Option Addr} {xs : List α} (h : Ls d te base t L w (.slice A n c) xs) : d.C w A xs.length xs := by
 obtain ⟨A', c', e, _, h⟩ := h.C_
 injection e with e
 subst e
 exact h
theorem ls_Cn {α : Type} {d : Kd α} {te base t n c : Nat} {L : Nat → Nat} {w : World} {A : Option Addr} {xs : List α} (h : Ls d te base t L w (.slice A n c) xs) : d.C w A n xs := by
 obtain ⟨A', c', e, _, hc⟩ := h.C_
 injection e with e e2
 rw [e, e2]
 exact hc
/-- a list is being written: ys stands in it -/
def Wrel {α : Type} (d : Kd α) (te base t : Nat) (et : Nat → TypeId) (tB : TypeId) (g : Nat) (G : (Nat → Nat) → World → Prop) (rs os : List (Value × Value)) (fs : List Value) (turn deep : Int) (seen : Nat → Int) (N : Nat) (D : Nat → List Value) (v : Value) (n : Nat) (w : World) : Prop :=
 ∃ L cs ys, ys.length = n ∧ Bst et tB base g (fun L w => FK d te base t G rs os fs L w ∧ Ls d te base t L w v ys) false turn deep seen L w N cs D
section
variable {α : Type} {d : Kd α} {te base t g : Nat} {et : Nat → TypeId} {tB : TypeId} {G : (Nat → Nat) → World → Prop} {turn deep : Int} {seen : Nat → Int} {L : Nat → Nat} {w W : World} {N n q b c : Nat} {cs : Array Value} {D : Nat → List Value} {rs os : List (Value × Value)} {fs : List Value} {ys : List α}
theorem FKL.stb {v : Value} (hF : Fl d) (ht : ¬ Bl t) (hG : Stb (Yt t) G) : Stb Bl (fun L w => FK d te base t G rs os fs L w ∧ Ls d te base t L w v ys) := (FK.stb hF ht hG).and (Ls.stb hF ht)
theorem ls_blk {A : Option Addr} (h : Ls d te base t L w (.slice A n c) ys) (hq : q < n) : ∃ b cur, A = some ⟨b, 0, none⟩ ∧ rmb (.slice A n c) = some b ∧ w.heap[b]? = some (.cells cur te (0, 0)) ∧ q * d.sz + d.sz ≤ cur.size ∧ L b = t := by
 rcases h with ⟨b, c', cur, e, h1, h2, h3, h4, h5, h6, h7⟩ | ⟨rfl, A', e⟩
 ·injection e with e1 e2 e3
  subst e1 e2 e3
  refine ⟨b, cur, rfl, rfl, h2, ?_, h7⟩
  rw [h5, ← Nat.succ_mul]
  exact Nat.mul_le_mul_right _ (by omega)
 ·injection e with e1 e2 e3
  omega
theorem ap_ne {u v : Value} (h : Ap v u) (hb : rmb v = some b) : rmb u ≠ some b := fun e => h b hb e
/-- one element is written -/
theorem Wrel.set {cells : List Value} {x : α} {cur : Array Value} (hF : Fl d) (ht : ¬ Bl t) (ht0 : t ≠ 0) (hG : Stb (Yt t) G) (h : Bst et tB base g (fun L w => FK d te base t G rs os fs L w ∧ Ls d te base t L w (.slice (some ⟨b, 0, none⟩) n c) ys) false turn deep seen L w N cs D)
  (hp : ∀ p ∈ rs, Ap (.slice (some ⟨b, 0, none⟩) n c) p.1) (hf : ∀ f ∈ fs, Ap (.slice (some ⟨b, 0, none⟩) n c) f) (ho : ∀ o ∈ os, Ap o.1 (.slice (some ⟨b, 0, none⟩) n c)) (hn : ys.length = n) (hq : q < n) (hx : ∀ W, d.K W x cells) (hk : One w W b) (hb : w.heap[b]? = some (.cells cur te (0, 0))) (hw : W.heap[b]? = some (.cells (setFrom cur (q * d.sz) cells) te (0, 0))) :
  Wrel d te base t et tB g G rs os fs turn deep seen N D (.slice (some ⟨b, 0, none⟩) n c) n W := by
 obtain ⟨b', cur', e1, e2, e3, e4, e5⟩ := ls_blk h.F.2 hq
 obtain rfl : b = b' := by simpa using e1
 have h1 := (h.imp (G := FK d te base t G rs os fs) (fun _ _ hh => hh.1)).write hF ht ht0 hG hk e5 (fun p hm => ap_ne (hp p hm) e2) (fun p hm => ap_ne (ho p hm).symm e2) (fun p hm => ap_ne (hf p hm) e2)
 exact ⟨L, cs, ys.set q x, by rw [List.length_set, hn], h1.B, h1.S, h1.F, h.F.2.set_ hF (by omega) hb (hx w) hw⟩
theorem Wrel.set1 {val : Value} {x : α} (hF : Fl d) (ht : ¬ Bl t) (ht0 : t ≠ 0) (hG : Stb (Yt t) G) (h : Bst et tB base g (fun L w => FK d te base t G rs os fs L w ∧ Ls d te base t L w (.slice (some ⟨b, 0, none⟩) n c) ys) false turn deep seen L w N cs D)
  (hp : ∀ p ∈ rs, Ap (.slice (some ⟨b, 0, none⟩) n c) p.1) (hf : ∀ f ∈ fs, Ap (.slice (some ⟨b, 0, none⟩) n c) f) (ho : ∀ o ∈ os, Ap o.1 (.slice (some ⟨b, 0, none⟩) n c)) (hn : ys.length = n) (hq : q < n) (hz : d.sz = 1) (hx : ∀ W, d.K W x [val]) :
  Wrel d te base t et tB g G rs os fs turn deep seen N D (.slice (some ⟨b, 0, none⟩) n c) n (w.setCell ⟨b, q, none⟩ val) := by
 obtain ⟨b', cur, e1, e2, e3, e4, e5⟩ := ls_blk h.F.2 hq
 obtain rfl : b = b' := by simpa using e1
 refine Wrel.set hF ht ht0 hG h hp hf ho hn hq hx (One.cell _ _ _ _) e3 ?_
 rw [hz, Nat.mul_one]
 exact blk_set e3 q val
end

end Go.Proofs.YtfomjbbebgajcaaGreatDoor.Rm
