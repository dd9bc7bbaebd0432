/- The plain law of CoverGoes: within goes on; what meets f meets what f lies within; one set lies within another just as topics say. -/
import Derived.Test.YtamelcgamlcliaaLCoverGoesx1
namespace Go.Proofs.Ytamelcgamlcliaa.Pure
open Go.RowKit Go.Proofs.YtamelcgamlcliaaW.PrintWords Go.Proofs.YtamelcgamlcliaaW.PrintLast Go.Proofs.Ytamelcgamlcliaa.Giv Go.Proofs.Ytamelcgamlcliaa.MCoverTopics Go.Proofs.Ytamelcgamlcliaa.LCoverGoes
set_option linter.unusedVariables false
set_option linter.unusedSimpArgs false

theorem ans2 (x : Option Cr.T) : (ans x).2 = x.isSome := by cases x <;> rfl
theorem meet_sym (f g : Cr.T) : (Cr.meet f g).isSome = (Cr.meet g f).isSome := by
  rw [Bool.eq_iff_iff, Cr.meet_iff, Cr.meet_iff]
  constructor
  · rintro ⟨t, h1, h2⟩; exact ⟨t, h2, h1⟩
  · rintro ⟨t, h1, h2⟩; exact ⟨t, h2, h1⟩
theorem within_self (f : Cr.T) : Cr.within f f = true := (Cr.within_iff f f).2 (fun t h => h)
theorem within_meet {f g h : Cr.T} (h1 : Cr.within f g = true) (h2 : (Cr.meet f h).isSome = true) : (Cr.meet g h).isSome = true := by
  obtain ⟨t, h3, h4⟩ := (Cr.meet_iff f h).1 h2
  exact (Cr.meet_iff g h).2 ⟨t, (Cr.within_iff f g).1 h1 t h3, h4⟩
theorem within_trans {f g h : Cr.T} (h1 : Cr.within f g = true) (h2 : Cr.within g h = true) : Cr.within f h = true :=
  (Cr.within_iff f h).2 (fun t h3 => (Cr.within_iff g h).1 h2 t ((Cr.within_iff f g).1 h1 t h3))
theorem within_own {f g : Cr.T} (h1 : Cr.within f g = true) (h2 : (Cr.meet f f).isSome = true) : (Cr.meet f g).isSome = true := by
  obtain ⟨t, h3, h4⟩ := (Cr.meet_iff f f).1 h2
  exact (Cr.meet_iff f g).2 ⟨t, h3, (Cr.within_iff f g).1 h1 t h3⟩

theorem goes_j1 (a0 a1 : ByteArray) (h0 : a0.size ≤ 140000) (h1 : a1.size ≤ 140000) (k : Nat) (hk : 500000 < k) : crierlaw6_CoverGoes.j1 (k + 1) a0 a1 false = some true := by
  rw [crierlaw6_CoverGoes.j1, if_neg (by decide), Meet_f a0 a0 h0 h0 k hk]
  simp only [Option.bind_some, ans2]
  rw [Within_f (show a0.size ≤ big by unfold big; omega) (show a1.size ≤ big by unfold big; omega)]
  simp only [Option.bind_some]
  unfold crierlaw6_meets.f
  rw [Meet_f a0 a1 h0 h1 k hk]
  simp only [Option.bind_some, ans2]
  cases hm : (Cr.meet (Cr.bl a0) (Cr.bl a0)).isSome with
  | false => simp
  | true =>
    cases hw : Cr.within (Cr.bl a0) (Cr.bl a1) with
    | false => simp
    | true => rw [within_own hw hm]; simp

theorem CoverGoes : crierlaw6_CoverGoes.Pure := by
  intro a0 a1 a2 h0 h1 h2
  refine ⟨1000002, ?_⟩
  unfold crierlaw6_CoverGoes.f
  by_cases hs : wrap64 (wrap64 ((a0.size : Int) + (a1.size : Int)) + (a2.size : Int)) > 140000
  · rw [if_pos hs]
  rw [if_neg hs]
  have hsum : (a0.size : Int) + (a1.size : Int) + (a2.size : Int) ≤ 140000 := by unfold wrap64 at hs; omega
  have s0 : a0.size ≤ 140000 := by omega
  have s1 : a1.size ≤ 140000 := by omega
  have s2 : a2.size ≤ 140000 := by omega
  have b0 : a0.size ≤ big := by unfold big; omega
  have b1 : a1.size ≤ big := by unfold big; omega
  have b2 : a2.size ≤ big := by unfold big; omega
  have hj := goes_j1 a0 a1 s0 s1 1000000 (by omega)
  rw [show crierlaw6_known.f = some true from rfl]
  simp only [Option.bind_some]
  rw [if_pos trivial, Meet_f a0 a2 s0 s2 _ (by omega)]
  simp only [Option.bind_some]
  rw [Meet_f a2 a0 s2 s0 _ (by omega)]
  simp only [Option.bind_some]
  rw [Meet_f a1 a2 s1 s2 _ (by omega)]
  simp only [Option.bind_some, ans2]
  rw [meet_sym (Cr.bl a2) (Cr.bl a0), bne_self_eq_false, if_neg (by decide), Within_f b0 b0, within_self]
  simp only [Option.bind_some]
  rw [show (1000002 : Nat) = 1000001 + 1 from rfl, crierlaw6_CoverGoes.j0, if_neg (by decide), Within_f b0 b1]
  simp only [Option.bind_some]
  rw [Within_f b1 b2, Within_f b0 b2]
  simp only [Option.bind_some]
  rw [show (1000001 : Nat) = 1000000 + 1 from rfl, hj]
  cases hw : Cr.within (Cr.bl a0) (Cr.bl a1) with
  | false => simp
  | true =>
    have hz : ∀ b, b = true → crierlaw6_CoverGoes.j1 (1000000 + 1) a0 a1 (!b) = some true := by
      intro b hb; rw [hb]; exact hj
    cases hg : Cr.within (Cr.bl a1) (Cr.bl a2) with
    | false =>
      cases hf : (Cr.meet (Cr.bl a0) (Cr.bl a2)).isSome with
      | false => simp
      | true => rw [within_meet hw hf]; simp
    | true =>
      rw [hz _ (within_trans hw hg)]
      cases hf : (Cr.meet (Cr.bl a0) (Cr.bl a2)).isSome with
      | false => simp
      | true => rw [within_meet hw hf]; simp
end Go.Proofs.Ytamelcgamlcliaa.Pure
