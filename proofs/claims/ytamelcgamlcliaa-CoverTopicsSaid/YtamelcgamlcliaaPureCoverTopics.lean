/- The plain law of CoverTopics: of every three texts, what Meet, Outside, Within and Match tell agrees. -/
import Derived.Test.YtamelcgamlcliaaLCoverTopicsx1
namespace Go.Proofs.Ytamelcgamlcliaa.Pure
open Go.RowKit Go.Proofs.YtamelcgamlcliaaW.PrintWords Go.Proofs.YtamelcgamlcliaaW.PrintLast Go.Proofs.Ytamelcgamlcliaa.Giv Go.Proofs.Ytamelcgamlcliaa.MCoverTopics Go.Proofs.Ytamelcgamlcliaa.LCoverTopics
set_option linter.unusedVariables false
set_option linter.unusedSimpArgs false

theorem topics_j0 (a0 a1 : ByteArray) (h0 : a0.size ≤ 140000) (h1 : a1.size ≤ 140000) (k : Nat) (hk : 500000 < k) :
    crierlaw6_CoverTopics.j0 (k + 1) a0 a1 (ans (Cr.meet (Cr.bl a0) (Cr.bl a1))).1 (ans (Cr.meet (Cr.bl a0) (Cr.bl a1))).2 (ans (Cr.outside (Cr.bl a0) (Cr.bl a1))).1 (ans (Cr.outside (Cr.bl a0) (Cr.bl a1))).2 false = some true := by
  rw [crierlaw6_CoverTopics.j0, if_neg (by decide)]
  have out : ∀ s, Cr.outside (Cr.bl a0) (Cr.bl a1) = some s → topic_Match.f k a0 (ofT s) = some true ∧ topic_Match.f k a1 (ofT s) = some false := by
    intro s hs
    obtain ⟨h2, h3⟩ := Cr.outside_sound hs
    rw [Match_o a0 s h0 (mt_len h2) k hk, Match_o a1 s h1 (mt_len h2) k hk, h2, h3]
    exact ⟨rfl, rfl⟩
  have met : ∀ s, Cr.meet (Cr.bl a0) (Cr.bl a1) = some s → topic_Match.f k a0 (ofT s) = some true ∧ topic_Match.f k a1 (ofT s) = some true := by
    intro s hs
    obtain ⟨h2, h3⟩ := Cr.meet_sound hs
    rw [Match_o a0 s h0 (mt_len h2) k hk, Match_o a1 s h1 (mt_len h2) k hk, h2, h3]
    exact ⟨rfl, rfl⟩
  cases hM : Cr.meet (Cr.bl a0) (Cr.bl a1) with
  | none =>
    cases hO : Cr.outside (Cr.bl a0) (Cr.bl a1) with
    | none => simp [ans]
    | some s => simp [ans, (out s hO).1, (out s hO).2]
  | some x =>
    cases hO : Cr.outside (Cr.bl a0) (Cr.bl a1) with
    | none => simp [ans, (met x hM).1, (met x hM).2]
    | some s => simp [ans, (met x hM).1, (met x hM).2, (out s hO).1, (out s hO).2]

theorem CoverTopics : crierlaw6_CoverTopics.Pure := by
  intro a0 a1 a2 h0 h1 h2
  refine ⟨1000000, ?_⟩
  unfold crierlaw6_CoverTopics.f
  by_cases hs : wrap64 (wrap64 ((a0.size : Int) + (a1.size : Int)) + (a2.size : Int)) > 140000
  · rw [if_pos hs]
  rw [if_neg hs]
  have hsum : (a0.size : Int) + (a1.size : Int) + (a2.size : Int) ≤ 140000 := by unfold wrap64 at hs; omega
  have s0 : a0.size ≤ 140000 := by omega
  have s1 : a1.size ≤ 140000 := by omega
  have s2 : a2.size ≤ 140000 := by omega
  have hj := topics_j0 a0 a1 s0 s1 999999 (by omega)
  rw [show (999999 + 1 : Nat) = 1000000 from rfl] at hj
  rw [show crierlaw6_known.f = some true from rfl]
  simp only [Option.bind_some]
  rw [if_pos trivial, Meet_f a0 a1 s0 s1 _ (by omega)]
  simp only [Option.bind_some]
  rw [Outside_f (show a0.size ≤ big by unfold big; omega) (show a1.size ≤ big by unfold big; omega)]
  simp only [Option.bind_some]
  rw [Match_f a0 a2 (by unfold big; omega) (by unfold big; omega) _ (by omega)]
  simp only [Option.bind_some]
  rw [Match_f a1 a2 (by unfold big; omega) (by unfold big; omega) _ (by omega)]
  simp only [Option.bind_some]
  rw [Within_f (show a0.size ≤ big by unfold big; omega) (show a1.size ≤ big by unfold big; omega)]
  simp only [Option.bind_some]
  have hw : (Cr.within (Cr.bl a0) (Cr.bl a1) == (ans (Cr.outside (Cr.bl a0) (Cr.bl a1))).2) = false := by
    unfold Cr.within
    cases Cr.outside (Cr.bl a0) (Cr.bl a1) <;> rfl
  rw [hw, hj]
  cases hA : Cr.mt (Cr.bl a0) (Cr.bl a2) with
  | false => simp
  | true =>
    cases hB : Cr.mt (Cr.bl a1) (Cr.bl a2) with
    | true =>
      obtain ⟨x, hx⟩ := Cr.meet_complete hA hB
      rw [hx]
      simp [ans]
    | false =>
      obtain ⟨x, hx⟩ := Cr.outside_complete hA hB
      rw [hx]
      simp [ans]
end Go.Proofs.Ytamelcgamlcliaa.Pure
