/- The plain law of CoverTwo: of every two texts Meet, Outside and Within tell just when the document's own search finds a topic, and what they tell is one. -/
import Derived.Test.YtamelcgamlcliaaRe
import Derived.Test.YtamelcgamlcliaaLCoverTwox9
namespace Go.Proofs.Ytamelcgamlcliaa.Pure
open Go.RowKit Go.Proofs.YtamelcgamlcliaaW.PrintWords Go.Proofs.YtamelcgamlcliaaW.PrintLast Go.Proofs.Ytamelcgamlcliaa.Giv Go.Proofs.Ytamelcgamlcliaa.MCoverTopics Go.Proofs.Ytamelcgamlcliaa.LCoverTwo
set_option linter.unusedVariables false
set_option linter.unusedSimpArgs false

theorem mtLen {f t : Cr.T} (h : Cr.mt f t = true) : t.length ≤ 65535 := by
 have := (Cr.mt_parts.1 h).2.1
 simp only [Cr.isTopic, Cr.isText, Bool.and_eq_true, decide_eq_true_eq] at this
 exact this.1.2.1
theorem rMatch_o (x : ByteArray) (s : Cr.T) (hx : x.size ≤ 140000) (hs : s.length ≤ 65535) (k : Nat) (hk : 50000000 < k) : crierref5_Match.f k x (ofT s) = some (Cr.mt (Cr.bl x) s) := by
 rw [rMatch x (ofT s) (by omega) (by rw [← Cr.bl_len, bl_ofT]; omega) k (by omega), bl_ofT]

theorem two_j1 (a b : ByteArray) (ha : a.size ≤ 140000) (hb : b.size ≤ 140000) (k : Nat) (hk : 50000000 < k) (n : Int) (next : crierlaw6_CoverTwo.l0 k b a (wrap64 (n + 1)) = some true) : crierlaw6_CoverTwo.j1 (k + 1) a b n false = some true := by
 obtain ⟨t, ht⟩ := rOutside a b ha hb k hk
 have hO : cover_Outside.f a b = some (ans (Cr.outside (Cr.bl a) (Cr.bl b))) := by
  unfold cover_Outside.f
  rw [if_pos ⟨by unfold big; omega, by unfold big; omega⟩]
 have hW : cover_Within.f a b = some (Cr.within (Cr.bl a) (Cr.bl b)) := by
  unfold cover_Within.f
  rw [if_pos ⟨by unfold big; omega, by unfold big; omega⟩]
 rw [crierlaw6_CoverTwo.j1, if_neg (by decide), hO, ht, hW]
 simp only [Option.bind_some]
 unfold Cr.within
 cases hs : Cr.outside (Cr.bl a) (Cr.bl b) with
 | none =>
  have e : (ans none).1.toList = ([] : List UInt8) := by rw [tl]; rfl
  rw [if_neg (by decide), if_neg (by decide), if_pos e, if_neg (by decide)]
  exact next
 | some s =>
  obtain ⟨h1, h2⟩ := Cr.outside_sound hs
  have m1 := rMatch_o a s ha (mtLen h1) k hk
  have m2 := rMatch_o b s hb (mtLen h1) k hk
  rw [h1] at m1
  rw [h2] at m2
  have e1 : (ans (some s)).1 = ofT s := rfl
  have e2 : (ans (some s)).2 = true := rfl
  rw [e1, e2, m1, m2]
  simp only [Option.bind_some, Option.isSome_some, Option.isNone_some, bne_self_eq_false, Bool.false_eq_true, if_false, if_true]
  simpa using next

theorem two_l0 (a b : ByteArray) (ha : a.size ≤ 140000) (hb : b.size ≤ 140000) (k : Nat) (hk : 50000000 < k) (n : Int) (hn : n < 2) (next : crierlaw6_CoverTwo.l0 k b a (wrap64 (n + 1)) = some true) : crierlaw6_CoverTwo.l0 (k + 2) a b n = some true := by
 have hj := two_j1 a b ha hb k hk n next
 obtain ⟨t, ht⟩ := rMeet a b ha hb (k + 1) (by omega)
 rw [show k + 2 = (k + 1) + 1 from rfl, crierlaw6_CoverTwo.l0, if_pos hn, Meet_f a b ha hb (k + 1) (by omega), ht]
 simp only [Option.bind_some]
 cases hs : Cr.meet (Cr.bl a) (Cr.bl b) with
 | none =>
  have e : ((ans none).1.toList != ([] : List UInt8)) = false := by rw [tl]; rfl
  rw [if_neg (by decide), if_neg (by decide), e]
  exact hj
 | some s =>
  obtain ⟨h1, h2⟩ := Cr.meet_sound hs
  have m1 := rMatch_o a s ha (mtLen h1) (k + 1) (by omega)
  have m2 := rMatch_o b s hb (mtLen h1) (k + 1) (by omega)
  rw [h1] at m1
  rw [h2] at m2
  have e1 : (ans (some s)).1 = ofT s := rfl
  have e2 : (ans (some s)).2 = true := rfl
  rw [e1, e2, m1, m2]
  simp only [Option.bind_some, Option.isSome_some, bne_self_eq_false, Bool.false_eq_true, if_false, if_true]
  exact hj

theorem CoverTwo : crierlaw6_CoverTwo.Pure := by
 intro a b h0 h1
 refine ⟨50000010, ?_⟩
 unfold crierlaw6_CoverTwo.f
 by_cases hs : wrap64 ((a.size : Int) + (b.size : Int)) > 140000
 ·rw [if_pos hs]
 rw [if_neg hs]
 have hsum : (a.size : Int) + (b.size : Int) ≤ 140000 := by unfold wrap64 at hs; omega
 clear hs
 have s0 : a.size ≤ 140000 := by omega
 have s1 : b.size ≤ 140000 := by omega
 refine two_l0 a b s0 s1 50000008 (by omega) 0 (by omega) ?_
 rw [show wrap64 ((0 : Int) + 1) = 1 by rw [wrap_in (by omega) (by omega)]; rfl]
 refine two_l0 b a s1 s0 50000006 (by omega) 1 (by omega) ?_
 rw [show wrap64 ((1 : Int) + 1) = 2 by rw [wrap_in (by omega) (by omega)]; rfl]
 rw [show (50000006 : Nat) = 50000005 + 1 from rfl, crierlaw6_CoverTwo.l0, if_neg (by omega)]
end Go.Proofs.Ytamelcgamlcliaa.Pure
