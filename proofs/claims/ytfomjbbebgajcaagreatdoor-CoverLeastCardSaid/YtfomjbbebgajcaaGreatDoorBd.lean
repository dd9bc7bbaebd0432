/- crierkept.Book: what is noted, marks, grows, done, Hold. -/
import Derived.Test.YtfomjbbebgajcaaGreatDoorGr0
import Derived.Test.YtfomjbbebgajcaaGreatDoorHl
namespace Go.Proofs.YtfomjbbebgajcaaGreatDoor.Rm
open Go.RowKit Go.Proofs.YtfomjbbebgajcaaGreatDoorW.PrintWords Go.Proofs.YtfomjbbebgajcaaGreatDoorW.PrintLast Go.Proofs.YtfomjbbebgajcaaGreatDoorW.PrintMore Go.Proofs.YtfomjbbebgajcaaGreatDoor.MCoverLeast
open Go.Proofs.YtfomjbbebgajcaaGreatDoorW.PrintWords.Aside0 renaming mk → am
set_option linter.unusedVariables false
set_option linter.unusedSimpArgs false
set_option maxHeartbeats 4000000
set_option maxRecDepth 100000
/-- all labels of the book and of what it keeps -/
def Ya (x : Nat) : Prop := Bl x ∨ (1000 ≤ x ∧ x < 1021)
theorem yt_ya {k : Nat} (hk : k < 21) : ∀ x, Yt (1000 + k) x → Ya x := fun x h => h.imp id (fun e => ⟨by omega, by omega⟩)
theorem bl_ya : ∀ x, Bl x → Ya x := fun x h => .inl h
/-- one kind's lists -/
structure Kq where
 ps : List (Value × Value)
 os : List (Value × Value)
 fs : List Value
 mq : List Int
 dq : List Int
 fr : List Int
def Dq (k M : Nat) (D : Nat → List Value) (q : Kq) : Prop := Dsh k M D q.ps q.os q.fs q.mq q.dq q.fr
def Kq.nil : Kq := ⟨[], [], [], [], [], []⟩

theorem Dsh.more {k M M' : Nat} {D : Nat → List Value} {ps os : List (Value × Value)} {fs : List Value} {mq dq fr : List Int} (h : Dsh k M D ps os fs mq dq fr) (hM : M ≤ M') : Dsh k M' D ps os fs mq dq fr := ⟨h.out, h.told, h.waits, h.note, h.fresh, h.mark, h.due, h.from_, h.lm, h.ld, h.lf, Nat.le_trans h.le hM⟩
theorem Dsh.add4 {k M a b c e : Nat} {D : Nat → List Value} {ps os : List (Value × Value)} {fs : List Value} {mq dq fr : List Int} {v u : Value} {m n : Int} (h : Dsh k M D ps os fs mq dq fr) (ha : a = 8 * k + 2 := by rfl) (hb : b = 8 * k + 3 := by rfl) (hc : c = 8 * k + 5 := by rfl) (he : e = 8 * k + 6 := by rfl) :
  Dsh k (M + 4) (fun j => if j = a then D j ++ [v] else if j = b then D j ++ [u] else if j = c then D j ++ [.int .i64 m] else if j = e then D j ++ [.int .i64 n] else D j) (ps ++ [(v, u)]) os fs (mq ++ [m]) (dq ++ [n]) fr := by
 have h1 := (h.more (M' := M + 4) (by omega)).pushW (v := v) (u := u) (m := m) (n := n) (by have := h.le; omega)
 have e_ : (fun j => if j = a then D j ++ [v] else if j = b then D j ++ [u] else if j = c then D j ++ [.int .i64 m] else if j = e then D j ++ [.int .i64 n] else D j) = upd (upd (upd (upd D (8 * k + 2) v) (8 * k + 3) u) (8 * k + 5) (.int .i64 m)) (8 * k + 6) (.int .i64 n) := by
  subst ha hb hc he
  funext j
  unfold upd
  by_cases h2 : j = 8 * k + 2
  ·subst h2; simp
  ·by_cases h3 : j = 8 * k + 3
   ·subst h3; simp
   ·by_cases h5 : j = 8 * k + 5
    ·subst h5; simp
    ·by_cases h6 : j = 8 * k + 6
     ·subst h6; simp
     ·simp [h2, h3, h5, h6]
 rw [e_]
 exact h1
def Fa (base : Nat) (E : (Nat → Nat) → World → Prop) (q2 : Kq) (L : Nat → Nat) (w : World) : Prop := Kr Kd.string 9 base 1002 L w q2.ps q2.os q2.fs ∧ E L w
structure Da (N : Nat) (D : Nat → List Value) (q2 : Kq) : Prop where
 d2 : Dq 2 N D q2
 o : ∀ i, i < 168 → i / 8 ≠ 2 → D i = []
structure Bq (base g : Nat) (E : (Nat → Nat) → World → Prop) (turn deep : Int) (seen : Nat → Int) (L : Nat → Nat) (w : World) (N : Nat) (cs : Array Value) (D : Nat → List Value) (q2 : Kq) : Prop where
 b : Bst bkT 55 base g (Fa base E q2) false turn deep seen L w N cs D
 d : Da N D q2
section
variable {base g : Nat} {E : (Nat → Nat) → World → Prop} {turn deep : Int} {seen : Nat → Int} {L : Nat → Nat} {w W : World} {N : Nat} {cs : Array Value} {D : Nat → List Value} {q2 : Kq} {A_ : Option Addr} {c_ : Nat}
theorem Fa.stb (hE : Stb Ya E) : Stb Bl (Fa base E q2) := ((Kr.stb (fun _ _ _ _ h => h : Fl Kd.string) (bl_big (by decide)) (fun h => absurd h.1 (by decide))).and (hE.mono bl_ya))
theorem Fa.stbE (hE : Stb Bl E) : Stb Bl (Fa base E q2) := ((Kr.stb (fun _ _ _ _ h => h : Fl Kd.string) (bl_big (by decide)) (fun h => absurd h.1 (by decide))).and hE)
theorem Bq.new (h : Bq base g E turn deep seen L w N cs D q2) (hE : Stb Ya E) (t : Nat) (hb : Below w.heap.size w W) : Bq base g E turn deep seen (lab1 L w.heap.size t) W N cs D q2 := ⟨h.b.new (Fa.stb hE) t hb, h.d⟩
theorem Bq.imp {E' : (Nat → Nat) → World → Prop} (h : Bq base g E turn deep seen L w N cs D q2) (k : ∀ L w, E L w → E' L w) : Bq base g E' turn deep seen L w N cs D q2 := ⟨h.b.imp (fun L w hh => ⟨hh.1, k _ _ hh.2⟩), h.d⟩
theorem Bq.ext (h : Bq base g E turn deep seen L w N cs D q2) : E L w := h.b.F.2
theorem Bq.put (h : Bq base g E turn deep seen L w N cs D q2) {E' : (Nat → Nat) → World → Prop} (k : E' L w) : Bq base g E' turn deep seen L w N cs D q2 := ⟨⟨h.b.B, h.b.S, h.b.F.1, k⟩, h.d⟩
theorem Bq.markTexts (h : Bq base g E turn deep seen L w N cs D q2) (hf : q2.fs = []) (hr : q2.fr = []) (hE : Stb Ya E) (hT : ∀ L w, E L w → Lib.TabIs Tryz.prog w "internal/strconv.uint64pow10" .u64 Lib.pow10Tab) (hN : N ≤ 536870912) :
  Calls Tryz.prog 103 #[.pointer (some ⟨g, 0, none⟩)] w fun e w' => e = .returned (.tuple #[]) ∧ ∃ L' cs' D' q', Bq base g E turn deep seen L' w' N cs' D' q' := by
 have h1 := h.b.imp (G := FK Kd.string 9 base 1002 (fun L w => E L w) q2.ps q2.os q2.fs) (fun L w hh => ⟨hh.1, hh.2⟩)
 have h2 := h.d.d2
 unfold Dq at h2
 rw [hf] at h1 h2; rw [hr] at h2
 refine (markTexts_calls L base g N w cs D h1 h2 (hE.mono (yt_ya (k := 2) (by decide))) (fun L w hh => hT L w hh) (by omega)).mono ?_
 rintro e w' ⟨rfl, L', cs', D', qs, os, fs, mq, dq, fr, n1, n2, n3⟩
 exact ⟨rfl, L', cs', D', ⟨qs, os, fs, mq, dq, fr⟩, n1.imp (fun L w hh => ⟨hh.1, hh.2⟩), ⟨n2, fun i hi h2_ => (n3 i hi (by omega)).trans (h.d.o i hi h2_)⟩⟩
theorem Bq.growTexts (h : Bq base g E turn deep seen L w N cs D q2) (hE : Stb Ya E) (hT : ∀ L w, E L w → Lib.TabIs Tryz.prog w "internal/strconv.uint64pow10" .u64 Lib.pow10Tab) (hN : N ≤ 536870912) :
  Calls Tryz.prog 124 #[.pointer (some ⟨g, 0, none⟩)] w fun e w' => e = .returned (.tuple #[]) ∧ ∃ L' cs' D' q', Bq base g E turn deep seen L' w' N cs' D' q' ∧ q'.fs = [] ∧ q'.fr = [] := by
 have h1 := h.b.imp (G := FK Kd.string 9 base 1002 (fun L w => E L w) q2.ps q2.os q2.fs) (fun L w hh => ⟨hh.1, hh.2⟩)
 refine (growTexts_calls L base g N w cs D h1 h.d.d2 (hE.mono (yt_ya (k := 2) (by decide))) (fun L w hh => hT L w hh) hN).mono ?_
 rintro e w' ⟨rfl, L', cs', D', os, n1, n2, n3⟩
 exact ⟨rfl, L', cs', D', ⟨q2.ps, os, [], q2.mq, q2.dq, []⟩, ⟨n1.imp (fun L w hh => ⟨hh.1, hh.2⟩), ⟨n2, fun i hi h2_ => (n3 i hi (by omega)).trans (h.d.o i hi h2_)⟩⟩, rfl, rfl⟩
theorem Bq.holdTexts (h : Bq base g E turn deep seen L w N cs D q2) (hN : N ≤ 536870912) : Calls Tryz.prog 22 #[.pointer (some ⟨g, 0, none⟩)] w fun e w' => e = .returned (.bool true) ∧ Below w.heap.size w w' := holdTexts_calls L base g N w cs D h.b h.b.F.1 h.d.d2 (by omega)
theorem Bq.marks (h : Bq base g E turn deep seen L w N cs D q2) (hf : q2.fs = [] ∧ q2.fr = []) (hE : Stb Ya E) (hT : ∀ L w, E L w → Lib.TabIs Tryz.prog w "internal/strconv.uint64pow10" .u64 Lib.pow10Tab) (hN : N ≤ 536870912) :
  Calls Tryz.prog 62 #[.pointer (some ⟨g, 0, none⟩)] w fun e w' => e = .returned (.tuple #[]) ∧ ∃ L' cs' D' q2', Bq base g E turn deep seen L' w' N cs' D' q2' := by
 have H := am h; have HE := am hE; have HNN := am hN; have HFS := am hf; have HTT := am hT; clear hT; clear h hE hN hf
 obtain ⟨L0, hL0⟩ : ∃ z, z = L := ⟨_, rfl⟩; rw [← hL0] at H; clear hL0
 go_enter Tryz.func62, Tryz.ntmps62
 go_wp2_with fail
 refine (markBytes_nil L0 base g N w cs D H.out.b.B (H.out.d.o 2 (by decide) (by decide))).mono ?_
 rintro e wn ⟨rfl, hw_⟩; obtain rfl : w = wn := hw_.symm
 go_wp2_with fail
 refine (markInts_nil L0 base g N w cs D H.out.b.B (H.out.d.o 10 (by decide) (by decide))).mono ?_
 rintro e wn ⟨rfl, hw_⟩; obtain rfl : w = wn := hw_.symm
 go_wp2_with fail
 refine (H.out.markTexts HFS.out.1 HFS.out.2 HE.out HTT.out HNN.out).mono ?_
 rintro e w1 ⟨rfl, L1, cs1, D1, p2, n0_⟩; clear H; have H := am n0_; clear n0_
 go_wp2_with fail
 refine (markEntries_nil L1 base g N w1 cs1 D1 H.out.b.B (H.out.d.o 26 (by decide) (by decide))).mono ?_
 rintro e wn ⟨rfl, hw_⟩; obtain rfl : w1 = wn := hw_.symm
 go_wp2_with fail
 refine (markAsks_nil L1 base g N w1 cs1 D1 H.out.b.B (H.out.d.o 34 (by decide) (by decide))).mono ?_
 rintro e wn ⟨rfl, hw_⟩; obtain rfl : w1 = wn := hw_.symm
 go_wp2_with fail
 refine (markUsers_nil L1 base g N w1 cs1 D1 H.out.b.B (H.out.d.o 42 (by decide) (by decide))).mono ?_
 rintro e wn ⟨rfl, hw_⟩; obtain rfl : w1 = wn := hw_.symm
 go_wp2_with fail
 refine (markWhos_nil L1 base g N w1 cs1 D1 H.out.b.B (H.out.d.o 50 (by decide) (by decide))).mono ?_
 rintro e wn ⟨rfl, hw_⟩; obtain rfl : w1 = wn := hw_.symm
 go_wp2_with fail
 refine (markChunks_nil L1 base g N w1 cs1 D1 H.out.b.B (H.out.d.o 58 (by decide) (by decide))).mono ?_
 rintro e wn ⟨rfl, hw_⟩; obtain rfl : w1 = wn := hw_.symm
 go_wp2_with fail
 refine (markMessages_nil L1 base g N w1 cs1 D1 H.out.b.B (H.out.d.o 66 (by decide) (by decide))).mono ?_
 rintro e wn ⟨rfl, hw_⟩; obtain rfl : w1 = wn := hw_.symm
 go_wp2_with fail
 refine (markPackets_nil L1 base g N w1 cs1 D1 H.out.b.B (H.out.d.o 74 (by decide) (by decide))).mono ?_
 rintro e wn ⟨rfl, hw_⟩; obtain rfl : w1 = wn := hw_.symm
 go_wp2_with fail
 refine (markFlights_nil L1 base g N w1 cs1 D1 H.out.b.B (H.out.d.o 82 (by decide) (by decide))).mono ?_
 rintro e wn ⟨rfl, hw_⟩; obtain rfl : w1 = wn := hw_.symm
 go_wp2_with fail
 refine (markOuts_nil L1 base g N w1 cs1 D1 H.out.b.B (H.out.d.o 90 (by decide) (by decide))).mono ?_
 rintro e wn ⟨rfl, hw_⟩; obtain rfl : w1 = wn := hw_.symm
 go_wp2_with fail
 refine (markInputs_nil L1 base g N w1 cs1 D1 H.out.b.B (H.out.d.o 98 (by decide) (by decide))).mono ?_
 rintro e wn ⟨rfl, hw_⟩; obtain rfl : w1 = wn := hw_.symm
 go_wp2_with fail
 refine (markTolds_nil L1 base g N w1 cs1 D1 H.out.b.B (H.out.d.o 106 (by decide) (by decide))).mono ?_
 rintro e wn ⟨rfl, hw_⟩; obtain rfl : w1 = wn := hw_.symm
 go_wp2_with fail
 refine (markSessions_nil L1 base g N w1 cs1 D1 H.out.b.B (H.out.d.o 114 (by decide) (by decide))).mono ?_
 rintro e wn ⟨rfl, hw_⟩; obtain rfl : w1 = wn := hw_.symm
 go_wp2_with fail
 refine (markShapes_nil L1 base g N w1 cs1 D1 H.out.b.B (H.out.d.o 122 (by decide) (by decide))).mono ?_
 rintro e wn ⟨rfl, hw_⟩; obtain rfl : w1 = wn := hw_.symm
 go_wp2_with fail
 refine (markServeds_nil L1 base g N w1 cs1 D1 H.out.b.B (H.out.d.o 130 (by decide) (by decide))).mono ?_
 rintro e wn ⟨rfl, hw_⟩; obtain rfl : w1 = wn := hw_.symm
 go_wp2_with fail
 refine (markRules_nil L1 base g N w1 cs1 D1 H.out.b.B (H.out.d.o 138 (by decide) (by decide))).mono ?_
 rintro e wn ⟨rfl, hw_⟩; obtain rfl : w1 = wn := hw_.symm
 go_wp2_with fail
 refine (markGroups_nil L1 base g N w1 cs1 D1 H.out.b.B (H.out.d.o 146 (by decide) (by decide))).mono ?_
 rintro e wn ⟨rfl, hw_⟩; obtain rfl : w1 = wn := hw_.symm
 go_wp2_with fail
 refine (markChanges_nil L1 base g N w1 cs1 D1 H.out.b.B (H.out.d.o 154 (by decide) (by decide))).mono ?_
 rintro e wn ⟨rfl, hw_⟩; obtain rfl : w1 = wn := hw_.symm
 go_wp2_with fail
 refine (markSteps_nil L1 base g N w1 cs1 D1 H.out.b.B (H.out.d.o 162 (by decide) (by decide))).mono ?_
 rintro e wn ⟨rfl, hw_⟩; obtain rfl : w1 = wn := hw_.symm
 go_wp2_with fail
 first | go_end0 | ((try simp only [Exit.inBlock, Exit.then]); refine bodyPost_ret (results_none rfl _ _ _) rfl ?_)
 exact ⟨rfl, _, _, _, _, H.out⟩
theorem Bq.nil1 {cs' : Array Value} (h : Bq base g E turn deep seen L w N cs D q2) (hE : Stb Ya E) (b1 : BookAt L base W g N cs' D) (s1 : Sc cs' false false turn deep seen) (o1 : Only Bl L w L W) (s3 : Same3 w W) : Bq base g E turn deep seen L W N cs' D q2 := ⟨⟨b1, s1, Fa.stb hE _ _ _ _ h.b.F o1.chg s3⟩, h.d⟩
theorem Bq.grows (h : Bq base g E turn deep seen L w N cs D q2) (hE : Stb Ya E) (hT : ∀ L w, E L w → Lib.TabIs Tryz.prog w "internal/strconv.uint64pow10" .u64 Lib.pow10Tab) (hN : N ≤ 536870912) :
  Calls Tryz.prog 63 #[.pointer (some ⟨g, 0, none⟩)] w fun e w' => e = .returned (.tuple #[]) ∧ ∃ L' cs' D' q2', Bq base g E turn deep seen L' w' N cs' D' q2' ∧ q2'.fs = [] ∧ q2'.fr = [] := by
 have H := am h; have HE := am hE; have HNN := am hN; have HTT := am hT; clear hT; clear h hE hN
 obtain ⟨L0, hL0⟩ : ∃ z, z = L := ⟨_, rfl⟩; rw [← hL0] at H; clear hL0
 go_enter Tryz.func63, Tryz.ntmps63
 go_wp2_with fail
 refine (growBytes_nil L0 base g N w cs D H.out.b.B H.out.b.S (H.out.d.o 4 (by decide) (by decide)) (H.out.d.o 7 (by decide) (by decide))).mono ?_
 rintro e w1 ⟨rfl, cs1, b1, s1, o1, s3⟩; have n0_ := H.out.nil1 HE.out b1 s1 o1 s3; clear H b1 s1 o1 s3; have H := am n0_; clear n0_
 go_wp2_with fail
 refine (growInts_nil L0 base g N w1 cs1 D H.out.b.B H.out.b.S (H.out.d.o 12 (by decide) (by decide)) (H.out.d.o 15 (by decide) (by decide))).mono ?_
 rintro e w2 ⟨rfl, cs2, b1, s1, o1, s3⟩; have n0_ := H.out.nil1 HE.out b1 s1 o1 s3; clear H b1 s1 o1 s3; have H := am n0_; clear n0_
 go_wp2_with fail
 refine (H.out.growTexts HE.out HTT.out HNN.out).mono ?_
 rintro e w3 ⟨rfl, L3, cs3, D3, p2, n0_, n1_⟩; clear H; have H := am n0_; have HQ2 := am n1_; clear n0_ n1_
 go_wp2_with fail
 refine (growEntries_nil L3 base g N w3 cs3 D3 H.out.b.B H.out.b.S (H.out.d.o 28 (by decide) (by decide)) (H.out.d.o 31 (by decide) (by decide))).mono ?_
 rintro e w4 ⟨rfl, cs4, b1, s1, o1, s3⟩; have n0_ := H.out.nil1 HE.out b1 s1 o1 s3; clear H b1 s1 o1 s3; have H := am n0_; clear n0_
 go_wp2_with fail
 refine (growAsks_nil L3 base g N w4 cs4 D3 H.out.b.B H.out.b.S (H.out.d.o 36 (by decide) (by decide)) (H.out.d.o 39 (by decide) (by decide))).mono ?_
 rintro e w5 ⟨rfl, cs5, b1, s1, o1, s3⟩; have n0_ := H.out.nil1 HE.out b1 s1 o1 s3; clear H b1 s1 o1 s3; have H := am n0_; clear n0_
 go_wp2_with fail
 refine (growUsers_nil L3 base g N w5 cs5 D3 H.out.b.B H.out.b.S (H.out.d.o 44 (by decide) (by decide)) (H.out.d.o 47 (by decide) (by decide))).mono ?_
 rintro e w6 ⟨rfl, cs6, b1, s1, o1, s3⟩; have n0_ := H.out.nil1 HE.out b1 s1 o1 s3; clear H b1 s1 o1 s3; have H := am n0_; clear n0_
 go_wp2_with fail
 refine (growWhos_nil L3 base g N w6 cs6 D3 H.out.b.B H.out.b.S (H.out.d.o 52 (by decide) (by decide)) (H.out.d.o 55 (by decide) (by decide))).mono ?_
 rintro e w7 ⟨rfl, cs7, b1, s1, o1, s3⟩; have n0_ := H.out.nil1 HE.out b1 s1 o1 s3; clear H b1 s1 o1 s3; have H := am n0_; clear n0_
 go_wp2_with fail
 refine (growChunks_nil L3 base g N w7 cs7 D3 H.out.b.B H.out.b.S (H.out.d.o 60 (by decide) (by decide)) (H.out.d.o 63 (by decide) (by decide))).mono ?_
 rintro e w8 ⟨rfl, cs8, b1, s1, o1, s3⟩; have n0_ := H.out.nil1 HE.out b1 s1 o1 s3; clear H b1 s1 o1 s3; have H := am n0_; clear n0_
 go_wp2_with fail
 refine (growMessages_nil L3 base g N w8 cs8 D3 H.out.b.B H.out.b.S (H.out.d.o 68 (by decide) (by decide)) (H.out.d.o 71 (by decide) (by decide))).mono ?_
 rintro e w9 ⟨rfl, cs9, b1, s1, o1, s3⟩; have n0_ := H.out.nil1 HE.out b1 s1 o1 s3; clear H b1 s1 o1 s3; have H := am n0_; clear n0_
 go_wp2_with fail
 refine (growPackets_nil L3 base g N w9 cs9 D3 H.out.b.B H.out.b.S (H.out.d.o 76 (by decide) (by decide)) (H.out.d.o 79 (by decide) (by decide))).mono ?_
 rintro e w10 ⟨rfl, cs10, b1, s1, o1, s3⟩; have n0_ := H.out.nil1 HE.out b1 s1 o1 s3; clear H b1 s1 o1 s3; have H := am n0_; clear n0_
 go_wp2_with fail
 refine (growFlights_nil L3 base g N w10 cs10 D3 H.out.b.B H.out.b.S (H.out.d.o 84 (by decide) (by decide)) (H.out.d.o 87 (by decide) (by decide))).mono ?_
 rintro e w11 ⟨rfl, cs11, b1, s1, o1, s3⟩; have n0_ := H.out.nil1 HE.out b1 s1 o1 s3; clear H b1 s1 o1 s3; have H := am n0_; clear n0_
 go_wp2_with fail
 refine (growOuts_nil L3 base g N w11 cs11 D3 H.out.b.B H.out.b.S (H.out.d.o 92 (by decide) (by decide)) (H.out.d.o 95 (by decide) (by decide))).mono ?_
 rintro e w12 ⟨rfl, cs12, b1, s1, o1, s3⟩; have n0_ := H.out.nil1 HE.out b1 s1 o1 s3; clear H b1 s1 o1 s3; have H := am n0_; clear n0_
 go_wp2_with fail
 refine (growInputs_nil L3 base g N w12 cs12 D3 H.out.b.B H.out.b.S (H.out.d.o 100 (by decide) (by decide)) (H.out.d.o 103 (by decide) (by decide))).mono ?_
 rintro e w13 ⟨rfl, cs13, b1, s1, o1, s3⟩; have n0_ := H.out.nil1 HE.out b1 s1 o1 s3; clear H b1 s1 o1 s3; have H := am n0_; clear n0_
 go_wp2_with fail
 refine (growTolds_nil L3 base g N w13 cs13 D3 H.out.b.B H.out.b.S (H.out.d.o 108 (by decide) (by decide)) (H.out.d.o 111 (by decide) (by decide))).mono ?_
 rintro e w14 ⟨rfl, cs14, b1, s1, o1, s3⟩; have n0_ := H.out.nil1 HE.out b1 s1 o1 s3; clear H b1 s1 o1 s3; have H := am n0_; clear n0_
 go_wp2_with fail
 refine (growSessions_nil L3 base g N w14 cs14 D3 H.out.b.B H.out.b.S (H.out.d.o 116 (by decide) (by decide)) (H.out.d.o 119 (by decide) (by decide))).mono ?_
 rintro e w15 ⟨rfl, cs15, b1, s1, o1, s3⟩; have n0_ := H.out.nil1 HE.out b1 s1 o1 s3; clear H b1 s1 o1 s3; have H := am n0_; clear n0_
 go_wp2_with fail
 refine (growShapes_nil L3 base g N w15 cs15 D3 H.out.b.B H.out.b.S (H.out.d.o 124 (by decide) (by decide)) (H.out.d.o 127 (by decide) (by decide))).mono ?_
 rintro e w16 ⟨rfl, cs16, b1, s1, o1, s3⟩; have n0_ := H.out.nil1 HE.out b1 s1 o1 s3; clear H b1 s1 o1 s3; have H := am n0_; clear n0_
 go_wp2_with fail
 refine (growServeds_nil L3 base g N w16 cs16 D3 H.out.b.B H.out.b.S (H.out.d.o 132 (by decide) (by decide)) (H.out.d.o 135 (by decide) (by decide))).mono ?_
 rintro e w17 ⟨rfl, cs17, b1, s1, o1, s3⟩; have n0_ := H.out.nil1 HE.out b1 s1 o1 s3; clear H b1 s1 o1 s3; have H := am n0_; clear n0_
 go_wp2_with fail
 refine (growRules_nil L3 base g N w17 cs17 D3 H.out.b.B H.out.b.S (H.out.d.o 140 (by decide) (by decide)) (H.out.d.o 143 (by decide) (by decide))).mono ?_
 rintro e w18 ⟨rfl, cs18, b1, s1, o1, s3⟩; have n0_ := H.out.nil1 HE.out b1 s1 o1 s3; clear H b1 s1 o1 s3; have H := am n0_; clear n0_
 go_wp2_with fail
 refine (growGroups_nil L3 base g N w18 cs18 D3 H.out.b.B H.out.b.S (H.out.d.o 148 (by decide) (by decide)) (H.out.d.o 151 (by decide) (by decide))).mono ?_
 rintro e w19 ⟨rfl, cs19, b1, s1, o1, s3⟩; have n0_ := H.out.nil1 HE.out b1 s1 o1 s3; clear H b1 s1 o1 s3; have H := am n0_; clear n0_
 go_wp2_with fail
 refine (growChanges_nil L3 base g N w19 cs19 D3 H.out.b.B H.out.b.S (H.out.d.o 156 (by decide) (by decide)) (H.out.d.o 159 (by decide) (by decide))).mono ?_
 rintro e w20 ⟨rfl, cs20, b1, s1, o1, s3⟩; have n0_ := H.out.nil1 HE.out b1 s1 o1 s3; clear H b1 s1 o1 s3; have H := am n0_; clear n0_
 go_wp2_with fail
 refine (growSteps_nil L3 base g N w20 cs20 D3 H.out.b.B H.out.b.S (H.out.d.o 164 (by decide) (by decide)) (H.out.d.o 167 (by decide) (by decide))).mono ?_
 rintro e w21 ⟨rfl, cs21, b1, s1, o1, s3⟩; have n0_ := H.out.nil1 HE.out b1 s1 o1 s3; clear H b1 s1 o1 s3; have H := am n0_; clear n0_
 go_wp2_with fail
 first | go_end0 | ((try simp only [Exit.inBlock, Exit.then]); refine bodyPost_ret (results_none rfl _ _ _) rfl ?_)
 exact ⟨rfl, _, _, _, _, H.out, HQ2.out.1, HQ2.out.2⟩
theorem Bq.done1 (h : Bq base g E turn 1 seen L w N cs D q2) (hf : q2.fs = [] ∧ q2.fr = []) (hE : Stb Ya E) (hT : ∀ L w, E L w → Lib.TabIs Tryz.prog w "internal/strconv.uint64pow10" .u64 Lib.pow10Tab) (hN : N ≤ 536870912) (ht0 : 0 ≤ turn) (ht1 : turn ≤ 1073741824) :
  Calls Tryz.prog 19 #[.pointer (some ⟨g, 0, none⟩)] w fun e w' => e = .returned (.tuple #[]) ∧ ∃ L' cs' D' q2', Bq base g E (turn + 1) 0 seen L' w' N cs' D' q2' ∧ q2'.fs = [] ∧ q2'.fr = [] := by
 have c3 := (h.b.cell 3).trans h.b.S.deep; have f3 : w.frozen? ⟨g, 3, none⟩ = false := blk_frozen h.b.B.blk 3
 have H := am h; have HE := am hE; have HNN := am hN; have HFS := am hf; have HT0 := am ht0; have HT1 := am ht1; have HTT := am hT; clear hT; clear h hE hN hf ht0 ht1
 go_enter Tryz.func19, Tryz.ntmps19
 go_upto_region 1 with (fail)
 have n0_ : Bq base g E turn 0 seen L (w.setCell ⟨g, 3, none⟩ (.int .i64 0)) N (cs.setIfInBounds 3 (.int .i64 0)) D q2 := ⟨H.out.b.scalar (Fa.stb HE.out) (s := 3) (.int .i64 0) (scalar_slot (by decide)) (H.out.b.S.set_deep 0), H.out.d⟩
 obtain ⟨w1, hw_⟩ : ∃ z, z = w.setCell ⟨g, 3, none⟩ (.int .i64 0) := ⟨_, rfl⟩; rw [← hw_] at n0_ ⊢; clear hw_ H c3 f3; have c3 := (n0_.b.cell 3).trans n0_.b.S.deep; have H := am n0_; clear n0_
 go_wp2_with fail
 refine (H.out.marks HFS.out HE.out HTT.out HNN.out).mono ?_
 rintro e w2 ⟨rfl, L2, cs2, D2, p2, n0_⟩; clear H c3; have H := am n0_; clear n0_
 go_wp2_with fail
 refine (H.out.grows HE.out HTT.out HNN.out).mono ?_
 rintro e w3 ⟨rfl, L3, cs3, D3, r2, n0_, n1_⟩; clear H; have c2 := (n0_.b.cell 2).trans n0_.b.S.turn; have f2 : w3.frozen? ⟨g, 2, none⟩ = false := blk_frozen n0_.b.B.blk 2; have H := am n0_; have HQ := am n1_; clear n0_ n1_; have t0 := HT0.out; have t1 := HT1.out
 go_wp2_with fail
 first | go_end0 | ((try simp only [Exit.inBlock, Exit.then]); refine bodyPost_ret (results_none rfl _ _ _) rfl ?_)
 exact ⟨rfl, L3, _, D3, r2, ⟨H.out.b.scalar (Fa.stb HE.out) (s := 2) (.int .i64 (turn + 1)) (scalar_slot (by decide)) (H.out.b.S.set_turn (turn + 1)), H.out.d⟩, HQ.out⟩
theorem Bq.Hold (h : Bq base g E turn deep seen L w N cs D q2) (hE : Stb Ya E) (hN : N ≤ 536870912) : Calls Tryz.prog 12 #[.pointer (some ⟨g, 0, none⟩)] w fun e w' => e = .returned (.bool true) ∧ Below w.heap.size w w' := by
 have c1 := (h.b.cell 1).trans h.b.S.bad
 obtain ⟨w0, hw0⟩ : ∃ z, z = w := ⟨_, rfl⟩; obtain ⟨L0, hL0⟩ : ∃ z, z = L := ⟨_, rfl⟩; rw [← hL0] at h
 have H := am h; have HE := am hE; have HNN := am hN; have HBL : Aside0 (Below w0.heap.size w0 w) := ⟨by rw [hw0]; exact Below.refl _ _⟩; clear h hE hN hL0; have HW := am hw0; clear hw0
 go_enter Tryz.func12, Tryz.ntmps12
 go_wp2_with fail
 refine (holdBytes_nil L0 base g N w cs D H.out.b.B (H.out.d.o 0 (by decide) (by decide)) (H.out.d.o 2 (by decide) (by decide))).mono ?_
 rintro e w1 ⟨rfl, hb⟩; have n0_ := H.out.new HE.out 0 hb; have n1_ := below_step HBL.out hb; obtain ⟨L1, hL_⟩ : ∃ z, z = lab1 L0 w.heap.size 0 := ⟨_, rfl⟩; rw [← hL_] at n0_; clear hL_ H HBL hb; have H := am n0_; have HBL := am n1_; clear n0_ n1_; clear c1
 go_wp2_with fail
 refine (holdInts_nil L1 base g N w1 cs D H.out.b.B (H.out.d.o 8 (by decide) (by decide)) (H.out.d.o 10 (by decide) (by decide))).mono ?_
 rintro e w2 ⟨rfl, hb⟩; have n0_ := H.out.new HE.out 0 hb; have n1_ := below_step HBL.out hb; obtain ⟨L2, hL_⟩ : ∃ z, z = lab1 L1 w1.heap.size 0 := ⟨_, rfl⟩; rw [← hL_] at n0_; clear hL_ H HBL hb; have H := am n0_; have HBL := am n1_; clear n0_ n1_
 go_wp2_with fail
 refine (H.out.holdTexts HNN.out).mono ?_
 rintro e w3 ⟨rfl, hb⟩; have n0_ := H.out.new HE.out 0 hb; have n1_ := below_step HBL.out hb; obtain ⟨L3, hL_⟩ : ∃ z, z = lab1 L2 w2.heap.size 0 := ⟨_, rfl⟩; rw [← hL_] at n0_; clear hL_ H HBL hb; have H := am n0_; have HBL := am n1_; clear n0_ n1_
 go_wp2_with fail
 refine (holdEntries_nil L3 base g N w3 cs D H.out.b.B (H.out.d.o 24 (by decide) (by decide)) (H.out.d.o 26 (by decide) (by decide))).mono ?_
 rintro e w4 ⟨rfl, hb⟩; have n0_ := H.out.new HE.out 0 hb; have n1_ := below_step HBL.out hb; obtain ⟨L4, hL_⟩ : ∃ z, z = lab1 L3 w3.heap.size 0 := ⟨_, rfl⟩; rw [← hL_] at n0_; clear hL_ H HBL hb; have H := am n0_; have HBL := am n1_; clear n0_ n1_
 go_wp2_with fail
 refine (holdAsks_nil L4 base g N w4 cs D H.out.b.B (H.out.d.o 32 (by decide) (by decide)) (H.out.d.o 34 (by decide) (by decide))).mono ?_
 rintro e w5 ⟨rfl, hb⟩; have n0_ := H.out.new HE.out 0 hb; have n1_ := below_step HBL.out hb; obtain ⟨L5, hL_⟩ : ∃ z, z = lab1 L4 w4.heap.size 0 := ⟨_, rfl⟩; rw [← hL_] at n0_; clear hL_ H HBL hb; have H := am n0_; have HBL := am n1_; clear n0_ n1_
 go_wp2_with fail
 refine (holdUsers_nil L5 base g N w5 cs D H.out.b.B (H.out.d.o 40 (by decide) (by decide)) (H.out.d.o 42 (by decide) (by decide))).mono ?_
 rintro e w6 ⟨rfl, hb⟩; have n0_ := H.out.new HE.out 0 hb; have n1_ := below_step HBL.out hb; obtain ⟨L6, hL_⟩ : ∃ z, z = lab1 L5 w5.heap.size 0 := ⟨_, rfl⟩; rw [← hL_] at n0_; clear hL_ H HBL hb; have H := am n0_; have HBL := am n1_; clear n0_ n1_
 go_wp2_with fail
 refine (holdWhos_nil L6 base g N w6 cs D H.out.b.B (H.out.d.o 48 (by decide) (by decide)) (H.out.d.o 50 (by decide) (by decide))).mono ?_
 rintro e w7 ⟨rfl, hb⟩; have n0_ := H.out.new HE.out 0 hb; have n1_ := below_step HBL.out hb; obtain ⟨L7, hL_⟩ : ∃ z, z = lab1 L6 w6.heap.size 0 := ⟨_, rfl⟩; rw [← hL_] at n0_; clear hL_ H HBL hb; have H := am n0_; have HBL := am n1_; clear n0_ n1_
 go_wp2_with fail
 refine (holdChunks_nil L7 base g N w7 cs D H.out.b.B (H.out.d.o 56 (by decide) (by decide)) (H.out.d.o 58 (by decide) (by decide))).mono ?_
 rintro e w8 ⟨rfl, hb⟩; have n0_ := H.out.new HE.out 0 hb; have n1_ := below_step HBL.out hb; obtain ⟨L8, hL_⟩ : ∃ z, z = lab1 L7 w7.heap.size 0 := ⟨_, rfl⟩; rw [← hL_] at n0_; clear hL_ H HBL hb; have H := am n0_; have HBL := am n1_; clear n0_ n1_
 go_wp2_with fail
 refine (holdMessages_nil L8 base g N w8 cs D H.out.b.B (H.out.d.o 64 (by decide) (by decide)) (H.out.d.o 66 (by decide) (by decide))).mono ?_
 rintro e w9 ⟨rfl, hb⟩; have n0_ := H.out.new HE.out 0 hb; have n1_ := below_step HBL.out hb; obtain ⟨L9, hL_⟩ : ∃ z, z = lab1 L8 w8.heap.size 0 := ⟨_, rfl⟩; rw [← hL_] at n0_; clear hL_ H HBL hb; have H := am n0_; have HBL := am n1_; clear n0_ n1_
 go_wp2_with fail
 refine (holdPackets_nil L9 base g N w9 cs D H.out.b.B (H.out.d.o 72 (by decide) (by decide)) (H.out.d.o 74 (by decide) (by decide))).mono ?_
 rintro e w10 ⟨rfl, hb⟩; have n0_ := H.out.new HE.out 0 hb; have n1_ := below_step HBL.out hb; obtain ⟨L10, hL_⟩ : ∃ z, z = lab1 L9 w9.heap.size 0 := ⟨_, rfl⟩; rw [← hL_] at n0_; clear hL_ H HBL hb; have H := am n0_; have HBL := am n1_; clear n0_ n1_
 go_wp2_with fail
 refine (holdFlights_nil L10 base g N w10 cs D H.out.b.B (H.out.d.o 80 (by decide) (by decide)) (H.out.d.o 82 (by decide) (by decide))).mono ?_
 rintro e w11 ⟨rfl, hb⟩; have n0_ := H.out.new HE.out 0 hb; have n1_ := below_step HBL.out hb; obtain ⟨L11, hL_⟩ : ∃ z, z = lab1 L10 w10.heap.size 0 := ⟨_, rfl⟩; rw [← hL_] at n0_; clear hL_ H HBL hb; have H := am n0_; have HBL := am n1_; clear n0_ n1_
 go_wp2_with fail
 refine (holdOuts_nil L11 base g N w11 cs D H.out.b.B (H.out.d.o 88 (by decide) (by decide)) (H.out.d.o 90 (by decide) (by decide))).mono ?_
 rintro e w12 ⟨rfl, hb⟩; have n0_ := H.out.new HE.out 0 hb; have n1_ := below_step HBL.out hb; obtain ⟨L12, hL_⟩ : ∃ z, z = lab1 L11 w11.heap.size 0 := ⟨_, rfl⟩; rw [← hL_] at n0_; clear hL_ H HBL hb; have H := am n0_; have HBL := am n1_; clear n0_ n1_
 go_wp2_with fail
 refine (holdInputs_nil L12 base g N w12 cs D H.out.b.B (H.out.d.o 96 (by decide) (by decide)) (H.out.d.o 98 (by decide) (by decide))).mono ?_
 rintro e w13 ⟨rfl, hb⟩; have n0_ := H.out.new HE.out 0 hb; have n1_ := below_step HBL.out hb; obtain ⟨L13, hL_⟩ : ∃ z, z = lab1 L12 w12.heap.size 0 := ⟨_, rfl⟩; rw [← hL_] at n0_; clear hL_ H HBL hb; have H := am n0_; have HBL := am n1_; clear n0_ n1_
 go_wp2_with fail
 refine (holdTolds_nil L13 base g N w13 cs D H.out.b.B (H.out.d.o 104 (by decide) (by decide)) (H.out.d.o 106 (by decide) (by decide))).mono ?_
 rintro e w14 ⟨rfl, hb⟩; have n0_ := H.out.new HE.out 0 hb; have n1_ := below_step HBL.out hb; obtain ⟨L14, hL_⟩ : ∃ z, z = lab1 L13 w13.heap.size 0 := ⟨_, rfl⟩; rw [← hL_] at n0_; clear hL_ H HBL hb; have H := am n0_; have HBL := am n1_; clear n0_ n1_
 go_wp2_with fail
 refine (holdSessions_nil L14 base g N w14 cs D H.out.b.B (H.out.d.o 112 (by decide) (by decide)) (H.out.d.o 114 (by decide) (by decide))).mono ?_
 rintro e w15 ⟨rfl, hb⟩; have n0_ := H.out.new HE.out 0 hb; have n1_ := below_step HBL.out hb; obtain ⟨L15, hL_⟩ : ∃ z, z = lab1 L14 w14.heap.size 0 := ⟨_, rfl⟩; rw [← hL_] at n0_; clear hL_ H HBL hb; have H := am n0_; have HBL := am n1_; clear n0_ n1_
 go_wp2_with fail
 refine (holdShapes_nil L15 base g N w15 cs D H.out.b.B (H.out.d.o 120 (by decide) (by decide)) (H.out.d.o 122 (by decide) (by decide))).mono ?_
 rintro e w16 ⟨rfl, hb⟩; have n0_ := H.out.new HE.out 0 hb; have n1_ := below_step HBL.out hb; obtain ⟨L16, hL_⟩ : ∃ z, z = lab1 L15 w15.heap.size 0 := ⟨_, rfl⟩; rw [← hL_] at n0_; clear hL_ H HBL hb; have H := am n0_; have HBL := am n1_; clear n0_ n1_
 go_wp2_with fail
 refine (holdServeds_nil L16 base g N w16 cs D H.out.b.B (H.out.d.o 128 (by decide) (by decide)) (H.out.d.o 130 (by decide) (by decide))).mono ?_
 rintro e w17 ⟨rfl, hb⟩; have n0_ := H.out.new HE.out 0 hb; have n1_ := below_step HBL.out hb; obtain ⟨L17, hL_⟩ : ∃ z, z = lab1 L16 w16.heap.size 0 := ⟨_, rfl⟩; rw [← hL_] at n0_; clear hL_ H HBL hb; have H := am n0_; have HBL := am n1_; clear n0_ n1_
 go_wp2_with fail
 refine (holdRules_nil L17 base g N w17 cs D H.out.b.B (H.out.d.o 136 (by decide) (by decide)) (H.out.d.o 138 (by decide) (by decide))).mono ?_
 rintro e w18 ⟨rfl, hb⟩; have n0_ := H.out.new HE.out 0 hb; have n1_ := below_step HBL.out hb; obtain ⟨L18, hL_⟩ : ∃ z, z = lab1 L17 w17.heap.size 0 := ⟨_, rfl⟩; rw [← hL_] at n0_; clear hL_ H HBL hb; have H := am n0_; have HBL := am n1_; clear n0_ n1_
 go_wp2_with fail
 refine (holdGroups_nil L18 base g N w18 cs D H.out.b.B (H.out.d.o 144 (by decide) (by decide)) (H.out.d.o 146 (by decide) (by decide))).mono ?_
 rintro e w19 ⟨rfl, hb⟩; have n0_ := H.out.new HE.out 0 hb; have n1_ := below_step HBL.out hb; obtain ⟨L19, hL_⟩ : ∃ z, z = lab1 L18 w18.heap.size 0 := ⟨_, rfl⟩; rw [← hL_] at n0_; clear hL_ H HBL hb; have H := am n0_; have HBL := am n1_; clear n0_ n1_
 go_wp2_with fail
 refine (holdChanges_nil L19 base g N w19 cs D H.out.b.B (H.out.d.o 152 (by decide) (by decide)) (H.out.d.o 154 (by decide) (by decide))).mono ?_
 rintro e w20 ⟨rfl, hb⟩; have n0_ := H.out.new HE.out 0 hb; have n1_ := below_step HBL.out hb; obtain ⟨L20, hL_⟩ : ∃ z, z = lab1 L19 w19.heap.size 0 := ⟨_, rfl⟩; rw [← hL_] at n0_; clear hL_ H HBL hb; have H := am n0_; have HBL := am n1_; clear n0_ n1_
 go_wp2_with fail
 refine (holdSteps_nil L20 base g N w20 cs D H.out.b.B (H.out.d.o 160 (by decide) (by decide)) (H.out.d.o 162 (by decide) (by decide))).mono ?_
 rintro e w21 ⟨rfl, hb⟩; have n0_ := H.out.new HE.out 0 hb; have n1_ := below_step HBL.out hb; obtain ⟨L21, hL_⟩ : ∃ z, z = lab1 L20 w20.heap.size 0 := ⟨_, rfl⟩; rw [← hL_] at n0_; clear hL_ H HBL hb; have H := am n0_; have HBL := am n1_; clear n0_ n1_
 go_wp2_with fail
 go_ret
 rw [HW.out] at HBL; exact ⟨rfl, HBL.out⟩
theorem Bq.addTexts_0 {l : List ByteArray} (h : Bq base g (fun L w => Ls Kd.string 9 base 1002 L w (.slice A_ l.length c_) l ∧ E L w) turn 0 seen L w N cs D q2) (hf : q2.fs = [] ∧ q2.fr = []) (hE : Stb Ya E) (hT : ∀ L w, E L w → Lib.TabIs Tryz.prog w "internal/strconv.uint64pow10" .u64 Lib.pow10Tab) (mk : Int) (ht0 : 0 ≤ turn) (ht1 : turn ≤ 1073741824) (hn0 : 0 ≤ seen 2) (hn1 : seen 2 ≤ 1073741824) (hN : N ≤ 536870000) (hc : l.length ≤ c_) (hlb : l.length ≤ 536870912) (ha : ∀ p ∈ q2.ps, Ap p.1 (.slice A_ l.length c_)) (ho : ∀ p ∈ q2.os, Ap p.1 (.slice A_ l.length c_)) :
  Calls Tryz.prog 11 #[.pointer (some ⟨g, 0, none⟩), .slice A_ l.length c_, .int .i64 mk] w fun e w' => e = .returned (.tuple #[]) ∧ ∃ L' cs' D' q2', Bq base g E (turn + 1) 0 (fun q => if q = 2 then seen 2 + 1 else seen q) L' w' (N + 4) cs' D' q2' ∧ q2'.fs = [] ∧ q2'.fr = [] := by
 have hst : Stb Bl (Fa base (fun L w => Ls Kd.string 9 base 1002 L w (.slice A_ l.length c_) l ∧ E L w) q2) := Fa.stbE ((Ls.stb (fun _ _ _ _ h => h : Fl Kd.string) (bl_big (by decide))).and (hE.mono bl_ya))
 have hls := h.b.F.2
 refine addTexts_via L base g N w cs D h.b.B h.b.S A_ c_ l mk (by decide) (by decide) ht0 ht1 hn0 hn1 (by omega) (fun L' W' hO => ls_Cn (hls.1.step (fun _ _ _ _ h => h : Fl Kd.string) hO.chg (bl_big (by decide)))) hc hlb (fun L' w' cs' nv b1 s1 o1 s3 cp => ?_)
 have hF := hst _ _ _ _ h.b.F o1.chg s3
 have n3 : ∀ j, j / 8 ≠ 2 → (fun j => if j = 18 then D j ++ [.slice A_ l.length c_] else if j = 19 then D j ++ [nv] else if j = 21 then D j ++ [.int .i64 mk] else if j = 22 then D j ++ [.int .i64 (dueV turn (seen 2))] else D j) j = D j := fun j hj => by
  show (if j = 18 then _ else if j = 19 then _ else if j = 21 then _ else if j = 22 then _ else D j) = D j
  rw [if_neg (by omega), if_neg (by omega), if_neg (by omega), if_neg (by omega)]
 have hk := hF.1
 rw [hf.1] at hk
 have n2 := (show Dq 2 (N + 4) (fun j => if j = 18 then D j ++ [.slice A_ l.length c_] else if j = 19 then D j ++ [nv] else if j = 21 then D j ++ [.int .i64 mk] else if j = 22 then D j ++ [.int .i64 (dueV turn (seen 2))] else D j) ⟨q2.ps ++ [(.slice A_ l.length c_, nv)], q2.os, q2.fs, q2.mq ++ [mk], q2.dq ++ [dueV turn (seen 2)], q2.fr⟩ from Dsh.add4 h.d.d2)
 rw [hf.1, hf.2] at n2
 exact Bq.done1 (⟨⟨b1, s1, (hk.push hF.2.1 cp hlb ha ho), hF.2.2⟩, ⟨n2, fun i hi h2_ => (n3 i (by omega)).trans (h.d.o i hi h2_)⟩⟩ : Bq base g E turn 1 _ L' w' (N + 4) cs' _ ⟨q2.ps ++ [(.slice A_ l.length c_, nv)], q2.os, [], q2.mq ++ [mk], q2.dq ++ [dueV turn (seen 2)], []⟩) ⟨rfl, rfl⟩ hE hT (by omega) ht0 ht1
end
end Go.Proofs.YtfomjbbebgajcaaGreatDoor.Rm
