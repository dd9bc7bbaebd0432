/- crierroom.Room: structs, and lists of structs, laid with room behind them. -/
import Derived.Test.YtndhkgfeknkfdaaGreatDoorLy
import Derived.Test.YtndhkgfeknkfdaaGreatDoorRm
namespace Go.Proofs.YtndhkgfeknkfdaaGreatDoor.Rm
open Go.RowKit Go.Proofs.YtndhkgfeknkfdaaGreatDoorW.PrintWords Go.Proofs.YtndhkgfeknkfdaaGreatDoorW.PrintLast Go.Proofs.YtndhkgfeknkfdaaGreatDoorW.PrintMore Go.Proofs.YtndhkgfeknkfdaaGreatDoor.MPacketChecks
set_option linter.unusedVariables false
set_option linter.unusedSimpArgs false
set_option maxHeartbeats 40000000
set_option maxRecDepth 100000
/-- what a struct's lay keeps: the room, the argument's block, the answer's -/
structure SL (L : Nat → Nat) (w w0 : World) (base g gb gr : Nat) (T : TypeId) (c1 c2 : Array Value) (Lk : Nat → Nat) (W : World) (Nk : Nat) (csk : Array Value) (Dk : Nat → List (Value × Int)) : Prop where
  room : RoomAt Lk base W g Nk csk Dk
  only : Only Room L w Lk W
  below : Below base w0 W
  b1 : W.heap[gb]? = some (.cells c1 T (0, 0))
  b2 : W.heap[gr]? = some (.cells c2 T (0, 0))
  l1 : Lk gb = 200
  l2 : Lk gr = 200
  n1 : w.heap.size ≤ gb
  n2 : w.heap.size ≤ gr
  ne : gb ≠ gr
  bs : base ≤ w.heap.size
section
variable {L Lk L' : Nat → Nat} {w w0 W W' : World} {base g gb gr Nk N' : Nat} {T : TypeId} {c1 c2 c1' : Array Value} {csk cs' : Array Value} {Dk D' : Nat → List (Value × Int)} {F F' : World → Prop}
theorem room200 : ∀ x, Is 200 x → ¬ Room x ∧ x ≠ 0 := fun x h => by
  obtain rfl : x = 200 := h
  exact ⟨fun hr => by have := hr.2; omega, by decide⟩
theorem SL.call (h : SL L w w0 base g gb gr T c1 c2 Lk W Nk csk Dk) (hR : RoomAt L' base W' g N' cs' D') (hO : Only Room Lk W L' W') (hB : Below base w0 W') : SL L w w0 base g gb gr T c1 c2 L' W' N' cs' D' where
  room := hR
  only := h.only.trans hO
  below := hB
  b1 := (hO.keep gb (blk_lt h.b1) (by rw [h.l1]; exact fun hr => by have := hr.2; omega)).trans h.b1
  b2 := (hO.keep gr (blk_lt h.b2) (by rw [h.l2]; exact fun hr => by have := hr.2; omega)).trans h.b2
  l1 := (hO.lab gb (blk_lt h.b1)).trans h.l1
  l2 := (hO.lab gr (blk_lt h.b2)).trans h.l2
  n1 := h.n1
  n2 := h.n2
  ne := h.ne
  bs := h.bs
theorem SL.set1 (h : SL L w w0 base g gb gr T c1 c2 Lk W Nk csk Dk) (hO : One W W' gb) (hb : W'.heap[gb]? = some (.cells c1' T (0, 0))) : SL L w w0 base g gb gr T c1' c2 Lk W' Nk csk Dk where
  room := h.room.step (hO.only (X := Is 200) h.l1) room200
  only := ⟨Nat.le_trans h.only.size (Nat.le_of_eq hO.size.symm), fun k hk hx => (hO.keep k (by have := h.n1; omega)).trans (h.only.keep k hk hx), h.only.lab⟩
  below := hO.below h.below (Nat.le_trans h.bs h.n1)
  b1 := hb
  b2 := (hO.keep gr (Ne.symm h.ne)).trans h.b2
  l1 := h.l1
  l2 := h.l2
  n1 := h.n1
  n2 := h.n2
  ne := h.ne
  bs := h.bs
theorem SL.set2 (h : SL L w w0 base g gb gr T c1 c2 Lk W Nk csk Dk) (hO : One W W' gr) (hb : W'.heap[gr]? = some (.cells c1' T (0, 0))) : SL L w w0 base g gb gr T c1 c1' Lk W' Nk csk Dk where
  room := h.room.step (hO.only (X := Is 200) h.l2) room200
  only := ⟨Nat.le_trans h.only.size (Nat.le_of_eq hO.size.symm), fun k hk hx => (hO.keep k (by have := h.n2; omega)).trans (h.only.keep k hk hx), h.only.lab⟩
  below := hO.below h.below (Nat.le_trans h.bs h.n2)
  b1 := (hO.keep gb h.ne).trans h.b1
  b2 := hb
  l1 := h.l1
  l2 := h.l2
  n1 := h.n1
  n2 := h.n2
  ne := h.ne
  bs := h.bs
theorem SL.start (hR : RoomAt L base w g Nk csk Dk) (hB : Below base w0 w) {w1 : World} (h1 : Below w.heap.size w w1) (hb1 : w1.heap[w.heap.size]? = some (.cells c1 T (0, 0))) (h2 : Below w1.heap.size w1 W) (hb2 : W.heap[w1.heap.size]? = some (.cells c2 T (0, 0))) : SL L w w0 base g w.heap.size w1.heap.size T c1 c2 (lab1 L w.heap.size 200) W Nk csk Dk where
  room := hR.step (X := No) (only1 (t := 200) (h1.trans (h2.mono h1.size))) (fun _ hx => hx.elim)
  only := only1 (h1.trans (h2.mono h1.size))
  below := hB.trans ((h1.trans (h2.mono h1.size)).mono (by have := hR.ge; have := blk_lt hR.blk; omega))
  b1 := blk_below hb1 h2
  b2 := hb2
  l1 := lab1_new (Nat.le_refl _)
  l2 := lab1_new h1.size
  n1 := Nat.le_refl _
  n2 := h1.size
  ne := by have := blk_lt hb1; omega
  bs := by have := hR.ge; have := blk_lt hR.blk; omega
theorem Firm.start (h : Firm L w F) {w1 : World} (h1 : Below w.heap.size w w1) (h2 : Below w1.heap.size w1 W) : Firm (lab1 L w.heap.size 200) W F := h.only (only1 (X := No) (t := 200) (h1.trans (h2.mono h1.size))) (fun h => h)
theorem Firm.room (h : Firm L w F) (k : Only Room L w L' W') : Firm L' W' F := h.only k (fun h => by have := h.1; omega)
theorem Firm.one (h : Firm L w F) (k : One w W' gb) (hl : L gb = 200) : Firm L W' F := h.only (k.only (X := Is 200) hl) (fun h => by cases h)
theorem Firm.and (h : Firm L w F) (h' : Firm L w F') : Firm L w (fun W => F W ∧ F' W) := fun L' W hW => ⟨h L' W hW, h' L' W hW⟩
end
theorem came_now {α : Type} {d : Kd α} (hd : Kd.Heap d) {w0 W : World} {base n : Nat} {A : Option Addr} {xs : List α} (hB : Below base w0 W) (hb0 : w0.heap.size ≤ base) (h : d.C w0 A n xs) : d.C W A n xs := hd.C (fun k hk => hB.block k (Nat.lt_of_lt_of_le hk hb0)) h
/-- what a list's lay keeps while the list is made -/
structure LF {α : Type} (K : World → α → List Value → Prop) (te sz : Nat) (L : Nat → Nat) (w w0 : World) (base g : Nat) (F : Value) (ps : List α) (Lk : Nat → Nat) (W : World) (Nk : Nat) (csk : Array Value) (Dk : Nat → List (Value × Int)) : Prop where
  room : RoomAt Lk base W g Nk csk Dk
  only : Only Room L w Lk W
  below : Below base w0 W
  full : OwnRow (fun p c => Firm Lk W (fun W' => K W' p c)) te sz W w.heap.size F ps
  lab : ∀ b, F.ownBlock = some b → Lk b = 200
  bs : base ≤ w.heap.size
section
variable {α : Type} {K : World → α → List Value → Prop} {te sz base g Nk N' : Nat} {L Lk L' : Nat → Nat} {w w0 W W' : World} {F F' : Value} {ps : List α} {csk cs' : Array Value} {Dk D' : Nat → List (Value × Int)}
theorem LF.call (h : LF K te sz L w w0 base g F ps Lk W Nk csk Dk) (hR : RoomAt L' base W' g N' cs' D') (hO : Only Room Lk W L' W') (hB : Below base w0 W') : LF K te sz L w w0 base g F ps L' W' N' cs' D' where
  room := hR
  only := h.only.trans hO
  below := hB
  full := by
    obtain ⟨inner, ho, hr⟩ := h.full
    exact ⟨inner, own_move ho (fun k hk => hO.keep k (own_lt ho k hk) (by rw [h.lab k hk]; exact fun hx => by have := hx.2; omega)), hr.imp_ (fun _ _ hp => hp.room hO)⟩
  lab := fun b hb => by
    obtain ⟨inner, ho, hr⟩ := h.full
    exact (hO.lab b (own_lt ho b hb)).trans (h.lab b hb)
  bs := h.bs
theorem LF.start (hR : RoomAt L base w g Nk csk Dk) (hB : Below base w0 w) : LF K te sz L w w0 base g (.slice (some ⟨w.heap.size, 0, none⟩) 0 0) [] (lab1 L w.heap.size 200) (w.alloc (.cells #[] te)) Nk csk Dk := by
  have h1 : Below w.heap.size w (w.alloc (.cells #[] te)) := below_alloc (Below.refl _ _) _
  refine ⟨hR.step (X := No) (only1 (t := 200) h1) (fun _ hx => hx.elim), only1 h1, hB.trans (h1.mono (by have := hR.ge; have := blk_lt hR.blk; omega)), ⟨[], ⟨by simp, .inr ⟨w.heap.size, 0, #[], rfl, Nat.le_refl _, blk_new w _, Nat.le_refl _, Nat.zero_le _, by simp, by simp⟩⟩, Reps.none _ _⟩, fun b hb => ?_, by have := hR.ge; have := blk_lt hR.blk; omega⟩
  obtain rfl : w.heap.size = b := by simpa only [Value.ownBlock, Option.some.injEq] using hb
  exact lab1_new (Nat.le_refl _)
end
theorem hp82 : Kd.Heap k82 := Kd.heap_iso _ (Kd.heap_pair Kd.heap_string (Kd.heap_int .i64))
theorem Bytes_calls (L : Nat → Nat) (base g N : Nat) (A : Option Addr) (c : Nat) (l : List Int) (w0 w : World) (cs : Array Value) (D : Nat → List (Value × Int)) (hR : RoomAt L base w g N cs D) (hB : Below base w0 w) (hr : Kd.C (Kd.int .u8) w A l.length l) (hc : l.length ≤ c) (hlb : l.length ≤ 536870912) (hN : N ≤ 1073741824) :
    Calls Tryz.prog 20 #[.pointer (some ⟨g, 0, none⟩), .slice A l.length c] w fun e w' => ∃ L' cs' b c', e = .returned (.slice (some ⟨b, 0, none⟩) l.length (l.length + 600)) ∧ RoomAt L' base w' g (N + 1) cs' (put D 0 (.slice (some ⟨b, 0, none⟩) (l.length + 600) c', (l.length : Nat))) ∧ Only Room L w L' w' ∧ Below base w0 w' ∧ w.heap.size ≤ b ∧ b < w'.heap.size ∧ L' b = 0 ∧ Firm L' w' (fun W => Kd.C (Kd.int .u8) W (some ⟨b, 0, none⟩) l.length l) := by
  have H := Aside0.mk (layBytes_calls L base g N A c l 600 w0 w cs D hR hB hr hc hlb (by omega) (by omega) hN)
  clear hR hB hr hc hlb hN
  go_enter Tryz.func20, Tryz.ntmps20
  go_wp2_with (go_at_call 88; refine H.out.mono ?_; rintro e w' ⟨L', cs', b, c', rfl, PP⟩; have PP := Aside0.mk PP)
  go_ret
  exact ⟨L', cs', b, c', rfl, PP.out⟩
theorem Asks_calls (L : Nat → Nat) (base g N : Nat) (A : Option Addr) (c : Nat) (l : List S82) (w0 w : World) (cs : Array Value) (D : Nat → List (Value × Int)) (hR : RoomAt L base w g N cs D) (hB : Below base w0 w) (hr : Kd.C k82 w A l.length l) (hc : l.length ≤ c) (hlb : l.length ≤ 536870912) (hN : N ≤ 1073741824) :
    Calls Tryz.prog 21 #[.pointer (some ⟨g, 0, none⟩), .slice A l.length c] w fun e w' => ∃ L' cs' b c', e = .returned (.slice (some ⟨b, 0, none⟩) l.length (l.length + 40)) ∧ RoomAt L' base w' g (N + 1) cs' (put D 3 (.slice (some ⟨b, 0, none⟩) (l.length + 40) c', (l.length : Nat))) ∧ Only Room L w L' w' ∧ Below base w0 w' ∧ w.heap.size ≤ b ∧ b < w'.heap.size ∧ L' b = 0 ∧ Firm L' w' (fun W => Kd.C k82 W (some ⟨b, 0, none⟩) l.length l) := by
  have H := Aside0.mk (layAsks_calls L base g N A c l 40 w0 w cs D hR hB hr hc hlb (by omega) (by omega) hN)
  clear hR hB hr hc hlb hN
  go_enter Tryz.func21, Tryz.ntmps21
  go_wp2_with (go_at_call 89; refine H.out.mono ?_; rintro e w' ⟨L', cs', b, c', rfl, PP⟩; have PP := Aside0.mk PP)
  go_ret
  exact ⟨L', cs', b, c', rfl, PP.out⟩
theorem Ints_calls (L : Nat → Nat) (base g N : Nat) (A : Option Addr) (c : Nat) (l : List Int) (w0 w : World) (cs : Array Value) (D : Nat → List (Value × Int)) (hR : RoomAt L base w g N cs D) (hB : Below base w0 w) (hr : Kd.C (Kd.int .i64) w A l.length l) (hc : l.length ≤ c) (hlb : l.length ≤ 536870912) (hN : N ≤ 1073741824) :
    Calls Tryz.prog 22 #[.pointer (some ⟨g, 0, none⟩), .slice A l.length c] w fun e w' => ∃ L' cs' b c', e = .returned (.slice (some ⟨b, 0, none⟩) l.length (l.length + 40)) ∧ RoomAt L' base w' g (N + 1) cs' (put D 1 (.slice (some ⟨b, 0, none⟩) (l.length + 40) c', (l.length : Nat))) ∧ Only Room L w L' w' ∧ Below base w0 w' ∧ w.heap.size ≤ b ∧ b < w'.heap.size ∧ L' b = 0 ∧ Firm L' w' (fun W => Kd.C (Kd.int .i64) W (some ⟨b, 0, none⟩) l.length l) := by
  have H := Aside0.mk (layInts_calls L base g N A c l 40 w0 w cs D hR hB hr hc hlb (by omega) (by omega) hN)
  clear hR hB hr hc hlb hN
  go_enter Tryz.func22, Tryz.ntmps22
  go_wp2_with (go_at_call 90; refine H.out.mono ?_; rintro e w' ⟨L', cs', b, c', rfl, PP⟩; have PP := Aside0.mk PP)
  go_ret
  exact ⟨L', cs', b, c', rfl, PP.out⟩
theorem Texts_calls (L : Nat → Nat) (base g N : Nat) (A : Option Addr) (c : Nat) (l : List ByteArray) (w0 w : World) (cs : Array Value) (D : Nat → List (Value × Int)) (hR : RoomAt L base w g N cs D) (hB : Below base w0 w) (hr : Kd.C Kd.string w A l.length l) (hc : l.length ≤ c) (hlb : l.length ≤ 536870912) (hN : N ≤ 1073741824) :
    Calls Tryz.prog 23 #[.pointer (some ⟨g, 0, none⟩), .slice A l.length c] w fun e w' => ∃ L' cs' b c', e = .returned (.slice (some ⟨b, 0, none⟩) l.length (l.length + 40)) ∧ RoomAt L' base w' g (N + 1) cs' (put D 2 (.slice (some ⟨b, 0, none⟩) (l.length + 40) c', (l.length : Nat))) ∧ Only Room L w L' w' ∧ Below base w0 w' ∧ w.heap.size ≤ b ∧ b < w'.heap.size ∧ L' b = 0 ∧ Firm L' w' (fun W => Kd.C Kd.string W (some ⟨b, 0, none⟩) l.length l) := by
  have H := Aside0.mk (layTexts_calls L base g N A c l 40 w0 w cs D hR hB hr hc hlb (by omega) (by omega) hN)
  clear hR hB hr hc hlb hN
  go_enter Tryz.func23, Tryz.ntmps23
  go_wp2_with (go_at_call 91; refine H.out.mono ?_; rintro e w' ⟨L', cs', b, c', rfl, PP⟩; have PP := Aside0.mk PP)
  go_ret
  exact ⟨L', cs', b, c', rfl, PP.out⟩
theorem Message_calls (L : Nat → Nat) (base g N : Nat) (x : S24) (A1 : Option Addr) (c1 : Nat) (w0 w : World) (cs : Array Value) (D : Nat → List (Value × Int)) (hR : RoomAt L base w g N cs D) (hB : Below base w0 w) (hb0 : w0.heap.size ≤ base) (hr1 : (Kd.int .u8).C w0 A1 x.f1.length x.f1) (hc1 : x.f1.length ≤ c1) (hl1 : x.f1.length ≤ 536870912) (hN : N + 1 ≤ 1073741824) :
    Calls Tryz.prog 19 #[.pointer (some ⟨g, 0, none⟩), .agg #[.string x.f0, .slice A1 x.f1.length c1, .int .i64 x.f2, .bool x.f3]] w fun e w' => ∃ L' N' cs' D' B1 d1, e = .returned (.agg #[.string x.f0, .slice B1 x.f1.length d1, .int .i64 x.f2, .bool x.f3]) ∧ RoomAt L' base w' g N' cs' D' ∧ N' ≤ N + 1 ∧ Only Room L w L' w' ∧ Below base w0 w' ∧ Firm L' w' (fun W => (Kd.int .u8).C W B1 x.f1.length x.f1) ∧ x.f1.length ≤ d1 := by
  have hu := Tryz.underlying24
  have HR := Aside0.mk hR; have HB := Aside0.mk hB
  have HC1 := Aside0.mk hc1; have HI1 := Aside0.mk hr1; have HL1 := Aside0.mk hl1
  have HN := Aside0.mk hN
  clear hR hB hN hc1 hr1 hl1
  go_enter Tryz.func19, Tryz.ntmps19
  go_upto_region 1 with (first | ((with_reducible refine gate_dst (N := 3) rfl ?_); refine box_event ?hg (N := 3) ?hd (cs := #[.string x.f0, .slice A1 x.f1.length c1, .int .i64 x.f2, .bool x.f3]) (t := 24) ?hr ?_; (case hd => rfl); (case hg => rfl); (case hr => first | (go_simp; done) | (go_simp; rfl)); intro gb hggb w1 hbox hb; subst hggb; have BXgb := Aside0.mk hbox; have BBgb := Aside0.mk hb; clear hbox hb) | ((with_reducible refine gate_dst (N := 4) rfl ?_); refine box_event ?hg (N := 4) ?hd (cs := #[.string ⟨#[]⟩, .slice none 0 0, .int .i64 0, .bool false]) (t := 24) ?hr ?_; (case hd => rfl); (case hg => rfl); (case hr => first | (go_simp; done) | (go_simp; rfl)); intro gr hggr w2 hbox hb; subst hggr; have BXgr := Aside0.mk hbox; have BBgr := Aside0.mk hb; clear hbox hb))
  try simp only [Act.put, List.setIfInBounds_toArray, List.set_cons_zero, List.set_cons_succ]
  have HS := Aside0.mk (SL.start HR.out HB.out BBgb.out BXgb.out BBgr.out BXgr.out)
  have HG : Aside0 (Firm (lab1 L w.heap.size 200) w2 (fun _ => True)) := ⟨fun _ _ _ => trivial⟩
  obtain ⟨Lk, hLk⟩ : ∃ z_, z_ = lab1 L w.heap.size 200 := ⟨_, rfl⟩; rw [← hLk] at HS HG; clear hLk
  obtain ⟨gb, hgb⟩ : ∃ z_, z_ = w.heap.size := ⟨_, rfl⟩; obtain ⟨gr, hgr⟩ : ∃ z_, z_ = w1.heap.size := ⟨_, rfl⟩
  have HS1 : Aside0 (SL L w w0 base g gb gr 24 #[.string x.f0, .slice A1 x.f1.length c1, .int .i64 x.f2, .bool x.f3] #[.string ⟨#[]⟩, .slice none 0 0, .int .i64 0, .bool false] Lk w2 N cs D) := ⟨by rw [hgb, hgr]; exact HS.out⟩
  have HP : Aside0 (w.heap.size = gb ∧ w1.heap.size = gr) := ⟨hgb.symm, hgr.symm⟩
  rw [← hgb, ← hgr]
  clear HS hgb hgr BXgb BXgr BBgb BBgr; have HS := HS1; clear HS1
  have hq : w2.cell? ⟨gb, 1, none⟩ = some (.slice A1 x.f1.length c1) := (blk_cell HS.out.b1 1).trans rfl
  go_upto_region 2 with (first | (go_at_call 20; (refine (Bytes_calls Lk base g N A1 c1 _ w0 _ cs D HS.out.room HS.out.below (came_now (Kd.heap_int .u8) HS.out.below hb0 HI1.out) HC1.out HL1.out (by have := HN.out; omega)).mono ?_; rintro e w3 ⟨L1, cs1, b1, cx1, rfl, hA, hO, hB, hbw, hbl, hb0, hF⟩; obtain ⟨N1, hN1⟩ : ∃ z_, z_ = N + 1 := ⟨_, rfl⟩; rw [← hN1] at hA; have HM1 := Aside0.mk (show N1 ≤ N + 1 by omega); clear hN1; obtain ⟨D1, hD1⟩ : ∃ z_, z_ = put D 0 (.slice (some ⟨b1, 0, none⟩) (x.f1.length + 600) cx1, (x.f1.length : Nat)) := ⟨_, rfl⟩; rw [← hD1] at hA; clear hD1; have n0_ := Aside0.mk (HS.out.call hA hO hB); have n1_ := Aside0.mk ((HG.out.room hO).and hF); have HD1 := Aside0.mk (show x.f1.length ≤ x.f1.length + 600 by omega); clear HS HG hA hO hB hF hq; have HS := n0_; have HG := n1_; clear n0_ n1_ hbw hbl hb0; have hs_ : w3.cell? ⟨gb, 1, none⟩ = some (.slice A1 x.f1.length c1) := (blk_cell HS.out.b1 1).trans rfl; have hf_ : w3.frozen? ⟨gb, 1, none⟩ = false := blk_frozen HS.out.b1 _)) | fail)
  try simp only [Act.put, List.setIfInBounds_toArray, List.set_cons_zero, List.set_cons_succ]
  have hk := One.cell w3 gb 1 (.slice (some ⟨b1, 0, none⟩) x.f1.length (x.f1.length + 600)); have hx := blk_set HS.out.b1 1 (.slice (some ⟨b1, 0, none⟩) x.f1.length (x.f1.length + 600)); clear hs_ hf_
  obtain ⟨w4, hw4⟩ : ∃ z_, z_ = w3.setCell ⟨gb, 1, none⟩ (.slice (some ⟨b1, 0, none⟩) x.f1.length (x.f1.length + 600)) := ⟨_, rfl⟩; rw [← hw4] at hk hx; rw [← hw4]; clear hw4
  have n0_ : Aside0 (SL L w w0 base g gb gr 24 #[.string x.f0, .slice (some ⟨b1, 0, none⟩) x.f1.length (x.f1.length + 600), .int .i64 x.f2, .bool x.f3] #[.string ⟨#[]⟩, .slice none 0 0, .int .i64 0, .bool false] L1 w4 N1 cs1 D1) := ⟨HS.out.set1 hk hx⟩
  have n1_ := Aside0.mk (HG.out.one hk HS.out.l1)
  clear HS HG hx hk; have HS := n0_; have HG := n1_; clear n0_ n1_
  obtain ⟨v1, hv⟩ : ∃ z_, z_ = w4 := ⟨_, rfl⟩; subst hv
  go_wp2_with (first | ((with_reducible refine gate_dst (N := 10) rfl ?_); (refine wpList_load_row rfl 24 (.tmp 3) rfl gb rfl 24 _ (0, 0) _ HS.out.b1 hu rfl (by kernel_rfl) ?_)) | ((with_reducible refine gate_st (y := .tmp 10) rfl ?_); (refine ev_store rfl rfl 24 (.tmp 4) (.tmp 10) rfl gr 0 rfl 24 _ _ HS.out.b2 rfl (by kernel_rfl) (Nat.le_of_ble_eq_true rfl) rfl ?_; intro w4 hx hk)))
  have hx2 : w4.heap[gr]? = some (.cells #[.string x.f0, .slice (some ⟨b1, 0, none⟩) x.f1.length (x.f1.length + 600), .int .i64 x.f2, .bool x.f3] 24 (0, 0)) := hx.trans (congrArg (fun z_ => some (Obj.cells z_ 24 (0, 0))) (by kernel_rfl)); clear hx; have hx := hx2; clear hx2
  have n0_ : Aside0 (SL L w w0 base g gb gr 24 #[.string x.f0, .slice (some ⟨b1, 0, none⟩) x.f1.length (x.f1.length + 600), .int .i64 x.f2, .bool x.f3] #[.string x.f0, .slice (some ⟨b1, 0, none⟩) x.f1.length (x.f1.length + 600), .int .i64 x.f2, .bool x.f3] L1 w4 N1 cs1 D1) := ⟨HS.out.set2 hk hx⟩
  have n1_ := Aside0.mk (HG.out.one hk HS.out.l2)
  refine bodyPost_ret (results_cell_row rfl _ _ gr 24 #[.string x.f0, .slice (some ⟨b1, 0, none⟩) x.f1.length (x.f1.length + 600), .int .i64 x.f2, .bool x.f3] (0, 0) _ rfl n0_.out.b2 hu rfl (by kernel_rfl)) rfl ?_
  exact ⟨L1, N1, cs1, D1, _, _, rfl, n0_.out.room, by have := HN.out; have := HM1.out; omega, n0_.out.only, n0_.out.below, n1_.out.imp (fun W h => h.2), HD1.out⟩
theorem Packet_calls (L : Nat → Nat) (base g N : Nat) (x : S29) (A7 : Option Addr) (c7 : Nat) (A13 : Option Addr) (c13 : Nat) (A18 : Option Addr) (c18 : Nat) (A22 : Option Addr) (c22 : Nat) (A23 : Option Addr) (c23 : Nat) (A24 : Option Addr) (c24 : Nat) (w0 w : World) (cs : Array Value) (D : Nat → List (Value × Int)) (hR : RoomAt L base w g N cs D) (hB : Below base w0 w) (hb0 : w0.heap.size ≤ base) (hr7 : (Kd.int .u8).C w0 A7 x.f6.f1.length x.f6.f1) (hr13 : (Kd.int .u8).C w0 A13 x.f10.length x.f10) (hr18 : (Kd.int .u8).C w0 A18 x.f14.f1.length x.f14.f1) (hr22 : k82.C w0 A22 x.f16.length x.f16) (hr23 : (Kd.int .i64).C w0 A23 x.f17.length x.f17) (hr24 : Kd.string.C w0 A24 x.f18.length x.f18) (hc7 : x.f6.f1.length ≤ c7) (hc13 : x.f10.length ≤ c13) (hc18 : x.f14.f1.length ≤ c18) (hc22 : x.f16.length ≤ c22) (hc23 : x.f17.length ≤ c23) (hc24 : x.f18.length ≤ c24) (hl7 : x.f6.f1.length ≤ 536870912) (hl13 : x.f10.length ≤ 536870912) (hl18 : x.f14.f1.length ≤ 536870912) (hl22 : x.f16.length ≤ 536870912) (hl23 : x.f17.length ≤ 536870912) (hl24 : x.f18.length ≤ 536870912) (hN : N + 6 ≤ 1073741824) :
    Calls Tryz.prog 6 #[.pointer (some ⟨g, 0, none⟩), .agg #[.int .i64 x.f0, .int .i64 x.f1, .bool x.f2, .int .i64 x.f3, .string x.f4, .bool x.f5, .string x.f6.f0, .slice A7 x.f6.f1.length c7, .int .i64 x.f6.f2, .bool x.f6.f3, .bool x.f7, .string x.f8, .bool x.f9, .slice A13 x.f10.length c13, .bool x.f11, .int .i64 x.f12, .bool x.f13, .string x.f14.f0, .slice A18 x.f14.f1.length c18, .int .i64 x.f14.f2, .bool x.f14.f3, .int .i64 x.f15, .slice A22 x.f16.length c22, .slice A23 x.f17.length c23, .slice A24 x.f18.length c24]] w fun e w' => ∃ L' N' cs' D' B7 d7 B13 d13 B18 d18 B22 d22 B23 d23 B24 d24, e = .returned (.agg #[.int .i64 x.f0, .int .i64 x.f1, .bool x.f2, .int .i64 x.f3, .string x.f4, .bool x.f5, .string x.f6.f0, .slice B7 x.f6.f1.length d7, .int .i64 x.f6.f2, .bool x.f6.f3, .bool x.f7, .string x.f8, .bool x.f9, .slice B13 x.f10.length d13, .bool x.f11, .int .i64 x.f12, .bool x.f13, .string x.f14.f0, .slice B18 x.f14.f1.length d18, .int .i64 x.f14.f2, .bool x.f14.f3, .int .i64 x.f15, .slice B22 x.f16.length d22, .slice B23 x.f17.length d23, .slice B24 x.f18.length d24]) ∧ RoomAt L' base w' g N' cs' D' ∧ N' ≤ N + 6 ∧ Only Room L w L' w' ∧ Below base w0 w' ∧ Firm L' w' (fun W => (Kd.int .u8).C W B7 x.f6.f1.length x.f6.f1 ∧ (Kd.int .u8).C W B13 x.f10.length x.f10 ∧ (Kd.int .u8).C W B18 x.f14.f1.length x.f14.f1 ∧ k82.C W B22 x.f16.length x.f16 ∧ (Kd.int .i64).C W B23 x.f17.length x.f17 ∧ Kd.string.C W B24 x.f18.length x.f18) ∧ x.f6.f1.length ≤ d7 ∧ x.f10.length ≤ d13 ∧ x.f14.f1.length ≤ d18 ∧ x.f16.length ≤ d22 ∧ x.f17.length ≤ d23 ∧ x.f18.length ≤ d24 := by
  have hu := Tryz.underlying29
  have hu24 := Tryz.underlying24
  have HR := Aside0.mk hR; have HB := Aside0.mk hB
  have HC7 := Aside0.mk hc7; have HI7 := Aside0.mk hr7; have HL7 := Aside0.mk hl7
  have HC13 := Aside0.mk hc13; have HI13 := Aside0.mk hr13; have HL13 := Aside0.mk hl13
  have HC18 := Aside0.mk hc18; have HI18 := Aside0.mk hr18; have HL18 := Aside0.mk hl18
  have HC22 := Aside0.mk hc22; have HI22 := Aside0.mk hr22; have HL22 := Aside0.mk hl22
  have HC23 := Aside0.mk hc23; have HI23 := Aside0.mk hr23; have HL23 := Aside0.mk hl23
  have HC24 := Aside0.mk hc24; have HI24 := Aside0.mk hr24; have HL24 := Aside0.mk hl24
  have HN := Aside0.mk hN
  clear hR hB hN hc7 hr7 hl7 hc13 hr13 hl13 hc18 hr18 hl18 hc22 hr22 hl22 hc23 hr23 hl23 hc24 hr24 hl24
  go_enter Tryz.func6, Tryz.ntmps6
  go_upto_region 1 with (first | ((with_reducible refine gate_dst (N := 3) rfl ?_); refine box_event ?hg (N := 3) ?hd (cs := #[.int .i64 x.f0, .int .i64 x.f1, .bool x.f2, .int .i64 x.f3, .string x.f4, .bool x.f5, .string x.f6.f0, .slice A7 x.f6.f1.length c7, .int .i64 x.f6.f2, .bool x.f6.f3, .bool x.f7, .string x.f8, .bool x.f9, .slice A13 x.f10.length c13, .bool x.f11, .int .i64 x.f12, .bool x.f13, .string x.f14.f0, .slice A18 x.f14.f1.length c18, .int .i64 x.f14.f2, .bool x.f14.f3, .int .i64 x.f15, .slice A22 x.f16.length c22, .slice A23 x.f17.length c23, .slice A24 x.f18.length c24]) (t := 29) ?hr ?_; (case hd => rfl); (case hg => rfl); (case hr => first | (go_simp; done) | (go_simp; rfl)); intro gb hggb w1 hbox hb; subst hggb; have BXgb := Aside0.mk hbox; have BBgb := Aside0.mk hb; clear hbox hb) | ((with_reducible refine gate_dst (N := 4) rfl ?_); refine box_event ?hg (N := 4) ?hd (cs := #[.int .i64 0, .int .i64 0, .bool false, .int .i64 0, .string ⟨#[]⟩, .bool false, .string ⟨#[]⟩, .slice none 0 0, .int .i64 0, .bool false, .bool false, .string ⟨#[]⟩, .bool false, .slice none 0 0, .bool false, .int .i64 0, .bool false, .string ⟨#[]⟩, .slice none 0 0, .int .i64 0, .bool false, .int .i64 0, .slice none 0 0, .slice none 0 0, .slice none 0 0]) (t := 29) ?hr ?_; (case hd => rfl); (case hg => rfl); (case hr => first | (go_simp; done) | (go_simp; rfl)); intro gr hggr w2 hbox hb; subst hggr; have BXgr := Aside0.mk hbox; have BBgr := Aside0.mk hb; clear hbox hb))
  try simp only [Act.put, List.setIfInBounds_toArray, List.set_cons_zero, List.set_cons_succ]
  have HS := Aside0.mk (SL.start HR.out HB.out BBgb.out BXgb.out BBgr.out BXgr.out)
  have HG : Aside0 (Firm (lab1 L w.heap.size 200) w2 (fun _ => True)) := ⟨fun _ _ _ => trivial⟩
  obtain ⟨Lk, hLk⟩ : ∃ z_, z_ = lab1 L w.heap.size 200 := ⟨_, rfl⟩; rw [← hLk] at HS HG; clear hLk
  obtain ⟨gb, hgb⟩ : ∃ z_, z_ = w.heap.size := ⟨_, rfl⟩; obtain ⟨gr, hgr⟩ : ∃ z_, z_ = w1.heap.size := ⟨_, rfl⟩
  have HS1 : Aside0 (SL L w w0 base g gb gr 29 #[.int .i64 x.f0, .int .i64 x.f1, .bool x.f2, .int .i64 x.f3, .string x.f4, .bool x.f5, .string x.f6.f0, .slice A7 x.f6.f1.length c7, .int .i64 x.f6.f2, .bool x.f6.f3, .bool x.f7, .string x.f8, .bool x.f9, .slice A13 x.f10.length c13, .bool x.f11, .int .i64 x.f12, .bool x.f13, .string x.f14.f0, .slice A18 x.f14.f1.length c18, .int .i64 x.f14.f2, .bool x.f14.f3, .int .i64 x.f15, .slice A22 x.f16.length c22, .slice A23 x.f17.length c23, .slice A24 x.f18.length c24] #[.int .i64 0, .int .i64 0, .bool false, .int .i64 0, .string ⟨#[]⟩, .bool false, .string ⟨#[]⟩, .slice none 0 0, .int .i64 0, .bool false, .bool false, .string ⟨#[]⟩, .bool false, .slice none 0 0, .bool false, .int .i64 0, .bool false, .string ⟨#[]⟩, .slice none 0 0, .int .i64 0, .bool false, .int .i64 0, .slice none 0 0, .slice none 0 0, .slice none 0 0] Lk w2 N cs D) := ⟨by rw [hgb, hgr]; exact HS.out⟩
  have HP : Aside0 (w.heap.size = gb ∧ w1.heap.size = gr) := ⟨hgb.symm, hgr.symm⟩
  rw [← hgb, ← hgr]
  clear HS hgb hgr BXgb BXgr BBgb BBgr; have HS := HS1; clear HS1
  go_upto_region 2 with (first | ((with_reducible refine gate_dst (N := 7) rfl ?_); refine ev_load rfl 24 (.tmp 6) rfl gb 6 4 rfl 29 (0, 0) _ HS.out.b1 _ hu24 rfl ([.string x.f6.f0, .slice A7 x.f6.f1.length c7, .int .i64 x.f6.f2, .bool x.f6.f3]) rfl (by kernel_rfl) ?_) | (go_at_call 19; (refine (Message_calls Lk base g N x.f6 A7 c7 w0 _ cs D HS.out.room HS.out.below hb0 HI7.out HC7.out HL7.out (by have := HN.out; omega)).mono ?_; rintro e w3 ⟨L1, N1, cs1, D1, B7, d7, rfl, hA, hM, hO, hB, hF, q_7⟩; have HM1 := Aside0.mk hM; have n0_ := Aside0.mk (HS.out.call hA hO hB); have n1_ := Aside0.mk ((HG.out.room hO).and hF); have HD7 := Aside0.mk q_7; clear q_7; clear HS HG hA hM hO hB hF; have HS := n0_; have HG := n1_; clear n0_ n1_)) | ((with_reducible refine gate_st (y := .tmp 8) rfl ?_); refine ev_store rfl rfl 24 (.tmp 9) (.tmp 8) rfl gb 6 rfl 29 _ _ HS.out.b1 rfl (by kernel_rfl) (Nat.le_of_ble_eq_true rfl) rfl ?_; intro w4 hx hk))
  try simp only [Act.put, List.setIfInBounds_toArray, List.set_cons_zero, List.set_cons_succ]
  have n0_ : Aside0 (SL L w w0 base g gb gr 29 #[.int .i64 x.f0, .int .i64 x.f1, .bool x.f2, .int .i64 x.f3, .string x.f4, .bool x.f5, .string x.f6.f0, .slice B7 x.f6.f1.length d7, .int .i64 x.f6.f2, .bool x.f6.f3, .bool x.f7, .string x.f8, .bool x.f9, .slice A13 x.f10.length c13, .bool x.f11, .int .i64 x.f12, .bool x.f13, .string x.f14.f0, .slice A18 x.f14.f1.length c18, .int .i64 x.f14.f2, .bool x.f14.f3, .int .i64 x.f15, .slice A22 x.f16.length c22, .slice A23 x.f17.length c23, .slice A24 x.f18.length c24] #[.int .i64 0, .int .i64 0, .bool false, .int .i64 0, .string ⟨#[]⟩, .bool false, .string ⟨#[]⟩, .slice none 0 0, .int .i64 0, .bool false, .bool false, .string ⟨#[]⟩, .bool false, .slice none 0 0, .bool false, .int .i64 0, .bool false, .string ⟨#[]⟩, .slice none 0 0, .int .i64 0, .bool false, .int .i64 0, .slice none 0 0, .slice none 0 0, .slice none 0 0] L1 w4 N1 cs1 D1) := ⟨HS.out.set1 hk hx⟩
  have n1_ := Aside0.mk (HG.out.one hk HS.out.l1)
  clear HS HG hx hk; have HS := n0_; have HG := n1_; clear n0_ n1_
  obtain ⟨v1, hv⟩ : ∃ z_, z_ = w4 := ⟨_, rfl⟩; subst hv
  go_upto_region 3 with (first | ((with_reducible refine gate_dst (N := 12) rfl ?_); refine ev_load rfl 24 (.tmp 11) rfl gb 17 4 rfl 29 (0, 0) _ HS.out.b1 _ hu24 rfl ([.string x.f14.f0, .slice A18 x.f14.f1.length c18, .int .i64 x.f14.f2, .bool x.f14.f3]) rfl (by kernel_rfl) ?_) | (go_at_call 19; (refine (Message_calls L1 base g N1 x.f14 A18 c18 w0 _ cs1 D1 HS.out.room HS.out.below hb0 HI18.out HC18.out HL18.out (by have := HN.out; have := HM1.out; omega)).mono ?_; rintro e w3 ⟨L2, N2, cs2, D2, B18, d18, rfl, hA, hM, hO, hB, hF, q_18⟩; have HM2 := Aside0.mk hM; have n0_ := Aside0.mk (HS.out.call hA hO hB); have n1_ := Aside0.mk ((HG.out.room hO).and hF); have HD18 := Aside0.mk q_18; clear q_18; clear HS HG hA hM hO hB hF; have HS := n0_; have HG := n1_; clear n0_ n1_)) | ((with_reducible refine gate_st (y := .tmp 13) rfl ?_); refine ev_store rfl rfl 24 (.tmp 14) (.tmp 13) rfl gb 17 rfl 29 _ _ HS.out.b1 rfl (by kernel_rfl) (Nat.le_of_ble_eq_true rfl) rfl ?_; intro w4 hx hk))
  try simp only [Act.put, List.setIfInBounds_toArray, List.set_cons_zero, List.set_cons_succ]
  have n0_ : Aside0 (SL L w w0 base g gb gr 29 #[.int .i64 x.f0, .int .i64 x.f1, .bool x.f2, .int .i64 x.f3, .string x.f4, .bool x.f5, .string x.f6.f0, .slice B7 x.f6.f1.length d7, .int .i64 x.f6.f2, .bool x.f6.f3, .bool x.f7, .string x.f8, .bool x.f9, .slice A13 x.f10.length c13, .bool x.f11, .int .i64 x.f12, .bool x.f13, .string x.f14.f0, .slice B18 x.f14.f1.length d18, .int .i64 x.f14.f2, .bool x.f14.f3, .int .i64 x.f15, .slice A22 x.f16.length c22, .slice A23 x.f17.length c23, .slice A24 x.f18.length c24] #[.int .i64 0, .int .i64 0, .bool false, .int .i64 0, .string ⟨#[]⟩, .bool false, .string ⟨#[]⟩, .slice none 0 0, .int .i64 0, .bool false, .bool false, .string ⟨#[]⟩, .bool false, .slice none 0 0, .bool false, .int .i64 0, .bool false, .string ⟨#[]⟩, .slice none 0 0, .int .i64 0, .bool false, .int .i64 0, .slice none 0 0, .slice none 0 0, .slice none 0 0] L2 w4 N2 cs2 D2) := ⟨HS.out.set1 hk hx⟩
  have n1_ := Aside0.mk (HG.out.one hk HS.out.l1)
  clear HS HG hx hk; have HS := n0_; have HG := n1_; clear n0_ n1_
  obtain ⟨v2, hv⟩ : ∃ z_, z_ = w4 := ⟨_, rfl⟩; subst hv
  have hq : v2.cell? ⟨gb, 13, none⟩ = some (.slice A13 x.f10.length c13) := (blk_cell HS.out.b1 13).trans rfl
  go_upto_region 4 with (first | (go_at_call 20; (refine (Bytes_calls L2 base g N2 A13 c13 _ w0 _ cs2 D2 HS.out.room HS.out.below (came_now (Kd.heap_int .u8) HS.out.below hb0 HI13.out) HC13.out HL13.out (by have := HN.out; have := HM1.out; have := HM2.out; omega)).mono ?_; rintro e w3 ⟨L3, cs3, b3, cx3, rfl, hA, hO, hB, hbw, hbl, hb0, hF⟩; obtain ⟨N3, hN3⟩ : ∃ z_, z_ = N2 + 1 := ⟨_, rfl⟩; rw [← hN3] at hA; have HM3 := Aside0.mk (show N3 ≤ N2 + 1 by omega); clear hN3; obtain ⟨D3, hD3⟩ : ∃ z_, z_ = put D2 0 (.slice (some ⟨b3, 0, none⟩) (x.f10.length + 600) cx3, (x.f10.length : Nat)) := ⟨_, rfl⟩; rw [← hD3] at hA; clear hD3; have n0_ := Aside0.mk (HS.out.call hA hO hB); have n1_ := Aside0.mk ((HG.out.room hO).and hF); have HD13 := Aside0.mk (show x.f10.length ≤ x.f10.length + 600 by omega); clear HS HG hA hO hB hF hq; have HS := n0_; have HG := n1_; clear n0_ n1_ hbw hbl hb0; have hs_ : w3.cell? ⟨gb, 13, none⟩ = some (.slice A13 x.f10.length c13) := (blk_cell HS.out.b1 13).trans rfl; have hf_ : w3.frozen? ⟨gb, 13, none⟩ = false := blk_frozen HS.out.b1 _)) | fail)
  try simp only [Act.put, List.setIfInBounds_toArray, List.set_cons_zero, List.set_cons_succ]
  have hk := One.cell w3 gb 13 (.slice (some ⟨b3, 0, none⟩) x.f10.length (x.f10.length + 600)); have hx := blk_set HS.out.b1 13 (.slice (some ⟨b3, 0, none⟩) x.f10.length (x.f10.length + 600)); clear hs_ hf_
  obtain ⟨w4, hw4⟩ : ∃ z_, z_ = w3.setCell ⟨gb, 13, none⟩ (.slice (some ⟨b3, 0, none⟩) x.f10.length (x.f10.length + 600)) := ⟨_, rfl⟩; rw [← hw4] at hk hx; rw [← hw4]; clear hw4
  have n0_ : Aside0 (SL L w w0 base g gb gr 29 #[.int .i64 x.f0, .int .i64 x.f1, .bool x.f2, .int .i64 x.f3, .string x.f4, .bool x.f5, .string x.f6.f0, .slice B7 x.f6.f1.length d7, .int .i64 x.f6.f2, .bool x.f6.f3, .bool x.f7, .string x.f8, .bool x.f9, .slice (some ⟨b3, 0, none⟩) x.f10.length (x.f10.length + 600), .bool x.f11, .int .i64 x.f12, .bool x.f13, .string x.f14.f0, .slice B18 x.f14.f1.length d18, .int .i64 x.f14.f2, .bool x.f14.f3, .int .i64 x.f15, .slice A22 x.f16.length c22, .slice A23 x.f17.length c23, .slice A24 x.f18.length c24] #[.int .i64 0, .int .i64 0, .bool false, .int .i64 0, .string ⟨#[]⟩, .bool false, .string ⟨#[]⟩, .slice none 0 0, .int .i64 0, .bool false, .bool false, .string ⟨#[]⟩, .bool false, .slice none 0 0, .bool false, .int .i64 0, .bool false, .string ⟨#[]⟩, .slice none 0 0, .int .i64 0, .bool false, .int .i64 0, .slice none 0 0, .slice none 0 0, .slice none 0 0] L3 w4 N3 cs3 D3) := ⟨HS.out.set1 hk hx⟩
  have n1_ := Aside0.mk (HG.out.one hk HS.out.l1)
  clear HS HG hx hk; have HS := n0_; have HG := n1_; clear n0_ n1_
  obtain ⟨v3, hv⟩ : ∃ z_, z_ = w4 := ⟨_, rfl⟩; subst hv
  have hq : v3.cell? ⟨gb, 22, none⟩ = some (.slice A22 x.f16.length c22) := (blk_cell HS.out.b1 22).trans rfl
  go_upto_region 5 with (first | (go_at_call 21; (refine (Asks_calls L3 base g N3 A22 c22 _ w0 _ cs3 D3 HS.out.room HS.out.below (came_now hp82 HS.out.below hb0 HI22.out) HC22.out HL22.out (by have := HN.out; have := HM1.out; have := HM2.out; have := HM3.out; omega)).mono ?_; rintro e w3 ⟨L4, cs4, b4, cx4, rfl, hA, hO, hB, hbw, hbl, hb0, hF⟩; obtain ⟨N4, hN4⟩ : ∃ z_, z_ = N3 + 1 := ⟨_, rfl⟩; rw [← hN4] at hA; have HM4 := Aside0.mk (show N4 ≤ N3 + 1 by omega); clear hN4; obtain ⟨D4, hD4⟩ : ∃ z_, z_ = put D3 3 (.slice (some ⟨b4, 0, none⟩) (x.f16.length + 40) cx4, (x.f16.length : Nat)) := ⟨_, rfl⟩; rw [← hD4] at hA; clear hD4; have n0_ := Aside0.mk (HS.out.call hA hO hB); have n1_ := Aside0.mk ((HG.out.room hO).and hF); have HD22 := Aside0.mk (show x.f16.length ≤ x.f16.length + 40 by omega); clear HS HG hA hO hB hF hq; have HS := n0_; have HG := n1_; clear n0_ n1_ hbw hbl hb0; have hs_ : w3.cell? ⟨gb, 22, none⟩ = some (.slice A22 x.f16.length c22) := (blk_cell HS.out.b1 22).trans rfl; have hf_ : w3.frozen? ⟨gb, 22, none⟩ = false := blk_frozen HS.out.b1 _)) | fail)
  try simp only [Act.put, List.setIfInBounds_toArray, List.set_cons_zero, List.set_cons_succ]
  have hk := One.cell w3 gb 22 (.slice (some ⟨b4, 0, none⟩) x.f16.length (x.f16.length + 40)); have hx := blk_set HS.out.b1 22 (.slice (some ⟨b4, 0, none⟩) x.f16.length (x.f16.length + 40)); clear hs_ hf_
  obtain ⟨w4, hw4⟩ : ∃ z_, z_ = w3.setCell ⟨gb, 22, none⟩ (.slice (some ⟨b4, 0, none⟩) x.f16.length (x.f16.length + 40)) := ⟨_, rfl⟩; rw [← hw4] at hk hx; rw [← hw4]; clear hw4
  have n0_ : Aside0 (SL L w w0 base g gb gr 29 #[.int .i64 x.f0, .int .i64 x.f1, .bool x.f2, .int .i64 x.f3, .string x.f4, .bool x.f5, .string x.f6.f0, .slice B7 x.f6.f1.length d7, .int .i64 x.f6.f2, .bool x.f6.f3, .bool x.f7, .string x.f8, .bool x.f9, .slice (some ⟨b3, 0, none⟩) x.f10.length (x.f10.length + 600), .bool x.f11, .int .i64 x.f12, .bool x.f13, .string x.f14.f0, .slice B18 x.f14.f1.length d18, .int .i64 x.f14.f2, .bool x.f14.f3, .int .i64 x.f15, .slice (some ⟨b4, 0, none⟩) x.f16.length (x.f16.length + 40), .slice A23 x.f17.length c23, .slice A24 x.f18.length c24] #[.int .i64 0, .int .i64 0, .bool false, .int .i64 0, .string ⟨#[]⟩, .bool false, .string ⟨#[]⟩, .slice none 0 0, .int .i64 0, .bool false, .bool false, .string ⟨#[]⟩, .bool false, .slice none 0 0, .bool false, .int .i64 0, .bool false, .string ⟨#[]⟩, .slice none 0 0, .int .i64 0, .bool false, .int .i64 0, .slice none 0 0, .slice none 0 0, .slice none 0 0] L4 w4 N4 cs4 D4) := ⟨HS.out.set1 hk hx⟩
  have n1_ := Aside0.mk (HG.out.one hk HS.out.l1)
  clear HS HG hx hk; have HS := n0_; have HG := n1_; clear n0_ n1_
  obtain ⟨v4, hv⟩ : ∃ z_, z_ = w4 := ⟨_, rfl⟩; subst hv
  have hq : v4.cell? ⟨gb, 23, none⟩ = some (.slice A23 x.f17.length c23) := (blk_cell HS.out.b1 23).trans rfl
  go_upto_region 6 with (first | (go_at_call 22; (refine (Ints_calls L4 base g N4 A23 c23 _ w0 _ cs4 D4 HS.out.room HS.out.below (came_now (Kd.heap_int .i64) HS.out.below hb0 HI23.out) HC23.out HL23.out (by have := HN.out; have := HM1.out; have := HM2.out; have := HM3.out; have := HM4.out; omega)).mono ?_; rintro e w3 ⟨L5, cs5, b5, cx5, rfl, hA, hO, hB, hbw, hbl, hb0, hF⟩; obtain ⟨N5, hN5⟩ : ∃ z_, z_ = N4 + 1 := ⟨_, rfl⟩; rw [← hN5] at hA; have HM5 := Aside0.mk (show N5 ≤ N4 + 1 by omega); clear hN5; obtain ⟨D5, hD5⟩ : ∃ z_, z_ = put D4 1 (.slice (some ⟨b5, 0, none⟩) (x.f17.length + 40) cx5, (x.f17.length : Nat)) := ⟨_, rfl⟩; rw [← hD5] at hA; clear hD5; have n0_ := Aside0.mk (HS.out.call hA hO hB); have n1_ := Aside0.mk ((HG.out.room hO).and hF); have HD23 := Aside0.mk (show x.f17.length ≤ x.f17.length + 40 by omega); clear HS HG hA hO hB hF hq; have HS := n0_; have HG := n1_; clear n0_ n1_ hbw hbl hb0; have hs_ : w3.cell? ⟨gb, 23, none⟩ = some (.slice A23 x.f17.length c23) := (blk_cell HS.out.b1 23).trans rfl; have hf_ : w3.frozen? ⟨gb, 23, none⟩ = false := blk_frozen HS.out.b1 _)) | fail)
  try simp only [Act.put, List.setIfInBounds_toArray, List.set_cons_zero, List.set_cons_succ]
  have hk := One.cell w3 gb 23 (.slice (some ⟨b5, 0, none⟩) x.f17.length (x.f17.length + 40)); have hx := blk_set HS.out.b1 23 (.slice (some ⟨b5, 0, none⟩) x.f17.length (x.f17.length + 40)); clear hs_ hf_
  obtain ⟨w4, hw4⟩ : ∃ z_, z_ = w3.setCell ⟨gb, 23, none⟩ (.slice (some ⟨b5, 0, none⟩) x.f17.length (x.f17.length + 40)) := ⟨_, rfl⟩; rw [← hw4] at hk hx; rw [← hw4]; clear hw4
  have n0_ : Aside0 (SL L w w0 base g gb gr 29 #[.int .i64 x.f0, .int .i64 x.f1, .bool x.f2, .int .i64 x.f3, .string x.f4, .bool x.f5, .string x.f6.f0, .slice B7 x.f6.f1.length d7, .int .i64 x.f6.f2, .bool x.f6.f3, .bool x.f7, .string x.f8, .bool x.f9, .slice (some ⟨b3, 0, none⟩) x.f10.length (x.f10.length + 600), .bool x.f11, .int .i64 x.f12, .bool x.f13, .string x.f14.f0, .slice B18 x.f14.f1.length d18, .int .i64 x.f14.f2, .bool x.f14.f3, .int .i64 x.f15, .slice (some ⟨b4, 0, none⟩) x.f16.length (x.f16.length + 40), .slice (some ⟨b5, 0, none⟩) x.f17.length (x.f17.length + 40), .slice A24 x.f18.length c24] #[.int .i64 0, .int .i64 0, .bool false, .int .i64 0, .string ⟨#[]⟩, .bool false, .string ⟨#[]⟩, .slice none 0 0, .int .i64 0, .bool false, .bool false, .string ⟨#[]⟩, .bool false, .slice none 0 0, .bool false, .int .i64 0, .bool false, .string ⟨#[]⟩, .slice none 0 0, .int .i64 0, .bool false, .int .i64 0, .slice none 0 0, .slice none 0 0, .slice none 0 0] L5 w4 N5 cs5 D5) := ⟨HS.out.set1 hk hx⟩
  have n1_ := Aside0.mk (HG.out.one hk HS.out.l1)
  clear HS HG hx hk; have HS := n0_; have HG := n1_; clear n0_ n1_
  obtain ⟨v5, hv⟩ : ∃ z_, z_ = w4 := ⟨_, rfl⟩; subst hv
  have hq : v5.cell? ⟨gb, 24, none⟩ = some (.slice A24 x.f18.length c24) := (blk_cell HS.out.b1 24).trans rfl
  go_upto_region 7 with (first | (go_at_call 23; (refine (Texts_calls L5 base g N5 A24 c24 _ w0 _ cs5 D5 HS.out.room HS.out.below (came_now Kd.heap_string HS.out.below hb0 HI24.out) HC24.out HL24.out (by have := HN.out; have := HM1.out; have := HM2.out; have := HM3.out; have := HM4.out; have := HM5.out; omega)).mono ?_; rintro e w3 ⟨L6, cs6, b6, cx6, rfl, hA, hO, hB, hbw, hbl, hb0, hF⟩; obtain ⟨N6, hN6⟩ : ∃ z_, z_ = N5 + 1 := ⟨_, rfl⟩; rw [← hN6] at hA; have HM6 := Aside0.mk (show N6 ≤ N5 + 1 by omega); clear hN6; obtain ⟨D6, hD6⟩ : ∃ z_, z_ = put D5 2 (.slice (some ⟨b6, 0, none⟩) (x.f18.length + 40) cx6, (x.f18.length : Nat)) := ⟨_, rfl⟩; rw [← hD6] at hA; clear hD6; have n0_ := Aside0.mk (HS.out.call hA hO hB); have n1_ := Aside0.mk ((HG.out.room hO).and hF); have HD24 := Aside0.mk (show x.f18.length ≤ x.f18.length + 40 by omega); clear HS HG hA hO hB hF hq; have HS := n0_; have HG := n1_; clear n0_ n1_ hbw hbl hb0; have hs_ : w3.cell? ⟨gb, 24, none⟩ = some (.slice A24 x.f18.length c24) := (blk_cell HS.out.b1 24).trans rfl; have hf_ : w3.frozen? ⟨gb, 24, none⟩ = false := blk_frozen HS.out.b1 _)) | fail)
  try simp only [Act.put, List.setIfInBounds_toArray, List.set_cons_zero, List.set_cons_succ]
  have hk := One.cell w3 gb 24 (.slice (some ⟨b6, 0, none⟩) x.f18.length (x.f18.length + 40)); have hx := blk_set HS.out.b1 24 (.slice (some ⟨b6, 0, none⟩) x.f18.length (x.f18.length + 40)); clear hs_ hf_
  obtain ⟨w4, hw4⟩ : ∃ z_, z_ = w3.setCell ⟨gb, 24, none⟩ (.slice (some ⟨b6, 0, none⟩) x.f18.length (x.f18.length + 40)) := ⟨_, rfl⟩; rw [← hw4] at hk hx; rw [← hw4]; clear hw4
  have n0_ : Aside0 (SL L w w0 base g gb gr 29 #[.int .i64 x.f0, .int .i64 x.f1, .bool x.f2, .int .i64 x.f3, .string x.f4, .bool x.f5, .string x.f6.f0, .slice B7 x.f6.f1.length d7, .int .i64 x.f6.f2, .bool x.f6.f3, .bool x.f7, .string x.f8, .bool x.f9, .slice (some ⟨b3, 0, none⟩) x.f10.length (x.f10.length + 600), .bool x.f11, .int .i64 x.f12, .bool x.f13, .string x.f14.f0, .slice B18 x.f14.f1.length d18, .int .i64 x.f14.f2, .bool x.f14.f3, .int .i64 x.f15, .slice (some ⟨b4, 0, none⟩) x.f16.length (x.f16.length + 40), .slice (some ⟨b5, 0, none⟩) x.f17.length (x.f17.length + 40), .slice (some ⟨b6, 0, none⟩) x.f18.length (x.f18.length + 40)] #[.int .i64 0, .int .i64 0, .bool false, .int .i64 0, .string ⟨#[]⟩, .bool false, .string ⟨#[]⟩, .slice none 0 0, .int .i64 0, .bool false, .bool false, .string ⟨#[]⟩, .bool false, .slice none 0 0, .bool false, .int .i64 0, .bool false, .string ⟨#[]⟩, .slice none 0 0, .int .i64 0, .bool false, .int .i64 0, .slice none 0 0, .slice none 0 0, .slice none 0 0] L6 w4 N6 cs6 D6) := ⟨HS.out.set1 hk hx⟩
  have n1_ := Aside0.mk (HG.out.one hk HS.out.l1)
  clear HS HG hx hk; have HS := n0_; have HG := n1_; clear n0_ n1_
  obtain ⟨v6, hv⟩ : ∃ z_, z_ = w4 := ⟨_, rfl⟩; subst hv
  go_wp2_with (first | ((with_reducible refine gate_dst (N := 35) rfl ?_); (refine wpList_load_row rfl 29 (.tmp 3) rfl gb rfl 29 _ (0, 0) _ HS.out.b1 hu rfl (by kernel_rfl) ?_)) | ((with_reducible refine gate_st (y := .tmp 35) rfl ?_); (refine ev_store rfl rfl 29 (.tmp 4) (.tmp 35) rfl gr 0 rfl 29 _ _ HS.out.b2 rfl (by kernel_rfl) (Nat.le_of_ble_eq_true rfl) rfl ?_; intro w4 hx hk)))
  have hx2 : w4.heap[gr]? = some (.cells #[.int .i64 x.f0, .int .i64 x.f1, .bool x.f2, .int .i64 x.f3, .string x.f4, .bool x.f5, .string x.f6.f0, .slice B7 x.f6.f1.length d7, .int .i64 x.f6.f2, .bool x.f6.f3, .bool x.f7, .string x.f8, .bool x.f9, .slice (some ⟨b3, 0, none⟩) x.f10.length (x.f10.length + 600), .bool x.f11, .int .i64 x.f12, .bool x.f13, .string x.f14.f0, .slice B18 x.f14.f1.length d18, .int .i64 x.f14.f2, .bool x.f14.f3, .int .i64 x.f15, .slice (some ⟨b4, 0, none⟩) x.f16.length (x.f16.length + 40), .slice (some ⟨b5, 0, none⟩) x.f17.length (x.f17.length + 40), .slice (some ⟨b6, 0, none⟩) x.f18.length (x.f18.length + 40)] 29 (0, 0)) := hx.trans (congrArg (fun z_ => some (Obj.cells z_ 29 (0, 0))) (by kernel_rfl)); clear hx; have hx := hx2; clear hx2
  have n0_ : Aside0 (SL L w w0 base g gb gr 29 #[.int .i64 x.f0, .int .i64 x.f1, .bool x.f2, .int .i64 x.f3, .string x.f4, .bool x.f5, .string x.f6.f0, .slice B7 x.f6.f1.length d7, .int .i64 x.f6.f2, .bool x.f6.f3, .bool x.f7, .string x.f8, .bool x.f9, .slice (some ⟨b3, 0, none⟩) x.f10.length (x.f10.length + 600), .bool x.f11, .int .i64 x.f12, .bool x.f13, .string x.f14.f0, .slice B18 x.f14.f1.length d18, .int .i64 x.f14.f2, .bool x.f14.f3, .int .i64 x.f15, .slice (some ⟨b4, 0, none⟩) x.f16.length (x.f16.length + 40), .slice (some ⟨b5, 0, none⟩) x.f17.length (x.f17.length + 40), .slice (some ⟨b6, 0, none⟩) x.f18.length (x.f18.length + 40)] #[.int .i64 x.f0, .int .i64 x.f1, .bool x.f2, .int .i64 x.f3, .string x.f4, .bool x.f5, .string x.f6.f0, .slice B7 x.f6.f1.length d7, .int .i64 x.f6.f2, .bool x.f6.f3, .bool x.f7, .string x.f8, .bool x.f9, .slice (some ⟨b3, 0, none⟩) x.f10.length (x.f10.length + 600), .bool x.f11, .int .i64 x.f12, .bool x.f13, .string x.f14.f0, .slice B18 x.f14.f1.length d18, .int .i64 x.f14.f2, .bool x.f14.f3, .int .i64 x.f15, .slice (some ⟨b4, 0, none⟩) x.f16.length (x.f16.length + 40), .slice (some ⟨b5, 0, none⟩) x.f17.length (x.f17.length + 40), .slice (some ⟨b6, 0, none⟩) x.f18.length (x.f18.length + 40)] L6 w4 N6 cs6 D6) := ⟨HS.out.set2 hk hx⟩
  have n1_ := Aside0.mk (HG.out.one hk HS.out.l2)
  refine bodyPost_ret (results_cell_row rfl _ _ gr 29 #[.int .i64 x.f0, .int .i64 x.f1, .bool x.f2, .int .i64 x.f3, .string x.f4, .bool x.f5, .string x.f6.f0, .slice B7 x.f6.f1.length d7, .int .i64 x.f6.f2, .bool x.f6.f3, .bool x.f7, .string x.f8, .bool x.f9, .slice (some ⟨b3, 0, none⟩) x.f10.length (x.f10.length + 600), .bool x.f11, .int .i64 x.f12, .bool x.f13, .string x.f14.f0, .slice B18 x.f14.f1.length d18, .int .i64 x.f14.f2, .bool x.f14.f3, .int .i64 x.f15, .slice (some ⟨b4, 0, none⟩) x.f16.length (x.f16.length + 40), .slice (some ⟨b5, 0, none⟩) x.f17.length (x.f17.length + 40), .slice (some ⟨b6, 0, none⟩) x.f18.length (x.f18.length + 40)] (0, 0) _ rfl n0_.out.b2 hu rfl (by kernel_rfl)) rfl ?_
  exact ⟨L6, N6, cs6, D6, _, _, _, _, _, _, _, _, _, _, _, _, rfl, n0_.out.room, by have := HN.out; have := HM1.out; have := HM2.out; have := HM3.out; have := HM4.out; have := HM5.out; have := HM6.out; omega, n0_.out.only, n0_.out.below, n1_.out.imp (fun W h => ⟨h.1.1.1.1.1.2, h.1.1.1.2, h.1.1.1.1.2, h.1.1.2, h.1.2, h.2⟩), HD7.out, HD13.out, HD18.out, HD22.out, HD23.out, HD24.out⟩
end Go.Proofs.YtndhkgfeknkfdaaGreatDoor.Rm
