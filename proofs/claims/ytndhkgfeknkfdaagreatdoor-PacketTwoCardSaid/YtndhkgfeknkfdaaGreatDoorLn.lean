/- crierroom.Room: structs, and lists of structs, laid with room behind them. -/
import Derived.Test.YtndhkgfeknkfdaaGreatDoorLy
import Derived.Test.YtndhkgfeknkfdaaGreatDoorRm
namespace Go.Proofs.YtndhkgfeknkfdaaGreatDoor.Rm
open Go.RowKit Go.Proofs.YtndhkgfeknkfdaaGreatDoorW.PrintWords Go.Proofs.YtndhkgfeknkfdaaGreatDoorW.PrintLast Go.Proofs.YtndhkgfeknkfdaaGreatDoorW.PrintMore Go.Proofs.YtndhkgfeknkfdaaGreatDoor.MPacketChecks
set_option linter.unusedVariables false
set_option linter.unusedSimpArgs false
set_option maxHeartbeats 40000000
set_option maxRecDepth 100000
/-- what a struct's lay keeps: the room, the argument's block, the answer's -/
structure SL (L : Nat → Nat) (w w0 : World) (base g gb gr : Nat) (T : TypeId) (c1 c2 : Array Value) (Lk : Nat → Nat) (W : World) (Nk : Nat) (csk : Array Value) (Dk : Nat → List (Value × Int)) : Prop where
 room : RoomAt Lk base W g Nk csk Dk
 only : Only Room L w Lk W
 below : Below base w0 W
 b1 : W.heap[gb]? = some (.cells c1 T (0, 0))
 b2 : W.heap[gr]? = some (.cells c2 T (0, 0))
 l1 : Lk gb = 200
 l2 : Lk gr = 200
 n1 : w.heap.size ≤ gb
 n2 : w.heap.size ≤ gr
 ne : gb ≠ gr
 bs : base ≤ w.heap.size
section
variable {L Lk L' : Nat → Nat} {w w0 W W' : World} {base g gb gr Nk N' : Nat} {T : TypeId} {c1 c2 c1' : Array Value} {csk cs' : Array Value} {Dk D' : Nat → List (Value × Int)} {F F' : World → Prop}
theorem room200 : ∀ x, Is 200 x → ¬ Room x ∧ x ≠ 0 := fun x h => by
 obtain rfl : x = 200 := h
 exact ⟨fun hr => by have := hr.2; omega, by decide⟩
theorem SL.call (h : SL L w w0 base g gb gr T c1 c2 Lk W Nk csk Dk) (hR : RoomAt L' base W' g N' cs' D') (hO : Only Room Lk W L' W') (hB : Below base w0 W') : SL L w w0 base g gb gr T c1 c2 L' W' N' cs' D' where
 room := hR
 only := h.only.trans hO
 below := hB
 b1 := (hO.keep gb (blk_lt h.b1) (by rw [h.l1]; exact fun hr => by have := hr.2; omega)).trans h.b1
 b2 := (hO.keep gr (blk_lt h.b2) (by rw [h.l2]; exact fun hr => by have := hr.2; omega)).trans h.b2
 l1 := (hO.lab gb (blk_lt h.b1)).trans h.l1
 l2 := (hO.lab gr (blk_lt h.b2)).trans h.l2
 n1 := h.n1
 n2 := h.n2
 ne := h.ne
 bs := h.bs
theorem SL.set1 (h : SL L w w0 base g gb gr T c1 c2 Lk W Nk csk Dk) (hO : One W W' gb) (hb : W'.heap[gb]? = some (.cells c1' T (0, 0))) : SL L w w0 base g gb gr T c1' c2 Lk W' Nk csk Dk where
 room := h.room.step (hO.only (X := Is 200) h.l1) room200
 only := ⟨Nat.le_trans h.only.size (Nat.le_of_eq hO.size.symm), fun k hk hx => (hO.keep k (by have := h.n1; omega)).trans (h.only.keep k hk hx), h.only.lab⟩
 below := hO.below h.below (Nat.le_trans h.bs h.n1)
 b1 := hb
 b2 := (hO.keep gr (Ne.symm h.ne)).trans h.b2
 l1 := h.l1
 l2 := h.l2
 n1 := h.n1
 n2 := h.n2
 ne := h.ne
 bs := h.bs
theorem SL.set2 (h : SL L w w0 base g gb gr T c1 c2 Lk W Nk csk Dk) (hO : One W W' gr) (hb : W'.heap[gr]? = some (.cells c1' T (0, 0))) : SL L w w0 base g gb gr T c1 c1' Lk W' Nk csk Dk where
 room := h.room.step (hO.only (X := Is 200) h.l2) room200
 only := ⟨Nat.le_trans h.only.size (Nat.le_of_eq hO.size.symm), fun k hk hx => (hO.keep k (by have := h.n2; omega)).trans (h.only.keep k hk hx), h.only.lab⟩
 below := hO.below h.below (Nat.le_trans h.bs h.n2)
 b1 := (hO.keep gb h.ne).trans h.b1
 b2 := hb
 l1 := h.l1
 l2 := h.l2
 n1 := h.n1
 n2 := h.n2
 ne := h.ne
 bs := h.bs
theorem SL.start (hR : RoomAt L base w g Nk csk Dk) (hB : Below base w0 w) {w1 : World} (h1 : Below w.heap.size w w1) (hb1 : w1.heap[w.heap.size]? = some (.cells c1 T (0, 0))) (h2 : Below w1.heap.size w1 W) (hb2 : W.heap[w1.heap.size]? = some (.cells c2 T (0, 0))) : SL L w w0 base g w.heap.size w1.heap.size T c1 c2 (lab1 L w.heap.size 200) W Nk csk Dk where
 room := hR.step (X := No) (only1 (t := 200) (h1.trans (h2.mono h1.size))) (fun _ hx => hx.elim)
 only := only1 (h1.trans (h2.mono h1.size))
 below := hB.trans ((h1.trans (h2.mono h1.size)).mono (by have := hR.ge; have := blk_lt hR.blk; omega))
 b1 := blk_below hb1 h2
 b2 := hb2
 l1 := lab1_new (Nat.le_refl _)
 l2 := lab1_new h1.size
 n1 := Nat.le_refl _
 n2 := h1.size
 ne := by have := blk_lt hb1; omega
 bs := by have := hR.ge; have := blk_lt hR.blk; omega
theorem Firm.start (h : Firm L w F) {w1 : World} (h1 : Below w.heap.size w w1) (h2 : Below w1.heap.size w1 W) : Firm (lab1 L w.heap.size 200) W F := h.only (only1 (X := No) (t := 200) (h1.trans (h2.mono h1.size))) (fun h => h)
theorem Firm.room (h : Firm L w F) (k : Only Room L w L' W') : Firm L' W' F := h.only k (fun h => by have := h.1; omega)
theorem Firm.one (h : Firm L w F) (k : One w W' gb) (hl : L gb = 200) : Firm L W' F := h.only (k.only (X := Is 200) hl) (fun h => by cases h)
theorem Firm.and (h : Firm L w F) (h' : Firm L w F') : Firm L w (fun W => F W ∧ F' W) := fun L' W hW => ⟨h L' W hW, h' L' W hW⟩
end
theorem came_now {α : Type} {d : Kd α} (hd : Kd.Heap d) {w0 W : World} {base n : Nat} {A : Option Addr} {xs : List α} (hB : Below base w0 W) (hb0 : w0.heap.size ≤ base) (h : d.C w0 A n xs) : d.C W A n xs := hd.C (fun k hk => hB.block k (Nat.lt_of_lt_of_le hk hb0)) h
/-- what a list's lay keeps while the list is made -/
structure LF {α : Type} (K : World → α → List Value → Prop) (te sz : Nat) (L : Nat → Nat) (w w0 : World) (base g : Nat) (F : Value) (ps : List α) (Lk : Nat → Nat) (W : World) (Nk : Nat) (csk : Array Value) (Dk : Nat → List (Value × Int)) : Prop where
 room : RoomAt Lk base W g Nk csk Dk
 only : Only Room L w Lk W
 below : Below base w0 W
 full : OwnRow (fun p c => Firm Lk W (fun W' => K W' p c)) te sz W w.heap.size F ps
 lab : ∀ b, F.ownBlock = some b → Lk b = 200
 bs : base ≤ w.heap.size
section
variable {α : Type} {K : World → α → List Value → Prop} {te sz base g Nk N' : Nat} {L Lk L' : Nat → Nat} {w w0 W W' : World} {F F' : Value} {ps : List α} {csk cs' : Array Value} {Dk D' : Nat → List (Value × Int)}
theorem LF.call (h : LF K te sz L w w0 base g F ps Lk W Nk csk Dk) (hR : RoomAt L' base W' g N' cs' D') (hO : Only Room Lk W L' W') (hB : Below base w0 W') : LF K te sz L w w0 base g F ps L' W' N' cs' D' where
 room := hR
 only := h.only.trans hO
 below := hB
 full := by
  obtain ⟨inner, ho, hr⟩ := h.full
  exact ⟨inner, own_move ho (fun k hk => hO.keep k (own_lt ho k hk) (by rw [h.lab k hk]; exact fun hx => by have := hx.2; omega)), hr.imp_ (fun _ _ hp => hp.room hO)⟩
 lab := fun b hb => by
  obtain ⟨inner, ho, hr⟩ := h.full
  exact (hO.lab b (own_lt ho b hb)).trans (h.lab b hb)
 bs := h.bs
theorem LF.start (hR : RoomAt L base w g Nk csk Dk) (hB : Below base w0 w) : LF K te sz L w w0 base g (.slice (some ⟨w.heap.size, 0, none⟩) 0 0) [] (lab1 L w.heap.size 200) (w.alloc (.cells #[] te)) Nk csk Dk := by
 have h1 : Below w.heap.size w (w.alloc (.cells #[] te)) := below_alloc (Below.refl _ _) _
 refine ⟨hR.step (X := No) (only1 (t := 200) h1) (fun _ hx => hx.elim), only1 h1, hB.trans (h1.mono (by have := hR.ge; have := blk_lt hR.blk; omega)), ⟨[], ⟨by simp, .inr ⟨w.heap.size, 0, #[], rfl, Nat.le_refl _, blk_new w _, Nat.le_refl _, Nat.zero_le _, by simp, by simp⟩⟩, Reps.none _ _⟩, fun b hb => ?_, by have := hR.ge; have := blk_lt hR.blk; omega⟩
 obtain rfl : w.heap.size = b := by simpa only [Value.ownBlock, Option.some.injEq] using hb
 exact lab1_new (Nat.le_refl _)
end
theorem hp82 : Kd.Heap k82 := Kd.heap_iso _ (Kd.heap_pair Kd.heap_string (Kd.heap_int .i64))
theorem Bytes_calls (L : Nat → Nat) (base g N : Nat) (A : Option Addr) (c : Nat) (l : List Int) (w0 w : World) (cs : Array Value) (D : Nat → List (Value × Int)) (hR : RoomAt L base w g N cs D) (hB : Below base w0 w) (hr : Kd.C (Kd.int .u8) w A l.length l) (hc : l.length ≤ c) (hlb : l.length ≤ 536870912) (hN : N ≤ 1073741824) :
  Calls Tryz.prog 20 #[.pointer (some ⟨g, 0, none⟩), .slice A l.length c] w fun e w' => ∃ L' cs' b c', e = .returned (.slice (some ⟨b, 0, none⟩) l.length (l.length + 600)) ∧ RoomAt L' base w' g (N + 1) cs' (put D 0 (.slice (some ⟨b, 0, none⟩) (l.length + 600) c', (l.length : Nat))) ∧ Only Room L w L' w' ∧ Below base w0 w' ∧ w.heap.size ≤ b ∧ b < w'.heap.size ∧ L' b = 0 ∧ Firm L' w' (fun W => Kd.C (Kd.int .u8) W (some ⟨b, 0, none⟩) l.length l) := by
 have H := Aside0.mk (layBytes_calls L base g N A c l 600 w0 w cs D hR hB hr hc hlb (by omega) (by omega) hN)
 clear hR hB hr hc hlb hN
 go_enter Tryz.func20, Tryz.ntmps20
 go_wp2_with (go_at_call 88; refine H.out.mono ?_; rintro e w' ⟨L', cs', b, c', rfl, PP⟩; have PP := Aside0.mk PP)
 go_ret
 exact ⟨L', cs', b, c', rfl, PP.out⟩
theorem Asks_calls (L : Nat → Nat) (base g N : Nat) (A : Option Addr) (c : Nat) (l : List S82) (w0 w : World) (cs : Array Value) (D : Nat → List (Value × Int)) (hR : RoomAt L base w g N cs D) (hB : Below base w0 w) (hr : Kd.C k82 w A l.length l) (hc : l.length ≤ c) (hlb : l.length ≤ 536870912) (hN : N ≤ 1073741824) :
  Calls Tryz.prog 21 #[.pointer (some ⟨g, 0, none⟩), .slice A l.length c] w fun e w' => ∃ L' cs' b c', e = .returned (.slice (some ⟨b, 0, none⟩) l.length (l.length + 40)) ∧ RoomAt L' base w' g (N + 1) cs' (put D 3 (.slice (some ⟨b, 0, none⟩) (l.length + 40) c', (l.length : Nat))) ∧ Only Room L w L' w' ∧ Below base w0 w' ∧ w.heap.size ≤ b ∧ b < w'.heap.size ∧ L' b = 0 ∧ Firm L' w' (fun W => Kd.C k82 W (some ⟨b, 0, none⟩) l.length l) := by
 have H := Aside0.mk (layAsks_calls L base g N A c l 40 w0 w cs D hR hB hr hc hlb (by omega) (by omega) hN)
 clear hR hB hr hc hlb hN
 go_enter Tryz.func21, Tryz.ntmps21
 go_wp2_with (go_at_call 89; refine H.out.mono ?_; rintro e w' ⟨L', cs', b, c', rfl, PP⟩; have PP := Aside0.mk PP)
 go_ret
 exact ⟨L', cs', b, c', rfl, PP.out⟩
theorem Ints_calls (L : Nat → Nat) (base g N : Nat) (A : Option Addr) (c : Nat) (l : List Int) (w0 w : World) (cs : Array Value) (D : Nat → List (Value × Int)) (hR : RoomAt L base w g N cs D) (hB : Below base w0 w) (hr : Kd.C (Kd.int .i64) w A l.length l) (hc : l.length ≤ c) (hlb : l.length ≤ 536870912) (hN : N ≤ 1073741824) :
  Calls Tryz.prog 22 #[.pointer (some ⟨g, 0, none⟩), .slice A l.length c] w fun e w' => ∃ L' cs' b c', e = .returned (.slice (some ⟨b, 0, none⟩) l.length (l.length + 40)) ∧ RoomAt L' base w' g (N + 1) cs' (put D 1 (.slice (some ⟨b, 0, none⟩) (l.length + 40) c', (l.length : Nat))) ∧ Only Room L w L' w' ∧ Below base w0 w' ∧ w.heap.size ≤ b ∧ b < w'.heap.size ∧ L' b = 0 ∧ Firm L' w' (fun W => Kd.C (Kd.int .i64) W (some ⟨b, 0, none⟩) l.length l) := by
 have H := Aside0.mk (layInts_calls L base g N A c l 40 w0 w cs D hR hB hr hc hlb (by omega) (by omega) hN)
 clear hR hB hr hc hlb hN
 go_enter Tryz.func22, Tryz.ntmps22
 go_wp2_with (go_at_call 90; refine H.out.mono ?_; rintro e w' ⟨L', cs', b, c', rfl, PP⟩; have PP := Aside0.mk PP)
 go_ret
 exact ⟨L', cs', b, c', rfl, PP.out⟩
theorem Texts_calls (L : Nat → Nat) (base g N : Nat) (A : Option Addr) (c : Nat) (l : List ByteArray) (w0 w : World) (cs : Array Value) (D : Nat → List (Value × Int)) (hR : RoomAt L base w g N cs D) (hB : Below base w0 w) (hr : Kd.C Kd.string w A l.length l) (hc : l.length ≤ c) (hlb : l.length ≤ 536870912) (hN : N ≤ 1073741824) :
  Calls Tryz.prog 23 #[.pointer (some ⟨g, 0, none⟩), .slice A l.length c] w fun e w' => ∃ L' cs' b c', e = .returned (.slice (some ⟨b, 0, none⟩) l.length (l.length + 40)) ∧ RoomAt L' base w' g (N + 1) cs' (put D 2 (.slice (some ⟨b, 0, none⟩) (l.length + 40) c', (l.length : Nat))) ∧ Only Room L w L' w' ∧ Below base w0 w' ∧ w.heap.size ≤ b ∧ b < w'.heap.size ∧ L' b = 0 ∧ Firm L' w' (fun W => Kd.C Kd.string W (some ⟨b, 0, none⟩) l.length l) := by
 have H := Aside0.mk (layTexts_calls L base g N A c l 40 w0 w cs D hR hB hr hc hlb (by omega) (by omega) hN)
 clear hR hB hr hc hlb hN
 go_enter Tryz.func23, Tryz.ntmps23
 go_wp2_with (go_at_call 91; refine H.out.mono ?_; rintro e w' ⟨L', cs', b, c', rfl, PP⟩; have PP := Aside0.mk PP)
 go_ret
 exact ⟨L', cs', b, c', rfl, PP.out⟩
end Go.Proofs.YtndhkgfeknkfdaaGreatDoor.Rm
