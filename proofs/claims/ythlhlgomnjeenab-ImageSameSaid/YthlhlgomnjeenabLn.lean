/- crierroom.Room: structs, and lists of structs, laid with room behind them. -/
import Derived.Test.YthlhlgomnjeenabLy
import Derived.Test.YthlhlgomnjeenabSw
namespace Go.Proofs.Ythlhlgomnjeenab.Rm
open Go.RowKit Go.Proofs.YthlhlgomnjeenabW.PrintWords Go.Proofs.YthlhlgomnjeenabW.PrintLast Go.Proofs.YthlhlgomnjeenabW.PrintMore Go.Proofs.Ythlhlgomnjeenab.PImageSame
set_option linter.unusedVariables false
set_option linter.unusedSimpArgs false
set_option maxHeartbeats 2000000
set_option maxRecDepth 100000
/-- what a struct's lay keeps: the room, the argument's block, the answer's -/
structure SL (L : Nat → Nat) (w w0 : World) (base g gb gr : Nat) (T : TypeId) (c1 c2 : Array Value) (Lk : Nat → Nat) (W : World) (Nk : Nat) (csk : Array Value) (Dk : Nat → List (Value × Int)) : Prop where
  room : RoomAt Lk base W g Nk csk Dk
  only : Only Room L w Lk W
  below : Below base w0 W
  b1 : W.heap[gb]? = some (.cells c1 T (0, 0))
  b2 : W.heap[gr]? = some (.cells c2 T (0, 0))
  l1 : Lk gb = 200
  l2 : Lk gr = 200
  n1 : w.heap.size ≤ gb
  n2 : w.heap.size ≤ gr
  ne : gb ≠ gr
  bs : base ≤ w.heap.size
section
variable {L Lk L' : Nat → Nat} {w w0 W W' : World} {base g gb gr Nk N' : Nat} {T : TypeId} {c1 c2 c1' : Array Value} {csk cs' : Array Value} {Dk D' : Nat → List (Value × Int)} {F F' : World → Prop}
theorem room200 : ∀ x, Is 200 x → ¬ Room x ∧ x ≠ 0 := fun x h => by
  obtain rfl : x = 200 := h
  exact ⟨fun hr => by have := hr.2; omega, by decide⟩
theorem SL.call (h : SL L w w0 base g gb gr T c1 c2 Lk W Nk csk Dk) (hR : RoomAt L' base W' g N' cs' D') (hO : Only Room Lk W L' W') (hB : Below base w0 W') : SL L w w0 base g gb gr T c1 c2 L' W' N' cs' D' where
  room := hR
  only := h.only.trans hO
  below := hB
  b1 := (hO.keep gb (blk_lt h.b1) (by rw [h.l1]; exact fun hr => by have := hr.2; omega)).trans h.b1
  b2 := (hO.keep gr (blk_lt h.b2) (by rw [h.l2]; exact fun hr => by have := hr.2; omega)).trans h.b2
  l1 := (hO.lab gb (blk_lt h.b1)).trans h.l1
  l2 := (hO.lab gr (blk_lt h.b2)).trans h.l2
  n1 := h.n1
  n2 := h.n2
  ne := h.ne
  bs := h.bs
theorem SL.set1 (h : SL L w w0 base g gb gr T c1 c2 Lk W Nk csk Dk) (hO : One W W' gb) (hb : W'.heap[gb]? = some (.cells c1' T (0, 0))) : SL L w w0 base g gb gr T c1' c2 Lk W' Nk csk Dk where
  room := h.room.step (hO.only (X := Is 200) h.l1) room200
  only := ⟨Nat.le_trans h.only.size (Nat.le_of_eq hO.size.symm), fun k hk hx => (hO.keep k (by have := h.n1; omega)).trans (h.only.keep k hk hx), h.only.lab⟩
  below := hO.below h.below (Nat.le_trans h.bs h.n1)
  b1 := hb
  b2 := (hO.keep gr (Ne.symm h.ne)).trans h.b2
  l1 := h.l1
  l2 := h.l2
  n1 := h.n1
  n2 := h.n2
  ne := h.ne
  bs := h.bs
theorem SL.set2 (h : SL L w w0 base g gb gr T c1 c2 Lk W Nk csk Dk) (hO : One W W' gr) (hb : W'.heap[gr]? = some (.cells c1' T (0, 0))) : SL L w w0 base g gb gr T c1 c1' Lk W' Nk csk Dk where
  room := h.room.step (hO.only (X := Is 200) h.l2) room200
  only := ⟨Nat.le_trans h.only.size (Nat.le_of_eq hO.size.symm), fun k hk hx => (hO.keep k (by have := h.n2; omega)).trans (h.only.keep k hk hx), h.only.lab⟩
  below := hO.below h.below (Nat.le_trans h.bs h.n2)
  b1 := (hO.keep gb h.ne).trans h.b1
  b2 := hb
  l1 := h.l1
  l2 := h.l2
  n1 := h.n1
  n2 := h.n2
  ne := h.ne
  bs := h.bs
theorem SL.start (hR : RoomAt L base w g Nk csk Dk) (hB : Below base w0 w) {w1 : World} (h1 : Below w.heap.size w w1) (hb1 : w1.heap[w.heap.size]? = some (.cells c1 T (0, 0))) (h2 : Below w1.heap.size w1 W) (hb2 : W.heap[w1.heap.size]? = some (.cells c2 T (0, 0))) : SL L w w0 base g w.heap.size w1.heap.size T c1 c2 (lab1 L w.heap.size 200) W Nk csk Dk where
  room := hR.step (X := No) (only1 (t := 200) (h1.trans (h2.mono h1.size))) (fun _ hx => hx.elim)
  only := only1 (h1.trans (h2.mono h1.size))
  below := hB.trans ((h1.trans (h2.mono h1.size)).mono (by have := hR.ge; have := blk_lt hR.blk; omega))
  b1 := blk_below hb1 h2
  b2 := hb2
  l1 := lab1_new (Nat.le_refl _)
  l2 := lab1_new h1.size
  n1 := Nat.le_refl _
  n2 := h1.size
  ne := by have := blk_lt hb1; omega
  bs := by have := hR.ge; have := blk_lt hR.blk; omega
theorem Firm.start (h : Firm L w F) {w1 : World} (h1 : Below w.heap.size w w1) (h2 : Below w1.heap.size w1 W) : Firm (lab1 L w.heap.size 200) W F := h.only (only1 (X := No) (t := 200) (h1.trans (h2.mono h1.size))) (fun h => h)
theorem Firm.room (h : Firm L w F) (k : Only Room L w L' W') : Firm L' W' F := h.only k (fun h => by have := h.1; omega)
theorem Firm.one (h : Firm L w F) (k : One w W' gb) (hl : L gb = 200) : Firm L W' F := h.only (k.only (X := Is 200) hl) (fun h => by cases h)
theorem Firm.and (h : Firm L w F) (h' : Firm L w F') : Firm L w (fun W => F W ∧ F' W) := fun L' W hW => ⟨h L' W hW, h' L' W hW⟩
end
theorem came_now {α : Type} {d : Kd α} (hd : Kd.Heap d) {w0 W : World} {base n : Nat} {A : Option Addr} {xs : List α} (hB : Below base w0 W) (hb0 : w0.heap.size ≤ base) (h : d.C w0 A n xs) : d.C W A n xs := hd.C (fun k hk => hB.block k (Nat.lt_of_lt_of_le hk hb0)) h
theorem came_firm {α : Type} {d : Kd α} (hd : Kd.Heap d) {L : Nat → Nat} {w0 W : World} {base n : Nat} {A : Option Addr} {xs : List α} (hB : Below base w0 W) (hb0 : w0.heap.size ≤ base) (hL : ∀ k, k < base → L k = 0) (hs : base ≤ W.heap.size) (h : d.C w0 A n xs) : Firm L W (fun W' => d.C W' A n xs) :=
  Firm.came (w0 := w0) (fun W' hW => hd.C (fun k hk => hW k (Nat.lt_of_lt_of_le hk hb0)) h) hB hL hs
theorem sum_take_le {α : Type} (f : α → Nat) (l : List α) (k : Nat) : ((l.take k).map f).sum ≤ (l.map f).sum := by
  have h : (l.map f).sum = ((l.take k).map f).sum + ((l.drop k).map f).sum := by rw [← List.sum_append_nat, ← List.map_append, List.take_append_drop]
  omega
theorem sum_take_succ {α : Type} (f : α → Nat) (l : List α) (k : Nat) (x : α) (h : l[k]? = some x) : ((l.take (k + 1)).map f).sum = ((l.take k).map f).sum + f x := by
  rw [List.take_add_one, h]
  simp [List.map_append, List.sum_append_nat]
/-- what a list's lay keeps while the list is made -/
structure LF {α : Type} (K : World → α → List Value → Prop) (te sz : Nat) (L : Nat → Nat) (w w0 : World) (base g : Nat) (F : Value) (ps : List α) (Lk : Nat → Nat) (W : World) (Nk : Nat) (csk : Array Value) (Dk : Nat → List (Value × Int)) : Prop where
  room : RoomAt Lk base W g Nk csk Dk
  only : Only Room L w Lk W
  below : Below base w0 W
  full : OwnRow (fun p c => Firm Lk W (fun W' => K W' p c)) te sz W w.heap.size F ps
  lab : ∀ b, F.ownBlock = some b → Lk b = 200
  bs : base ≤ w.heap.size
section
variable {α : Type} {K : World → α → List Value → Prop} {te sz base g Nk N' : Nat} {L Lk L' : Nat → Nat} {w w0 W W' : World} {F F' : Value} {ps : List α} {csk cs' : Array Value} {Dk D' : Nat → List (Value × Int)}
theorem LF.call (h : LF K te sz L w w0 base g F ps Lk W Nk csk Dk) (hR : RoomAt L' base W' g N' cs' D') (hO : Only Room Lk W L' W') (hB : Below base w0 W') : LF K te sz L w w0 base g F ps L' W' N' cs' D' where
  room := hR
  only := h.only.trans hO
  below := hB
  full := by
    obtain ⟨inner, ho, hr⟩ := h.full
    exact ⟨inner, own_move ho (fun k hk => hO.keep k (own_lt ho k hk) (by rw [h.lab k hk]; exact fun hx => by have := hx.2; omega)), hr.imp_ (fun _ _ hp => hp.room hO)⟩
  lab := fun b hb => by
    obtain ⟨inner, ho, hr⟩ := h.full
    exact (hO.lab b (own_lt ho b hb)).trans (h.lab b hb)
  bs := h.bs
/-- behind an append to the list itself -/
theorem LF.app (h : LF K te sz L w w0 base g F ps Lk W Nk csk Dk) {p : α} (ho : OwnRow (fun p c => Firm Lk W (fun W' => K W' p c)) te sz W' w.heap.size F' (ps ++ [p])) (hb : Below w.heap.size w0 W' ∨ (W'.os = W.os ∧ W'.tape = W.tape ∧ W'.output = W.output)) (hg : W.grownBy W' F.ownBlock) (hat : F'.ownBlock = F.ownBlock ∨ ∃ b, F'.ownBlock = some b ∧ W.heap.size ≤ b) : LF K te sz L w w0 base g F' (ps ++ [p]) (lab1 Lk W.heap.size 200) W' Nk csk Dk := by
  have hFb : ∀ k, F.ownBlock = some k → w.heap.size ≤ k := fun k hk => by
    obtain ⟨inner, ho, hr⟩ := h.full
    exact own_base ho k hk
  have hO : Only (Is 200) Lk W (lab1 Lk W.heap.size 200) W' := ⟨hg.size, fun k hk hx => hg.block k hk (fun e => hx (h.lab k e.symm)), fun k hk => lab1_old hk⟩
  refine ⟨h.room.step hO room200, ⟨Nat.le_trans h.only.size hg.size, fun k hk hx => (hg.block k (Nat.lt_of_lt_of_le hk h.only.size) (fun e => by have := hFb k e.symm; omega)).trans (h.only.keep k hk hx), fun k hk => (lab1_old (Nat.lt_of_lt_of_le hk h.only.size)).trans (h.only.lab k hk)⟩, h.below.trans ⟨hg.os, hg.tape, hg.output, hg.size, fun k hk => hg.block k (by have := h.only.size; have := h.bs; omega) (fun e => by have := hFb k e.symm; have := h.bs; omega)⟩, ?_, fun b hb => ?_, h.bs⟩
  · obtain ⟨inner, ho, hr⟩ := ho
    exact ⟨inner, ho, hr.imp_ (fun _ _ hp => hp.only hO (fun h => by cases h))⟩
  · rcases hat with e | ⟨b', e, hb'⟩
    · rw [e] at hb
      obtain ⟨inner, ho, hr⟩ := h.full
      rw [lab1_old (own_lt ho b hb)]
      exact h.lab b hb
    · rw [e] at hb
      obtain rfl := Option.some.inj hb
      exact lab1_new hb'
theorem LF.start (hR : RoomAt L base w g Nk csk Dk) (hB : Below base w0 w) : LF K te sz L w w0 base g (.slice (some ⟨w.heap.size, 0, none⟩) 0 0) [] (lab1 L w.heap.size 200) (w.alloc (.cells #[] te)) Nk csk Dk := by
  have h1 : Below w.heap.size w (w.alloc (.cells #[] te)) := below_alloc (Below.refl _ _) _
  refine ⟨hR.step (X := No) (only1 (t := 200) h1) (fun _ hx => hx.elim), only1 h1, hB.trans (h1.mono (by have := hR.ge; have := blk_lt hR.blk; omega)), ⟨[], ⟨by simp, .inr ⟨w.heap.size, 0, #[], rfl, Nat.le_refl _, blk_new w _, Nat.le_refl _, Nat.zero_le _, by simp, by simp⟩⟩, Reps.none _ _⟩, fun b hb => ?_, by have := hR.ge; have := blk_lt hR.blk; omega⟩
  obtain rfl : w.heap.size = b := by simpa only [Value.ownBlock, Option.some.injEq] using hb
  exact lab1_new (Nat.le_refl _)
end
/-- what has been laid reads so, firmly -/
theorem firm_take {α : Type} {d : Kd α} {L Lk : Nat → Nat} {w wk : World} {e b m c base : Nat} {ps : List α} {inner : List Value} (ho : w.ownsRow base e d.sz (.slice (some ⟨b, 0, none⟩) m c) ps.length inner) (hr : Reps (fun p c => Firm Lk wk (fun W => d.K W p c)) d.sz ps inner) (hs : Soft Lk wk L w) (hL : L b = 0) (n : Nat) (hn : n ≤ ps.length) : Firm L w (fun W => d.C W (some ⟨b, 0, none⟩) n (ps.take n)) := fun L' W hW => by
  have hb := (hW.2 b (own_lt ho b rfl) hL).1
  have h2 : OwnRow (d.K W) e d.sz W base (.slice (some ⟨b, 0, none⟩) m c) ps := ⟨inner, own_move ho (fun k hk => by
    obtain rfl : b = k := by simpa only [Value.ownBlock, Option.some.injEq] using hk
    exact hb), hr.imp_ (fun _ _ hp => hp L' W (hs.trans hW))⟩
  obtain ⟨A, c', he, _, hr2⟩ := OwnRow.reads h2
  injection he with e1 e2 e3
  subst e1
  have h3 := Kd.C_take hr2 hn
  rwa [List.length_take, Nat.min_eq_left hn] at h3
theorem hp90 : Kd.Heap k90 := Kd.heap_iso _ (Kd.heap_pair Kd.heap_string (Kd.heap_int .i64))
theorem hp72 : Kd.Heap k72 := Kd.heap_iso _ (Kd.heap_pair Kd.heap_string (Kd.heap_pair (Kd.heap_slice 5 (Kd.heap_int .u8)) (Kd.heap_pair (Kd.heap_int .i64) Kd.heap_bool)))
theorem hp76 : Kd.Heap k76 := Kd.heap_iso _ (Kd.heap_pair (Kd.heap_int .i64) (Kd.heap_pair hp72 Kd.heap_bool))
theorem hp62 : Kd.Heap k62 := Kd.heap_iso _ (Kd.heap_pair (Kd.heap_int .i64) (Kd.heap_pair (Kd.heap_slice 76 hp76) (Kd.heap_slice 72 hp72)))
theorem hp64 : Kd.Heap k64 := Kd.heap_iso _ (Kd.heap_pair Kd.heap_string (Kd.heap_pair (Kd.heap_slice 90 hp90) (Kd.heap_pair hp62 (Kd.heap_slice 3 (Kd.heap_int .i64)))))
theorem hp66 : Kd.Heap k66 := Kd.heap_iso _ (Kd.heap_pair Kd.heap_string Kd.heap_string)
theorem hp101 : Kd.Heap k101 := Kd.heap_iso _ (Kd.heap_pair Kd.heap_string Kd.heap_string)
theorem hp104 : Kd.Heap k104 := Kd.heap_iso _ (Kd.heap_pair Kd.heap_string (Kd.heap_pair Kd.heap_bool (Kd.heap_pair (Kd.heap_int .i64) (Kd.heap_pair (Kd.heap_int .i64) (Kd.heap_pair Kd.heap_bool (Kd.heap_pair Kd.heap_string (Kd.heap_pair Kd.heap_bool Kd.heap_string)))))))
theorem hp107 : Kd.Heap k107 := Kd.heap_iso _ (Kd.heap_pair (Kd.heap_int .i64) (Kd.heap_pair (Kd.heap_int .i64) (Kd.heap_pair Kd.heap_bool (Kd.heap_pair (Kd.heap_int .i64) (Kd.heap_pair Kd.heap_string (Kd.heap_pair Kd.heap_bool (Kd.heap_pair hp72 (Kd.heap_pair Kd.heap_bool (Kd.heap_pair Kd.heap_string (Kd.heap_pair Kd.heap_bool (Kd.heap_pair (Kd.heap_slice 5 (Kd.heap_int .u8)) (Kd.heap_pair Kd.heap_bool (Kd.heap_pair (Kd.heap_int .i64) (Kd.heap_pair Kd.heap_bool (Kd.heap_pair hp72 (Kd.heap_pair (Kd.heap_int .i64) (Kd.heap_pair (Kd.heap_slice 90 hp90) (Kd.heap_pair (Kd.heap_slice 3 (Kd.heap_int .i64)) (Kd.heap_slice 9 Kd.heap_string)))))))))))))))))))
theorem hp111 : Kd.Heap k111 := Kd.heap_iso _ (Kd.heap_pair (Kd.heap_int .i64) (Kd.heap_pair hp107 (Kd.heap_pair (Kd.heap_int .i64) (Kd.heap_int .i64))))
theorem hp114 : Kd.Heap k114 := Kd.heap_iso _ (Kd.heap_pair (Kd.heap_int .i64) (Kd.heap_pair (Kd.heap_int .i64) (Kd.heap_pair (Kd.heap_slice 5 (Kd.heap_int .u8)) (Kd.heap_int .i64))))
theorem hp117 : Kd.Heap k117 := Kd.heap_iso _ (Kd.heap_pair (Kd.heap_int .i64) (Kd.heap_pair (Kd.heap_int .i64) (Kd.heap_pair (Kd.heap_int .i64) (Kd.heap_pair hp72 (Kd.heap_pair (Kd.heap_slice 90 hp90) (Kd.heap_slice 9 Kd.heap_string))))))
theorem hp119 : Kd.Heap k119 := Kd.heap_iso _ (Kd.heap_pair (Kd.heap_int .i64) (Kd.heap_pair (Kd.heap_int .i64) (Kd.heap_pair (Kd.heap_int .i64) (Kd.heap_pair hp114 (Kd.heap_pair hp107 hp117)))))
theorem hp122 : Kd.Heap k122 := Kd.heap_iso _ (Kd.heap_pair Kd.heap_string (Kd.heap_pair Kd.heap_string (Kd.heap_pair Kd.heap_bool Kd.heap_bool)))
theorem hp125 : Kd.Heap k125 := Kd.heap_iso _ (Kd.heap_pair (Kd.heap_int .i64) (Kd.heap_pair (Kd.heap_int .i64) (Kd.heap_pair Kd.heap_string (Kd.heap_pair hp64 (Kd.heap_pair hp72 hp66)))))
def ok72 (x : S72) : Prop := x.f1.length ≤ 536870912
def cost72 (x : S72) : Nat := 1
theorem message_calls (L : Nat → Nat) (base g N : Nat) (x : S72) (A1 : Option Addr) (c1 : Nat) (w0 w : World) (cs : Array Value) (D : Nat → List (Value × Int)) (hR : RoomAt L base w g N cs D) (hB : Below base w0 w) (hb0 : w0.heap.size ≤ base) (hr1 : (Kd.int .u8).C w0 A1 x.f1.length x.f1) (hc1 : x.f1.length ≤ c1) (hl1 : x.f1.length ≤ 536870912) (hN : N + 1 ≤ 1073741824) :
    Calls Try.prog 60 #[.pointer (some ⟨g, 0, none⟩), .agg #[.string x.f0, .slice A1 x.f1.length c1, .int .i64 x.f2, .bool x.f3]] w fun e w' => ∃ L' N' cs' D' B1 d1, e = .returned (.agg #[.string x.f0, .slice B1 x.f1.length d1, .int .i64 x.f2, .bool x.f3]) ∧ RoomAt L' base w' g N' cs' D' ∧ N' ≤ N + 1 ∧ Only Room L w L' w' ∧ Below base w0 w' ∧ Firm L' w' (fun W => (Kd.int .u8).C W B1 x.f1.length x.f1) ∧ x.f1.length ≤ d1 := by
  have hu := Try.underlying72
  have HR := Aside0.mk hR; have HB := Aside0.mk hB
  have HC1 := Aside0.mk hc1; have HI1 := Aside0.mk hr1; have HL1 := Aside0.mk hl1
  have HN := Aside0.mk hN
  clear hR hB hN hc1 hr1 hl1
  go_enter Try.func60, Try.ntmps60
  go_upto_region 1 with (first | ((with_reducible refine gate_dst (N := 3) rfl ?_); refine box_event ?hg (N := 3) ?hd (cs := #[.string x.f0, .slice A1 x.f1.length c1, .int .i64 x.f2, .bool x.f3]) (t := 72) ?hr ?_; (case hd => rfl); (case hg => rfl); (case hr => first | (go_simp; done) | (go_simp; rfl)); intro gb hggb w1 hbox hb; subst hggb; have BXgb := Aside0.mk hbox; have BBgb := Aside0.mk hb; clear hbox hb) | ((with_reducible refine gate_dst (N := 4) rfl ?_); refine box_event ?hg (N := 4) ?hd (cs := #[.string ⟨#[]⟩, .slice none 0 0, .int .i64 0, .bool false]) (t := 72) ?hr ?_; (case hd => rfl); (case hg => rfl); (case hr => first | (go_simp; done) | (go_simp; rfl)); intro gr hggr w2 hbox hb; subst hggr; have BXgr := Aside0.mk hbox; have BBgr := Aside0.mk hb; clear hbox hb))
  try simp only [Act.put, List.setIfInBounds_toArray, List.set_cons_zero, List.set_cons_succ]
  have HS := Aside0.mk (SL.start HR.out HB.out BBgb.out BXgb.out BBgr.out BXgr.out)
  have HG : Aside0 (Firm (lab1 L w.heap.size 200) w2 (fun _ => True)) := ⟨fun _ _ _ => trivial⟩
  obtain ⟨Lk, hLk⟩ : ∃ z_, z_ = lab1 L w.heap.size 200 := ⟨_, rfl⟩; rw [← hLk] at HS HG; clear hLk
  obtain ⟨gb, hgb⟩ : ∃ z_, z_ = w.heap.size := ⟨_, rfl⟩; obtain ⟨gr, hgr⟩ : ∃ z_, z_ = w1.heap.size := ⟨_, rfl⟩
  have HS1 : Aside0 (SL L w w0 base g gb gr 72 #[.string x.f0, .slice A1 x.f1.length c1, .int .i64 x.f2, .bool x.f3] #[.string ⟨#[]⟩, .slice none 0 0, .int .i64 0, .bool false] Lk w2 N cs D) := ⟨by rw [hgb, hgr]; exact HS.out⟩
  have HP : Aside0 (w.heap.size = gb ∧ w1.heap.size = gr) := ⟨hgb.symm, hgr.symm⟩
  rw [← hgb, ← hgr]
  clear HS hgb hgr BXgb BXgr BBgb BBgr; have HS := HS1; clear HS1
  have hq : w2.cell? ⟨gb, 1, none⟩ = some (.slice A1 x.f1.length c1) := (blk_cell HS.out.b1 1).trans rfl
  go_upto_region 2 with (first | (go_at_call 65; (refine (layBytes_calls Lk base g N A1 c1 _ 4 w0 _ cs D HS.out.room HS.out.below (came_now (Kd.heap_int .u8) HS.out.below hb0 HI1.out) HC1.out HL1.out (by omega) (by omega) (by have := HN.out; omega)).mono ?_; rintro e w3 ⟨L1, cs1, b1, cx1, rfl, hA, hO, hB, hbw, hbl, hb0, hF⟩; obtain ⟨N1, hN1⟩ : ∃ z_, z_ = N + 1 := ⟨_, rfl⟩; rw [← hN1] at hA; have HM1 := Aside0.mk (show N1 ≤ N + 1 by omega); clear hN1; obtain ⟨D1, hD1⟩ : ∃ z_, z_ = put D 0 (.slice (some ⟨b1, 0, none⟩) (x.f1.length + 4) cx1, (x.f1.length : Nat)) := ⟨_, rfl⟩; rw [← hD1] at hA; clear hD1; have n0_ := Aside0.mk (HS.out.call hA hO hB); have n1_ := Aside0.mk ((HG.out.room hO).and hF); have HD1 := Aside0.mk (show x.f1.length ≤ x.f1.length + 4 by omega); clear HS HG hA hO hB hF hq; have HS := n0_; have HG := n1_; clear n0_ n1_ hbw hbl hb0; have hs_ : w3.cell? ⟨gb, 1, none⟩ = some (.slice A1 x.f1.length c1) := (blk_cell HS.out.b1 1).trans rfl; have hf_ : w3.frozen? ⟨gb, 1, none⟩ = false := blk_frozen HS.out.b1 _)) | fail)
  try simp only [Act.put, List.setIfInBounds_toArray, List.set_cons_zero, List.set_cons_succ]
  have hk := One.cell w3 gb 1 (.slice (some ⟨b1, 0, none⟩) x.f1.length (x.f1.length + 4)); have hx := blk_set HS.out.b1 1 (.slice (some ⟨b1, 0, none⟩) x.f1.length (x.f1.length + 4)); clear hs_ hf_
  obtain ⟨w4, hw4⟩ : ∃ z_, z_ = w3.setCell ⟨gb, 1, none⟩ (.slice (some ⟨b1, 0, none⟩) x.f1.length (x.f1.length + 4)) := ⟨_, rfl⟩; rw [← hw4] at hk hx; rw [← hw4]; clear hw4
  have n0_ : Aside0 (SL L w w0 base g gb gr 72 #[.string x.f0, .slice (some ⟨b1, 0, none⟩) x.f1.length (x.f1.length + 4), .int .i64 x.f2, .bool x.f3] #[.string ⟨#[]⟩, .slice none 0 0, .int .i64 0, .bool false] L1 w4 N1 cs1 D1) := ⟨HS.out.set1 hk hx⟩
  have n1_ := Aside0.mk (HG.out.one hk HS.out.l1)
  clear HS HG hx hk; have HS := n0_; have HG := n1_; clear n0_ n1_
  obtain ⟨v1, hv⟩ : ∃ z_, z_ = w4 := ⟨_, rfl⟩; subst hv
  go_wp2_with (first | ((with_reducible refine gate_dst (N := 10) rfl ?_); (refine wpList_load_row rfl 72 (.tmp 3) rfl gb rfl 72 _ (0, 0) _ HS.out.b1 hu rfl (by kernel_rfl) ?_)) | ((with_reducible refine gate_st (y := .tmp 10) rfl ?_); (refine ev_store rfl rfl 72 (.tmp 4) (.tmp 10) rfl gr 0 rfl 72 _ _ HS.out.b2 rfl (by kernel_rfl) (Nat.le_of_ble_eq_true rfl) rfl ?_; intro w4 hx hk)))
  have n0_ : Aside0 (SL L w w0 base g gb gr 72 #[.string x.f0, .slice (some ⟨b1, 0, none⟩) x.f1.length (x.f1.length + 4), .int .i64 x.f2, .bool x.f3] #[.string x.f0, .slice (some ⟨b1, 0, none⟩) x.f1.length (x.f1.length + 4), .int .i64 x.f2, .bool x.f3] L1 w4 N1 cs1 D1) := ⟨HS.out.set2 hk hx⟩
  have n1_ := Aside0.mk (HG.out.one hk HS.out.l2)
  refine bodyPost_ret (results_cell_row rfl _ _ gr 72 #[.string x.f0, .slice (some ⟨b1, 0, none⟩) x.f1.length (x.f1.length + 4), .int .i64 x.f2, .bool x.f3] (0, 0) _ rfl n0_.out.b2 hu rfl (by kernel_rfl)) rfl ?_
  exact ⟨L1, N1, cs1, D1, _, _, rfl, n0_.out.room, by have := HN.out; have := HM1.out; omega, n0_.out.only, n0_.out.below, n1_.out.imp (fun W h => h.2), HD1.out⟩
def mkMessages (q : Nat) : S72 := ⟨wd q, [], 0, false⟩
theorem layMessages_calls (L : Nat → Nat) (base g N : Nat) (A : Option Addr) (c : Nat) (l : List S72) (room : Nat) (w0 w : World) (cs : Array Value) (D : Nat → List (Value × Int)) (hR : RoomAt L base w g N cs D) (hB : Below base w0 w) (hb0 : w0.heap.size ≤ base) (hr : k72.C w0 A l.length l) (hc : l.length ≤ c) (hlb : l.length ≤ 536870912 ∧ ∀ x ∈ l, ok72 x) (hrm : room ≤ 536870912) (hr0 : 0 < room) (hN : N + ((l.map cost72).sum + 1) ≤ 1073741824) :
    Calls Try.prog 47 #[.pointer (some ⟨g, 0, none⟩), .slice A l.length c, .int .i64 room] w fun e w' => ∃ L' N' cs' D' b, e = .returned (.slice (some ⟨b, 0, none⟩) l.length (l.length + room)) ∧ RoomAt L' base w' g N' cs' D' ∧ N' ≤ N + ((l.map cost72).sum + 1) ∧ Only Room L w L' w' ∧ Below base w0 w' ∧ w.heap.size ≤ b ∧ b < w'.heap.size ∧ L' b = 0 ∧ Firm L' w' (fun W => k72.C W (some ⟨b, 0, none⟩) l.length l) := by
  have HB := Aside0.mk hB; have HL := Aside0.mk hr; have HC0 := Aside0.mk hc; have HOK := Aside0.mk hlb.2; have hlb := hlb.1; have HN := Aside0.mk hN
  have HS := Aside0.mk (LF.start (K := fun W => k72.K W) (te := 72) (sz := 4) hR hB)
  have HM : Aside0 (N ≤ N + ((l.take 0).map cost72).sum) := ⟨by simp⟩
  clear hR hB hr hc hN
  go_enter Try.func47, Try.ntmps47
  go_wp2
  go_loopw [7, 8] (fun F i wr => ∃ (k Nk : Nat) (Lk : Nat → Nat) (csk : Array Value) (Dk : Nat → List (Value × Int)), k ≤ l.length ∧ i = .int .i64 k ∧ Aside0 (LF (fun W => k72.K W) 72 4 L w w0 base g F (l.take k) Lk wr Nk csk Dk) ∧ Aside0 (Nk ≤ N + ((l.take k).map cost72).sum)) (fun _ i _ => l.length - (intOf i).toNat)
  case atStart => exact ⟨0, N, _, cs, D, Nat.zero_le _, rfl, ⟨by rw [List.take_zero]; exact HS.out⟩, HM⟩
  case round =>
    clear HS HM
    obtain ⟨k, Nk, Lk, csk, Dk, hk, rfl, HS, HM⟩ := hrel
    obtain ⟨wo, hwo⟩ : ∃ x, x = wr := ⟨_, rfl⟩; subst hwo
    by_cases hlt : k < l.length
    · skip
      obtain ⟨ad, A1, c1, hA, e0, e1, e2, e3, l_1, g_1⟩ := at_T72 HL.out (k : Int) (by omega) (by omega)
      subst hA
      obtain ⟨x, hx⟩ : ∃ x, x = rd_T72 l k := ⟨_, rfl⟩
      rw [← hx] at e0 e1 e2 e3 l_1 g_1
      have hlx : l[k]? = some x := by rw [hx, rd_T72, Int.toNat_natCast, List.getD_eq_getElem?_getD, List.getElem?_eq_getElem hlt]; rfl
      have HX := Aside0.mk hlx
      have HOX := Aside0.mk (HOK.out x (List.mem_of_getElem? hlx))
      have HSU := Aside0.mk (sum_take_succ cost72 l k x hlx); have HSL := Aside0.mk (sum_take_le cost72 l (k + 1))
      have hbw := HS.out.below
      have e0' := e0; rw [Int.toNat_natCast] at e0'; have f0 := (hbw.cell (Nat.lt_of_lt_of_le (World.block_lt_of_cell? _ _ e0') hb0)).trans e0'; clear e0 e0'
      have e1' := e1; rw [Int.toNat_natCast] at e1'; have f1 := (hbw.cell (Nat.lt_of_lt_of_le (World.block_lt_of_cell? _ _ e1') hb0)).trans e1'; clear e1 e1'
      have e2' := e2; rw [Int.toNat_natCast] at e2'; have f2 := (hbw.cell (Nat.lt_of_lt_of_le (World.block_lt_of_cell? _ _ e2') hb0)).trans e2'; clear e2 e2'
      have e3' := e3; rw [Int.toNat_natCast] at e3'; have f3 := (hbw.cell (Nat.lt_of_lt_of_le (World.block_lt_of_cell? _ _ e3') hb0)).trans e3'; clear e3 e3'
      have HL1 := Aside0.mk l_1; have HG1 := Aside0.mk g_1; clear l_1 g_1
      clear hlx hx hbw
      go_wp2_with (first | (go_at_call 60; (refine (message_calls Lk base g Nk x A1 c1 w0 _ csk Dk HS.out.room HS.out.below hb0 HG1.out HL1.out HOX.out (by have := HN.out; have := HM.out; have := HSU.out; have := HSL.out; unfold cost72 at *; omega)).mono ?_; rintro e w3 ⟨L1, N1, cs1, D1, B1, d1, rfl, hA, hM, hO, hB, hF, q_1⟩; have n0_ := Aside0.mk (HS.out.call hA hO hB); have HF1 := Aside0.mk hF; have HM1 := Aside0.mk hM; have HQ1 := Aside0.mk q_1; clear q_1; clear HS hA hM hO hB hF; have HS := n0_; clear n0_)) | ((with_reducible refine gate_builtin (b := .append) (xs := #[.tmp 17, .tmp 24]) rfl ?_); at_builtin; (refine OwnRow.append (w0 := w3) (R := fun p c => Firm L1 w3 (fun W' => k72.K W' p c)) w.heap.size rfl (.tmp 17) (.tmp 24) 23 72 (.agg #[(.string ⟨#[]⟩), (.slice none 0 0), (.int .i64 0), (.bool false)]) 4 56 rfl Try.underlying23 info72 rfl (by decide) (by decide) u7 (l.take k) x [.string x.f0, .slice B1 x.f1.length d1, .int .i64 x.f2, .bool x.f3] rfl rfl ?aP rfl ?a1 ?aO ?aB ?aS ?aL ?_; (case aP => exact HF1.out.imp (fun _ hh => k72_mk _ _ HQ1.out (hh))); (case a1 => simp [Value.oneCell']); (case aO => exact HS.out.full); (case aB => exact Below.refl _ _); (case aS => exact HS.out.only.size); (case aL => have : (l.take k).length ≤ k := List.length_take_le _ _; omega); intro v1 w4 ho hb hg hat; have n0_ := Aside0.mk (HS.out.app ho (.inr ⟨hg.os, hg.tape, hg.output⟩) hg hat); clear HS ho hb hg hat; have HS := n0_; clear n0_)))
      go_roundw
      case rel => exact ⟨k + 1, N1, _, cs1, D1, by omega, by go_num, ⟨by rw [List.take_add_one, HX.out]; exact HS.out⟩, ⟨by have := HM.out; have := HM1.out; have := HSU.out; unfold cost72 at *; omega⟩⟩
      case measure => simp [intOf]; omega
    · obtain rfl : k = l.length := by omega
      go_wp2
      go_loopw [7, 9] (fun F i wr => ∃ (j : Nat) (Lk : Nat → Nat), j ≤ room ∧ i = .int .i64 j ∧ Aside0 (LF (fun W => k72.K W) 72 4 L w w0 base g F (l ++ mrks mkMessages j) Lk wr Nk csk Dk)) (fun _ i _ => room - (intOf i).toNat)
      case atStart => exact ⟨0, Lk, Nat.zero_le _, rfl, ⟨by have h := HS.out; rw [List.take_length] at h; rw [mrks_zero, List.append_nil]; exact h⟩⟩
      case round =>
        clear HS
        obtain ⟨j, Lj, hj, rfl, HS⟩ := hrel
        obtain ⟨wo, hwo⟩ : ∃ x, x = wr := ⟨_, rfl⟩; subst hwo
        by_cases hjt : j < room
        · skip
          have HL2 : Aside0 ((l ++ mrks mkMessages j).length = l.length + j) := ⟨by rw [List.length_append, mrks_length]⟩
          go_wp2_with (first | (go_at_call 57; (with_reducible refine (wd_calls j (by omega) _).mono ?_); rintro e w' ⟨rfl, rfl⟩) | ((with_reducible refine gate_builtin (b := .append) (xs := #[.tmp 31, .tmp 35]) rfl ?_); at_builtin; (refine OwnRow.append (w0 := wo) (R := fun p c => Firm Lj wo (fun W' => k72.K W' p c)) w.heap.size rfl (.tmp 31) (.tmp 35) 23 72 (.agg #[(.string ⟨#[]⟩), (.slice none 0 0), (.int .i64 0), (.bool false)]) 4 56 rfl Try.underlying23 info72 rfl (by decide) (by decide) u7 (l ++ mrks mkMessages j) (mkMessages j) [.string (wd j), .slice none 0 0, .int .i64 0, .bool false] rfl rfl ?aP rfl ?a1 ?aO ?aB ?aS ?aL ?_; (case aP => exact fun _ _ _ => k72_mk _ (mkMessages j) (Nat.le_refl 0) (Kd.C_nil _ _)); (case a1 => simp [Value.oneCell']); (case aO => exact HS.out.full); (case aB => exact Below.refl _ _); (case aS => exact HS.out.only.size); (case aL => rw [HL2.out]; omega); intro v1 w4 ho hb hg hat; have n0_ := Aside0.mk (HS.out.app ho (.inr ⟨hg.os, hg.tape, hg.output⟩) hg hat); clear HS ho hb hg hat; have HS := n0_; clear n0_)))
          go_roundw
          case rel => exact ⟨j + 1, _, by omega, by go_num, ⟨by rw [mrks_succ, ← List.append_assoc]; exact HS.out⟩⟩
          case measure => simp [intOf]; omega
        · obtain rfl : j = room := by omega
          have hfl : (l ++ mrks mkMessages j).length = l.length + j := by rw [List.length_append, mrks_length]
          have hF := HS.out.full; rw [OwnRow, hfl] at hF; obtain ⟨inner, ho, hrp⟩ := hF
          obtain ⟨b, cF, hF, hbw, hcF⟩ := ho.form (by omega)
          subst hF
          have HRK := Aside0.mk HS.out.room
          have HFL : Aside0 (∀ k', (Value.slice (some ⟨b, 0, none⟩) (l.length + j) cF).ownBlock = some k' → Lj k' = 200) := ⟨HS.out.lab⟩
          have OFK : Aside0 (wo.ownsRow w.heap.size 72 4 (.slice (some ⟨b, 0, none⟩) (l.length + j) cF) (l.length + j) inner ∧ ∀ q, l.length + q < l.length + j → ∃ ce, (kinds 7).mrk q ce ∧ ∀ (r : Nat) (u : Value), ce[r]? = some u → inner[(l.length + q) * (kinds 7).sz + r]? = some u) := ⟨ho, fun q hq => reps_mark hrp (fun c hp => by obtain ⟨A1, c1, e, _⟩ := k72_open hp.now; exact ⟨A1, c1, e⟩) (mrks_at l mkMessages j q (by rw [hfl]; exact hq))⟩
          have HRP := Aside0.mk hrp; have HFN := Aside0.mk hfl; have HCF := Aside0.mk hcF; clear ho hrp hfl
          have hNk : Nk ≤ 1073741824 := by have h := HM.out; rw [List.take_length] at h; have := HN.out; omega
          have hcF' : l.length + j ≤ cF := own_le OFK.out.1
          obtain ⟨V, U, hV, hU, h2⟩ := HRK.out.two 7 (by decide)
          have hge := HRK.out.ge; have hgs := blk_lt HRK.out.blk
          have hcv : wo.cell? ⟨g, 14, none⟩ = some V := (blk_cell HRK.out.blk 14).trans hV
          have hps : (Dk 7).length ≤ Nk := h2.le
          have H2 := Aside0.mk h2; have HV := Aside0.mk hV; have HU := Aside0.mk hU; clear h2 hV hU
          go_wp2_with (first | ((with_reducible refine gate_builtin (b := .append) (xs := #[.tmp 41, .tmp 43]) rfl ?_); at_builtin; refine print_append_cells (w0 := wo) base rfl (.tmp 41) (.tmp 43) 37 23 (.slice none 0 0) 1 24 rfl Try.underlying37 infoo23 rfl (by decide) (by decide) V (Dk 7).length ((Dk 7).map Prod.fst) [.slice (some ⟨b, 0, none⟩) (l.length + j) cF] rfl rfl rfl ?a1 ?aO ?aB ?aS ?aL ?_; (case a1 => simp [Value.oneCell']); (case aO => exact H2.out.ov); (case aB => exact Below.refl _ _); (case aS => omega); (case aL => omega); intro v1 wa ho hb hg hat; obtain ⟨A1, c1, he1⟩ := own_slice ho; subst he1; have OV := Aside0.mk ho; have GV := Aside0.mk hg; have AV := Aside0.mk hat; have BV := Aside0.mk hb; have BA := Aside0.mk (blk_a H2.out.ov HRK.out.blk hg (by decide)); clear ho hb hg hat hcv; have hfa : wa.frozen? ⟨g, 14, none⟩ = false := blk_frozen BA.out _; have hfb : wa.frozen? ⟨g, 15, none⟩ = false := blk_frozen BA.out _; have hca : wa.cell? ⟨g, 14, none⟩ = some V := (blk_cell BA.out 14).trans HV.out; have hcu : wa.cell? ⟨g, 15, none⟩ = some U := (blk_cell BA.out 15).trans HU.out) | ((with_reducible refine gate_builtin (b := .append) (xs := #[.tmp 51, .tmp 54]) rfl ?_); at_builtin; refine print_append_cells (w0 := wo) base rfl (.tmp 51) (.tmp 54) 30 3 (.int .i64 0) 1 8 rfl Try.underlying30 infoi rfl (by decide) (by decide) U (Dk 7).length (nums .i64 ((Dk 7).map Prod.snd)) [.int .i64 l.length] rfl ?aX rfl ?a1 ?aO ?aB ?aS ?aL ?_; (case aX => exact eval_x wa _ _ _); (case a1 => simp [Value.oneCell']); (case aO => exact own_a H2.out.ov H2.out.ou HRK.out.blk GV.out (by decide) (by decide) _); (case aB => exact BV.out.setCell (by omega) _); (case aS => have := BV.out.size; simp [World.setCell]; omega); (case aL => omega); intro v2 wb ho hb hg hat; obtain ⟨A2, c2, he2⟩ := own_slice ho; subst he2; have OU := Aside0.mk ho; have GU := Aside0.mk hg; have AU := Aside0.mk hat; have BU := Aside0.mk hb; have BB := Aside0.mk (blk_b H2.out.ou HRK.out.blk BA.out GU.out (by decide)); clear ho hb hg hat hca hcu hfa hfb; have hfc : wb.frozen? ⟨g, 15, none⟩ = false := blk_frozen BB.out _; have hcc : wb.cell? ⟨g, 15, none⟩ = some U := (blk_cell BB.out 15).trans ((Array.getElem?_setIfInBounds_ne (by decide)).trans HU.out)))
          go_ret
          obtain ⟨L', hA, hsz, hkeep, hold, hoF, hF0⟩ := HRK.out.laid (i := 7) (by decide) HV.out HU.out H2.out (by decide) (by decide) (by decide) rfl OFK.out.1 rfl (by decide) HFL.out GV.out OV.out AV.out GU.out OU.out AU.out (n := l.length) (by omega) (by omega) OFK.out.2 (by omega) rfl
          have hb0 : L' b = 0 := hF0 b rfl
          have hbl := own_lt hoF b rfl
          have hBE : Below base wo (wb.setCell ⟨g, 15, none⟩ (.slice A2 ((Dk 7).length + 1) c2)) := BU.out.setCell (by omega) _
          have hws := HS.out.only.size
          have hso : Soft Lj wo L' (wb.setCell ⟨g, 15, none⟩ (.slice A2 ((Dk 7).length + 1) c2)) := ⟨hsz, fun k' hk' h0 => ⟨hkeep k' hk' (fun hx => by have := hx.1; omega), (Classical.em (Value.ownBlock (.slice (some ⟨b, 0, none⟩) (l.length + j) cF) = some k')).elim (fun e => hF0 k' e) (fun e => (hold k' hk' e).trans h0)⟩⟩
          refine ⟨L', Nk + 1, _, _, b, rfl, hA, by have h := HM.out; rw [List.take_length] at h; omega, ⟨Nat.le_trans hws hsz, fun k' hk' hx => (hkeep k' (by omega) (by rw [HS.out.only.lab k' hk']; exact hx)).trans (HS.out.only.keep k' hk' hx), fun k' hk' => (hold k' (by omega) (fun e => by have : b = k' := (by simpa only [Value.ownBlock, Option.some.injEq] using e); omega)).trans (HS.out.only.lab k' hk')⟩, HS.out.below.trans hBE, hbw, hbl, hb0, ?_⟩
          have ht := firm_take (d := k72) (by rw [HFN.out]; exact hoF) HRP.out hso hb0 l.length (by rw [HFN.out]; omega)
          rw [List.take_left] at ht; exact ht
def ok76 (x : S76) : Prop := x.f1.f1.length ≤ 536870912
def cost76 (x : S76) : Nat := 1
theorem flight_calls (L : Nat → Nat) (base g N : Nat) (x : S76) (A2 : Option Addr) (c2 : Nat) (w0 w : World) (cs : Array Value) (D : Nat → List (Value × Int)) (hR : RoomAt L base w g N cs D) (hB : Below base w0 w) (hb0 : w0.heap.size ≤ base) (hr2 : (Kd.int .u8).C w0 A2 x.f1.f1.length x.f1.f1) (hc2 : x.f1.f1.length ≤ c2) (hl2 : x.f1.f1.length ≤ 536870912) (hN : N + 1 ≤ 1073741824) :
    Calls Try.prog 66 #[.pointer (some ⟨g, 0, none⟩), .agg #[.int .i64 x.f0, .string x.f1.f0, .slice A2 x.f1.f1.length c2, .int .i64 x.f1.f2, .bool x.f1.f3, .bool x.f2]] w fun e w' => ∃ L' N' cs' D' B2 d2, e = .returned (.agg #[.int .i64 x.f0, .string x.f1.f0, .slice B2 x.f1.f1.length d2, .int .i64 x.f1.f2, .bool x.f1.f3, .bool x.f2]) ∧ RoomAt L' base w' g N' cs' D' ∧ N' ≤ N + 1 ∧ Only Room L w L' w' ∧ Below base w0 w' ∧ Firm L' w' (fun W => (Kd.int .u8).C W B2 x.f1.f1.length x.f1.f1) ∧ x.f1.f1.length ≤ d2 := by
  have hu := Try.underlying76
  have hu72 := Try.underlying72
  have HR := Aside0.mk hR; have HB := Aside0.mk hB
  have HC2 := Aside0.mk hc2; have HI2 := Aside0.mk hr2; have HL2 := Aside0.mk hl2
  have HN := Aside0.mk hN
  clear hR hB hN hc2 hr2 hl2
  go_enter Try.func66, Try.ntmps66
  go_upto_region 1 with (first | ((with_reducible refine gate_dst (N := 3) rfl ?_); refine box_event ?hg (N := 3) ?hd (cs := #[.int .i64 x.f0, .string x.f1.f0, .slice A2 x.f1.f1.length c2, .int .i64 x.f1.f2, .bool x.f1.f3, .bool x.f2]) (t := 76) ?hr ?_; (case hd => rfl); (case hg => rfl); (case hr => first | (go_simp; done) | (go_simp; rfl)); intro gb hggb w1 hbox hb; subst hggb; have BXgb := Aside0.mk hbox; have BBgb := Aside0.mk hb; clear hbox hb) | ((with_reducible refine gate_dst (N := 4) rfl ?_); refine box_event ?hg (N := 4) ?hd (cs := #[.int .i64 0, .string ⟨#[]⟩, .slice none 0 0, .int .i64 0, .bool false, .bool false]) (t := 76) ?hr ?_; (case hd => rfl); (case hg => rfl); (case hr => first | (go_simp; done) | (go_simp; rfl)); intro gr hggr w2 hbox hb; subst hggr; have BXgr := Aside0.mk hbox; have BBgr := Aside0.mk hb; clear hbox hb))
  try simp only [Act.put, List.setIfInBounds_toArray, List.set_cons_zero, List.set_cons_succ]
  have HS := Aside0.mk (SL.start HR.out HB.out BBgb.out BXgb.out BBgr.out BXgr.out)
  have HG : Aside0 (Firm (lab1 L w.heap.size 200) w2 (fun _ => True)) := ⟨fun _ _ _ => trivial⟩
  obtain ⟨Lk, hLk⟩ : ∃ z_, z_ = lab1 L w.heap.size 200 := ⟨_, rfl⟩; rw [← hLk] at HS HG; clear hLk
  obtain ⟨gb, hgb⟩ : ∃ z_, z_ = w.heap.size := ⟨_, rfl⟩; obtain ⟨gr, hgr⟩ : ∃ z_, z_ = w1.heap.size := ⟨_, rfl⟩
  have HS1 : Aside0 (SL L w w0 base g gb gr 76 #[.int .i64 x.f0, .string x.f1.f0, .slice A2 x.f1.f1.length c2, .int .i64 x.f1.f2, .bool x.f1.f3, .bool x.f2] #[.int .i64 0, .string ⟨#[]⟩, .slice none 0 0, .int .i64 0, .bool false, .bool false] Lk w2 N cs D) := ⟨by rw [hgb, hgr]; exact HS.out⟩
  have HP : Aside0 (w.heap.size = gb ∧ w1.heap.size = gr) := ⟨hgb.symm, hgr.symm⟩
  rw [← hgb, ← hgr]
  clear HS hgb hgr BXgb BXgr BBgb BBgr; have HS := HS1; clear HS1
  go_upto_region 2 with (first | ((with_reducible refine gate_dst (N := 7) rfl ?_); refine ev_load rfl 72 (.tmp 6) rfl gb 1 4 rfl 76 (0, 0) _ HS.out.b1 _ hu72 rfl ([.string x.f1.f0, .slice A2 x.f1.f1.length c2, .int .i64 x.f1.f2, .bool x.f1.f3]) rfl (by kernel_rfl) ?_) | (go_at_call 60; (refine (message_calls Lk base g N x.f1 A2 c2 w0 _ cs D HS.out.room HS.out.below hb0 HI2.out HC2.out HL2.out (by have := HN.out; omega)).mono ?_; rintro e w3 ⟨L1, N1, cs1, D1, B2, d2, rfl, hA, hM, hO, hB, hF, q_2⟩; have HM1 := Aside0.mk hM; have n0_ := Aside0.mk (HS.out.call hA hO hB); have n1_ := Aside0.mk ((HG.out.room hO).and hF); have HD2 := Aside0.mk q_2; clear q_2; clear HS HG hA hM hO hB hF; have HS := n0_; have HG := n1_; clear n0_ n1_)) | ((with_reducible refine gate_st (y := .tmp 8) rfl ?_); refine ev_store rfl rfl 72 (.tmp 9) (.tmp 8) rfl gb 1 rfl 76 _ _ HS.out.b1 rfl (by kernel_rfl) (Nat.le_of_ble_eq_true rfl) rfl ?_; intro w4 hx hk))
  try simp only [Act.put, List.setIfInBounds_toArray, List.set_cons_zero, List.set_cons_succ]
  have n0_ : Aside0 (SL L w w0 base g gb gr 76 #[.int .i64 x.f0, .string x.f1.f0, .slice B2 x.f1.f1.length d2, .int .i64 x.f1.f2, .bool x.f1.f3, .bool x.f2] #[.int .i64 0, .string ⟨#[]⟩, .slice none 0 0, .int .i64 0, .bool false, .bool false] L1 w4 N1 cs1 D1) := ⟨HS.out.set1 hk hx⟩
  have n1_ := Aside0.mk (HG.out.one hk HS.out.l1)
  clear HS HG hx hk; have HS := n0_; have HG := n1_; clear n0_ n1_
  obtain ⟨v1, hv⟩ : ∃ z_, z_ = w4 := ⟨_, rfl⟩; subst hv
  go_wp2_with (first | ((with_reducible refine gate_dst (N := 10) rfl ?_); (refine wpList_load_row rfl 76 (.tmp 3) rfl gb rfl 76 _ (0, 0) _ HS.out.b1 hu rfl (by kernel_rfl) ?_)) | ((with_reducible refine gate_st (y := .tmp 10) rfl ?_); (refine ev_store rfl rfl 76 (.tmp 4) (.tmp 10) rfl gr 0 rfl 76 _ _ HS.out.b2 rfl (by kernel_rfl) (Nat.le_of_ble_eq_true rfl) rfl ?_; intro w4 hx hk)))
  have n0_ : Aside0 (SL L w w0 base g gb gr 76 #[.int .i64 x.f0, .string x.f1.f0, .slice B2 x.f1.f1.length d2, .int .i64 x.f1.f2, .bool x.f1.f3, .bool x.f2] #[.int .i64 x.f0, .string x.f1.f0, .slice B2 x.f1.f1.length d2, .int .i64 x.f1.f2, .bool x.f1.f3, .bool x.f2] L1 w4 N1 cs1 D1) := ⟨HS.out.set2 hk hx⟩
  have n1_ := Aside0.mk (HG.out.one hk HS.out.l2)
  refine bodyPost_ret (results_cell_row rfl _ _ gr 76 #[.int .i64 x.f0, .string x.f1.f0, .slice B2 x.f1.f1.length d2, .int .i64 x.f1.f2, .bool x.f1.f3, .bool x.f2] (0, 0) _ rfl n0_.out.b2 hu rfl (by kernel_rfl)) rfl ?_
  exact ⟨L1, N1, cs1, D1, _, _, rfl, n0_.out.room, by have := HN.out; have := HM1.out; omega, n0_.out.only, n0_.out.below, n1_.out.imp (fun W h => h.2), HD2.out⟩
def mkFlights (q : Nat) : S76 := ⟨lt q, ⟨⟨#[]⟩, [], 0, false⟩, false⟩
theorem layFlights_calls (L : Nat → Nat) (base g N : Nat) (A : Option Addr) (c : Nat) (l : List S76) (room : Nat) (w0 w : World) (cs : Array Value) (D : Nat → List (Value × Int)) (hR : RoomAt L base w g N cs D) (hB : Below base w0 w) (hb0 : w0.heap.size ≤ base) (hr : k76.C w0 A l.length l) (hc : l.length ≤ c) (hlb : l.length ≤ 536870912 ∧ ∀ x ∈ l, ok76 x) (hrm : room ≤ 536870912) (hr0 : 0 < room) (hN : N + ((l.map cost76).sum + 1) ≤ 1073741824) :
    Calls Try.prog 63 #[.pointer (some ⟨g, 0, none⟩), .slice A l.length c, .int .i64 room] w fun e w' => ∃ L' N' cs' D' b, e = .returned (.slice (some ⟨b, 0, none⟩) l.length (l.length + room)) ∧ RoomAt L' base w' g N' cs' D' ∧ N' ≤ N + ((l.map cost76).sum + 1) ∧ Only Room L w L' w' ∧ Below base w0 w' ∧ w.heap.size ≤ b ∧ b < w'.heap.size ∧ L' b = 0 ∧ Firm L' w' (fun W => k76.C W (some ⟨b, 0, none⟩) l.length l) := by
  have HB := Aside0.mk hB; have HL := Aside0.mk hr; have HC0 := Aside0.mk hc; have HOK := Aside0.mk hlb.2; have hlb := hlb.1; have HN := Aside0.mk hN
  have HS := Aside0.mk (LF.start (K := fun W => k76.K W) (te := 76) (sz := 6) hR hB)
  have HM : Aside0 (N ≤ N + ((l.take 0).map cost76).sum) := ⟨by simp⟩
  clear hR hB hr hc hN
  go_enter Try.func63, Try.ntmps63
  go_wp2
  go_loopw [7, 8] (fun F i wr => ∃ (k Nk : Nat) (Lk : Nat → Nat) (csk : Array Value) (Dk : Nat → List (Value × Int)), k ≤ l.length ∧ i = .int .i64 k ∧ Aside0 (LF (fun W => k76.K W) 76 6 L w w0 base g F (l.take k) Lk wr Nk csk Dk) ∧ Aside0 (Nk ≤ N + ((l.take k).map cost76).sum)) (fun _ i _ => l.length - (intOf i).toNat)
  case atStart => exact ⟨0, N, _, cs, D, Nat.zero_le _, rfl, ⟨by rw [List.take_zero]; exact HS.out⟩, HM⟩
  case round =>
    clear HS HM
    obtain ⟨k, Nk, Lk, csk, Dk, hk, rfl, HS, HM⟩ := hrel
    obtain ⟨wo, hwo⟩ : ∃ x, x = wr := ⟨_, rfl⟩; subst hwo
    by_cases hlt : k < l.length
    · skip
      obtain ⟨ad, A2, c2, hA, e0, e1, e2, e3, e4, e5, l_2, g_2⟩ := at_T76 HL.out (k : Int) (by omega) (by omega)
      subst hA
      obtain ⟨x, hx⟩ : ∃ x, x = rd_T76 l k := ⟨_, rfl⟩
      rw [← hx] at e0 e1 e2 e3 e4 e5 l_2 g_2
      have hlx : l[k]? = some x := by rw [hx, rd_T76, Int.toNat_natCast, List.getD_eq_getElem?_getD, List.getElem?_eq_getElem hlt]; rfl
      have HX := Aside0.mk hlx
      have HOX := Aside0.mk (HOK.out x (List.mem_of_getElem? hlx))
      have HSU := Aside0.mk (sum_take_succ cost76 l k x hlx); have HSL := Aside0.mk (sum_take_le cost76 l (k + 1))
      have hbw := HS.out.below
      have e0' := e0; rw [Int.toNat_natCast] at e0'; have f0 := (hbw.cell (Nat.lt_of_lt_of_le (World.block_lt_of_cell? _ _ e0') hb0)).trans e0'; clear e0 e0'
      have e1' := e1; rw [Int.toNat_natCast] at e1'; have f1 := (hbw.cell (Nat.lt_of_lt_of_le (World.block_lt_of_cell? _ _ e1') hb0)).trans e1'; clear e1 e1'
      have e2' := e2; rw [Int.toNat_natCast] at e2'; have f2 := (hbw.cell (Nat.lt_of_lt_of_le (World.block_lt_of_cell? _ _ e2') hb0)).trans e2'; clear e2 e2'
      have e3' := e3; rw [Int.toNat_natCast] at e3'; have f3 := (hbw.cell (Nat.lt_of_lt_of_le (World.block_lt_of_cell? _ _ e3') hb0)).trans e3'; clear e3 e3'
      have e4' := e4; rw [Int.toNat_natCast] at e4'; have f4 := (hbw.cell (Nat.lt_of_lt_of_le (World.block_lt_of_cell? _ _ e4') hb0)).trans e4'; clear e4 e4'
      have e5' := e5; rw [Int.toNat_natCast] at e5'; have f5 := (hbw.cell (Nat.lt_of_lt_of_le (World.block_lt_of_cell? _ _ e5') hb0)).trans e5'; clear e5 e5'
      have HL2 := Aside0.mk l_2; have HG2 := Aside0.mk g_2; clear l_2 g_2
      clear hlx hx hbw
      go_wp2_with (first | (go_at_call 66; (refine (flight_calls Lk base g Nk x A2 c2 w0 _ csk Dk HS.out.room HS.out.below hb0 HG2.out HL2.out HOX.out (by have := HN.out; have := HM.out; have := HSU.out; have := HSL.out; unfold cost76 at *; omega)).mono ?_; rintro e w3 ⟨L1, N1, cs1, D1, B2, d2, rfl, hA, hM, hO, hB, hF, q_2⟩; have n0_ := Aside0.mk (HS.out.call hA hO hB); have HF1 := Aside0.mk hF; have HM1 := Aside0.mk hM; have HQ2 := Aside0.mk q_2; clear q_2; clear HS hA hM hO hB hF; have HS := n0_; clear n0_)) | ((with_reducible refine gate_builtin (b := .append) (xs := #[.tmp 17, .tmp 24]) rfl ?_); at_builtin; (refine OwnRow.append (w0 := w3) (R := fun p c => Firm L1 w3 (fun W' => k76.K W' p c)) w.heap.size rfl (.tmp 17) (.tmp 24) 60 76 (.agg #[(.int .i64 0), (.string ⟨#[]⟩), (.slice none 0 0), (.int .i64 0), (.bool false), (.bool false)]) 6 72 rfl Try.underlying60 info76 rfl (by decide) (by decide) u7 (l.take k) x [.int .i64 x.f0, .string x.f1.f0, .slice B2 x.f1.f1.length d2, .int .i64 x.f1.f2, .bool x.f1.f3, .bool x.f2] rfl rfl ?aP rfl ?a1 ?aO ?aB ?aS ?aL ?_; (case aP => exact HF1.out.imp (fun _ hh => k76_mk _ _ HQ2.out (hh))); (case a1 => simp [Value.oneCell']); (case aO => exact HS.out.full); (case aB => exact Below.refl _ _); (case aS => exact HS.out.only.size); (case aL => have : (l.take k).length ≤ k := List.length_take_le _ _; omega); intro v1 w4 ho hb hg hat; have n0_ := Aside0.mk (HS.out.app ho (.inr ⟨hg.os, hg.tape, hg.output⟩) hg hat); clear HS ho hb hg hat; have HS := n0_; clear n0_)))
      go_roundw
      case rel => exact ⟨k + 1, N1, _, cs1, D1, by omega, by go_num, ⟨by rw [List.take_add_one, HX.out]; exact HS.out⟩, ⟨by have := HM.out; have := HM1.out; have := HSU.out; unfold cost76 at *; omega⟩⟩
      case measure => simp [intOf]; omega
    · obtain rfl : k = l.length := by omega
      go_wp2
      go_loopw [7, 9] (fun F i wr => ∃ (j : Nat) (Lk : Nat → Nat), j ≤ room ∧ i = .int .i64 j ∧ Aside0 (LF (fun W => k76.K W) 76 6 L w w0 base g F (l ++ mrks mkFlights j) Lk wr Nk csk Dk)) (fun _ i _ => room - (intOf i).toNat)
      case atStart => exact ⟨0, Lk, Nat.zero_le _, rfl, ⟨by have h := HS.out; rw [List.take_length] at h; rw [mrks_zero, List.append_nil]; exact h⟩⟩
      case round =>
        clear HS
        obtain ⟨j, Lj, hj, rfl, HS⟩ := hrel
        obtain ⟨wo, hwo⟩ : ∃ x, x = wr := ⟨_, rfl⟩; subst hwo
        by_cases hjt : j < room
        · skip
          have HL2 : Aside0 ((l ++ mrks mkFlights j).length = l.length + j) := ⟨by rw [List.length_append, mrks_length]⟩
          go_wp2_with (first | (go_at_call 56; (with_reducible refine (lt_calls j (by omega) _).mono ?_); rintro e w' ⟨rfl, rfl⟩) | ((with_reducible refine gate_builtin (b := .append) (xs := #[.tmp 31, .tmp 35]) rfl ?_); at_builtin; (refine OwnRow.append (w0 := wo) (R := fun p c => Firm Lj wo (fun W' => k76.K W' p c)) w.heap.size rfl (.tmp 31) (.tmp 35) 60 76 (.agg #[(.int .i64 0), (.string ⟨#[]⟩), (.slice none 0 0), (.int .i64 0), (.bool false), (.bool false)]) 6 72 rfl Try.underlying60 info76 rfl (by decide) (by decide) u7 (l ++ mrks mkFlights j) (mkFlights j) [.int .i64 (lt j), .string ⟨#[]⟩, .slice none 0 0, .int .i64 0, .bool false, .bool false] rfl rfl ?aP rfl ?a1 ?aO ?aB ?aS ?aL ?_; (case aP => exact fun _ _ _ => k76_mk _ (mkFlights j) (Nat.le_refl 0) (Kd.C_nil _ _)); (case a1 => simp [Value.oneCell']); (case aO => exact HS.out.full); (case aB => exact Below.refl _ _); (case aS => exact HS.out.only.size); (case aL => rw [HL2.out]; omega); intro v1 w4 ho hb hg hat; have n0_ := Aside0.mk (HS.out.app ho (.inr ⟨hg.os, hg.tape, hg.output⟩) hg hat); clear HS ho hb hg hat; have HS := n0_; clear n0_)))
          go_roundw
          case rel => exact ⟨j + 1, _, by omega, by go_num, ⟨by rw [mrks_succ, ← List.append_assoc]; exact HS.out⟩⟩
          case measure => simp [intOf]; omega
        · obtain rfl : j = room := by omega
          have hfl : (l ++ mrks mkFlights j).length = l.length + j := by rw [List.length_append, mrks_length]
          have hF := HS.out.full; rw [OwnRow, hfl] at hF; obtain ⟨inner, ho, hrp⟩ := hF
          obtain ⟨b, cF, hF, hbw, hcF⟩ := ho.form (by omega)
          subst hF
          have HRK := Aside0.mk HS.out.room
          have HFL : Aside0 (∀ k', (Value.slice (some ⟨b, 0, none⟩) (l.length + j) cF).ownBlock = some k' → Lj k' = 200) := ⟨HS.out.lab⟩
          have OFK : Aside0 (wo.ownsRow w.heap.size 76 6 (.slice (some ⟨b, 0, none⟩) (l.length + j) cF) (l.length + j) inner ∧ ∀ q, l.length + q < l.length + j → ∃ ce, (kinds 8).mrk q ce ∧ ∀ (r : Nat) (u : Value), ce[r]? = some u → inner[(l.length + q) * (kinds 8).sz + r]? = some u) := ⟨ho, fun q hq => reps_mark hrp (fun c hp => by obtain ⟨A2, c2, e, _⟩ := k76_open hp.now; exact ⟨A2, c2, e⟩) (mrks_at l mkFlights j q (by rw [hfl]; exact hq))⟩
          have HRP := Aside0.mk hrp; have HFN := Aside0.mk hfl; have HCF := Aside0.mk hcF; clear ho hrp hfl
          have hNk : Nk ≤ 1073741824 := by have h := HM.out; rw [List.take_length] at h; have := HN.out; omega
          have hcF' : l.length + j ≤ cF := own_le OFK.out.1
          obtain ⟨V, U, hV, hU, h2⟩ := HRK.out.two 8 (by decide)
          have hge := HRK.out.ge; have hgs := blk_lt HRK.out.blk
          have hcv : wo.cell? ⟨g, 16, none⟩ = some V := (blk_cell HRK.out.blk 16).trans hV
          have hps : (Dk 8).length ≤ Nk := h2.le
          have H2 := Aside0.mk h2; have HV := Aside0.mk hV; have HU := Aside0.mk hU; clear h2 hV hU
          go_wp2_with (first | ((with_reducible refine gate_builtin (b := .append) (xs := #[.tmp 41, .tmp 43]) rfl ?_); at_builtin; refine print_append_cells (w0 := wo) base rfl (.tmp 41) (.tmp 43) 38 60 (.slice none 0 0) 1 24 rfl Try.underlying38 infoo60 rfl (by decide) (by decide) V (Dk 8).length ((Dk 8).map Prod.fst) [.slice (some ⟨b, 0, none⟩) (l.length + j) cF] rfl rfl rfl ?a1 ?aO ?aB ?aS ?aL ?_; (case a1 => simp [Value.oneCell']); (case aO => exact H2.out.ov); (case aB => exact Below.refl _ _); (case aS => omega); (case aL => omega); intro v1 wa ho hb hg hat; obtain ⟨A1, c1, he1⟩ := own_slice ho; subst he1; have OV := Aside0.mk ho; have GV := Aside0.mk hg; have AV := Aside0.mk hat; have BV := Aside0.mk hb; have BA := Aside0.mk (blk_a H2.out.ov HRK.out.blk hg (by decide)); clear ho hb hg hat hcv; have hfa : wa.frozen? ⟨g, 16, none⟩ = false := blk_frozen BA.out _; have hfb : wa.frozen? ⟨g, 17, none⟩ = false := blk_frozen BA.out _; have hca : wa.cell? ⟨g, 16, none⟩ = some V := (blk_cell BA.out 16).trans HV.out; have hcu : wa.cell? ⟨g, 17, none⟩ = some U := (blk_cell BA.out 17).trans HU.out) | ((with_reducible refine gate_builtin (b := .append) (xs := #[.tmp 51, .tmp 54]) rfl ?_); at_builtin; refine print_append_cells (w0 := wo) base rfl (.tmp 51) (.tmp 54) 30 3 (.int .i64 0) 1 8 rfl Try.underlying30 infoi rfl (by decide) (by decide) U (Dk 8).length (nums .i64 ((Dk 8).map Prod.snd)) [.int .i64 l.length] rfl ?aX rfl ?a1 ?aO ?aB ?aS ?aL ?_; (case aX => exact eval_x wa _ _ _); (case a1 => simp [Value.oneCell']); (case aO => exact own_a H2.out.ov H2.out.ou HRK.out.blk GV.out (by decide) (by decide) _); (case aB => exact BV.out.setCell (by omega) _); (case aS => have := BV.out.size; simp [World.setCell]; omega); (case aL => omega); intro v2 wb ho hb hg hat; obtain ⟨A2, c2, he2⟩ := own_slice ho; subst he2; have OU := Aside0.mk ho; have GU := Aside0.mk hg; have AU := Aside0.mk hat; have BU := Aside0.mk hb; have BB := Aside0.mk (blk_b H2.out.ou HRK.out.blk BA.out GU.out (by decide)); clear ho hb hg hat hca hcu hfa hfb; have hfc : wb.frozen? ⟨g, 17, none⟩ = false := blk_frozen BB.out _; have hcc : wb.cell? ⟨g, 17, none⟩ = some U := (blk_cell BB.out 17).trans ((Array.getElem?_setIfInBounds_ne (by decide)).trans HU.out)))
          go_ret
          obtain ⟨L', hA, hsz, hkeep, hold, hoF, hF0⟩ := HRK.out.laid (i := 8) (by decide) HV.out HU.out H2.out (by decide) (by decide) (by decide) rfl OFK.out.1 rfl (by decide) HFL.out GV.out OV.out AV.out GU.out OU.out AU.out (n := l.length) (by omega) (by omega) OFK.out.2 (by omega) rfl
          have hb0 : L' b = 0 := hF0 b rfl
          have hbl := own_lt hoF b rfl
          have hBE : Below base wo (wb.setCell ⟨g, 17, none⟩ (.slice A2 ((Dk 8).length + 1) c2)) := BU.out.setCell (by omega) _
          have hws := HS.out.only.size
          have hso : Soft Lj wo L' (wb.setCell ⟨g, 17, none⟩ (.slice A2 ((Dk 8).length + 1) c2)) := ⟨hsz, fun k' hk' h0 => ⟨hkeep k' hk' (fun hx => by have := hx.1; omega), (Classical.em (Value.ownBlock (.slice (some ⟨b, 0, none⟩) (l.length + j) cF) = some k')).elim (fun e => hF0 k' e) (fun e => (hold k' hk' e).trans h0)⟩⟩
          refine ⟨L', Nk + 1, _, _, b, rfl, hA, by have h := HM.out; rw [List.take_length] at h; omega, ⟨Nat.le_trans hws hsz, fun k' hk' hx => (hkeep k' (by omega) (by rw [HS.out.only.lab k' hk']; exact hx)).trans (HS.out.only.keep k' hk' hx), fun k' hk' => (hold k' (by omega) (fun e => by have : b = k' := (by simpa only [Value.ownBlock, Option.some.injEq] using e); omega)).trans (HS.out.only.lab k' hk')⟩, HS.out.below.trans hBE, hbw, hbl, hb0, ?_⟩
          have ht := firm_take (d := k76) (by rw [HFN.out]; exact hoF) HRP.out hso hb0 l.length (by rw [HFN.out]; omega)
          rw [List.take_left] at ht; exact ht
def ok64 (x : S64) : Prop := (x.f1.length ≤ 536870912) ∧ (x.f2.f1.length ≤ 536870912 ∧ ∀ y ∈ x.f2.f1, ok76 y) ∧ (x.f2.f2.length ≤ 536870912 ∧ ∀ y ∈ x.f2.f2, ok72 y) ∧ (x.f3.length ≤ 536870912)
def cost64 (x : S64) : Nat := (((x.f2.f1.map cost76).sum + 1) + ((x.f2.f2.map cost72).sum + 1) + 2)
theorem session_calls (L : Nat → Nat) (base g N : Nat) (x : S64) (A1 : Option Addr) (c1 : Nat) (A3 : Option Addr) (c3 : Nat) (A4 : Option Addr) (c4 : Nat) (A5 : Option Addr) (c5 : Nat) (w0 w : World) (cs : Array Value) (D : Nat → List (Value × Int)) (hR : RoomAt L base w g N cs D) (hB : Below base w0 w) (hb0 : w0.heap.size ≤ base) (hr1 : k90.C w0 A1 x.f1.length x.f1) (hr3 : k76.C w0 A3 x.f2.f1.length x.f2.f1) (hr4 : k72.C w0 A4 x.f2.f2.length x.f2.f2) (hr5 : (Kd.int .i64).C w0 A5 x.f3.length x.f3) (hc1 : x.f1.length ≤ c1) (hc3 : x.f2.f1.length ≤ c3) (hc4 : x.f2.f2.length ≤ c4) (hc5 : x.f3.length ≤ c5) (hl1 : x.f1.length ≤ 536870912) (hl3 : x.f2.f1.length ≤ 536870912 ∧ ∀ y ∈ x.f2.f1, ok76 y) (hl4 : x.f2.f2.length ≤ 536870912 ∧ ∀ y ∈ x.f2.f2, ok72 y) (hl5 : x.f3.length ≤ 536870912) (hN : N + (((x.f2.f1.map cost76).sum + 1) + ((x.f2.f2.map cost72).sum + 1) + 2) ≤ 1073741824) :
    Calls Try.prog 59 #[.pointer (some ⟨g, 0, none⟩), .agg #[.string x.f0, .slice A1 x.f1.length c1, .int .i64 x.f2.f0, .slice A3 x.f2.f1.length c3, .slice A4 x.f2.f2.length c4, .slice A5 x.f3.length c5]] w fun e w' => ∃ L' N' cs' D' B1 d1 B3 d3 B4 d4 B5 d5, e = .returned (.agg #[.string x.f0, .slice B1 x.f1.length d1, .int .i64 x.f2.f0, .slice B3 x.f2.f1.length d3, .slice B4 x.f2.f2.length d4, .slice B5 x.f3.length d5]) ∧ RoomAt L' base w' g N' cs' D' ∧ N' ≤ N + (((x.f2.f1.map cost76).sum + 1) + ((x.f2.f2.map cost72).sum + 1) + 2) ∧ Only Room L w L' w' ∧ Below base w0 w' ∧ Firm L' w' (fun W => k90.C W B1 x.f1.length x.f1 ∧ k76.C W B3 x.f2.f1.length x.f2.f1 ∧ k72.C W B4 x.f2.f2.length x.f2.f2 ∧ (Kd.int .i64).C W B5 x.f3.length x.f3) ∧ x.f1.length ≤ d1 ∧ x.f2.f1.length ≤ d3 ∧ x.f2.f2.length ≤ d4 ∧ x.f3.length ≤ d5 := by
  have hu := Try.underlying64
  have HR := Aside0.mk hR; have HB := Aside0.mk hB
  have HC1 := Aside0.mk hc1; have HI1 := Aside0.mk hr1; have HL1 := Aside0.mk hl1
  have HC3 := Aside0.mk hc3; have HI3 := Aside0.mk hr3; have HL3 := Aside0.mk hl3
  have HC4 := Aside0.mk hc4; have HI4 := Aside0.mk hr4; have HL4 := Aside0.mk hl4
  have HC5 := Aside0.mk hc5; have HI5 := Aside0.mk hr5; have HL5 := Aside0.mk hl5
  have HN := Aside0.mk hN
  clear hR hB hN hc1 hr1 hl1 hc3 hr3 hl3 hc4 hr4 hl4 hc5 hr5 hl5
  go_enter Try.func59, Try.ntmps59
  go_upto_region 1 with (first | ((with_reducible refine gate_dst (N := 3) rfl ?_); refine box_event ?hg (N := 3) ?hd (cs := #[.string x.f0, .slice A1 x.f1.length c1, .int .i64 x.f2.f0, .slice A3 x.f2.f1.length c3, .slice A4 x.f2.f2.length c4, .slice A5 x.f3.length c5]) (t := 64) ?hr ?_; (case hd => rfl); (case hg => rfl); (case hr => first | (go_simp; done) | (go_simp; rfl)); intro gb hggb w1 hbox hb; subst hggb; have BXgb := Aside0.mk hbox; have BBgb := Aside0.mk hb; clear hbox hb) | ((with_reducible refine gate_dst (N := 4) rfl ?_); refine box_event ?hg (N := 4) ?hd (cs := #[.string ⟨#[]⟩, .slice none 0 0, .int .i64 0, .slice none 0 0, .slice none 0 0, .slice none 0 0]) (t := 64) ?hr ?_; (case hd => rfl); (case hg => rfl); (case hr => first | (go_simp; done) | (go_simp; rfl)); intro gr hggr w2 hbox hb; subst hggr; have BXgr := Aside0.mk hbox; have BBgr := Aside0.mk hb; clear hbox hb))
  try simp only [Act.put, List.setIfInBounds_toArray, List.set_cons_zero, List.set_cons_succ]
  have HS := Aside0.mk (SL.start HR.out HB.out BBgb.out BXgb.out BBgr.out BXgr.out)
  have HG : Aside0 (Firm (lab1 L w.heap.size 200) w2 (fun _ => True)) := ⟨fun _ _ _ => trivial⟩
  obtain ⟨Lk, hLk⟩ : ∃ z_, z_ = lab1 L w.heap.size 200 := ⟨_, rfl⟩; rw [← hLk] at HS HG; clear hLk
  obtain ⟨gb, hgb⟩ : ∃ z_, z_ = w.heap.size := ⟨_, rfl⟩; obtain ⟨gr, hgr⟩ : ∃ z_, z_ = w1.heap.size := ⟨_, rfl⟩
  have HS1 : Aside0 (SL L w w0 base g gb gr 64 #[.string x.f0, .slice A1 x.f1.length c1, .int .i64 x.f2.f0, .slice A3 x.f2.f1.length c3, .slice A4 x.f2.f2.length c4, .slice A5 x.f3.length c5] #[.string ⟨#[]⟩, .slice none 0 0, .int .i64 0, .slice none 0 0, .slice none 0 0, .slice none 0 0] Lk w2 N cs D) := ⟨by rw [hgb, hgr]; exact HS.out⟩
  have HP : Aside0 (w.heap.size = gb ∧ w1.heap.size = gr) := ⟨hgb.symm, hgr.symm⟩
  rw [← hgb, ← hgr]
  clear HS hgb hgr BXgb BXgr BBgb BBgr; have HS := HS1; clear HS1
  have hq : w2.cell? ⟨gb, 1, none⟩ = some (.slice A1 x.f1.length c1) := (blk_cell HS.out.b1 1).trans rfl
  go_upto_region 2 with (first | (go_at_call 62; (refine (layAsks_calls Lk base g N A1 c1 _ 4 w0 _ cs D HS.out.room HS.out.below (came_now hp90 HS.out.below hb0 HI1.out) HC1.out HL1.out (by omega) (by omega) (by have := HN.out; omega)).mono ?_; rintro e w3 ⟨L1, cs1, b1, cx1, rfl, hA, hO, hB, hbw, hbl, hb0, hF⟩; obtain ⟨N1, hN1⟩ : ∃ z_, z_ = N + 1 := ⟨_, rfl⟩; rw [← hN1] at hA; have HM1 := Aside0.mk (show N1 ≤ N + 1 by omega); clear hN1; obtain ⟨D1, hD1⟩ : ∃ z_, z_ = put D 3 (.slice (some ⟨b1, 0, none⟩) (x.f1.length + 4) cx1, (x.f1.length : Nat)) := ⟨_, rfl⟩; rw [← hD1] at hA; clear hD1; have n0_ := Aside0.mk (HS.out.call hA hO hB); have n1_ := Aside0.mk ((HG.out.room hO).and hF); have HD1 := Aside0.mk (show x.f1.length ≤ x.f1.length + 4 by omega); clear HS HG hA hO hB hF hq; have HS := n0_; have HG := n1_; clear n0_ n1_ hbw hbl hb0; have hs_ : w3.cell? ⟨gb, 1, none⟩ = some (.slice A1 x.f1.length c1) := (blk_cell HS.out.b1 1).trans rfl; have hf_ : w3.frozen? ⟨gb, 1, none⟩ = false := blk_frozen HS.out.b1 _)) | fail)
  try simp only [Act.put, List.setIfInBounds_toArray, List.set_cons_zero, List.set_cons_succ]
  have hk := One.cell w3 gb 1 (.slice (some ⟨b1, 0, none⟩) x.f1.length (x.f1.length + 4)); have hx := blk_set HS.out.b1 1 (.slice (some ⟨b1, 0, none⟩) x.f1.length (x.f1.length + 4)); clear hs_ hf_
  obtain ⟨w4, hw4⟩ : ∃ z_, z_ = w3.setCell ⟨gb, 1, none⟩ (.slice (some ⟨b1, 0, none⟩) x.f1.length (x.f1.length + 4)) := ⟨_, rfl⟩; rw [← hw4] at hk hx; rw [← hw4]; clear hw4
  have n0_ : Aside0 (SL L w w0 base g gb gr 64 #[.string x.f0, .slice (some ⟨b1, 0, none⟩) x.f1.length (x.f1.length + 4), .int .i64 x.f2.f0, .slice A3 x.f2.f1.length c3, .slice A4 x.f2.f2.length c4, .slice A5 x.f3.length c5] #[.string ⟨#[]⟩, .slice none 0 0, .int .i64 0, .slice none 0 0, .slice none 0 0, .slice none 0 0] L1 w4 N1 cs1 D1) := ⟨HS.out.set1 hk hx⟩
  have n1_ := Aside0.mk (HG.out.one hk HS.out.l1)
  clear HS HG hx hk; have HS := n0_; have HG := n1_; clear n0_ n1_
  obtain ⟨v1, hv⟩ : ∃ z_, z_ = w4 := ⟨_, rfl⟩; subst hv
  have hq : v1.cell? ⟨gb, 3, none⟩ = some (.slice A3 x.f2.f1.length c3) := (blk_cell HS.out.b1 3).trans rfl
  go_upto_region 3 with (first | (go_at_call 63; (refine (layFlights_calls L1 base g N1 A3 c3 _ 4 w0 _ cs1 D1 HS.out.room HS.out.below hb0 HI3.out HC3.out HL3.out (by omega) (by omega) (by have := HN.out; have := HM1.out; omega)).mono ?_; rintro e w3 ⟨L2, N2, cs2, D2, b2, rfl, hA, hM, hO, hB, hbw, hbl, hb0_, hF⟩; have HM2 := Aside0.mk hM; have n0_ := Aside0.mk (HS.out.call hA hO hB); have n1_ := Aside0.mk ((HG.out.room hO).and hF); have HD3 := Aside0.mk (show x.f2.f1.length ≤ x.f2.f1.length + 4 by omega); clear HS HG hA hM hO hB hF hq; have HS := n0_; have HG := n1_; clear n0_ n1_ hbw hbl hb0_; have hs_ : w3.cell? ⟨gb, 3, none⟩ = some (.slice A3 x.f2.f1.length c3) := (blk_cell HS.out.b1 3).trans rfl; have hf_ : w3.frozen? ⟨gb, 3, none⟩ = false := blk_frozen HS.out.b1 _)) | fail)
  try simp only [Act.put, List.setIfInBounds_toArray, List.set_cons_zero, List.set_cons_succ]
  have hk := One.cell w3 gb 3 (.slice (some ⟨b2, 0, none⟩) x.f2.f1.length (x.f2.f1.length + 4)); have hx := blk_set HS.out.b1 3 (.slice (some ⟨b2, 0, none⟩) x.f2.f1.length (x.f2.f1.length + 4)); clear hs_ hf_
  obtain ⟨w4, hw4⟩ : ∃ z_, z_ = w3.setCell ⟨gb, 3, none⟩ (.slice (some ⟨b2, 0, none⟩) x.f2.f1.length (x.f2.f1.length + 4)) := ⟨_, rfl⟩; rw [← hw4] at hk hx; rw [← hw4]; clear hw4
  have n0_ : Aside0 (SL L w w0 base g gb gr 64 #[.string x.f0, .slice (some ⟨b1, 0, none⟩) x.f1.length (x.f1.length + 4), .int .i64 x.f2.f0, .slice (some ⟨b2, 0, none⟩) x.f2.f1.length (x.f2.f1.length + 4), .slice A4 x.f2.f2.length c4, .slice A5 x.f3.length c5] #[.string ⟨#[]⟩, .slice none 0 0, .int .i64 0, .slice none 0 0, .slice none 0 0, .slice none 0 0] L2 w4 N2 cs2 D2) := ⟨HS.out.set1 hk hx⟩
  have n1_ := Aside0.mk (HG.out.one hk HS.out.l1)
  clear HS HG hx hk; have HS := n0_; have HG := n1_; clear n0_ n1_
  obtain ⟨v2, hv⟩ : ∃ z_, z_ = w4 := ⟨_, rfl⟩; subst hv
  have hq : v2.cell? ⟨gb, 4, none⟩ = some (.slice A4 x.f2.f2.length c4) := (blk_cell HS.out.b1 4).trans rfl
  go_upto_region 4 with (first | (go_at_call 47; (refine (layMessages_calls L2 base g N2 A4 c4 _ 4 w0 _ cs2 D2 HS.out.room HS.out.below hb0 HI4.out HC4.out HL4.out (by omega) (by omega) (by have := HN.out; have := HM1.out; have := HM2.out; omega)).mono ?_; rintro e w3 ⟨L3, N3, cs3, D3, b3, rfl, hA, hM, hO, hB, hbw, hbl, hb0_, hF⟩; have HM3 := Aside0.mk hM; have n0_ := Aside0.mk (HS.out.call hA hO hB); have n1_ := Aside0.mk ((HG.out.room hO).and hF); have HD4 := Aside0.mk (show x.f2.f2.length ≤ x.f2.f2.length + 4 by omega); clear HS HG hA hM hO hB hF hq; have HS := n0_; have HG := n1_; clear n0_ n1_ hbw hbl hb0_; have hs_ : w3.cell? ⟨gb, 4, none⟩ = some (.slice A4 x.f2.f2.length c4) := (blk_cell HS.out.b1 4).trans rfl; have hf_ : w3.frozen? ⟨gb, 4, none⟩ = false := blk_frozen HS.out.b1 _)) | fail)
  try simp only [Act.put, List.setIfInBounds_toArray, List.set_cons_zero, List.set_cons_succ]
  have hk := One.cell w3 gb 4 (.slice (some ⟨b3, 0, none⟩) x.f2.f2.length (x.f2.f2.length + 4)); have hx := blk_set HS.out.b1 4 (.slice (some ⟨b3, 0, none⟩) x.f2.f2.length (x.f2.f2.length + 4)); clear hs_ hf_
  obtain ⟨w4, hw4⟩ : ∃ z_, z_ = w3.setCell ⟨gb, 4, none⟩ (.slice (some ⟨b3, 0, none⟩) x.f2.f2.length (x.f2.f2.length + 4)) := ⟨_, rfl⟩; rw [← hw4] at hk hx; rw [← hw4]; clear hw4
  have n0_ : Aside0 (SL L w w0 base g gb gr 64 #[.string x.f0, .slice (some ⟨b1, 0, none⟩) x.f1.length (x.f1.length + 4), .int .i64 x.f2.f0, .slice (some ⟨b2, 0, none⟩) x.f2.f1.length (x.f2.f1.length + 4), .slice (some ⟨b3, 0, none⟩) x.f2.f2.length (x.f2.f2.length + 4), .slice A5 x.f3.length c5] #[.string ⟨#[]⟩, .slice none 0 0, .int .i64 0, .slice none 0 0, .slice none 0 0, .slice none 0 0] L3 w4 N3 cs3 D3) := ⟨HS.out.set1 hk hx⟩
  have n1_ := Aside0.mk (HG.out.one hk HS.out.l1)
  clear HS HG hx hk; have HS := n0_; have HG := n1_; clear n0_ n1_
  obtain ⟨v3, hv⟩ : ∃ z_, z_ = w4 := ⟨_, rfl⟩; subst hv
  have hq : v3.cell? ⟨gb, 5, none⟩ = some (.slice A5 x.f3.length c5) := (blk_cell HS.out.b1 5).trans rfl
  go_upto_region 5 with (first | (go_at_call 64; (refine (layInts_calls L3 base g N3 A5 c5 _ 4 w0 _ cs3 D3 HS.out.room HS.out.below (came_now (Kd.heap_int .i64) HS.out.below hb0 HI5.out) HC5.out HL5.out (by omega) (by omega) (by have := HN.out; have := HM1.out; have := HM2.out; have := HM3.out; omega)).mono ?_; rintro e w3 ⟨L4, cs4, b4, cx4, rfl, hA, hO, hB, hbw, hbl, hb0, hF⟩; obtain ⟨N4, hN4⟩ : ∃ z_, z_ = N3 + 1 := ⟨_, rfl⟩; rw [← hN4] at hA; have HM4 := Aside0.mk (show N4 ≤ N3 + 1 by omega); clear hN4; obtain ⟨D4, hD4⟩ : ∃ z_, z_ = put D3 1 (.slice (some ⟨b4, 0, none⟩) (x.f3.length + 4) cx4, (x.f3.length : Nat)) := ⟨_, rfl⟩; rw [← hD4] at hA; clear hD4; have n0_ := Aside0.mk (HS.out.call hA hO hB); have n1_ := Aside0.mk ((HG.out.room hO).and hF); have HD5 := Aside0.mk (show x.f3.length ≤ x.f3.length + 4 by omega); clear HS HG hA hO hB hF hq; have HS := n0_; have HG := n1_; clear n0_ n1_ hbw hbl hb0; have hs_ : w3.cell? ⟨gb, 5, none⟩ = some (.slice A5 x.f3.length c5) := (blk_cell HS.out.b1 5).trans rfl; have hf_ : w3.frozen? ⟨gb, 5, none⟩ = false := blk_frozen HS.out.b1 _)) | fail)
  try simp only [Act.put, List.setIfInBounds_toArray, List.set_cons_zero, List.set_cons_succ]
  have hk := One.cell w3 gb 5 (.slice (some ⟨b4, 0, none⟩) x.f3.length (x.f3.length + 4)); have hx := blk_set HS.out.b1 5 (.slice (some ⟨b4, 0, none⟩) x.f3.length (x.f3.length + 4)); clear hs_ hf_
  obtain ⟨w4, hw4⟩ : ∃ z_, z_ = w3.setCell ⟨gb, 5, none⟩ (.slice (some ⟨b4, 0, none⟩) x.f3.length (x.f3.length + 4)) := ⟨_, rfl⟩; rw [← hw4] at hk hx; rw [← hw4]; clear hw4
  have n0_ : Aside0 (SL L w w0 base g gb gr 64 #[.string x.f0, .slice (some ⟨b1, 0, none⟩) x.f1.length (x.f1.length + 4), .int .i64 x.f2.f0, .slice (some ⟨b2, 0, none⟩) x.f2.f1.length (x.f2.f1.length + 4), .slice (some ⟨b3, 0, none⟩) x.f2.f2.length (x.f2.f2.length + 4), .slice (some ⟨b4, 0, none⟩) x.f3.length (x.f3.length + 4)] #[.string ⟨#[]⟩, .slice none 0 0, .int .i64 0, .slice none 0 0, .slice none 0 0, .slice none 0 0] L4 w4 N4 cs4 D4) := ⟨HS.out.set1 hk hx⟩
  have n1_ := Aside0.mk (HG.out.one hk HS.out.l1)
  clear HS HG hx hk; have HS := n0_; have HG := n1_; clear n0_ n1_
  obtain ⟨v4, hv⟩ : ∃ z_, z_ = w4 := ⟨_, rfl⟩; subst hv
  go_wp2_with (first | ((with_reducible refine gate_dst (N := 29) rfl ?_); (refine wpList_load_row rfl 64 (.tmp 3) rfl gb rfl 64 _ (0, 0) _ HS.out.b1 hu rfl (by kernel_rfl) ?_)) | ((with_reducible refine gate_st (y := .tmp 29) rfl ?_); (refine ev_store rfl rfl 64 (.tmp 4) (.tmp 29) rfl gr 0 rfl 64 _ _ HS.out.b2 rfl (by kernel_rfl) (Nat.le_of_ble_eq_true rfl) rfl ?_; intro w4 hx hk)))
  have n0_ : Aside0 (SL L w w0 base g gb gr 64 #[.string x.f0, .slice (some ⟨b1, 0, none⟩) x.f1.length (x.f1.length + 4), .int .i64 x.f2.f0, .slice (some ⟨b2, 0, none⟩) x.f2.f1.length (x.f2.f1.length + 4), .slice (some ⟨b3, 0, none⟩) x.f2.f2.length (x.f2.f2.length + 4), .slice (some ⟨b4, 0, none⟩) x.f3.length (x.f3.length + 4)] #[.string x.f0, .slice (some ⟨b1, 0, none⟩) x.f1.length (x.f1.length + 4), .int .i64 x.f2.f0, .slice (some ⟨b2, 0, none⟩) x.f2.f1.length (x.f2.f1.length + 4), .slice (some ⟨b3, 0, none⟩) x.f2.f2.length (x.f2.f2.length + 4), .slice (some ⟨b4, 0, none⟩) x.f3.length (x.f3.length + 4)] L4 w4 N4 cs4 D4) := ⟨HS.out.set2 hk hx⟩
  have n1_ := Aside0.mk (HG.out.one hk HS.out.l2)
  refine bodyPost_ret (results_cell_row rfl _ _ gr 64 #[.string x.f0, .slice (some ⟨b1, 0, none⟩) x.f1.length (x.f1.length + 4), .int .i64 x.f2.f0, .slice (some ⟨b2, 0, none⟩) x.f2.f1.length (x.f2.f1.length + 4), .slice (some ⟨b3, 0, none⟩) x.f2.f2.length (x.f2.f2.length + 4), .slice (some ⟨b4, 0, none⟩) x.f3.length (x.f3.length + 4)] (0, 0) _ rfl n0_.out.b2 hu rfl (by kernel_rfl)) rfl ?_
  exact ⟨L4, N4, cs4, D4, _, _, _, _, _, _, _, _, rfl, n0_.out.room, by have := HN.out; have := HM1.out; have := HM2.out; have := HM3.out; have := HM4.out; omega, n0_.out.only, n0_.out.below, n1_.out.imp (fun W h => ⟨h.1.1.1.2, h.1.1.2, h.1.2, h.2⟩), HD1.out, HD3.out, HD4.out, HD5.out⟩
def mkSessions (q : Nat) : S64 := ⟨wd q, [], ⟨0, [], []⟩, []⟩
theorem laySessions_calls (L : Nat → Nat) (base g N : Nat) (A : Option Addr) (c : Nat) (l : List S64) (room : Nat) (w0 w : World) (cs : Array Value) (D : Nat → List (Value × Int)) (hR : RoomAt L base w g N cs D) (hB : Below base w0 w) (hb0 : w0.heap.size ≤ base) (hr : k64.C w0 A l.length l) (hc : l.length ≤ c) (hlb : l.length ≤ 536870912 ∧ ∀ x ∈ l, ok64 x) (hrm : room ≤ 536870912) (hr0 : 0 < room) (hN : N + ((l.map cost64).sum + 1) ≤ 1073741824) :
    Calls Try.prog 46 #[.pointer (some ⟨g, 0, none⟩), .slice A l.length c, .int .i64 room] w fun e w' => ∃ L' N' cs' D' b, e = .returned (.slice (some ⟨b, 0, none⟩) l.length (l.length + room)) ∧ RoomAt L' base w' g N' cs' D' ∧ N' ≤ N + ((l.map cost64).sum + 1) ∧ Only Room L w L' w' ∧ Below base w0 w' ∧ w.heap.size ≤ b ∧ b < w'.heap.size ∧ L' b = 0 ∧ Firm L' w' (fun W => k64.C W (some ⟨b, 0, none⟩) l.length l) := by
  have HB := Aside0.mk hB; have HL := Aside0.mk hr; have HC0 := Aside0.mk hc; have HOK := Aside0.mk hlb.2; have hlb := hlb.1; have HN := Aside0.mk hN
  have HS := Aside0.mk (LF.start (K := fun W => k64.K W) (te := 64) (sz := 6) hR hB)
  have HM : Aside0 (N ≤ N + ((l.take 0).map cost64).sum) := ⟨by simp⟩
  clear hR hB hr hc hN
  go_enter Try.func46, Try.ntmps46
  go_wp2
  go_loopw [7, 8] (fun F i wr => ∃ (k Nk : Nat) (Lk : Nat → Nat) (csk : Array Value) (Dk : Nat → List (Value × Int)), k ≤ l.length ∧ i = .int .i64 k ∧ Aside0 (LF (fun W => k64.K W) 64 6 L w w0 base g F (l.take k) Lk wr Nk csk Dk) ∧ Aside0 (Nk ≤ N + ((l.take k).map cost64).sum)) (fun _ i _ => l.length - (intOf i).toNat)
  case atStart => exact ⟨0, N, _, cs, D, Nat.zero_le _, rfl, ⟨by rw [List.take_zero]; exact HS.out⟩, HM⟩
  case round =>
    clear HS HM
    obtain ⟨k, Nk, Lk, csk, Dk, hk, rfl, HS, HM⟩ := hrel
    obtain ⟨wo, hwo⟩ : ∃ x, x = wr := ⟨_, rfl⟩; subst hwo
    by_cases hlt : k < l.length
    · skip
      obtain ⟨ad, A1, c1, A3, c3, A4, c4, A5, c5, hA, e0, e1, e2, e3, e4, e5, l_1, g_1, l_3, g_3, l_4, g_4, l_5, g_5⟩ := at_T64 HL.out (k : Int) (by omega) (by omega)
      subst hA
      obtain ⟨x, hx⟩ : ∃ x, x = rd_T64 l k := ⟨_, rfl⟩
      rw [← hx] at e0 e1 e2 e3 e4 e5 l_1 g_1 l_3 g_3 l_4 g_4 l_5 g_5
      have hlx : l[k]? = some x := by rw [hx, rd_T64, Int.toNat_natCast, List.getD_eq_getElem?_getD, List.getElem?_eq_getElem hlt]; rfl
      have HX := Aside0.mk hlx
      have HOX := Aside0.mk (HOK.out x (List.mem_of_getElem? hlx))
      have HSU := Aside0.mk (sum_take_succ cost64 l k x hlx); have HSL := Aside0.mk (sum_take_le cost64 l (k + 1))
      have hbw := HS.out.below
      have e0' := e0; rw [Int.toNat_natCast] at e0'; have f0 := (hbw.cell (Nat.lt_of_lt_of_le (World.block_lt_of_cell? _ _ e0') hb0)).trans e0'; clear e0 e0'
      have e1' := e1; rw [Int.toNat_natCast] at e1'; have f1 := (hbw.cell (Nat.lt_of_lt_of_le (World.block_lt_of_cell? _ _ e1') hb0)).trans e1'; clear e1 e1'
      have e2' := e2; rw [Int.toNat_natCast] at e2'; have f2 := (hbw.cell (Nat.lt_of_lt_of_le (World.block_lt_of_cell? _ _ e2') hb0)).trans e2'; clear e2 e2'
      have e3' := e3; rw [Int.toNat_natCast] at e3'; have f3 := (hbw.cell (Nat.lt_of_lt_of_le (World.block_lt_of_cell? _ _ e3') hb0)).trans e3'; clear e3 e3'
      have e4' := e4; rw [Int.toNat_natCast] at e4'; have f4 := (hbw.cell (Nat.lt_of_lt_of_le (World.block_lt_of_cell? _ _ e4') hb0)).trans e4'; clear e4 e4'
      have e5' := e5; rw [Int.toNat_natCast] at e5'; have f5 := (hbw.cell (Nat.lt_of_lt_of_le (World.block_lt_of_cell? _ _ e5') hb0)).trans e5'; clear e5 e5'
      have HL1 := Aside0.mk l_1; have HG1 := Aside0.mk g_1; clear l_1 g_1
      have HL3 := Aside0.mk l_3; have HG3 := Aside0.mk g_3; clear l_3 g_3
      have HL4 := Aside0.mk l_4; have HG4 := Aside0.mk g_4; clear l_4 g_4
      have HL5 := Aside0.mk l_5; have HG5 := Aside0.mk g_5; clear l_5 g_5
      clear hlx hx hbw
      go_wp2_with (first | (go_at_call 59; (refine (session_calls Lk base g Nk x A1 c1 A3 c3 A4 c4 A5 c5 w0 _ csk Dk HS.out.room HS.out.below hb0 HG1.out HG3.out HG4.out HG5.out HL1.out HL3.out HL4.out HL5.out HOX.out.1 HOX.out.2.1 HOX.out.2.2.1 HOX.out.2.2.2 (by have := HN.out; have := HM.out; have := HSU.out; have := HSL.out; unfold cost64 at *; omega)).mono ?_; rintro e w3 ⟨L1, N1, cs1, D1, B1, d1, B3, d3, B4, d4, B5, d5, rfl, hA, hM, hO, hB, hF, q_1, q_3, q_4, q_5⟩; have n0_ := Aside0.mk (HS.out.call hA hO hB); have HF1 := Aside0.mk hF; have HM1 := Aside0.mk hM; have HQ1 := Aside0.mk q_1; clear q_1; have HQ3 := Aside0.mk q_3; clear q_3; have HQ4 := Aside0.mk q_4; clear q_4; have HQ5 := Aside0.mk q_5; clear q_5; clear HS hA hM hO hB hF; have HS := n0_; clear n0_)) | ((with_reducible refine gate_builtin (b := .append) (xs := #[.tmp 17, .tmp 24]) rfl ?_); at_builtin; (refine OwnRow.append (w0 := w3) (R := fun p c => Firm L1 w3 (fun W' => k64.K W' p c)) w.heap.size rfl (.tmp 17) (.tmp 24) 22 64 (.agg #[(.string ⟨#[]⟩), (.slice none 0 0), (.int .i64 0), (.slice none 0 0), (.slice none 0 0), (.slice none 0 0)]) 6 120 rfl Try.underlying22 info64 rfl (by decide) (by decide) u7 (l.take k) x [.string x.f0, .slice B1 x.f1.length d1, .int .i64 x.f2.f0, .slice B3 x.f2.f1.length d3, .slice B4 x.f2.f2.length d4, .slice B5 x.f3.length d5] rfl rfl ?aP rfl ?a1 ?aO ?aB ?aS ?aL ?_; (case aP => exact HF1.out.imp (fun _ hh => k64_mk _ _ HQ1.out (hh.1) HQ3.out (hh.2.1) HQ4.out (hh.2.2.1) HQ5.out (hh.2.2.2))); (case a1 => simp [Value.oneCell']); (case aO => exact HS.out.full); (case aB => exact Below.refl _ _); (case aS => exact HS.out.only.size); (case aL => have : (l.take k).length ≤ k := List.length_take_le _ _; omega); intro v1 w4 ho hb hg hat; have n0_ := Aside0.mk (HS.out.app ho (.inr ⟨hg.os, hg.tape, hg.output⟩) hg hat); clear HS ho hb hg hat; have HS := n0_; clear n0_)))
      go_roundw
      case rel => exact ⟨k + 1, N1, _, cs1, D1, by omega, by go_num, ⟨by rw [List.take_add_one, HX.out]; exact HS.out⟩, ⟨by have := HM.out; have := HM1.out; have := HSU.out; unfold cost64 at *; omega⟩⟩
      case measure => simp [intOf]; omega
    · obtain rfl : k = l.length := by omega
      go_wp2
      go_loopw [7, 9] (fun F i wr => ∃ (j : Nat) (Lk : Nat → Nat), j ≤ room ∧ i = .int .i64 j ∧ Aside0 (LF (fun W => k64.K W) 64 6 L w w0 base g F (l ++ mrks mkSessions j) Lk wr Nk csk Dk)) (fun _ i _ => room - (intOf i).toNat)
      case atStart => exact ⟨0, Lk, Nat.zero_le _, rfl, ⟨by have h := HS.out; rw [List.take_length] at h; rw [mrks_zero, List.append_nil]; exact h⟩⟩
      case round =>
        clear HS
        obtain ⟨j, Lj, hj, rfl, HS⟩ := hrel
        obtain ⟨wo, hwo⟩ : ∃ x, x = wr := ⟨_, rfl⟩; subst hwo
        by_cases hjt : j < room
        · skip
          have HL2 : Aside0 ((l ++ mrks mkSessions j).length = l.length + j) := ⟨by rw [List.length_append, mrks_length]⟩
          go_wp2_with (first | (go_at_call 57; (with_reducible refine (wd_calls j (by omega) _).mono ?_); rintro e w' ⟨rfl, rfl⟩) | ((with_reducible refine gate_builtin (b := .append) (xs := #[.tmp 31, .tmp 35]) rfl ?_); at_builtin; (refine OwnRow.append (w0 := wo) (R := fun p c => Firm Lj wo (fun W' => k64.K W' p c)) w.heap.size rfl (.tmp 31) (.tmp 35) 22 64 (.agg #[(.string ⟨#[]⟩), (.slice none 0 0), (.int .i64 0), (.slice none 0 0), (.slice none 0 0), (.slice none 0 0)]) 6 120 rfl Try.underlying22 info64 rfl (by decide) (by decide) u7 (l ++ mrks mkSessions j) (mkSessions j) [.string (wd j), .slice none 0 0, .int .i64 0, .slice none 0 0, .slice none 0 0, .slice none 0 0] rfl rfl ?aP rfl ?a1 ?aO ?aB ?aS ?aL ?_; (case aP => exact fun _ _ _ => k64_mk _ (mkSessions j) (Nat.le_refl 0) (Kd.C_nil _ _) (Nat.le_refl 0) (Kd.C_nil _ _) (Nat.le_refl 0) (Kd.C_nil _ _) (Nat.le_refl 0) (Kd.C_nil _ _)); (case a1 => simp [Value.oneCell']); (case aO => exact HS.out.full); (case aB => exact Below.refl _ _); (case aS => exact HS.out.only.size); (case aL => rw [HL2.out]; omega); intro v1 w4 ho hb hg hat; have n0_ := Aside0.mk (HS.out.app ho (.inr ⟨hg.os, hg.tape, hg.output⟩) hg hat); clear HS ho hb hg hat; have HS := n0_; clear n0_)))
          go_roundw
          case rel => exact ⟨j + 1, _, by omega, by go_num, ⟨by rw [mrks_succ, ← List.append_assoc]; exact HS.out⟩⟩
          case measure => simp [intOf]; omega
        · obtain rfl : j = room := by omega
          have hfl : (l ++ mrks mkSessions j).length = l.length + j := by rw [List.length_append, mrks_length]
          have hF := HS.out.full; rw [OwnRow, hfl] at hF; obtain ⟨inner, ho, hrp⟩ := hF
          obtain ⟨b, cF, hF, hbw, hcF⟩ := ho.form (by omega)
          subst hF
          have HRK := Aside0.mk HS.out.room
          have HFL : Aside0 (∀ k', (Value.slice (some ⟨b, 0, none⟩) (l.length + j) cF).ownBlock = some k' → Lj k' = 200) := ⟨HS.out.lab⟩
          have OFK : Aside0 (wo.ownsRow w.heap.size 64 6 (.slice (some ⟨b, 0, none⟩) (l.length + j) cF) (l.length + j) inner ∧ ∀ q, l.length + q < l.length + j → ∃ ce, (kinds 12).mrk q ce ∧ ∀ (r : Nat) (u : Value), ce[r]? = some u → inner[(l.length + q) * (kinds 12).sz + r]? = some u) := ⟨ho, fun q hq => reps_mark hrp (fun c hp => by obtain ⟨A1, c1, A3, c3, A4, c4, A5, c5, e, _⟩ := k64_open hp.now; exact ⟨A1, c1, A3, c3, A4, c4, A5, c5, e⟩) (mrks_at l mkSessions j q (by rw [hfl]; exact hq))⟩
          have HRP := Aside0.mk hrp; have HFN := Aside0.mk hfl; have HCF := Aside0.mk hcF; clear ho hrp hfl
          have hNk : Nk ≤ 1073741824 := by have h := HM.out; rw [List.take_length] at h; have := HN.out; omega
          have hcF' : l.length + j ≤ cF := own_le OFK.out.1
          obtain ⟨V, U, hV, hU, h2⟩ := HRK.out.two 12 (by decide)
          have hge := HRK.out.ge; have hgs := blk_lt HRK.out.blk
          have hcv : wo.cell? ⟨g, 24, none⟩ = some V := (blk_cell HRK.out.blk 24).trans hV
          have hps : (Dk 12).length ≤ Nk := h2.le
          have H2 := Aside0.mk h2; have HV := Aside0.mk hV; have HU := Aside0.mk hU; clear h2 hV hU
          go_wp2_with (first | ((with_reducible refine gate_builtin (b := .append) (xs := #[.tmp 41, .tmp 43]) rfl ?_); at_builtin; refine print_append_cells (w0 := wo) base rfl (.tmp 41) (.tmp 43) 42 22 (.slice none 0 0) 1 24 rfl Try.underlying42 infoo22 rfl (by decide) (by decide) V (Dk 12).length ((Dk 12).map Prod.fst) [.slice (some ⟨b, 0, none⟩) (l.length + j) cF] rfl rfl rfl ?a1 ?aO ?aB ?aS ?aL ?_; (case a1 => simp [Value.oneCell']); (case aO => exact H2.out.ov); (case aB => exact Below.refl _ _); (case aS => omega); (case aL => omega); intro v1 wa ho hb hg hat; obtain ⟨A1, c1, he1⟩ := own_slice ho; subst he1; have OV := Aside0.mk ho; have GV := Aside0.mk hg; have AV := Aside0.mk hat; have BV := Aside0.mk hb; have BA := Aside0.mk (blk_a H2.out.ov HRK.out.blk hg (by decide)); clear ho hb hg hat hcv; have hfa : wa.frozen? ⟨g, 24, none⟩ = false := blk_frozen BA.out _; have hfb : wa.frozen? ⟨g, 25, none⟩ = false := blk_frozen BA.out _; have hca : wa.cell? ⟨g, 24, none⟩ = some V := (blk_cell BA.out 24).trans HV.out; have hcu : wa.cell? ⟨g, 25, none⟩ = some U := (blk_cell BA.out 25).trans HU.out) | ((with_reducible refine gate_builtin (b := .append) (xs := #[.tmp 51, .tmp 54]) rfl ?_); at_builtin; refine print_append_cells (w0 := wo) base rfl (.tmp 51) (.tmp 54) 30 3 (.int .i64 0) 1 8 rfl Try.underlying30 infoi rfl (by decide) (by decide) U (Dk 12).length (nums .i64 ((Dk 12).map Prod.snd)) [.int .i64 l.length] rfl ?aX rfl ?a1 ?aO ?aB ?aS ?aL ?_; (case aX => exact eval_x wa _ _ _); (case a1 => simp [Value.oneCell']); (case aO => exact own_a H2.out.ov H2.out.ou HRK.out.blk GV.out (by decide) (by decide) _); (case aB => exact BV.out.setCell (by omega) _); (case aS => have := BV.out.size; simp [World.setCell]; omega); (case aL => omega); intro v2 wb ho hb hg hat; obtain ⟨A2, c2, he2⟩ := own_slice ho; subst he2; have OU := Aside0.mk ho; have GU := Aside0.mk hg; have AU := Aside0.mk hat; have BU := Aside0.mk hb; have BB := Aside0.mk (blk_b H2.out.ou HRK.out.blk BA.out GU.out (by decide)); clear ho hb hg hat hca hcu hfa hfb; have hfc : wb.frozen? ⟨g, 25, none⟩ = false := blk_frozen BB.out _; have hcc : wb.cell? ⟨g, 25, none⟩ = some U := (blk_cell BB.out 25).trans ((Array.getElem?_setIfInBounds_ne (by decide)).trans HU.out)))
          go_ret
          obtain ⟨L', hA, hsz, hkeep, hold, hoF, hF0⟩ := HRK.out.laid (i := 12) (by decide) HV.out HU.out H2.out (by decide) (by decide) (by decide) rfl OFK.out.1 rfl (by decide) HFL.out GV.out OV.out AV.out GU.out OU.out AU.out (n := l.length) (by omega) (by omega) OFK.out.2 (by omega) rfl
          have hb0 : L' b = 0 := hF0 b rfl
          have hbl := own_lt hoF b rfl
          have hBE : Below base wo (wb.setCell ⟨g, 25, none⟩ (.slice A2 ((Dk 12).length + 1) c2)) := BU.out.setCell (by omega) _
          have hws := HS.out.only.size
          have hso : Soft Lj wo L' (wb.setCell ⟨g, 25, none⟩ (.slice A2 ((Dk 12).length + 1) c2)) := ⟨hsz, fun k' hk' h0 => ⟨hkeep k' hk' (fun hx => by have := hx.1; omega), (Classical.em (Value.ownBlock (.slice (some ⟨b, 0, none⟩) (l.length + j) cF) = some k')).elim (fun e => hF0 k' e) (fun e => (hold k' hk' e).trans h0)⟩⟩
          refine ⟨L', Nk + 1, _, _, b, rfl, hA, by have h := HM.out; rw [List.take_length] at h; omega, ⟨Nat.le_trans hws hsz, fun k' hk' hx => (hkeep k' (by omega) (by rw [HS.out.only.lab k' hk']; exact hx)).trans (HS.out.only.keep k' hk' hx), fun k' hk' => (hold k' (by omega) (fun e => by have : b = k' := (by simpa only [Value.ownBlock, Option.some.injEq] using e); omega)).trans (HS.out.only.lab k' hk')⟩, HS.out.below.trans hBE, hbw, hbl, hb0, ?_⟩
          have ht := firm_take (d := k64) (by rw [HFN.out]; exact hoF) HRP.out hso hb0 l.length (by rw [HFN.out]; omega)
          rw [List.take_left] at ht; exact ht
theorem Sessions_calls (L : Nat → Nat) (base g N : Nat) (A : Option Addr) (c : Nat) (l : List S64) (w0 w : World) (cs : Array Value) (D : Nat → List (Value × Int)) (hR : RoomAt L base w g N cs D) (hB : Below base w0 w) (hb0 : w0.heap.size ≤ base) (hr : k64.C w0 A l.length l) (hc : l.length ≤ c) (hlb : l.length ≤ 536870912 ∧ ∀ x ∈ l, ok64 x) (hN : N + ((l.map cost64).sum + 1) ≤ 1073741824) :
    Calls Try.prog 13 #[.pointer (some ⟨g, 0, none⟩), .slice A l.length c] w fun e w' => ∃ L' N' cs' D' b, e = .returned (.slice (some ⟨b, 0, none⟩) l.length (l.length + 40)) ∧ RoomAt L' base w' g N' cs' D' ∧ N' ≤ N + ((l.map cost64).sum + 1) ∧ Only Room L w L' w' ∧ Below base w0 w' ∧ w.heap.size ≤ b ∧ b < w'.heap.size ∧ L' b = 0 ∧ Firm L' w' (fun W => k64.C W (some ⟨b, 0, none⟩) l.length l) := by
  have H := Aside0.mk (laySessions_calls L base g N A c l 40 w0 w cs D hR hB hb0 hr hc hlb (by omega) (by omega) hN)
  clear hR hB hr hc hlb hN
  go_enter Try.func13, Try.ntmps13
  go_wp2_with (go_at_call 46; refine H.out.mono ?_; rintro e w' ⟨L', N', cs', D', b, rfl, PP⟩; have PP := Aside0.mk PP)
  go_ret
  exact ⟨L', N', cs', D', b, rfl, PP.out⟩
theorem Messages_calls (L : Nat → Nat) (base g N : Nat) (A : Option Addr) (c : Nat) (l : List S72) (w0 w : World) (cs : Array Value) (D : Nat → List (Value × Int)) (hR : RoomAt L base w g N cs D) (hB : Below base w0 w) (hb0 : w0.heap.size ≤ base) (hr : k72.C w0 A l.length l) (hc : l.length ≤ c) (hlb : l.length ≤ 536870912 ∧ ∀ x ∈ l, ok72 x) (hN : N + ((l.map cost72).sum + 1) ≤ 1073741824) :
    Calls Try.prog 14 #[.pointer (some ⟨g, 0, none⟩), .slice A l.length c] w fun e w' => ∃ L' N' cs' D' b, e = .returned (.slice (some ⟨b, 0, none⟩) l.length (l.length + 40)) ∧ RoomAt L' base w' g N' cs' D' ∧ N' ≤ N + ((l.map cost72).sum + 1) ∧ Only Room L w L' w' ∧ Below base w0 w' ∧ w.heap.size ≤ b ∧ b < w'.heap.size ∧ L' b = 0 ∧ Firm L' w' (fun W => k72.C W (some ⟨b, 0, none⟩) l.length l) := by
  have H := Aside0.mk (layMessages_calls L base g N A c l 40 w0 w cs D hR hB hb0 hr hc hlb (by omega) (by omega) hN)
  clear hR hB hr hc hlb hN
  go_enter Try.func14, Try.ntmps14
  go_wp2_with (go_at_call 47; refine H.out.mono ?_; rintro e w' ⟨L', N', cs', D', b, rfl, PP⟩; have PP := Aside0.mk PP)
  go_ret
  exact ⟨L', N', cs', D', b, rfl, PP.out⟩
theorem Serveds_calls (L : Nat → Nat) (base g N : Nat) (A : Option Addr) (c : Nat) (l : List S66) (w0 w : World) (cs : Array Value) (D : Nat → List (Value × Int)) (hR : RoomAt L base w g N cs D) (hB : Below base w0 w) (hr : Kd.C k66 w A l.length l) (hc : l.length ≤ c) (hlb : l.length ≤ 536870912) (hN : N ≤ 1073741824) :
    Calls Try.prog 15 #[.pointer (some ⟨g, 0, none⟩), .slice A l.length c] w fun e w' => ∃ L' cs' b c', e = .returned (.slice (some ⟨b, 0, none⟩) l.length (l.length + 40)) ∧ RoomAt L' base w' g (N + 1) cs' (put D 14 (.slice (some ⟨b, 0, none⟩) (l.length + 40) c', (l.length : Nat))) ∧ Only Room L w L' w' ∧ Below base w0 w' ∧ w.heap.size ≤ b ∧ b < w'.heap.size ∧ L' b = 0 ∧ Firm L' w' (fun W => Kd.C k66 W (some ⟨b, 0, none⟩) l.length l) := by
  have H := Aside0.mk (layServeds_calls L base g N A c l 40 w0 w cs D hR hB hr hc hlb (by omega) (by omega) hN)
  clear hR hB hr hc hlb hN
  go_enter Try.func15, Try.ntmps15
  go_wp2_with (go_at_call 48; refine H.out.mono ?_; rintro e w' ⟨L', cs', b, c', rfl, PP⟩; have PP := Aside0.mk PP)
  go_ret
  exact ⟨L', cs', b, c', rfl, PP.out⟩
theorem Image_calls (L : Nat → Nat) (base g N : Nat) (au : Int) (ls : List S64) (lr : List S72) (lg : List S66) (A1 : Option Addr) (c1 : Nat) (A2 : Option Addr) (c2 : Nat) (A3 : Option Addr) (c3 : Nat) (w0 w : World) (cs : Array Value) (D : Nat → List (Value × Int)) (hR : RoomAt L base w g N cs D) (hB : Below base w0 w) (hb0 : w0.heap.size ≤ base) (hr1 : k64.C w0 A1 ls.length ls) (hr2 : k72.C w0 A2 lr.length lr) (hr3 : k66.C w0 A3 lg.length lg) (hc1 : ls.length ≤ c1) (hc2 : lr.length ≤ c2) (hc3 : lg.length ≤ c3) (hl1 : ls.length ≤ 536870912 ∧ ∀ y ∈ ls, ok64 y) (hl2 : lr.length ≤ 536870912 ∧ ∀ y ∈ lr, ok72 y) (hl3 : lg.length ≤ 536870912) (hN : N + (((ls.map cost64).sum + 1) + ((lr.map cost72).sum + 1) + 1) ≤ 1073741824) :
    Calls Try.prog 5 #[.pointer (some ⟨g, 0, none⟩), .agg #[.int .i64 au, .slice A1 ls.length c1, .slice A2 lr.length c2, .slice A3 lg.length c3]] w fun e w' => ∃ L' N' cs' D' B1 d1 B2 d2 B3 d3, e = .returned (.agg #[.int .i64 au, .slice B1 ls.length d1, .slice B2 lr.length d2, .slice B3 lg.length d3]) ∧ RoomAt L' base w' g N' cs' D' ∧ N' ≤ N + (((ls.map cost64).sum + 1) + ((lr.map cost72).sum + 1) + 1) ∧ Only Room L w L' w' ∧ Below base w0 w' ∧ Firm L' w' (fun W => k64.C W B1 ls.length ls ∧ k72.C W B2 lr.length lr ∧ k66.C W B3 lg.length lg) ∧ ls.length ≤ d1 ∧ lr.length ≤ d2 ∧ lg.length ≤ d3 := by
  have hu := Try.underlying26
  have HR := Aside0.mk hR; have HB := Aside0.mk hB
  have HC1 := Aside0.mk hc1; have HI1 := Aside0.mk hr1; have HL1 := Aside0.mk hl1
  have HC2 := Aside0.mk hc2; have HI2 := Aside0.mk hr2; have HL2 := Aside0.mk hl2
  have HC3 := Aside0.mk hc3; have HI3 := Aside0.mk hr3; have HL3 := Aside0.mk hl3
  have HN := Aside0.mk hN
  clear hR hB hN hc1 hr1 hl1 hc2 hr2 hl2 hc3 hr3 hl3
  go_enter Try.func5, Try.ntmps5
  go_upto_region 1 with (first | ((with_reducible refine gate_dst (N := 3) rfl ?_); refine box_event ?hg (N := 3) ?hd (cs := #[.int .i64 au, .slice A1 ls.length c1, .slice A2 lr.length c2, .slice A3 lg.length c3]) (t := 26) ?hr ?_; (case hd => rfl); (case hg => rfl); (case hr => first | (go_simp; done) | (go_simp; rfl)); intro gb hggb w1 hbox hb; subst hggb; have BXgb := Aside0.mk hbox; have BBgb := Aside0.mk hb; clear hbox hb) | ((with_reducible refine gate_dst (N := 4) rfl ?_); refine box_event ?hg (N := 4) ?hd (cs := #[.int .i64 0, .slice none 0 0, .slice none 0 0, .slice none 0 0]) (t := 26) ?hr ?_; (case hd => rfl); (case hg => rfl); (case hr => first | (go_simp; done) | (go_simp; rfl)); intro gr hggr w2 hbox hb; subst hggr; have BXgr := Aside0.mk hbox; have BBgr := Aside0.mk hb; clear hbox hb))
  try simp only [Act.put, List.setIfInBounds_toArray, List.set_cons_zero, List.set_cons_succ]
  have HS := Aside0.mk (SL.start HR.out HB.out BBgb.out BXgb.out BBgr.out BXgr.out)
  have HG : Aside0 (Firm (lab1 L w.heap.size 200) w2 (fun _ => True)) := ⟨fun _ _ _ => trivial⟩
  obtain ⟨Lk, hLk⟩ : ∃ z_, z_ = lab1 L w.heap.size 200 := ⟨_, rfl⟩; rw [← hLk] at HS HG; clear hLk
  obtain ⟨gb, hgb⟩ : ∃ z_, z_ = w.heap.size := ⟨_, rfl⟩; obtain ⟨gr, hgr⟩ : ∃ z_, z_ = w1.heap.size := ⟨_, rfl⟩
  have HS1 : Aside0 (SL L w w0 base g gb gr 26 #[.int .i64 au, .slice A1 ls.length c1, .slice A2 lr.length c2, .slice A3 lg.length c3] #[.int .i64 0, .slice none 0 0, .slice none 0 0, .slice none 0 0] Lk w2 N cs D) := ⟨by rw [hgb, hgr]; exact HS.out⟩
  have HP : Aside0 (w.heap.size = gb ∧ w1.heap.size = gr) := ⟨hgb.symm, hgr.symm⟩
  rw [← hgb, ← hgr]
  clear HS hgb hgr BXgb BXgr BBgb BBgr; have HS := HS1; clear HS1
  have hq : w2.cell? ⟨gb, 1, none⟩ = some (.slice A1 ls.length c1) := (blk_cell HS.out.b1 1).trans rfl
  go_upto_region 2 with (first | (go_at_call 13; (refine (Sessions_calls Lk base g N A1 c1 _ w0 _ cs D HS.out.room HS.out.below hb0 HI1.out HC1.out HL1.out (by have := HN.out; omega)).mono ?_; rintro e w3 ⟨L1, N1, cs1, D1, b1, rfl, hA, hM, hO, hB, hbw, hbl, hb0_, hF⟩; have HM1 := Aside0.mk hM; have n0_ := Aside0.mk (HS.out.call hA hO hB); have n1_ := Aside0.mk ((HG.out.room hO).and hF); have HD1 := Aside0.mk (show ls.length ≤ ls.length + 40 by omega); clear HS HG hA hM hO hB hF hq; have HS := n0_; have HG := n1_; clear n0_ n1_ hbw hbl hb0_; have hs_ : w3.cell? ⟨gb, 1, none⟩ = some (.slice A1 ls.length c1) := (blk_cell HS.out.b1 1).trans rfl; have hf_ : w3.frozen? ⟨gb, 1, none⟩ = false := blk_frozen HS.out.b1 _)) | fail)
  try simp only [Act.put, List.setIfInBounds_toArray, List.set_cons_zero, List.set_cons_succ]
  have hk := One.cell w3 gb 1 (.slice (some ⟨b1, 0, none⟩) ls.length (ls.length + 40)); have hx := blk_set HS.out.b1 1 (.slice (some ⟨b1, 0, none⟩) ls.length (ls.length + 40)); clear hs_ hf_
  obtain ⟨w4, hw4⟩ : ∃ z_, z_ = w3.setCell ⟨gb, 1, none⟩ (.slice (some ⟨b1, 0, none⟩) ls.length (ls.length + 40)) := ⟨_, rfl⟩; rw [← hw4] at hk hx; rw [← hw4]; clear hw4
  have n0_ : Aside0 (SL L w w0 base g gb gr 26 #[.int .i64 au, .slice (some ⟨b1, 0, none⟩) ls.length (ls.length + 40), .slice A2 lr.length c2, .slice A3 lg.length c3] #[.int .i64 0, .slice none 0 0, .slice none 0 0, .slice none 0 0] L1 w4 N1 cs1 D1) := ⟨HS.out.set1 hk hx⟩
  have n1_ := Aside0.mk (HG.out.one hk HS.out.l1)
  clear HS HG hx hk; have HS := n0_; have HG := n1_; clear n0_ n1_
  obtain ⟨v1, hv⟩ : ∃ z_, z_ = w4 := ⟨_, rfl⟩; subst hv
  have hq : v1.cell? ⟨gb, 2, none⟩ = some (.slice A2 lr.length c2) := (blk_cell HS.out.b1 2).trans rfl
  go_upto_region 3 with (first | (go_at_call 14; (refine (Messages_calls L1 base g N1 A2 c2 _ w0 _ cs1 D1 HS.out.room HS.out.below hb0 HI2.out HC2.out HL2.out (by have := HN.out; have := HM1.out; omega)).mono ?_; rintro e w3 ⟨L2, N2, cs2, D2, b2, rfl, hA, hM, hO, hB, hbw, hbl, hb0_, hF⟩; have HM2 := Aside0.mk hM; have n0_ := Aside0.mk (HS.out.call hA hO hB); have n1_ := Aside0.mk ((HG.out.room hO).and hF); have HD2 := Aside0.mk (show lr.length ≤ lr.length + 40 by omega); clear HS HG hA hM hO hB hF hq; have HS := n0_; have HG := n1_; clear n0_ n1_ hbw hbl hb0_; have hs_ : w3.cell? ⟨gb, 2, none⟩ = some (.slice A2 lr.length c2) := (blk_cell HS.out.b1 2).trans rfl; have hf_ : w3.frozen? ⟨gb, 2, none⟩ = false := blk_frozen HS.out.b1 _)) | fail)
  try simp only [Act.put, List.setIfInBounds_toArray, List.set_cons_zero, List.set_cons_succ]
  have hk := One.cell w3 gb 2 (.slice (some ⟨b2, 0, none⟩) lr.length (lr.length + 40)); have hx := blk_set HS.out.b1 2 (.slice (some ⟨b2, 0, none⟩) lr.length (lr.length + 40)); clear hs_ hf_
  obtain ⟨w4, hw4⟩ : ∃ z_, z_ = w3.setCell ⟨gb, 2, none⟩ (.slice (some ⟨b2, 0, none⟩) lr.length (lr.length + 40)) := ⟨_, rfl⟩; rw [← hw4] at hk hx; rw [← hw4]; clear hw4
  have n0_ : Aside0 (SL L w w0 base g gb gr 26 #[.int .i64 au, .slice (some ⟨b1, 0, none⟩) ls.length (ls.length + 40), .slice (some ⟨b2, 0, none⟩) lr.length (lr.length + 40), .slice A3 lg.length c3] #[.int .i64 0, .slice none 0 0, .slice none 0 0, .slice none 0 0] L2 w4 N2 cs2 D2) := ⟨HS.out.set1 hk hx⟩
  have n1_ := Aside0.mk (HG.out.one hk HS.out.l1)
  clear HS HG hx hk; have HS := n0_; have HG := n1_; clear n0_ n1_
  obtain ⟨v2, hv⟩ : ∃ z_, z_ = w4 := ⟨_, rfl⟩; subst hv
  have hq : v2.cell? ⟨gb, 3, none⟩ = some (.slice A3 lg.length c3) := (blk_cell HS.out.b1 3).trans rfl
  go_upto_region 4 with (first | (go_at_call 15; (refine (Serveds_calls L2 base g N2 A3 c3 _ w0 _ cs2 D2 HS.out.room HS.out.below (came_now hp66 HS.out.below hb0 HI3.out) HC3.out HL3.out (by have := HN.out; have := HM1.out; have := HM2.out; omega)).mono ?_; rintro e w3 ⟨L3, cs3, b3, cx3, rfl, hA, hO, hB, hbw, hbl, hb0, hF⟩; obtain ⟨N3, hN3⟩ : ∃ z_, z_ = N2 + 1 := ⟨_, rfl⟩; rw [← hN3] at hA; have HM3 := Aside0.mk (show N3 ≤ N2 + 1 by omega); clear hN3; obtain ⟨D3, hD3⟩ : ∃ z_, z_ = put D2 14 (.slice (some ⟨b3, 0, none⟩) (lg.length + 40) cx3, (lg.length : Nat)) := ⟨_, rfl⟩; rw [← hD3] at hA; clear hD3; have n0_ := Aside0.mk (HS.out.call hA hO hB); have n1_ := Aside0.mk ((HG.out.room hO).and hF); have HD3 := Aside0.mk (show lg.length ≤ lg.length + 40 by omega); clear HS HG hA hO hB hF hq; have HS := n0_; have HG := n1_; clear n0_ n1_ hbw hbl hb0; have hs_ : w3.cell? ⟨gb, 3, none⟩ = some (.slice A3 lg.length c3) := (blk_cell HS.out.b1 3).trans rfl; have hf_ : w3.frozen? ⟨gb, 3, none⟩ = false := blk_frozen HS.out.b1 _)) | fail)
  try simp only [Act.put, List.setIfInBounds_toArray, List.set_cons_zero, List.set_cons_succ]
  have hk := One.cell w3 gb 3 (.slice (some ⟨b3, 0, none⟩) lg.length (lg.length + 40)); have hx := blk_set HS.out.b1 3 (.slice (some ⟨b3, 0, none⟩) lg.length (lg.length + 40)); clear hs_ hf_
  obtain ⟨w4, hw4⟩ : ∃ z_, z_ = w3.setCell ⟨gb, 3, none⟩ (.slice (some ⟨b3, 0, none⟩) lg.length (lg.length + 40)) := ⟨_, rfl⟩; rw [← hw4] at hk hx; rw [← hw4]; clear hw4
  have n0_ : Aside0 (SL L w w0 base g gb gr 26 #[.int .i64 au, .slice (some ⟨b1, 0, none⟩) ls.length (ls.length + 40), .slice (some ⟨b2, 0, none⟩) lr.length (lr.length + 40), .slice (some ⟨b3, 0, none⟩) lg.length (lg.length + 40)] #[.int .i64 0, .slice none 0 0, .slice none 0 0, .slice none 0 0] L3 w4 N3 cs3 D3) := ⟨HS.out.set1 hk hx⟩
  have n1_ := Aside0.mk (HG.out.one hk HS.out.l1)
  clear HS HG hx hk; have HS := n0_; have HG := n1_; clear n0_ n1_
  obtain ⟨v3, hv⟩ : ∃ z_, z_ = w4 := ⟨_, rfl⟩; subst hv
  go_wp2_with (first | ((with_reducible refine gate_dst (N := 20) rfl ?_); (refine wpList_load_row rfl 26 (.tmp 3) rfl gb rfl 26 _ (0, 0) _ HS.out.b1 hu rfl (by kernel_rfl) ?_)) | ((with_reducible refine gate_st (y := .tmp 20) rfl ?_); (refine ev_store rfl rfl 26 (.tmp 4) (.tmp 20) rfl gr 0 rfl 26 _ _ HS.out.b2 rfl (by kernel_rfl) (Nat.le_of_ble_eq_true rfl) rfl ?_; intro w4 hx hk)))
  have n0_ : Aside0 (SL L w w0 base g gb gr 26 #[.int .i64 au, .slice (some ⟨b1, 0, none⟩) ls.length (ls.length + 40), .slice (some ⟨b2, 0, none⟩) lr.length (lr.length + 40), .slice (some ⟨b3, 0, none⟩) lg.length (lg.length + 40)] #[.int .i64 au, .slice (some ⟨b1, 0, none⟩) ls.length (ls.length + 40), .slice (some ⟨b2, 0, none⟩) lr.length (lr.length + 40), .slice (some ⟨b3, 0, none⟩) lg.length (lg.length + 40)] L3 w4 N3 cs3 D3) := ⟨HS.out.set2 hk hx⟩
  have n1_ := Aside0.mk (HG.out.one hk HS.out.l2)
  refine bodyPost_ret (results_cell_row rfl _ _ gr 26 #[.int .i64 au, .slice (some ⟨b1, 0, none⟩) ls.length (ls.length + 40), .slice (some ⟨b2, 0, none⟩) lr.length (lr.length + 40), .slice (some ⟨b3, 0, none⟩) lg.length (lg.length + 40)] (0, 0) _ rfl n0_.out.b2 hu rfl (by kernel_rfl)) rfl ?_
  exact ⟨L3, N3, cs3, D3, _, _, _, _, _, _, rfl, n0_.out.room, by have := HN.out; have := HM1.out; have := HM2.out; have := HM3.out; omega, n0_.out.only, n0_.out.below, n1_.out.imp (fun W h => ⟨h.1.1.2, h.1.2, h.2⟩), HD1.out, HD2.out, HD3.out⟩
end Go.Proofs.Ythlhlgomnjeenab.Rm
