/- crierroom.Count: what is counted. -/
import Derived.Test.YthlhlgomnjeenabSw
import Derived.Test.YthlhlgomnjeenabPImageSamex
import Derived.IntWalk
namespace Go.Proofs.Ythlhlgomnjeenab.Rm
open Go.RowKit Go.Proofs.YthlhlgomnjeenabW.PrintWords Go.Proofs.YthlhlgomnjeenabW.PrintLast Go.Proofs.YthlhlgomnjeenabW.PrintMore Go.Proofs.Ythlhlgomnjeenab.PImageSame
set_option linter.unusedVariables false
set_option linter.unusedSimpArgs false
set_option maxHeartbeats 4000000
set_option maxRecDepth 100000
/-- a count that went on from s to s' over n parts: if it is right still, all were counted -/
structure Cnt (s s' : Int) (n : Nat) : Prop where
  le : s' ≤ s
  low : -9223372036854775807 ≤ s'
  all : 0 ≤ s' → s' = s - n
theorem Cnt.refl {s : Int} (h : -9223372036854775807 ≤ s) : Cnt s s 0 := ⟨Int.le_refl _, h, fun _ => by simp⟩
theorem Cnt.trans {s s1 s2 : Int} {n m : Nat} (h : Cnt s s1 n) (k : Cnt s1 s2 m) : Cnt s s2 (n + m) := ⟨Int.le_trans k.le h.le, k.low, fun h0 => by
  have h1 := k.all h0
  have h2 := h.all (Int.le_trans h0 k.le)
  rw [h1, h2, Int.natCast_add]
  omega⟩
theorem Cnt.neg {s s1 : Int} {n : Nat} (h : Cnt s s1 n) (h1 : s1 < 0) (m : Nat) : Cnt s s1 m := ⟨h.le, h.low, fun h0 => by omega⟩
theorem Cnt.cast {s s1 : Int} {n m : Nat} (h : Cnt s s1 n) (e : n = m) : Cnt s s1 m := e ▸ h
theorem add_cnt (s : Int) (n : Nat) (hs : -9223372036854775807 ≤ s) (hs1 : s ≤ 9223372036854775807) (hn : n ≤ 9223372036854775807) : ∃ b r, crierroom_Count_Add.f s (n : Nat) = some (b, r) ∧ Cnt s r n := by
  unfold crierroom_Count_Add.f
  by_cases h : s ≥ 0
  · rw [if_pos h]
    have hw : wrap64 (s - n) = s - n := IntWalk.wrap64_in _ (by omega)
    exact ⟨_, _, rfl, by rw [hw]; exact ⟨by omega, by omega, fun _ => rfl⟩⟩
  · rw [if_neg h]
    exact ⟨_, _, rfl, ⟨Int.le_refl _, hs, fun h0 => by omega⟩⟩
theorem text_cnt (s : Int) (x : ByteArray) (hs : -9223372036854775807 ≤ s) (hs1 : s ≤ 9223372036854775807) (hx : x.size ≤ 140737488351232) : ∃ r, crierroom_Count_Text.f s x = some r ∧ Cnt s r (x.size + 1) := by
  obtain ⟨b1, r1, h1, c1⟩ := add_cnt s 1 hs hs1 (by decide)
  obtain ⟨b2, r2, h2, c2⟩ := add_cnt r1 x.size c1.low (Int.le_trans c1.le hs1) (by omega)
  refine ⟨r2, ?_, (c1.trans c2).cast (by omega)⟩
  unfold crierroom_Count_Text.f
  rw [show crierroom_Count_Add.f s 1 = some (b1, r1) from h1]
  simp only [Option.bind_some]
  rw [h2]
  rfl
theorem bytes_cnt (s : Int) (x : List Int) (hs : -9223372036854775807 ≤ s) (hs1 : s ≤ 9223372036854775807) (hx : x.length ≤ 9223372036854775807) : ∃ r, crierroom_Count_Bytes.f s x = some r ∧ Cnt s r (x.length + 1) := by
  obtain ⟨b1, r1, h1, c1⟩ := add_cnt s 1 hs hs1 (by decide)
  obtain ⟨b2, r2, h2, c2⟩ := add_cnt r1 x.length c1.low (Int.le_trans c1.le hs1) (by omega)
  refine ⟨r2, ?_, (c1.trans c2).cast (by omega)⟩
  unfold crierroom_Count_Bytes.f
  rw [show crierroom_Count_Add.f s 1 = some (b1, r1) from h1]
  simp only [Option.bind_some]
  rw [h2]
  rfl
def pM (x : S72) : Nat := x.f0.size + x.f1.length + 2
def pA (x : S90) : Nat := x.f0.size + 1
def pG (x : S66) : Nat := x.f0.size + x.f1.size + 2
def pF (x : S76) : Nat := pM x.f1
def pS (x : S64) : Nat := (x.f0.size + 1) + (x.f1.map pA).sum + ((x.f2.f1.map pF).sum + (x.f2.f2.map pM).sum) + x.f3.length
def zM (x : S72) : Prop := x.f0.size ≤ 140737488351232
def zA (x : S90) : Prop := x.f0.size ≤ 140737488351232
def zG (x : S66) : Prop := x.f0.size ≤ 140737488351232 ∧ x.f1.size ≤ 140737488351232
def zF (x : S76) : Prop := zM x.f1
def zS (x : S64) : Prop := x.f0.size ≤ 140737488351232 ∧ (∀ y ∈ x.f1, zA y) ∧ (∀ y ∈ x.f2.f1, zF y) ∧ (∀ y ∈ x.f2.f2, zM y)
theorem message_cnt (s : Int) (x : S72) (hs : -9223372036854775807 ≤ s) (hs1 : s ≤ 9223372036854775807) (hx : zM x) (hl : x.f1.length ≤ 9223372036854775807) : ∃ r, crierroom_Count_Message.f s x.f0 x.f1 x.f2 x.f3 = some r ∧ Cnt s r (pM x) := by
  obtain ⟨r1, h1, c1⟩ := text_cnt s x.f0 hs hs1 hx
  obtain ⟨r2, h2, c2⟩ := bytes_cnt r1 x.f1 c1.low (Int.le_trans c1.le hs1) hl
  refine ⟨r2, ?_, (c1.trans c2).cast (by unfold pM; omega)⟩
  unfold crierroom_Count_Message.f
  rw [h1]
  simp only [Option.bind_some]
  rw [h2]
  rfl
theorem asks_loop (l : List S90) (hl : l.length ≤ 9223372036854775807) (hz : ∀ x ∈ l, zA x) : ∀ (d k : Nat) (s : Int), -9223372036854775807 ≤ s → s ≤ 9223372036854775807 → k + d = l.length → ∃ K r, crierroom_Count_Asks.l0 K l (k : Int) s = some r ∧ Cnt s r ((l.drop k).map pA).sum
  | 0, k, s, hs, hs1, hk => by
    refine ⟨1, s, ?_, ?_⟩
    · simp only [crierroom_Count_Asks.l0]
      rw [if_neg (by omega)]
    · rw [List.drop_eq_nil_of_le (by omega)]
      exact Cnt.refl hs
  | d + 1, k, s, hs, hs1, hk => by
    have hlt : k < l.length := by omega
    have hx : rd_T90 l (k : Int) = l[k] := by rw [rd_T90, Int.toNat_natCast, List.getD_eq_getElem?_getD, List.getElem?_eq_getElem hlt]; rfl
    by_cases h0 : 0 ≤ s
    · obtain ⟨r1, h1, c1⟩ := text_cnt s l[k].f0 hs hs1 (hz _ (List.getElem_mem hlt))
      obtain ⟨K, r, h2, c2⟩ := asks_loop l hl hz d (k + 1) r1 c1.low (Int.le_trans c1.le hs1) (by omega)
      refine ⟨K + 1, r, ?_, ?_⟩
      · simp only [crierroom_Count_Asks.l0]
        rw [if_pos (by omega)]
        unfold crierroom_Count_Ok.f
        simp only [Option.bind_some]
        rw [if_pos (by simpa using h0), if_pos (by omega), hx, h1]
        simp only [Option.bind_some]
        have hw : wrap64 ((k : Int) + 1) = ((k + 1 : Nat) : Int) := by rw [IntWalk.wrap64_in _ (by omega)]; omega
        rw [hw]
        exact h2
      · rw [List.drop_eq_getElem_cons hlt, List.map_cons, List.sum_cons]
        exact (c1.trans c2).cast (by unfold pA; omega)
    · refine ⟨1, s, ?_, ⟨Int.le_refl _, hs, fun h => by omega⟩⟩
      simp only [crierroom_Count_Asks.l0]
      rw [if_pos (by omega)]
      unfold crierroom_Count_Ok.f
      simp only [Option.bind_some]
      rw [if_neg (by simpa using h0)]
theorem asks_cnt (s : Int) (l : List S90) (hs : -9223372036854775807 ≤ s) (hs1 : s ≤ 9223372036854775807) (hl : l.length ≤ 9223372036854775807) (hz : ∀ x ∈ l, zA x) : ∃ K r, crierroom_Count_Asks.f K s l = some r ∧ Cnt s r (l.map pA).sum := by
  obtain ⟨K, r, h, c⟩ := asks_loop l hl hz l.length 0 s hs hs1 (by omega)
  exact ⟨K, r, h, by rw [List.drop_zero] at c; exact c⟩
theorem sumt_le {α : Type} (f : α → Nat) (l : List α) (k : Nat) : ((l.take k).map f).sum ≤ (l.map f).sum := by
  have h : (l.map f).sum = ((l.take k).map f).sum + ((l.drop k).map f).sum := by rw [← List.sum_append_nat, ← List.map_append, List.take_append_drop]
  omega
theorem sumt_succ {α : Type} (f : α → Nat) (l : List α) (k : Nat) (x : α) (h : l[k]? = some x) : ((l.take (k + 1)).map f).sum = ((l.take k).map f).sum + f x := by
  rw [List.take_add_one, h]
  simp [List.map_append, List.sum_append_nat]
theorem at_kc {α : Type} {l : List α} {d x : α} {k : Nat} (hk : k < l.length) (hx : x = l.getD ((k : Int).toNat) d) : l[k]? = some x := by rw [hx, Int.toNat_natCast, List.getD_eq_getElem?_getD, List.getElem?_eq_getElem hk]; rfl
theorem cam {α : Type} {d : Kd α} {w0 W : World} {n : Nat} {A : Option Addr} {xs : List α} (hd : Kd.Heap d) (hB : Below w0.heap.size w0 W) (h : d.C w0 A n xs) : d.C W A n xs := hd.C (fun k hk => hB.block k hk) h
theorem far {α : Type} {d : Kd α} {w0 : World} {n g : Nat} {A : Option Addr} {xs : List α} (hs : 0 < d.sz) (hg : w0.heap.size ≤ g) (h : d.C w0 A n xs) : ∀ ad, A = some ad → 0 < n → ad.block ≠ g := fun ad e hp => by subst e; have := Kd.C_lt h hp hs; omega

theorem mkI {w0 W : World} {g : Nat} {s : Int} (h : W.heap[g]? = some (.cells #[.int .i64 s] 79 (0, 0))) (h2 : w0.heap.size ≤ g) : IsS79 w0 W g s := ⟨h, h2⟩
theorem hq90 : Kd.Heap k90 := Kd.heap_iso _ (Kd.heap_pair Kd.heap_string (Kd.heap_int .i64))
theorem hq72 : Kd.Heap k72 := Kd.heap_iso _ (Kd.heap_pair Kd.heap_string (Kd.heap_pair (Kd.heap_slice 5 (Kd.heap_int .u8)) (Kd.heap_pair (Kd.heap_int .i64) Kd.heap_bool)))
theorem hq76 : Kd.Heap k76 := Kd.heap_iso _ (Kd.heap_pair (Kd.heap_int .i64) (Kd.heap_pair hq72 Kd.heap_bool))
theorem hq62 : Kd.Heap k62 := Kd.heap_iso _ (Kd.heap_pair (Kd.heap_int .i64) (Kd.heap_pair (Kd.heap_slice 76 hq76) (Kd.heap_slice 72 hq72)))
theorem hq64 : Kd.Heap k64 := Kd.heap_iso _ (Kd.heap_pair Kd.heap_string (Kd.heap_pair (Kd.heap_slice 90 hq90) (Kd.heap_pair hq62 (Kd.heap_slice 3 (Kd.heap_int .i64)))))
theorem hq66 : Kd.Heap k66 := Kd.heap_iso _ (Kd.heap_pair Kd.heap_string Kd.heap_string)
theorem hq101 : Kd.Heap k101 := Kd.heap_iso _ (Kd.heap_pair Kd.heap_string Kd.heap_string)
theorem hq104 : Kd.Heap k104 := Kd.heap_iso _ (Kd.heap_pair Kd.heap_string (Kd.heap_pair Kd.heap_bool (Kd.heap_pair (Kd.heap_int .i64) (Kd.heap_pair (Kd.heap_int .i64) (Kd.heap_pair Kd.heap_bool (Kd.heap_pair Kd.heap_string (Kd.heap_pair Kd.heap_bool Kd.heap_string)))))))
theorem hq107 : Kd.Heap k107 := Kd.heap_iso _ (Kd.heap_pair (Kd.heap_int .i64) (Kd.heap_pair (Kd.heap_int .i64) (Kd.heap_pair Kd.heap_bool (Kd.heap_pair (Kd.heap_int .i64) (Kd.heap_pair Kd.heap_string (Kd.heap_pair Kd.heap_bool (Kd.heap_pair hq72 (Kd.heap_pair Kd.heap_bool (Kd.heap_pair Kd.heap_string (Kd.heap_pair Kd.heap_bool (Kd.heap_pair (Kd.heap_slice 5 (Kd.heap_int .u8)) (Kd.heap_pair Kd.heap_bool (Kd.heap_pair (Kd.heap_int .i64) (Kd.heap_pair Kd.heap_bool (Kd.heap_pair hq72 (Kd.heap_pair (Kd.heap_int .i64) (Kd.heap_pair (Kd.heap_slice 90 hq90) (Kd.heap_pair (Kd.heap_slice 3 (Kd.heap_int .i64)) (Kd.heap_slice 9 Kd.heap_string)))))))))))))))))))
theorem hq111 : Kd.Heap k111 := Kd.heap_iso _ (Kd.heap_pair (Kd.heap_int .i64) (Kd.heap_pair hq107 (Kd.heap_pair (Kd.heap_int .i64) (Kd.heap_int .i64))))
theorem hq114 : Kd.Heap k114 := Kd.heap_iso _ (Kd.heap_pair (Kd.heap_int .i64) (Kd.heap_pair (Kd.heap_int .i64) (Kd.heap_pair (Kd.heap_slice 5 (Kd.heap_int .u8)) (Kd.heap_int .i64))))
theorem hq117 : Kd.Heap k117 := Kd.heap_iso _ (Kd.heap_pair (Kd.heap_int .i64) (Kd.heap_pair (Kd.heap_int .i64) (Kd.heap_pair (Kd.heap_int .i64) (Kd.heap_pair hq72 (Kd.heap_pair (Kd.heap_slice 90 hq90) (Kd.heap_slice 9 Kd.heap_string))))))
theorem hq119 : Kd.Heap k119 := Kd.heap_iso _ (Kd.heap_pair (Kd.heap_int .i64) (Kd.heap_pair (Kd.heap_int .i64) (Kd.heap_pair (Kd.heap_int .i64) (Kd.heap_pair hq114 (Kd.heap_pair hq107 hq117)))))
theorem hq122 : Kd.Heap k122 := Kd.heap_iso _ (Kd.heap_pair Kd.heap_string (Kd.heap_pair Kd.heap_string (Kd.heap_pair Kd.heap_bool Kd.heap_bool)))
theorem hq125 : Kd.Heap k125 := Kd.heap_iso _ (Kd.heap_pair (Kd.heap_int .i64) (Kd.heap_pair (Kd.heap_int .i64) (Kd.heap_pair Kd.heap_string (Kd.heap_pair hq64 (Kd.heap_pair hq72 hq66)))))
theorem camK {α : Type} {d : Kd α} {w0 W : World} {n g : Nat} {A : Option Addr} {xs : List α} (hd : Kd.Heap d) (hB : Below w0.heap.size w0 W) (hg : w0.heap.size ≤ g) (h : d.C w0 A n xs) : ∀ W_, KeepBut W W_ g none → d.C W_ A n xs := fun W_ hW => hd.C (fun k hk => (hW.2 k (Nat.lt_of_lt_of_le hk hB.size) (by omega) (by simp)).trans (hB.block k hk)) h
theorem Messages_calls_C (g : Nat) (s : Int) (A : Option Addr) (c : Nat) (l : List S72) (w0 w : World) (hg : w.heap[g]? = some (.cells #[.int .i64 s] 79 (0, 0))) (hg0 : w0.heap.size ≤ g) (hB : Below w0.heap.size w0 w) (hr : k72.C w0 A l.length l) (hc : l.length ≤ c) (hz : ∀ x ∈ l, zM x) (hs0 : -9223372036854775807 ≤ s) (hs1 : s ≤ 9223372036854775807) :
    Calls Try.prog 45 #[.pointer (some ⟨g, 0, none⟩), .slice A l.length c] w fun e w' => ∃ s', e = .returned (.tuple #[]) ∧ w'.heap[g]? = some (.cells #[.int .i64 s'] 79 (0, 0)) ∧ Cnt s s' (l.map pM).sum ∧ Below w0.heap.size w0 w' ∧ KeepBut w w' g none := by
  have hm0 := hr.2.1
  have HG := Aside0.mk hg; have HB := Aside0.mk hB; have HR := Aside0.mk hr; have HC := Aside0.mk hc; have HZ := Aside0.mk hz; have HK := Aside0.mk (KeepBut.refl w g none)
  clear hg hB hr hc hz
  go_enter Try.func45, Try.ntmps45
  go_wp2_with fail
  go_loopw [4] (fun i wr => ∃ (k : Nat) (s' : Int), k ≤ l.length ∧ i = .int .i64 k ∧ Aside0 (wr.heap[g]? = some (.cells #[.int .i64 s'] 79 (0, 0))) ∧ Aside0 (Cnt s s' ((l.take k).map pM).sum) ∧ Aside0 (Below w0.heap.size w0 wr) ∧ Aside0 (KeepBut w wr g none)) (fun i _ => l.length - (intOf i).toNat)
  case atStart => exact ⟨0, s, Nat.zero_le _, rfl, HG, ⟨by simpa using Cnt.refl hs0⟩, HB, HK⟩
  case round =>
    clear HG HB HK
    obtain ⟨k, s', hk, rfl, HG, HQ, HB, HK⟩ := hrel
    obtain ⟨wo, hwo⟩ : ∃ x, x = wr := ⟨_, rfl⟩; subst hwo
    have hq1 := HQ.out.low; have hq2 := HQ.out.le
    by_cases hlt : k < l.length
    · by_cases h0 : 0 ≤ s'
      · skip
        obtain ⟨ad, E1, e1, e_, r0, r1, r2, r3, l1_, g1_⟩ := at_T72 HR.out (k : Int) (by omega) (by omega)
        subst e_
        obtain ⟨x, hx⟩ : ∃ z, z = rd_T72 l k := ⟨_, rfl⟩
        rw [← hx, Int.toNat_natCast] at r0 r1 r2 r3
        rw [← hx] at l1_ g1_
        have hx' := at_kc hlt hx; have HXM := Aside0.mk (List.mem_of_getElem? hx'); have HX := Aside0.mk hx'; clear hx hx'
        have F0 := Aside0.mk r0; clear r0
        have F1 := Aside0.mk r1; clear r1
        have F2 := Aside0.mk r2; clear r2
        have F3 := Aside0.mk r3; clear r3
        have HL1 := Aside0.mk l1_; have HE1 := Aside0.mk g1_; clear l1_ g1_
        obtain ⟨r, hr, hcn⟩ := message_cnt s' x hq1 (by omega) (HZ.out x HXM.out) HE1.out.2.1
        have H := Aside0.mk hr; have HCN := Aside0.mk hcn; clear hr hcn; have hok : decide (s' ≥ 0) = true := decide_eq_true h0
        have f0 := pw_cell_below HB.out F0.out; have f1 := pw_cell_below HB.out F1.out; have f2 := pw_cell_below HB.out F2.out; have f3 := pw_cell_below HB.out F3.out
        go_wp2_with (first | (go_at_call 12; go_loud ((with_reducible refine (crierroom_Count_Ok.calls g _ _ _ w0 _ (mkI HG.out hg0) HB.out rfl).mono ?_); rintro e w3 ⟨rfl, hi, hb, hk⟩; have n0_ : Aside0 (w3.heap[g]? = some (.cells #[.int .i64 s'] 79 (0, 0))) := ⟨hi.1⟩; have n1_ := Aside0.mk hb; have n2_ := Aside0.mk (HK.out.trans hk (.inl rfl)); clear HG HB HK hi hb hk; have HG := n0_; have HB := n1_; have HK := n2_; clear n0_ n1_ n2_; clear f0 f1 f2 f3; have f0 := pw_cell_below HB.out F0.out; have f1 := pw_cell_below HB.out F1.out; have f2 := pw_cell_below HB.out F2.out; have f3 := pw_cell_below HB.out F3.out; rw [hok])) | (go_at_call 58; go_loud ((with_reducible refine (crierroom_Count_Message.calls g _ _ _ _ _ _ _ r w0 _ (mkI HG.out hg0) HB.out (cam (Kd.heap_int .u8) HB.out HE1.out) HL1.out (far (by decide) hg0 HE1.out) H.out).mono ?_); rintro e w4 ⟨rfl, hi, hb, hk⟩; have n0_ : Aside0 (w4.heap[g]? = some (.cells #[.int .i64 r] 79 (0, 0))) := ⟨hi.1⟩; have n1_ := Aside0.mk hb; have n2_ := Aside0.mk (HK.out.trans hk (.inl rfl)); clear HG HB HK hi hb hk f0 f1 f2 f3; have HG := n0_; have HB := n1_; have HK := n2_; clear n0_ n1_ n2_)))
        go_roundw
        case rel => exact ⟨k + 1, r, by omega, by go_num, HG, ⟨(HQ.out.trans HCN.out).cast (sumt_succ pM l k x HX.out).symm⟩, HB, HK⟩
        case measure => simp [intOf]; omega
      · have hok : decide (s' ≥ 0) = false := decide_eq_false h0
        go_wp2_with (first | (go_at_call 12; go_loud ((with_reducible refine (crierroom_Count_Ok.calls g _ _ _ w0 _ (mkI HG.out hg0) HB.out rfl).mono ?_); rintro e w3 ⟨rfl, hi, hb, hk⟩; have n0_ : Aside0 (w3.heap[g]? = some (.cells #[.int .i64 s'] 79 (0, 0))) := ⟨hi.1⟩; have n1_ := Aside0.mk hb; have n2_ := Aside0.mk (HK.out.trans hk (.inl rfl)); clear HG HB HK hi hb hk; have HG := n0_; have HB := n1_; have HK := n2_; clear n0_ n1_ n2_; rw [hok])))
        first | go_end0 | ((try simp only [Exit.inBlock, Exit.then]); refine bodyPost_ret (results_none rfl _ _ _) rfl ?_)
        exact ⟨s', rfl, HG.out, HQ.out.neg (by omega) _, HB.out, HK.out⟩
    · obtain rfl : k = l.length := by omega
      go_wp2
      first | go_end0 | ((try simp only [Exit.inBlock, Exit.then]); refine bodyPost_ret (results_none rfl _ _ _) rfl ?_)
      exact ⟨s', rfl, HG.out, by have h := HQ.out; rw [List.take_length] at h; exact h, HB.out, HK.out⟩
theorem Window_calls_C (g : Nat) (s : Int) (x : S62) (A1 : Option Addr) (c1 : Nat) (A2 : Option Addr) (c2 : Nat) (w0 w : World) (hg : w.heap[g]? = some (.cells #[.int .i64 s] 79 (0, 0))) (hg0 : w0.heap.size ≤ g) (hB : Below w0.heap.size w0 w) (hr1 : k76.C w0 A1 x.f1.length x.f1) (hc1 : x.f1.length ≤ c1) (hr2 : k72.C w0 A2 x.f2.length x.f2) (hc2 : x.f2.length ≤ c2) (hz1 : ∀ y ∈ x.f1, zF y) (hz2 : ∀ y ∈ x.f2, zM y) (hs0 : -9223372036854775807 ≤ s) (hs1 : s ≤ 9223372036854775807) :
    Calls Try.prog 43 #[.pointer (some ⟨g, 0, none⟩), .agg #[.int .i64 x.f0, .slice A1 x.f1.length c1, .slice A2 x.f2.length c2]] w fun e w' => ∃ s', e = .returned (.tuple #[]) ∧ w'.heap[g]? = some (.cells #[.int .i64 s'] 79 (0, 0)) ∧ Cnt s s' ((x.f1.map pF).sum + (x.f2.map pM).sum) ∧ Below w0.heap.size w0 w' ∧ KeepBut w w' g none := by
  have hm0 := hr1.2.1
  skip
  have HG := Aside0.mk hg; have HB := Aside0.mk hB; have HR := Aside0.mk hr1; have HC1 := Aside0.mk hc1; have HR2 := Aside0.mk hr2; have HC2 := Aside0.mk hc2; have HZ := Aside0.mk hz1; have HZ2 := Aside0.mk hz2; have HK := Aside0.mk (KeepBut.refl w g none)
  clear hg hB hr1 hc1 hr2 hc2 hz1 hz2
  go_enter Try.func43, Try.ntmps43
  go_wp2_with (first | ((with_reducible refine gate_dst (N := 3) rfl ?_); go_loud (refine box_event ?hg (N := 3) ?hd (cs := #[.int .i64 x.f0, .slice A1 x.f1.length c1, .slice A2 x.f2.length c2]) (t := 62) ?hr ?_; (case hd => rfl); (case hg => rfl); (case hr => first | (go_simp; done) | (go_simp; rfl)); intro g3 hgg3 w2_ hbox hb; have NEg3 := Aside0.mk (show g3 ≠ g by rw [hgg3]; exact Nat.ne_of_gt (blk_lt HG.out)); have BXg3 := Aside0.mk hbox; have n0_ := Aside0.mk (blk_below HG.out hb); have n1_ := Aside0.mk (below_step HB.out hb); have n2_ := Aside0.mk (HK.out.trans (KeepBut.of_below hb g none) (.inl rfl)); clear HG HB HK hgg3 hbox hb; have HG := n0_; have HB := n1_; have HK := n2_; clear n0_ n1_ n2_ ; have cg3_0 : w2_.cell? ⟨g3, 0, none⟩ = _ := (blk_cell BXg3.out 0).trans rfl; have cg3_1 : w2_.cell? ⟨g3, 1, none⟩ = _ := (blk_cell BXg3.out 1).trans rfl; have cg3_2 : w2_.cell? ⟨g3, 2, none⟩ = _ := (blk_cell BXg3.out 2).trans rfl)))
  clear cg3_0 cg3_1 cg3_2
  go_loopw [4] (fun i wr => ∃ (k : Nat) (s' : Int), k ≤ x.f1.length ∧ i = .int .i64 k ∧ Aside0 (wr.heap[g]? = some (.cells #[.int .i64 s'] 79 (0, 0))) ∧ Aside0 (wr.heap[g3]? = some (.cells #[.int .i64 x.f0, .slice A1 x.f1.length c1, .slice A2 x.f2.length c2] 62 (0, 0))) ∧ Aside0 (Cnt s s' ((x.f1.take k).map pF).sum) ∧ Aside0 (Below w0.heap.size w0 wr) ∧ Aside0 (KeepBut w wr g none)) (fun i _ => x.f1.length - (intOf i).toNat)
  case atStart => exact ⟨0, s, Nat.zero_le _, rfl, HG, BXg3, ⟨by simpa using Cnt.refl hs0⟩, HB, HK⟩
  case round =>
    clear HG HB HK BXg3
    obtain ⟨k, s', hk, rfl, HG, BXg3, HQ, HB, HK⟩ := hrel
    obtain ⟨wo, hwo⟩ : ∃ x, x = wr := ⟨_, rfl⟩; subst hwo
    have hq1 := HQ.out.low; have hq2 := HQ.out.le
    have cg3_0 : wo.cell? ⟨g3, 0, none⟩ = _ := (blk_cell BXg3.out 0).trans rfl; have cg3_1 : wo.cell? ⟨g3, 1, none⟩ = _ := (blk_cell BXg3.out 1).trans rfl; have cg3_2 : wo.cell? ⟨g3, 2, none⟩ = _ := (blk_cell BXg3.out 2).trans rfl
    by_cases hlt : k < x.f1.length
    · by_cases h0 : 0 ≤ s'
      · skip
        obtain ⟨ad, E2, e2, e_, r0, r1, r2, r3, r4, r5, l2_, g2_⟩ := at_T76 HR.out (k : Int) (by omega) (by omega)
        subst e_
        obtain ⟨y, hy⟩ : ∃ z, z = rd_T76 x.f1 k := ⟨_, rfl⟩
        rw [← hy, Int.toNat_natCast] at r0 r1 r2 r3 r4 r5; rw [← hy] at l2_ g2_
        have hx' := at_kc hlt hy; have HXM := Aside0.mk (List.mem_of_getElem? hx'); have HX := Aside0.mk hx'; clear hy hx'
        have F0 := Aside0.mk r0; clear r0
        have F1 := Aside0.mk r1; clear r1
        have F2 := Aside0.mk r2; clear r2
        have F3 := Aside0.mk r3; clear r3
        have F4 := Aside0.mk r4; clear r4
        have F5 := Aside0.mk r5; clear r5
        have HL2 := Aside0.mk l2_; have HE2 := Aside0.mk g2_; clear l2_ g2_
        have hzy : zM y.f1 := HZ.out y HXM.out
        obtain ⟨r, hr, hcn⟩ := message_cnt s' y.f1 hq1 (by omega) hzy HE2.out.2.1
        have H := Aside0.mk hr; have HCN := Aside0.mk hcn; clear hr hcn hzy; have hok : decide (s' ≥ 0) = true := decide_eq_true h0
        have f0 := pw_cell_below HB.out F0.out; have f1 := pw_cell_below HB.out F1.out; have f2 := pw_cell_below HB.out F2.out; have f3 := pw_cell_below HB.out F3.out; have f4 := pw_cell_below HB.out F4.out; have f5 := pw_cell_below HB.out F5.out
        go_wp2_with (first | (go_at_call 12; go_loud ((with_reducible refine (crierroom_Count_Ok.calls g _ _ _ w0 _ (mkI HG.out hg0) HB.out rfl).mono ?_); rintro e w3 ⟨rfl, hi, hb, hk⟩; have n0_ : Aside0 (w3.heap[g]? = some (.cells #[.int .i64 s'] 79 (0, 0))) := ⟨hi.1⟩; have n1_ := Aside0.mk hb; have n2_ := Aside0.mk (HK.out.trans hk (.inl rfl)); have mg3_ := Aside0.mk ((hk.2 g3 (blk_lt BXg3.out) NEg3.out (by simp)).trans BXg3.out); clear HG HB HK hb hk hi f0 f1 f2 f3 f4 f5 cg3_0 cg3_1 cg3_2 BXg3; have HG := n0_; have HB := n1_; have HK := n2_; have BXg3 := mg3_; clear n0_ n1_ n2_ mg3_; have f0 := pw_cell_below HB.out F0.out; have f1 := pw_cell_below HB.out F1.out; have f2 := pw_cell_below HB.out F2.out; have f3 := pw_cell_below HB.out F3.out; have f4 := pw_cell_below HB.out F4.out; have f5 := pw_cell_below HB.out F5.out; have cg3_0 : w3.cell? ⟨g3, 0, none⟩ = _ := (blk_cell BXg3.out 0).trans rfl; have cg3_1 : w3.cell? ⟨g3, 1, none⟩ = _ := (blk_cell BXg3.out 1).trans rfl; have cg3_2 : w3.cell? ⟨g3, 2, none⟩ = _ := (blk_cell BXg3.out 2).trans rfl; rw [hok])) | (go_at_call 58; go_loud ((with_reducible refine (crierroom_Count_Message.calls g _ _ _ _ _ _ _ r w0 _ (mkI HG.out hg0) HB.out (cam (Kd.heap_int .u8) HB.out HE2.out) HL2.out (far (by decide) hg0 HE2.out) H.out).mono ?_); rintro e w3 ⟨rfl, hi, hb, hk⟩; have n0_ : Aside0 (w3.heap[g]? = some (.cells #[.int .i64 r] 79 (0, 0))) := ⟨hi.1⟩; have n1_ := Aside0.mk hb; have n2_ := Aside0.mk (HK.out.trans hk (.inl rfl)); have mg3_ := Aside0.mk ((hk.2 g3 (blk_lt BXg3.out) NEg3.out (by simp)).trans BXg3.out); clear HG HB HK hb hk hi f0 f1 f2 f3 f4 f5 cg3_0 cg3_1 cg3_2 BXg3; have HG := n0_; have HB := n1_; have HK := n2_; have BXg3 := mg3_; clear n0_ n1_ n2_ mg3_)))
        go_roundw
        case rel => exact ⟨k + 1, r, by omega, by go_num, HG, BXg3, ⟨(HQ.out.trans HCN.out).cast (sumt_succ pF x.f1 k y HX.out).symm⟩, HB, HK⟩
        case measure => simp [intOf]; omega
      · have hok : decide (s' ≥ 0) = false := decide_eq_false h0
        go_wp2_with (first | (go_at_call 12; go_loud ((with_reducible refine (crierroom_Count_Ok.calls g _ _ _ w0 _ (mkI HG.out hg0) HB.out rfl).mono ?_); rintro e w3 ⟨rfl, hi, hb, hk⟩; have n0_ : Aside0 (w3.heap[g]? = some (.cells #[.int .i64 s'] 79 (0, 0))) := ⟨hi.1⟩; have n1_ := Aside0.mk hb; have n2_ := Aside0.mk (HK.out.trans hk (.inl rfl)); have mg3_ := Aside0.mk ((hk.2 g3 (blk_lt BXg3.out) NEg3.out (by simp)).trans BXg3.out); clear HG HB HK hb hk hi cg3_0 cg3_1 cg3_2 BXg3; have HG := n0_; have HB := n1_; have HK := n2_; have BXg3 := mg3_; clear n0_ n1_ n2_ mg3_; have cg3_0 : w3.cell? ⟨g3, 0, none⟩ = _ := (blk_cell BXg3.out 0).trans rfl; have cg3_1 : w3.cell? ⟨g3, 1, none⟩ = _ := (blk_cell BXg3.out 1).trans rfl; have cg3_2 : w3.cell? ⟨g3, 2, none⟩ = _ := (blk_cell BXg3.out 2).trans rfl; rw [hok])) | (go_at_call 45; go_loud ((with_reducible refine (Messages_calls_C g s' _ _ _ w0 _ HG.out hg0 HB.out HR2.out HC2.out HZ2.out hq1 (by omega)).mono ?_); rintro e w3 ⟨s2, rfl, hg2, hcn, hb, hk⟩; have HCN := Aside0.mk hcn; have n0_ : Aside0 (w3.heap[g]? = some (.cells #[.int .i64 s2] 79 (0, 0))) := ⟨hg2⟩; have n1_ := Aside0.mk hb; have n2_ := Aside0.mk (HK.out.trans hk (.inl rfl)); have mg3_ := Aside0.mk ((hk.2 g3 (blk_lt BXg3.out) NEg3.out (by simp)).trans BXg3.out); clear HG HB HK hb hk cg3_0 cg3_1 cg3_2 BXg3; have HG := n0_; have HB := n1_; have HK := n2_; have BXg3 := mg3_; clear n0_ n1_ n2_ mg3_; clear hg2 hcn)))
        first | go_end0 | ((try simp only [Exit.inBlock, Exit.then]); refine bodyPost_ret (results_none rfl _ _ _) rfl ?_)
        exact ⟨s2, rfl, HG.out, (HQ.out.trans HCN.out).neg (by have := HCN.out.le; omega) _, HB.out, HK.out⟩
    · obtain rfl : k = x.f1.length := by omega
      go_wp2_with (first | (go_at_call 45; go_loud ((with_reducible refine (Messages_calls_C g s' _ _ _ w0 _ HG.out hg0 HB.out HR2.out HC2.out HZ2.out hq1 (by omega)).mono ?_); rintro e w3 ⟨s2, rfl, hg2, hcn, hb, hk⟩; have HCN := Aside0.mk hcn; have n0_ : Aside0 (w3.heap[g]? = some (.cells #[.int .i64 s2] 79 (0, 0))) := ⟨hg2⟩; have n1_ := Aside0.mk hb; have n2_ := Aside0.mk (HK.out.trans hk (.inl rfl)); have mg3_ := Aside0.mk ((hk.2 g3 (blk_lt BXg3.out) NEg3.out (by simp)).trans BXg3.out); clear HG HB HK hb hk cg3_0 cg3_1 cg3_2 BXg3; have HG := n0_; have HB := n1_; have HK := n2_; have BXg3 := mg3_; clear n0_ n1_ n2_ mg3_; clear hg2 hcn)))
      first | go_end0 | ((try simp only [Exit.inBlock, Exit.then]); refine bodyPost_ret (results_none rfl _ _ _) rfl ?_)
      exact ⟨s2, rfl, HG.out, by have h := HQ.out; rw [List.take_length] at h; exact h.trans HCN.out, HB.out, HK.out⟩
theorem keep_one {w W W' : World} {g g5 : Nat} (h : KeepBut w W g none) (k : One W W' g5) (hg : w.heap.size ≤ g5) : KeepBut w W' g none := ⟨Nat.le_trans h.1 (Nat.le_of_eq k.size.symm), fun i hi h1 h2 => (k.keep i (by omega)).trans (h.2 i hi h1 h2)⟩
theorem Image_calls_C (g : Nat) (s : Int) (au : Int) (ls : List S64) (lr : List S72) (lg : List S66) (A1 : Option Addr) (c1 : Nat) (A2 : Option Addr) (c2 : Nat) (A3 : Option Addr) (c3 : Nat) (w0 w : World) (hg : w.heap[g]? = some (.cells #[.int .i64 s] 79 (0, 0))) (hg0 : w0.heap.size ≤ g) (hB : Below w0.heap.size w0 w) (hr1 : k64.C w0 A1 ls.length ls) (hc1 : ls.length ≤ c1) (hr2 : k72.C w0 A2 lr.length lr) (hc2 : lr.length ≤ c2) (hr3 : k66.C w0 A3 lg.length lg) (hc3 : lg.length ≤ c3) (hz1 : ∀ y ∈ ls, zS y) (hz2 : ∀ y ∈ lr, zM y) (hz3 : ∀ y ∈ lg, zG y) (hs0 : -9223372036854775807 ≤ s) (hs1 : s ≤ 9223372036854775807) :
    Calls Try.prog 11 #[.pointer (some ⟨g, 0, none⟩), .agg #[.int .i64 au, .slice A1 ls.length c1, .slice A2 lr.length c2, .slice A3 lg.length c3]] w fun e w' => ∃ s', e = .returned (.tuple #[]) ∧ w'.heap[g]? = some (.cells #[.int .i64 s'] 79 (0, 0)) ∧ Cnt s s' ((ls.map pS).sum + (lr.map pM).sum + (lg.map pG).sum) ∧ Below w0.heap.size w0 w' ∧ KeepBut w w' g none := by
  have hm0 := hr1.2.1; have hm3 := hr3.2.1; have hu := Try.underlying64; have hu2 := Try.underlying62
  have HG := Aside0.mk hg; have HB := Aside0.mk hB; have HR := Aside0.mk hr1; have HC1 := Aside0.mk hc1; have HR2 := Aside0.mk hr2; have HC2 := Aside0.mk hc2; have HR3 := Aside0.mk hr3; have HZ := Aside0.mk hz1; have HZ2 := Aside0.mk hz2; have HZ3 := Aside0.mk hz3; have HK := Aside0.mk (KeepBut.refl w g none)
  clear hg hB hr1 hc1 hr2 hc2 hr3 hc3 hz1 hz2 hz3
  go_enter Try.func11, Try.ntmps11
  go_wp2_with (first | ((with_reducible refine gate_dst (N := 3) rfl ?_); go_loud (refine box_event ?hg (N := 3) ?hd (cs := #[.int .i64 au, .slice A1 ls.length c1, .slice A2 lr.length c2, .slice A3 lg.length c3]) (t := 26) ?hr ?_; (case hd => rfl); (case hg => rfl); (case hr => first | (go_simp; done) | (go_simp; rfl)); intro g3 hgg3 w2_ hbox hb; have NEg3 := Aside0.mk (show g3 ≠ g by rw [hgg3]; exact Nat.ne_of_gt (blk_lt HG.out)); have BXg3 := Aside0.mk hbox; have n0_ := Aside0.mk (blk_below HG.out hb); have n1_ := Aside0.mk (below_step HB.out hb); have n2_ := Aside0.mk (HK.out.trans (KeepBut.of_below hb g none) (.inl rfl)); clear HG HB HK hgg3 hbox hb; have HG := n0_; have HB := n1_; have HK := n2_; clear n0_ n1_ n2_ ; have cg3_0 : w2_.cell? ⟨g3, 0, none⟩ = _ := (blk_cell BXg3.out 0).trans rfl; have cg3_1 : w2_.cell? ⟨g3, 1, none⟩ = _ := (blk_cell BXg3.out 1).trans rfl; have cg3_2 : w2_.cell? ⟨g3, 2, none⟩ = _ := (blk_cell BXg3.out 2).trans rfl; have cg3_3 : w2_.cell? ⟨g3, 3, none⟩ = _ := (blk_cell BXg3.out 3).trans rfl)))
  clear cg3_0 cg3_1 cg3_2 cg3_3
  go_loopw [4] (fun i wr => ∃ (k : Nat) (s' : Int), k ≤ ls.length ∧ i = .int .i64 k ∧ Aside0 (wr.heap[g]? = some (.cells #[.int .i64 s'] 79 (0, 0))) ∧ Aside0 (wr.heap[g3]? = some (.cells #[.int .i64 au, .slice A1 ls.length c1, .slice A2 lr.length c2, .slice A3 lg.length c3] 26 (0, 0))) ∧ Aside0 (Cnt s s' ((ls.take k).map pS).sum) ∧ Aside0 (Below w0.heap.size w0 wr) ∧ Aside0 (KeepBut w wr g none)) (fun i _ => ls.length - (intOf i).toNat)
  case atStart => exact ⟨0, s, Nat.zero_le _, rfl, HG, BXg3, ⟨by simpa using Cnt.refl hs0⟩, HB, HK⟩
  case round =>
    clear HG HB HK BXg3
    obtain ⟨k, s', hk, rfl, HG, BXg3, HQ, HB, HK⟩ := hrel
    obtain ⟨wo, hwo⟩ : ∃ x, x = wr := ⟨_, rfl⟩; subst hwo
    have hq1 := HQ.out.low; have hq2 := HQ.out.le
    have cg3_0 : wo.cell? ⟨g3, 0, none⟩ = _ := (blk_cell BXg3.out 0).trans rfl; have cg3_1 : wo.cell? ⟨g3, 1, none⟩ = _ := (blk_cell BXg3.out 1).trans rfl; have cg3_2 : wo.cell? ⟨g3, 2, none⟩ = _ := (blk_cell BXg3.out 2).trans rfl; have cg3_3 : wo.cell? ⟨g3, 3, none⟩ = _ := (blk_cell BXg3.out 3).trans rfl
    by_cases hlt : k < ls.length
    · by_cases h0 : 0 ≤ s'
      · skip
        obtain ⟨ad, E1, e1, E3, e3, E4, e4, E5, e5, e_, r0, r1, r2, r3, r4, r5, l1_, g1_, l3_, g3_, l4_, g4_, l5_, g5_⟩ := at_T64 HR.out (k : Int) (by omega) (by omega)
        subst e_
        obtain ⟨x, hx⟩ : ∃ z, z = rd_T64 ls k := ⟨_, rfl⟩
        rw [← hx, Int.toNat_natCast] at r0 r1 r2 r3 r4 r5; rw [← hx] at l1_ g1_ l3_ g3_ l4_ g4_ l5_ g5_
        have hx' := at_kc hlt hx; have HX := Aside0.mk hx'; have hzx := HZ.out x (List.mem_of_getElem? hx'); clear hx hx'
        have F0 := Aside0.mk r0; clear r0
        have F1 := Aside0.mk r1; clear r1
        have F2 := Aside0.mk r2; clear r2
        have F3 := Aside0.mk r3; clear r3
        have F4 := Aside0.mk r4; clear r4
        have F5 := Aside0.mk r5; clear r5
        have HL1 := Aside0.mk l1_; have HE1 := Aside0.mk g1_; clear l1_ g1_
        have HL3 := Aside0.mk l3_; have HE3 := Aside0.mk g3_; clear l3_ g3_
        have HL4 := Aside0.mk l4_; have HE4 := Aside0.mk g4_; clear l4_ g4_
        have HL5 := Aside0.mk l5_; have HE5 := Aside0.mk g5_; clear l5_ g5_
        have HZX : Aside0 (x.f0.size ≤ 140737488351232 ∧ (∀ y ∈ x.f1, zA y) ∧ (∀ y ∈ x.f2.f1, zF y) ∧ (∀ y ∈ x.f2.f2, zM y)) := ⟨hzx⟩; clear hzx
        obtain ⟨t1, h1, hcn1⟩ := text_cnt s' x.f0 hq1 (by omega) HZX.out.1
        have hb1 := hcn1.low; have hb2 := hcn1.le
        obtain ⟨K2, t2, h2, hcn2⟩ := asks_cnt t1 x.f1 hb1 (by omega) HE1.out.2.1 HZX.out.2.1
        have hb3 := hcn2.low; have hb4 := hcn2.le
        have H1 := Aside0.mk h1; have H2 := Aside0.mk h2; have CN1 := Aside0.mk hcn1; have CN2 := Aside0.mk hcn2; clear h1 h2 hcn1 hcn2; have hok : decide (s' ≥ 0) = true := decide_eq_true h0
        have f0 := pw_cell_below HB.out F0.out; have f1 := pw_cell_below HB.out F1.out; have f2 := pw_cell_below HB.out F2.out; have f3 := pw_cell_below HB.out F3.out; have f4 := pw_cell_below HB.out F4.out; have f5 := pw_cell_below HB.out F5.out
        go_wp2_with (first | (go_at_call 12; go_loud ((with_reducible refine (crierroom_Count_Ok.calls g _ _ _ w0 _ (mkI HG.out hg0) HB.out rfl).mono ?_); rintro e w3 ⟨rfl, hi, hb, hk⟩; have n0_ : Aside0 (w3.heap[g]? = some (.cells #[.int .i64 s'] 79 (0, 0))) := ⟨hi.1⟩; have n1_ := Aside0.mk hb; have n2_ := Aside0.mk (HK.out.trans hk (.inl rfl)); have mg3_ := Aside0.mk ((hk.2 g3 (blk_lt BXg3.out) NEg3.out (by simp)).trans BXg3.out); clear HG HB HK hb hk hi f0 f1 f2 f3 f4 f5 cg3_0 cg3_1 cg3_2 cg3_3 BXg3; have HG := n0_; have HB := n1_; have HK := n2_; have BXg3 := mg3_; clear n0_ n1_ n2_ mg3_; have f0 := pw_cell_below HB.out F0.out; have f1 := pw_cell_below HB.out F1.out; have f2 := pw_cell_below HB.out F2.out; have f3 := pw_cell_below HB.out F3.out; have f4 := pw_cell_below HB.out F4.out; have f5 := pw_cell_below HB.out F5.out; have cg3_0 : w3.cell? ⟨g3, 0, none⟩ = _ := (blk_cell BXg3.out 0).trans rfl; have cg3_1 : w3.cell? ⟨g3, 1, none⟩ = _ := (blk_cell BXg3.out 1).trans rfl; have cg3_2 : w3.cell? ⟨g3, 2, none⟩ = _ := (blk_cell BXg3.out 2).trans rfl; have cg3_3 : w3.cell? ⟨g3, 3, none⟩ = _ := (blk_cell BXg3.out 3).trans rfl; rw [hok])) | ((with_reducible refine gate_dst (N := 5) rfl ?_); go_loud (refine box_event ?hg (N := 5) ?hd (cs := #[.string ⟨#[]⟩, .slice none 0 0, .int .i64 0, .slice none 0 0, .slice none 0 0, .slice none 0 0]) (t := 64) ?hr ?_; (case hd => rfl); (case hg => rfl); (case hr => first | (go_simp; done) | (go_simp; rfl)); intro g5 hgg5 w2_ hbox hb; have NEg5 := Aside0.mk (show g5 ≠ g by rw [hgg5]; exact Nat.ne_of_gt (blk_lt HG.out)); have GE5 := Aside0.mk (show w0.heap.size ≤ g5 by rw [hgg5]; exact HB.out.size); have GW5 := Aside0.mk (show w.heap.size ≤ g5 by rw [hgg5]; exact HK.out.1); have NE35 := Aside0.mk (show g3 ≠ g5 by rw [hgg5]; exact Nat.ne_of_lt (blk_lt BXg3.out)); have n3_ := Aside0.mk (blk_below BXg3.out hb); clear BXg3 f0 f1 f2 f3 f4 f5 cg3_0 cg3_1 cg3_2 cg3_3; have BXg3 := n3_; clear n3_; have BXg5 := Aside0.mk hbox; have n0_ := Aside0.mk (blk_below HG.out hb); have n1_ := Aside0.mk (below_step HB.out hb); have n2_ := Aside0.mk (HK.out.trans (KeepBut.of_below hb g none) (.inl rfl)); clear HG HB HK hgg5 hbox hb; have HG := n0_; have HB := n1_; have HK := n2_; clear n0_ n1_ n2_ ; have f0 := pw_cell_below HB.out F0.out; have f1 := pw_cell_below HB.out F1.out; have f2 := pw_cell_below HB.out F2.out; have f3 := pw_cell_below HB.out F3.out; have f4 := pw_cell_below HB.out F4.out; have f5 := pw_cell_below HB.out F5.out; have cg3_0 : w2_.cell? ⟨g3, 0, none⟩ = _ := (blk_cell BXg3.out 0).trans rfl; have cg3_1 : w2_.cell? ⟨g3, 1, none⟩ = _ := (blk_cell BXg3.out 1).trans rfl; have cg3_2 : w2_.cell? ⟨g3, 2, none⟩ = _ := (blk_cell BXg3.out 2).trans rfl; have cg3_3 : w2_.cell? ⟨g3, 3, none⟩ = _ := (blk_cell BXg3.out 3).trans rfl)) | ((with_reducible refine gate_st (y := .tmp 22) rfl ?_); go_loud (refine ev_store rfl rfl 64 (.tmp 5) (.tmp 22) rfl g5 0 rfl 64 _ _ BXg5.out rfl (by kernel_rfl) (Nat.le_of_ble_eq_true rfl) rfl ?_; intro w5s_ hx hk; have n0_ : Aside0 (w5s_.heap[g5]? = some (.cells #[.string x.f0, .slice E1 x.f1.length e1, .int .i64 x.f2.f0, .slice E3 x.f2.f1.length e3, .slice E4 x.f2.f2.length e4, .slice E5 x.f3.length e5] 64 (0, 0))) := ⟨hx⟩; have n1_ := Aside0.mk ((hk.keep g (Ne.symm NEg5.out)).trans HG.out); have n2_ := Aside0.mk ((hk.keep g3 NE35.out).trans BXg3.out); have n3_ := Aside0.mk (hk.below HB.out (by have := blk_lt BXg5.out; have := blk_lt BXg3.out; exact GE5.out)); have n4_ := Aside0.mk (keep_one HK.out hk GW5.out); clear BXg5 HG BXg3 HB HK hx hk f0 f1 f2 f3 f4 f5 cg3_0 cg3_1 cg3_2 cg3_3; have BXg5 := n0_; have HG := n1_; have BXg3 := n2_; have HB := n3_; have HK := n4_; clear n0_ n1_ n2_ n3_ n4_; have cg3_0 : w5s_.cell? ⟨g3, 0, none⟩ = _ := (blk_cell BXg3.out 0).trans rfl; have cg3_1 : w5s_.cell? ⟨g3, 1, none⟩ = _ := (blk_cell BXg3.out 1).trans rfl; have cg3_2 : w5s_.cell? ⟨g3, 2, none⟩ = _ := (blk_cell BXg3.out 2).trans rfl; have cg3_3 : w5s_.cell? ⟨g3, 3, none⟩ = _ := (blk_cell BXg3.out 3).trans rfl; have cg5_0 : w5s_.cell? ⟨g5, 0, none⟩ = _ := (blk_cell BXg5.out 0).trans rfl; have cg5_1 : w5s_.cell? ⟨g5, 1, none⟩ = _ := (blk_cell BXg5.out 1).trans rfl; have cg5_2 : w5s_.cell? ⟨g5, 2, none⟩ = _ := (blk_cell BXg5.out 2).trans rfl; have cg5_3 : w5s_.cell? ⟨g5, 3, none⟩ = _ := (blk_cell BXg5.out 3).trans rfl; have cg5_4 : w5s_.cell? ⟨g5, 4, none⟩ = _ := (blk_cell BXg5.out 4).trans rfl; have cg5_5 : w5s_.cell? ⟨g5, 5, none⟩ = _ := (blk_cell BXg5.out 5).trans rfl)) | (go_at_call 41; go_loud ((with_reducible refine (crierroom_Count_Text.calls g _ _ t1 w0 _ (mkI HG.out hg0) HB.out H1.out).mono ?_); rintro e w3 ⟨rfl, hi, hb, hk⟩; have n0_ : Aside0 (w3.heap[g]? = some (.cells #[.int .i64 t1] 79 (0, 0))) := ⟨hi.1⟩; have n1_ := Aside0.mk hb; have n2_ := Aside0.mk (HK.out.trans hk (.inl rfl)); have mg3_ := Aside0.mk ((hk.2 g3 (blk_lt BXg3.out) NEg3.out (by simp)).trans BXg3.out); have mg5_ := Aside0.mk ((hk.2 g5 (blk_lt BXg5.out) NEg5.out (by simp)).trans BXg5.out); clear HG HB HK hb hk hi cg3_0 cg3_1 cg3_2 cg3_3 cg5_0 cg5_1 cg5_2 cg5_3 cg5_4 cg5_5 BXg3 BXg5; have HG := n0_; have HB := n1_; have HK := n2_; have BXg3 := mg3_; have BXg5 := mg5_; clear n0_ n1_ n2_ mg3_ mg5_; have cg3_0 : w3.cell? ⟨g3, 0, none⟩ = _ := (blk_cell BXg3.out 0).trans rfl; have cg3_1 : w3.cell? ⟨g3, 1, none⟩ = _ := (blk_cell BXg3.out 1).trans rfl; have cg3_2 : w3.cell? ⟨g3, 2, none⟩ = _ := (blk_cell BXg3.out 2).trans rfl; have cg3_3 : w3.cell? ⟨g3, 3, none⟩ = _ := (blk_cell BXg3.out 3).trans rfl; have cg5_0 : w3.cell? ⟨g5, 0, none⟩ = _ := (blk_cell BXg5.out 0).trans rfl; have cg5_1 : w3.cell? ⟨g5, 1, none⟩ = _ := (blk_cell BXg5.out 1).trans rfl; have cg5_2 : w3.cell? ⟨g5, 2, none⟩ = _ := (blk_cell BXg5.out 2).trans rfl; have cg5_3 : w3.cell? ⟨g5, 3, none⟩ = _ := (blk_cell BXg5.out 3).trans rfl; have cg5_4 : w3.cell? ⟨g5, 4, none⟩ = _ := (blk_cell BXg5.out 4).trans rfl; have cg5_5 : w3.cell? ⟨g5, 5, none⟩ = _ := (blk_cell BXg5.out 5).trans rfl)) | (go_at_call 42; go_loud ((with_reducible refine (crierroom_Count_Asks.calls K2 g _ _ _ _ t2 w0 _ (mkI HG.out hg0) HB.out (camK hq90 HB.out hg0 HE1.out) HL1.out H2.out).mono ?_); rintro e w3 ⟨rfl, hi, hb, hk⟩; have n0_ : Aside0 (w3.heap[g]? = some (.cells #[.int .i64 t2] 79 (0, 0))) := ⟨hi.1⟩; have n1_ := Aside0.mk hb; have n2_ := Aside0.mk (HK.out.trans hk (.inl rfl)); have mg3_ := Aside0.mk ((hk.2 g3 (blk_lt BXg3.out) NEg3.out (by simp)).trans BXg3.out); have mg5_ := Aside0.mk ((hk.2 g5 (blk_lt BXg5.out) NEg5.out (by simp)).trans BXg5.out); clear HG HB HK hb hk hi cg3_0 cg3_1 cg3_2 cg3_3 cg5_0 cg5_1 cg5_2 cg5_3 cg5_4 cg5_5 BXg3 BXg5; have HG := n0_; have HB := n1_; have HK := n2_; have BXg3 := mg3_; have BXg5 := mg5_; clear n0_ n1_ n2_ mg3_ mg5_; have cg3_0 : w3.cell? ⟨g3, 0, none⟩ = _ := (blk_cell BXg3.out 0).trans rfl; have cg3_1 : w3.cell? ⟨g3, 1, none⟩ = _ := (blk_cell BXg3.out 1).trans rfl; have cg3_2 : w3.cell? ⟨g3, 2, none⟩ = _ := (blk_cell BXg3.out 2).trans rfl; have cg3_3 : w3.cell? ⟨g3, 3, none⟩ = _ := (blk_cell BXg3.out 3).trans rfl; have cg5_0 : w3.cell? ⟨g5, 0, none⟩ = _ := (blk_cell BXg5.out 0).trans rfl; have cg5_1 : w3.cell? ⟨g5, 1, none⟩ = _ := (blk_cell BXg5.out 1).trans rfl; have cg5_2 : w3.cell? ⟨g5, 2, none⟩ = _ := (blk_cell BXg5.out 2).trans rfl; have cg5_3 : w3.cell? ⟨g5, 3, none⟩ = _ := (blk_cell BXg5.out 3).trans rfl; have cg5_4 : w3.cell? ⟨g5, 4, none⟩ = _ := (blk_cell BXg5.out 4).trans rfl; have cg5_5 : w3.cell? ⟨g5, 5, none⟩ = _ := (blk_cell BXg5.out 5).trans rfl)) | ((with_reducible refine gate_dst (N := 33) rfl ?_); go_loud (refine ev_load rfl 62 (.tmp 32) rfl g5 2 3 rfl 64 (0, 0) _ BXg5.out _ hu2 rfl ([.int .i64 x.f2.f0, .slice E3 x.f2.f1.length e3, .slice E4 x.f2.f2.length e4]) rfl (by kernel_rfl) ?_)) | (go_at_call 43; go_loud ((with_reducible refine (Window_calls_C g t2 x.f2 _ _ _ _ w0 _ HG.out hg0 HB.out HE3.out HL3.out HE4.out HL4.out HZX.out.2.2.1 HZX.out.2.2.2 hb3 (by omega)).mono ?_); rintro e w3 ⟨t3, rfl, hg2, hcn3, hb, hk⟩; have hb5 := hcn3.low; have hb6 := hcn3.le; obtain ⟨b4, t4, h4, hcn4⟩ := add_cnt t3 x.f3.length hb5 (by omega) HE5.out.2.1; have CN3 := Aside0.mk hcn3; have CN4 := Aside0.mk hcn4; have H4 := Aside0.mk h4; clear hcn3 hcn4 h4; have n0_ : Aside0 (w3.heap[g]? = some (.cells #[.int .i64 t3] 79 (0, 0))) := ⟨hg2⟩; have n1_ := Aside0.mk hb; have n2_ := Aside0.mk (HK.out.trans hk (.inl rfl)); have mg3_ := Aside0.mk ((hk.2 g3 (blk_lt BXg3.out) NEg3.out (by simp)).trans BXg3.out); have mg5_ := Aside0.mk ((hk.2 g5 (blk_lt BXg5.out) NEg5.out (by simp)).trans BXg5.out); clear HG HB HK hb hk hg2 cg3_0 cg3_1 cg3_2 cg3_3 cg5_0 cg5_1 cg5_2 cg5_3 cg5_4 cg5_5 BXg3 BXg5; have HG := n0_; have HB := n1_; have HK := n2_; have BXg3 := mg3_; have BXg5 := mg5_; clear n0_ n1_ n2_ mg3_ mg5_; have cg3_0 : w3.cell? ⟨g3, 0, none⟩ = _ := (blk_cell BXg3.out 0).trans rfl; have cg3_1 : w3.cell? ⟨g3, 1, none⟩ = _ := (blk_cell BXg3.out 1).trans rfl; have cg3_2 : w3.cell? ⟨g3, 2, none⟩ = _ := (blk_cell BXg3.out 2).trans rfl; have cg3_3 : w3.cell? ⟨g3, 3, none⟩ = _ := (blk_cell BXg3.out 3).trans rfl; have cg5_0 : w3.cell? ⟨g5, 0, none⟩ = _ := (blk_cell BXg5.out 0).trans rfl; have cg5_1 : w3.cell? ⟨g5, 1, none⟩ = _ := (blk_cell BXg5.out 1).trans rfl; have cg5_2 : w3.cell? ⟨g5, 2, none⟩ = _ := (blk_cell BXg5.out 2).trans rfl; have cg5_3 : w3.cell? ⟨g5, 3, none⟩ = _ := (blk_cell BXg5.out 3).trans rfl; have cg5_4 : w3.cell? ⟨g5, 4, none⟩ = _ := (blk_cell BXg5.out 4).trans rfl; have cg5_5 : w3.cell? ⟨g5, 5, none⟩ = _ := (blk_cell BXg5.out 5).trans rfl)) | (go_at_call 44; go_loud ((with_reducible refine (crierroom_Count_Add.calls g _ _ b4 t4 w0 _ (mkI HG.out hg0) HB.out H4.out).mono ?_); rintro e w3 ⟨rfl, hi, hb, hk⟩; have n0_ : Aside0 (w3.heap[g]? = some (.cells #[.int .i64 t4] 79 (0, 0))) := ⟨hi.1⟩; have n1_ := Aside0.mk hb; have n2_ := Aside0.mk (HK.out.trans hk (.inl rfl)); have mg3_ := Aside0.mk ((hk.2 g3 (blk_lt BXg3.out) NEg3.out (by simp)).trans BXg3.out); clear HG HB HK hb hk hi cg3_0 cg3_1 cg3_2 cg3_3 cg5_0 cg5_1 cg5_2 cg5_3 cg5_4 cg5_5 BXg3; have HG := n0_; have HB := n1_; have HK := n2_; have BXg3 := mg3_; clear n0_ n1_ n2_ mg3_)))
        go_roundw
        case rel => exact ⟨k + 1, t4, by omega, by go_num, HG, BXg3, ⟨(HQ.out.trans (((CN1.out.trans CN2.out).trans CN3.out).trans CN4.out)).cast (by rw [sumt_succ pS ls k x HX.out]; unfold pS; omega)⟩, HB, HK⟩
        case measure => simp [intOf]; omega
      · have hok : decide (s' ≥ 0) = false := decide_eq_false h0
        go_wp2_with (first | (go_at_call 12; go_loud ((with_reducible refine (crierroom_Count_Ok.calls g _ _ _ w0 _ (mkI HG.out hg0) HB.out rfl).mono ?_); rintro e w3 ⟨rfl, hi, hb, hk⟩; have n0_ : Aside0 (w3.heap[g]? = some (.cells #[.int .i64 s'] 79 (0, 0))) := ⟨hi.1⟩; have n1_ := Aside0.mk hb; have n2_ := Aside0.mk (HK.out.trans hk (.inl rfl)); have mg3_ := Aside0.mk ((hk.2 g3 (blk_lt BXg3.out) NEg3.out (by simp)).trans BXg3.out); clear HG HB HK hb hk hi cg3_0 cg3_1 cg3_2 cg3_3 BXg3; have HG := n0_; have HB := n1_; have HK := n2_; have BXg3 := mg3_; clear n0_ n1_ n2_ mg3_; have cg3_0 : w3.cell? ⟨g3, 0, none⟩ = _ := (blk_cell BXg3.out 0).trans rfl; have cg3_1 : w3.cell? ⟨g3, 1, none⟩ = _ := (blk_cell BXg3.out 1).trans rfl; have cg3_2 : w3.cell? ⟨g3, 2, none⟩ = _ := (blk_cell BXg3.out 2).trans rfl; have cg3_3 : w3.cell? ⟨g3, 3, none⟩ = _ := (blk_cell BXg3.out 3).trans rfl; rw [hok])) | (go_at_call 45; go_loud ((with_reducible refine (Messages_calls_C g s' _ _ _ w0 _ HG.out hg0 HB.out HR2.out HC2.out HZ2.out hq1 (by omega)).mono ?_); rintro e w3 ⟨s2, rfl, hg2, hcn, hb, hk⟩; have HCN := Aside0.mk hcn; have n0_ : Aside0 (w3.heap[g]? = some (.cells #[.int .i64 s2] 79 (0, 0))) := ⟨hg2⟩; have n1_ := Aside0.mk hb; have n2_ := Aside0.mk (HK.out.trans hk (.inl rfl)); have mg3_ := Aside0.mk ((hk.2 g3 (blk_lt BXg3.out) NEg3.out (by simp)).trans BXg3.out); clear HG HB HK hb hk cg3_0 cg3_1 cg3_2 cg3_3 BXg3; have HG := n0_; have HB := n1_; have HK := n2_; have BXg3 := mg3_; clear n0_ n1_ n2_ mg3_; clear hg2 hcn)))
        have HQ2 : Aside0 (Cnt s s2 ((ls.map pS).sum + (lr.map pM).sum)) := ⟨(HQ.out.trans HCN.out).neg (by have := HCN.out.le; omega) _⟩
        clear HQ HCN hq1 hq2
        try clear hok
        obtain ⟨wp, hwp⟩ : ∃ x, x = w3 := ⟨_, rfl⟩; subst hwp
        have hq1 := HQ2.out.low
        go_loopw [6] (fun i wr => ∃ (q : Nat) (sq : Int), q ≤ lg.length ∧ i = .int .i64 q ∧ Aside0 (wr.heap[g]? = some (.cells #[.int .i64 sq] 79 (0, 0))) ∧ Aside0 (wr.heap[g3]? = some (.cells #[.int .i64 au, .slice A1 ls.length c1, .slice A2 lr.length c2, .slice A3 lg.length c3] 26 (0, 0))) ∧ Aside0 (Cnt s2 sq ((lg.take q).map pG).sum) ∧ Aside0 (Below w0.heap.size w0 wr) ∧ Aside0 (KeepBut w wr g none)) (fun i _ => lg.length - (intOf i).toNat)
        case atStart => exact ⟨0, s2, Nat.zero_le _, rfl, HG, BXg3, ⟨by simpa using Cnt.refl hq1⟩, HB, HK⟩
        case round =>
          clear HG HB HK BXg3
          obtain ⟨q, sq, hq, rfl, HG, BXg3, HP, HB, HK⟩ := hrel
          obtain ⟨wo2, hwo⟩ : ∃ x, x = wr := ⟨_, rfl⟩; subst hwo
          have hp1 := HP.out.low; have hp2 := HP.out.le; have hp3 := HQ2.out.le
          have cg3_0 : wo2.cell? ⟨g3, 0, none⟩ = _ := (blk_cell BXg3.out 0).trans rfl; have cg3_1 : wo2.cell? ⟨g3, 1, none⟩ = _ := (blk_cell BXg3.out 1).trans rfl; have cg3_2 : wo2.cell? ⟨g3, 2, none⟩ = _ := (blk_cell BXg3.out 2).trans rfl; have cg3_3 : wo2.cell? ⟨g3, 3, none⟩ = _ := (blk_cell BXg3.out 3).trans rfl
          by_cases hqt : q < lg.length
          · by_cases h0 : 0 ≤ sq
            · skip
              obtain ⟨ad, e_, r0, r1⟩ := at_T66 HR3.out (q : Int) (by omega) (by omega)
              subst e_
              obtain ⟨x, hx⟩ : ∃ z, z = rd_T66 lg q := ⟨_, rfl⟩
              rw [← hx, Int.toNat_natCast] at r0 r1
              have hx' := at_kc hqt hx; have HX := Aside0.mk hx'; have hzx := HZ3.out x (List.mem_of_getElem? hx'); clear hx hx'
              have F0 := Aside0.mk r0; clear r0
              have F1 := Aside0.mk r1; clear r1
              obtain ⟨t1, h1, hcn1⟩ := text_cnt sq x.f0 hp1 (by omega) hzx.1
              have hb1 := hcn1.low; have hb2 := hcn1.le
              obtain ⟨t2, h2, hcn2⟩ := text_cnt t1 x.f1 hb1 (by omega) hzx.2
              have H1 := Aside0.mk h1; have H2 := Aside0.mk h2; have CN1 := Aside0.mk hcn1; have CN2 := Aside0.mk hcn2; clear h1 h2 hcn1 hcn2 hzx; have hok : decide (sq ≥ 0) = true := decide_eq_true h0
              have f0 := pw_cell_below HB.out F0.out; have f1 := pw_cell_below HB.out F1.out
              go_wp2_with (first | (go_at_call 12; go_loud ((with_reducible refine (crierroom_Count_Ok.calls g _ _ _ w0 _ (mkI HG.out hg0) HB.out rfl).mono ?_); rintro e w3 ⟨rfl, hi, hb, hk⟩; have n0_ : Aside0 (w3.heap[g]? = some (.cells #[.int .i64 sq] 79 (0, 0))) := ⟨hi.1⟩; have n1_ := Aside0.mk hb; have n2_ := Aside0.mk (HK.out.trans hk (.inl rfl)); have mg3_ := Aside0.mk ((hk.2 g3 (blk_lt BXg3.out) NEg3.out (by simp)).trans BXg3.out); clear HG HB HK hb hk hi f0 f1 cg3_0 cg3_1 cg3_2 cg3_3 BXg3; have HG := n0_; have HB := n1_; have HK := n2_; have BXg3 := mg3_; clear n0_ n1_ n2_ mg3_; have f0 := pw_cell_below HB.out F0.out; have f1 := pw_cell_below HB.out F1.out; have cg3_0 : w3.cell? ⟨g3, 0, none⟩ = _ := (blk_cell BXg3.out 0).trans rfl; have cg3_1 : w3.cell? ⟨g3, 1, none⟩ = _ := (blk_cell BXg3.out 1).trans rfl; have cg3_2 : w3.cell? ⟨g3, 2, none⟩ = _ := (blk_cell BXg3.out 2).trans rfl; have cg3_3 : w3.cell? ⟨g3, 3, none⟩ = _ := (blk_cell BXg3.out 3).trans rfl; rw [hok])) | (go_at_call 41; ((with_reducible refine (crierroom_Count_Text.calls g sq _ t1 w0 _ (mkI HG.out hg0) HB.out H1.out).mono ?_); rintro e w3 ⟨rfl, hi, hb, hk⟩; have n0_ : Aside0 (w3.heap[g]? = some (.cells #[.int .i64 t1] 79 (0, 0))) := ⟨hi.1⟩; have n1_ := Aside0.mk hb; have n2_ := Aside0.mk (HK.out.trans hk (.inl rfl)); have mg3_ := Aside0.mk ((hk.2 g3 (blk_lt BXg3.out) NEg3.out (by simp)).trans BXg3.out); clear HG HB HK hb hk hi f0 f1 cg3_0 cg3_1 cg3_2 cg3_3 BXg3; have HG := n0_; have HB := n1_; have HK := n2_; have BXg3 := mg3_; clear n0_ n1_ n2_ mg3_; have f0 := pw_cell_below HB.out F0.out; have f1 := pw_cell_below HB.out F1.out; have cg3_0 : w3.cell? ⟨g3, 0, none⟩ = _ := (blk_cell BXg3.out 0).trans rfl; have cg3_1 : w3.cell? ⟨g3, 1, none⟩ = _ := (blk_cell BXg3.out 1).trans rfl; have cg3_2 : w3.cell? ⟨g3, 2, none⟩ = _ := (blk_cell BXg3.out 2).trans rfl; have cg3_3 : w3.cell? ⟨g3, 3, none⟩ = _ := (blk_cell BXg3.out 3).trans rfl)) | (go_at_call 41; go_loud ((with_reducible refine (crierroom_Count_Text.calls g t1 _ t2 w0 _ (mkI HG.out hg0) HB.out H2.out).mono ?_); rintro e w3 ⟨rfl, hi, hb, hk⟩; have n0_ : Aside0 (w3.heap[g]? = some (.cells #[.int .i64 t2] 79 (0, 0))) := ⟨hi.1⟩; have n1_ := Aside0.mk hb; have n2_ := Aside0.mk (HK.out.trans hk (.inl rfl)); have mg3_ := Aside0.mk ((hk.2 g3 (blk_lt BXg3.out) NEg3.out (by simp)).trans BXg3.out); clear HG HB HK hb hk hi f0 f1 cg3_0 cg3_1 cg3_2 cg3_3 BXg3; have HG := n0_; have HB := n1_; have HK := n2_; have BXg3 := mg3_; clear n0_ n1_ n2_ mg3_)))
              go_roundw
              case rel => exact ⟨q + 1, t2, by omega, by go_num, HG, BXg3, ⟨(HP.out.trans (CN1.out.trans CN2.out)).cast (by rw [sumt_succ pG lg q x HX.out]; unfold pG; omega)⟩, HB, HK⟩
              case measure => simp [intOf]; omega
            · have hok : decide (sq ≥ 0) = false := decide_eq_false h0
              go_wp2_with (first | (go_at_call 12; go_loud ((with_reducible refine (crierroom_Count_Ok.calls g _ _ _ w0 _ (mkI HG.out hg0) HB.out rfl).mono ?_); rintro e w3 ⟨rfl, hi, hb, hk⟩; have n0_ : Aside0 (w3.heap[g]? = some (.cells #[.int .i64 sq] 79 (0, 0))) := ⟨hi.1⟩; have n1_ := Aside0.mk hb; have n2_ := Aside0.mk (HK.out.trans hk (.inl rfl)); have mg3_ := Aside0.mk ((hk.2 g3 (blk_lt BXg3.out) NEg3.out (by simp)).trans BXg3.out); clear HG HB HK hb hk hi cg3_0 cg3_1 cg3_2 cg3_3 BXg3; have HG := n0_; have HB := n1_; have HK := n2_; have BXg3 := mg3_; clear n0_ n1_ n2_ mg3_; rw [hok])))
              first | go_end0 | ((try simp only [Exit.inBlock, Exit.then]); refine bodyPost_ret (results_none rfl _ _ _) rfl ?_)
              exact ⟨sq, rfl, HG.out, (HQ2.out.trans HP.out).neg (by omega) _, HB.out, HK.out⟩
          · obtain rfl : q = lg.length := by omega
            go_wp2
            first | go_end0 | ((try simp only [Exit.inBlock, Exit.then]); refine bodyPost_ret (results_none rfl _ _ _) rfl ?_)
            exact ⟨sq, rfl, HG.out, by have h := HP.out; rw [List.take_length] at h; exact HQ2.out.trans h, HB.out, HK.out⟩
    · obtain rfl : k = ls.length := by omega
      go_wp2_with (first | (go_at_call 45; go_loud ((with_reducible refine (Messages_calls_C g s' _ _ _ w0 _ HG.out hg0 HB.out HR2.out HC2.out HZ2.out hq1 (by omega)).mono ?_); rintro e w3 ⟨s2, rfl, hg2, hcn, hb, hk⟩; have HCN := Aside0.mk hcn; have n0_ : Aside0 (w3.heap[g]? = some (.cells #[.int .i64 s2] 79 (0, 0))) := ⟨hg2⟩; have n1_ := Aside0.mk hb; have n2_ := Aside0.mk (HK.out.trans hk (.inl rfl)); have mg3_ := Aside0.mk ((hk.2 g3 (blk_lt BXg3.out) NEg3.out (by simp)).trans BXg3.out); clear HG HB HK hb hk cg3_0 cg3_1 cg3_2 cg3_3 BXg3; have HG := n0_; have HB := n1_; have HK := n2_; have BXg3 := mg3_; clear n0_ n1_ n2_ mg3_; clear hg2 hcn)))
      have HQ2 : Aside0 (Cnt s s2 ((ls.map pS).sum + (lr.map pM).sum)) := ⟨by have h := HQ.out; rw [List.take_length] at h; exact h.trans HCN.out⟩
      clear HQ HCN hq1 hq2
      try clear hok
      obtain ⟨wp, hwp⟩ : ∃ x, x = w3 := ⟨_, rfl⟩; subst hwp
      have hq1 := HQ2.out.low
      go_loopw [6] (fun i wr => ∃ (q : Nat) (sq : Int), q ≤ lg.length ∧ i = .int .i64 q ∧ Aside0 (wr.heap[g]? = some (.cells #[.int .i64 sq] 79 (0, 0))) ∧ Aside0 (wr.heap[g3]? = some (.cells #[.int .i64 au, .slice A1 ls.length c1, .slice A2 lr.length c2, .slice A3 lg.length c3] 26 (0, 0))) ∧ Aside0 (Cnt s2 sq ((lg.take q).map pG).sum) ∧ Aside0 (Below w0.heap.size w0 wr) ∧ Aside0 (KeepBut w wr g none)) (fun i _ => lg.length - (intOf i).toNat)
      case atStart => exact ⟨0, s2, Nat.zero_le _, rfl, HG, BXg3, ⟨by simpa using Cnt.refl hq1⟩, HB, HK⟩
      case round =>
        clear HG HB HK BXg3
        obtain ⟨q, sq, hq, rfl, HG, BXg3, HP, HB, HK⟩ := hrel
        obtain ⟨wo2, hwo⟩ : ∃ x, x = wr := ⟨_, rfl⟩; subst hwo
        have hp1 := HP.out.low; have hp2 := HP.out.le; have hp3 := HQ2.out.le
        have cg3_0 : wo2.cell? ⟨g3, 0, none⟩ = _ := (blk_cell BXg3.out 0).trans rfl; have cg3_1 : wo2.cell? ⟨g3, 1, none⟩ = _ := (blk_cell BXg3.out 1).trans rfl; have cg3_2 : wo2.cell? ⟨g3, 2, none⟩ = _ := (blk_cell BXg3.out 2).trans rfl; have cg3_3 : wo2.cell? ⟨g3, 3, none⟩ = _ := (blk_cell BXg3.out 3).trans rfl
        by_cases hqt : q < lg.length
        · by_cases h0 : 0 ≤ sq
          · skip
            obtain ⟨ad, e_, r0, r1⟩ := at_T66 HR3.out (q : Int) (by omega) (by omega)
            subst e_
            obtain ⟨x, hx⟩ : ∃ z, z = rd_T66 lg q := ⟨_, rfl⟩
            rw [← hx, Int.toNat_natCast] at r0 r1
            have hx' := at_kc hqt hx; have HX := Aside0.mk hx'; have hzx := HZ3.out x (List.mem_of_getElem? hx'); clear hx hx'
            have F0 := Aside0.mk r0; clear r0
            have F1 := Aside0.mk r1; clear r1
            obtain ⟨t1, h1, hcn1⟩ := text_cnt sq x.f0 hp1 (by omega) hzx.1
            have hb1 := hcn1.low; have hb2 := hcn1.le
            obtain ⟨t2, h2, hcn2⟩ := text_cnt t1 x.f1 hb1 (by omega) hzx.2
            have H1 := Aside0.mk h1; have H2 := Aside0.mk h2; have CN1 := Aside0.mk hcn1; have CN2 := Aside0.mk hcn2; clear h1 h2 hcn1 hcn2 hzx; have hok : decide (sq ≥ 0) = true := decide_eq_true h0
            have f0 := pw_cell_below HB.out F0.out; have f1 := pw_cell_below HB.out F1.out
            go_wp2_with (first | (go_at_call 12; go_loud ((with_reducible refine (crierroom_Count_Ok.calls g _ _ _ w0 _ (mkI HG.out hg0) HB.out rfl).mono ?_); rintro e w3 ⟨rfl, hi, hb, hk⟩; have n0_ : Aside0 (w3.heap[g]? = some (.cells #[.int .i64 sq] 79 (0, 0))) := ⟨hi.1⟩; have n1_ := Aside0.mk hb; have n2_ := Aside0.mk (HK.out.trans hk (.inl rfl)); have mg3_ := Aside0.mk ((hk.2 g3 (blk_lt BXg3.out) NEg3.out (by simp)).trans BXg3.out); clear HG HB HK hb hk hi f0 f1 cg3_0 cg3_1 cg3_2 cg3_3 BXg3; have HG := n0_; have HB := n1_; have HK := n2_; have BXg3 := mg3_; clear n0_ n1_ n2_ mg3_; have f0 := pw_cell_below HB.out F0.out; have f1 := pw_cell_below HB.out F1.out; have cg3_0 : w3.cell? ⟨g3, 0, none⟩ = _ := (blk_cell BXg3.out 0).trans rfl; have cg3_1 : w3.cell? ⟨g3, 1, none⟩ = _ := (blk_cell BXg3.out 1).trans rfl; have cg3_2 : w3.cell? ⟨g3, 2, none⟩ = _ := (blk_cell BXg3.out 2).trans rfl; have cg3_3 : w3.cell? ⟨g3, 3, none⟩ = _ := (blk_cell BXg3.out 3).trans rfl; rw [hok])) | (go_at_call 41; ((with_reducible refine (crierroom_Count_Text.calls g sq _ t1 w0 _ (mkI HG.out hg0) HB.out H1.out).mono ?_); rintro e w3 ⟨rfl, hi, hb, hk⟩; have n0_ : Aside0 (w3.heap[g]? = some (.cells #[.int .i64 t1] 79 (0, 0))) := ⟨hi.1⟩; have n1_ := Aside0.mk hb; have n2_ := Aside0.mk (HK.out.trans hk (.inl rfl)); have mg3_ := Aside0.mk ((hk.2 g3 (blk_lt BXg3.out) NEg3.out (by simp)).trans BXg3.out); clear HG HB HK hb hk hi f0 f1 cg3_0 cg3_1 cg3_2 cg3_3 BXg3; have HG := n0_; have HB := n1_; have HK := n2_; have BXg3 := mg3_; clear n0_ n1_ n2_ mg3_; have f0 := pw_cell_below HB.out F0.out; have f1 := pw_cell_below HB.out F1.out; have cg3_0 : w3.cell? ⟨g3, 0, none⟩ = _ := (blk_cell BXg3.out 0).trans rfl; have cg3_1 : w3.cell? ⟨g3, 1, none⟩ = _ := (blk_cell BXg3.out 1).trans rfl; have cg3_2 : w3.cell? ⟨g3, 2, none⟩ = _ := (blk_cell BXg3.out 2).trans rfl; have cg3_3 : w3.cell? ⟨g3, 3, none⟩ = _ := (blk_cell BXg3.out 3).trans rfl)) | (go_at_call 41; go_loud ((with_reducible refine (crierroom_Count_Text.calls g t1 _ t2 w0 _ (mkI HG.out hg0) HB.out H2.out).mono ?_); rintro e w3 ⟨rfl, hi, hb, hk⟩; have n0_ : Aside0 (w3.heap[g]? = some (.cells #[.int .i64 t2] 79 (0, 0))) := ⟨hi.1⟩; have n1_ := Aside0.mk hb; have n2_ := Aside0.mk (HK.out.trans hk (.inl rfl)); have mg3_ := Aside0.mk ((hk.2 g3 (blk_lt BXg3.out) NEg3.out (by simp)).trans BXg3.out); clear HG HB HK hb hk hi f0 f1 cg3_0 cg3_1 cg3_2 cg3_3 BXg3; have HG := n0_; have HB := n1_; have HK := n2_; have BXg3 := mg3_; clear n0_ n1_ n2_ mg3_)))
            go_roundw
            case rel => exact ⟨q + 1, t2, by omega, by go_num, HG, BXg3, ⟨(HP.out.trans (CN1.out.trans CN2.out)).cast (by rw [sumt_succ pG lg q x HX.out]; unfold pG; omega)⟩, HB, HK⟩
            case measure => simp [intOf]; omega
          · have hok : decide (sq ≥ 0) = false := decide_eq_false h0
            go_wp2_with (first | (go_at_call 12; go_loud ((with_reducible refine (crierroom_Count_Ok.calls g _ _ _ w0 _ (mkI HG.out hg0) HB.out rfl).mono ?_); rintro e w3 ⟨rfl, hi, hb, hk⟩; have n0_ : Aside0 (w3.heap[g]? = some (.cells #[.int .i64 sq] 79 (0, 0))) := ⟨hi.1⟩; have n1_ := Aside0.mk hb; have n2_ := Aside0.mk (HK.out.trans hk (.inl rfl)); have mg3_ := Aside0.mk ((hk.2 g3 (blk_lt BXg3.out) NEg3.out (by simp)).trans BXg3.out); clear HG HB HK hb hk hi cg3_0 cg3_1 cg3_2 cg3_3 BXg3; have HG := n0_; have HB := n1_; have HK := n2_; have BXg3 := mg3_; clear n0_ n1_ n2_ mg3_; rw [hok])))
            first | go_end0 | ((try simp only [Exit.inBlock, Exit.then]); refine bodyPost_ret (results_none rfl _ _ _) rfl ?_)
            exact ⟨sq, rfl, HG.out, (HQ2.out.trans HP.out).neg (by omega) _, HB.out, HK.out⟩
        · obtain rfl : q = lg.length := by omega
          go_wp2
          first | go_end0 | ((try simp only [Exit.inBlock, Exit.then]); refine bodyPost_ret (results_none rfl _ _ _) rfl ?_)
          exact ⟨sq, rfl, HG.out, by have h := HP.out; rw [List.take_length] at h; exact HQ2.out.trans h, HB.out, HK.out⟩
theorem few_calls (au : Int) (ls : List S64) (lr : List S72) (lg : List S66) (A1 : Option Addr) (c1 : Nat) (A2 : Option Addr) (c2 : Nat) (A3 : Option Addr) (c3 : Nat) (w : World) (hr1 : k64.C w A1 ls.length ls) (hc1 : ls.length ≤ c1) (hr2 : k72.C w A2 lr.length lr) (hc2 : lr.length ≤ c2) (hr3 : k66.C w A3 lg.length lg) (hc3 : lg.length ≤ c3) (hz1 : ∀ y ∈ ls, zS y) (hz2 : ∀ y ∈ lr, zM y) (hz3 : ∀ y ∈ lg, zG y) :
    Calls Try.prog 4 #[.agg #[.int .i64 au, .slice A1 ls.length c1, .slice A2 lr.length c2, .slice A3 lg.length c3]] w fun e w' => ∃ b : Bool, e = .returned (.bool b) ∧ (b = true → (ls.map pS).sum + (lr.map pM).sum + (lg.map pG).sum ≤ 150000) ∧ Below w.heap.size w w' := by
  have HR1 := Aside0.mk hr1; have HC1 := Aside0.mk hc1; have HR2 := Aside0.mk hr2; have HC2 := Aside0.mk hc2; have HR3 := Aside0.mk hr3; have HC3 := Aside0.mk hc3; have HZ1 := Aside0.mk hz1; have HZ2 := Aside0.mk hz2; have HZ3 := Aside0.mk hz3; have HB := Aside0.mk (Below.refl w.heap.size w)
  clear hr1 hc1 hr2 hc2 hr3 hc3 hz1 hz2 hz3
  have hu := Try.underlying26
  go_enter Try.func4, Try.ntmps4
  go_wp2_with (first | ((with_reducible refine gate_dst (N := 1) rfl ?_); go_loud (refine box_event ?hg (N := 1) ?hd (cs := #[.int .i64 au, .slice A1 ls.length c1, .slice A2 lr.length c2, .slice A3 lg.length c3]) (t := 26) ?hr ?_; (case hd => rfl); (case hg => rfl); (case hr => first | (go_simp; done) | (go_simp; rfl)); intro gx hgx w2_ hbox hb; have BX := Aside0.mk hbox; have n1_ := Aside0.mk (below_step HB.out hb); clear HB hgx hbox hb; have HB := n1_; clear n1_)) | (go_at_call 10; go_loud ((with_reducible refine (crierroom_Many.calls 150000 _ w _ HB.out rfl).mono ?_); rintro e w3 ⟨g, rfl, hi, hb, hb2⟩; have HG : Aside0 (w3.heap[g]? = some (.cells #[.int .i64 150000] 79 (0, 0))) := ⟨hi.1⟩; have HG0 : Aside0 (w.heap.size ≤ g) := ⟨hi.2⟩; have n0_ := Aside0.mk (blk_below BX.out hb2); have n1_ := Aside0.mk hb; clear BX HB hi hb hb2; have BX := n0_; have HB := n1_; clear n0_ n1_)) | ((with_reducible refine gate_dst (N := 6) rfl ?_); go_loud (refine ev_load rfl 26 (.tmp 1) rfl gx 0 4 rfl 26 (0, 0) _ BX.out _ hu rfl ([.int .i64 au, .slice A1 ls.length c1, .slice A2 lr.length c2, .slice A3 lg.length c3]) rfl (by kernel_rfl) ?_)) | (go_at_call 11; go_loud ((with_reducible refine (Image_calls_C g 150000 au ls lr lg _ _ _ _ _ _ w _ HG.out HG0.out HB.out HR1.out HC1.out HR2.out HC2.out HR3.out HC3.out HZ1.out HZ2.out HZ3.out (by decide) (by decide)).mono ?_); rintro e w4 ⟨s, rfl, hg2, hcn, hb, hk⟩; have HCN := Aside0.mk hcn; have n0_ : Aside0 (w4.heap[g]? = some (.cells #[.int .i64 s] 79 (0, 0))) := ⟨hg2⟩; have n1_ := Aside0.mk hb; clear HG HB BX hg2 hcn hb hk; have HG := n0_; have HB := n1_; clear n0_ n1_)) | (go_at_call 12; go_loud ((with_reducible refine (crierroom_Count_Ok.calls g _ _ _ w _ (mkI HG.out HG0.out) HB.out rfl).mono ?_); rintro e w5 ⟨rfl, hi, hb, hk⟩; have n1_ := Aside0.mk hb; clear HB HG hi hb hk; have HB := n1_; clear n1_)))
  go_ret
  exact ⟨_, rfl, fun h => by have h2 := HCN.out.all (of_decide_eq_true h); have h3 := of_decide_eq_true h; omega, HB.out⟩
end Go.Proofs.Ythlhlgomnjeenab.Rm
