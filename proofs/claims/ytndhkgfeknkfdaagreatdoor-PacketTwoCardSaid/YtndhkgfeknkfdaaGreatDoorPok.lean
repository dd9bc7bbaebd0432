/- The lists that a Room lent: as Lnt; the Room behind writes into their places. -/
import Derived.Test.YtndhkgfeknkfdaaGreatDoorSp
import Derived.Test.YtndhkgfeknkfdaaGreatDoorLnw
namespace Go.Proofs.YtndhkgfeknkfdaaGreatDoor.Rm
open Go.RowKit Go.Proofs.YtndhkgfeknkfdaaGreatDoorW.PrintWords Go.Proofs.YtndhkgfeknkfdaaGreatDoorW.PrintLast Go.Proofs.YtndhkgfeknkfdaaGreatDoorW.PrintMore Go.Proofs.YtndhkgfeknkfdaaGreatDoor.MPacketChecks
set_option linter.unusedVariables false
set_option linter.unusedSimpArgs false
set_option maxHeartbeats 4000000
set_option maxRecDepth 100000
/-- block b's cells from place n on -/
def Tl (te sz b n : Nat) (tl : List Value) (W : World) : Prop := ∃ cur, W.heap[b]? = some (.cells cur te (0, 0)) ∧ cur.toList.drop (n * sz) = tl
theorem Lnt.tl {α : Type} {d : Kd α} {te t b n : Nat} {tl : List Value} {xs : List α} {L : Nat → Nat} {W : World} (h : Lnt d te t b n tl xs L W) : Tl te d.sz b n tl W := by
 obtain ⟨cur, a1, a2, a3, a4⟩ := h.ex
 exact ⟨cur, a1, a4⟩
/-- what reads as a list, in a block of its own -/
theorem lnt_of {α : Type} {d : Kd α} {te t b n : Nat} {tl : List Value} {xs : List α} {L : Nat → Nat} {W : World} (hC : d.C W (some ⟨b, 0, none⟩) n xs) (hT : Tl te d.sz b n tl W) (hL : L b = t) (hn : n ≤ 1073741824) : Lnt d te t b n tl xs L W := by
 obtain ⟨cur, hb, ht⟩ := hT
 have hlen : xs.length = n := hC.1
 have hcell : ∀ (j : Nat) (p : α), xs[j]? = some p → ∃ c, c.length = d.sz ∧ d.K W p c ∧ ∀ i u, c[i]? = some u → cur.toList[j * d.sz + i]? = some u := fun j p hj => by
  have hjl : j < xs.length := by
   rcases Nat.lt_or_ge j xs.length with h | h
   ·exact h
   ·rw [List.getElem?_eq_none h] at hj; cases hj
  obtain ⟨ad, e, hc⟩ := hC.2.2 (by omega)
  obtain rfl : (⟨b, 0, none⟩ : Addr) = ad := Option.some.inj e
  obtain ⟨c, h1, h2, h3⟩ := hc j p hj
  refine ⟨c, h1, h2, fun i u hu => ?_⟩
  have h4 := h3 i u hu
  rw [add_plain, blk_cell hb] at h4
  simpa using h4
 have hle : n * d.sz ≤ cur.size := by
  rcases Nat.eq_zero_or_pos n with h0 | h0
  ·rw [h0]; omega
  rcases Nat.eq_zero_or_pos d.sz with hz | hz
  ·rw [hz]; omega
  obtain ⟨p, hp⟩ : ∃ p, xs[n - 1]? = some p := ⟨_, List.getElem?_eq_getElem (by omega)⟩
  obtain ⟨c, h1, h2, h3⟩ := hcell _ p hp
  obtain ⟨u, hu⟩ : ∃ u, c[d.sz - 1]? = some u := ⟨_, List.getElem?_eq_getElem (by omega)⟩
  have h4 := h3 _ u hu
  have h5 : (n - 1) * d.sz + (d.sz - 1) < cur.toList.length := by
   rcases Nat.lt_or_ge ((n - 1) * d.sz + (d.sz - 1)) cur.toList.length with h | h
   ·exact h
   ·rw [List.getElem?_eq_none h] at h4; cases h4
  rw [Array.length_toList] at h5
  have h6 : n * d.sz = (n - 1) * d.sz + d.sz := by rw [← Nat.succ_mul, show (n - 1).succ = n by omega]
  omega
 refine ⟨hlen, ⟨cur, hb, hle, ⟨by rw [List.length_take, Array.length_toList, hlen]; omega, fun j p hj => ?_⟩, ht⟩, hL, hn⟩
 obtain ⟨c, h1, h2, h3⟩ := hcell j p hj
 have hjl : j < n := by
  rcases Nat.lt_or_ge j xs.length with h | h
  ·omega
  ·rw [List.getElem?_eq_none h] at hj; cases hj
 have h6 : (j + 1) * d.sz ≤ n * d.sz := Nat.mul_le_mul_right _ hjl
 rw [Nat.succ_mul] at h6
 have e : ((cur.toList.take (n * d.sz)).drop (j * d.sz)).take d.sz = c := by
  apply List.ext_getElem?
  intro i
  rw [List.getElem?_take]
  split
  ·rename_i hi
   rw [List.getElem?_drop, List.getElem?_take, if_pos (by omega)]
   rw [h3 i _ (List.getElem?_eq_getElem (by omega : i < c.length)), List.getElem?_eq_getElem]
  ·rename_i hi
   rw [List.getElem?_eq_none (by omega)]
 rw [e]
 exact h2
/-- what a Room says of a list that it lent -/
theorem At.lent {kinds : Nat → Kind} {ti tR : TypeId} {L : Nat → Nat} {base : Nat} {w : World} {g N : Nat} {cs : Array Value} {D : Nat → List (Value × Int)} (h : At kinds ti tR L base w g N cs D) {i b n room : Nat} (hi : i < 17) (hm : Mem D i b n room) : L b = 0 ∧ ∃ tl, Tl (kinds i).el (kinds i).sz b n tl w := by
 obtain ⟨c, hc⟩ := hm
 obtain ⟨V, U, _, _, h2⟩ := h.two i hi
 obtain ⟨j, hj⟩ := List.getElem?_of_mem hc
 obtain ⟨b', m', c', k', cur, e1, e2, e3, e4, e5, e6, e7, e8⟩ := h2.inn j _ hj
 injection e1 with e1 _ _
 injection e1 with e1
 injection e1 with e1
 subst e1
 exact ⟨e7, _, cur, e6, rfl⟩
/-- the Room behind writes into the first places of lists that it lent -/
theorem At.poke {kinds : Nat → Kind} {ti tR : TypeId} {L : Nat → Nat} {base : Nat} {w W : World} {g N : Nat} {cs : Array Value} {D : Nat → List (Value × Int)} (h : At kinds ti tR L base w g N cs D)
  (hK : ∀ i i', i < 17 → i' < 17 → (kinds i).on = true → (kinds i').on = true → (kinds i).el = (kinds i').el → i = i')
  (hs : w.heap.size ≤ W.heap.size) (hx : ∀ b, b < w.heap.size → Room (L b) → W.heap[b]? = w.heap[b]?)
  (hp : ∀ b, b < w.heap.size → L b = 0 → W.heap[b]? = w.heap[b]? ∨ ∃ i n room tl, i < 17 ∧ Mem D i b n room ∧ Tl (kinds i).el (kinds i).sz b n tl w ∧ Tl (kinds i).el (kinds i).sz b n tl W) : At kinds ti tR L base W g N cs D where
 blk := (hx g (blk_lt h.blk) (by rw [h.lab]; exact ⟨by decide, by decide⟩)).trans h.blk
 lab := h.lab
 ge := h.ge
 low := h.low
 size := h.size
 two := fun i hi => by
  obtain ⟨V, U, h1, h2, h3⟩ := h.two i hi
  refine ⟨V, U, h1, h2, ⟨h3.le, own_move h3.ov (fun b hb => hx b (own_lt h3.ov b hb) (by rw [h3.lv b hb]; exact ⟨by omega, by omega⟩)), h3.lv, own_move h3.ou (fun b hb => hx b (own_lt h3.ou b hb) (by rw [h3.lu b hb]; exact ⟨by omega, by omega⟩)), h3.lu, fun j p hj => ?_, h3.dis, h3.off⟩⟩
  obtain ⟨b, m, c, k, cur, e1, e2, e3, e4, e5, e6, e7, e8⟩ := h3.inn j p hj
  rcases hp b (blk_lt e6) e7 with hb | ⟨i', n, room, tl, hi', hm, ⟨c1, t1, t2⟩, ⟨c2, t3, t4⟩⟩
  ·refine ⟨b, m, c, k, cur, e1, e2, e3, e4, e5, hb.trans e6, e7, fun q hq => ?_⟩
   obtain ⟨ce, hce, hc⟩ := e8 q hq
   refine ⟨ce, hce, fun r u hu => ?_⟩
   rw [← hc r u hu]
   exact World.cell?_of_block (w := w) hb
  ·obtain ⟨c', hc'⟩ := hm
   rw [e6] at t1
   injection t1 with t1
   injection t1 with t1 t1'
   subst t1
   obtain ⟨V', U', _, _, h3'⟩ := h.two i' hi'
   have on1 : (kinds i).on = true := by
    cases ho : (kinds i).on with
    | true => rfl
    | false => rw [(h3.off ho).2] at hj; simp at hj
   have on2 : (kinds i').on = true := by
    cases ho : (kinds i').on with
    | true => rfl
    | false => rw [(h3'.off ho).2] at hc'; simp at hc'
   obtain rfl := hK i i' hi hi' on1 on2 t1'
   obtain ⟨j', hj'⟩ := List.getElem?_of_mem hc'
   obtain rfl := h3.dis j j' p _ b hj hj' (by rw [e1]; rfl) rfl
   rw [hj] at hj'
   injection hj' with hj'
   subst hj'
   obtain rfl : n = k := Int.ofNat.inj e2
   refine ⟨b, m, c, n, c2, e1, e2, e3, e4, e5, t3, e7, fun q hq => ?_⟩
   obtain ⟨ce, hce, hc⟩ := e8 q hq
   refine ⟨ce, hce, fun r u hu => ?_⟩
   have h9 := hc r u hu
   rw [blk_cell e6] at h9
   rw [blk_cell t3]
   have e9 : ∀ x : Nat, (c2.toList.drop (n * (kinds i).sz))[x]? = (cur.toList.drop (n * (kinds i).sz))[x]? := fun x => by rw [t4, t2]
   have e10 := e9 (q * (kinds i).sz + r)
   rw [List.getElem?_drop, List.getElem?_drop, ← Nat.add_assoc, ← Nat.add_mul, Array.getElem?_toList, Array.getElem?_toList] at e10
   rw [e10]
   exact h9
theorem kinds_inj : ∀ i i', i < 17 → i' < 17 → (kinds i).on = true → (kinds i').on = true → (kinds i).el = (kinds i').el → i = i' := by
 have h : ∀ i, i < 17 → ∀ i', i' < 17 → (kinds i).on = true → (kinds i').on = true → (kinds i).el = (kinds i').el → i = i' := by decide
 exact fun i i' hi hi' => h i hi i' hi'
end Go.Proofs.YtndhkgfeknkfdaaGreatDoor.Rm
