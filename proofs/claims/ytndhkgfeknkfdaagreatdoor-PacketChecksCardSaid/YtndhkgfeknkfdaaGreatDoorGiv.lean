import Derived.Test.YtndhkgfeknkfdaaGreatDoorProg
import Derived.Test.YtndhkgfeknkfdaaGreatDoorDec
import Derived.Below
import Derived.Deep.Draws
import Derived.Deep.AppendLies
import Derived.Maps.AppendAt
import Derived.OwnWalk
import Derived.Laws.BytesArg
import Derived.Laws.MakeOwn
import Derived.Laws.OwnMore
import Derived.Deep.OwnRows
import Derived.Tactics
import Derived.Lib.ConvBytes
import Derived.Laws.Slices
import Derived.WalkKit
import Derived.KernelRfl
import Derived.RowKit3
import Derived.Deep.LoopGhost
import Derived.Deep.QuietTactic
import Derived.BigQuiet
import Derived.WideLaws
import Derived.Deep.DeepCutAuto
import Derived.Deep.CutBlock
import Derived.Deep.RegionHeld3
import Derived.Laws.Rows
import Derived.Lib.AppendStr
import Derived.ArgAppend
import Derived.Laws.IdiomCopy
import Derived.OrdersHeld
import Derived.Laws.BitsLemmas
import Derived.RowKit
import Derived.Lib.OthersKept
import Derived.Test.YtndhkgfeknkfdaaGreatDoorWWords
import Derived.Test.YtndhkgfeknkfdaaGreatDoorWLast
import Derived.Test.YtndhkgfeknkfdaaGreatDoorWTab
import Derived.Laws.StructEq
import Derived.Test.YtndhkgfeknkfdaaGreatDoorWRepsOne
import Derived.Test.YtndhkgfeknkfdaaGreatDoorWGuard
import Derived.Test.YtndhkgfeknkfdaaGreatDoorWMore
namespace Go.Proofs.YtndhkgfeknkfdaaGreatDoor.Giv
open Go.RowKit Go.Proofs.YtndhkgfeknkfdaaGreatDoorW.PrintWords Go.Proofs.YtndhkgfeknkfdaaGreatDoorW.PrintLast Go.Proofs.YtndhkgfeknkfdaaGreatDoorW.PrintMore
attribute [local go_sem] max2_int min2_int max_two min_two max_three min_three max_four min_four
set_option linter.unusedVariables false
set_option linter.unusedSimpArgs false

theorem info9 : (Tryz.prog.info? 9).map (fun i => (i.zero, i.size, i.bytes)) = some (some (.string ⟨#[]⟩), 1, 16) := by kernel_rfl

/-! ### an iterator over a string among other blocks -/
theorem R_iterAt {α : Type} {d : Kd α} {e : Nat} {w : World} {base : Nat} {ok : Nat → Prop} {v : Value} {xs : List α} (h : d.R e w base ok v xs) {k : Nat} {s : ByteArray} {pos : Nat} (hk : w.heap[k]? = some (.stringIter s pos)) (p : Nat) :
    d.R e (w.iterAt k s p) base ok v xs := by
  refine Kd.R_mono (Kd.R_move (Kd.R_bound h) fun j hj => ?_) (fun _ hj => hj.1)
  refine Lib.iterAt_other w k j s p ?_
  rintro rfl
  obtain ⟨_, _, _, q, _, cells, hc⟩ := hj
  rw [hk] at hc
  cases hc
theorem iter_drewN {w : World} {k : Nat} {s : ByteArray} {pos : Nat} (hk : w.heap[k]? = some (.stringIter s pos)) (n : Nat) : (w.drewN n).heap[k]? = some (.stringIter s pos) := hk
theorem iter_grown {w w1 : World} {k : Nat} {s : ByteArray} {pos : Nat} (hk : w.heap[k]? = some (.stringIter s pos)) {α : Type} {d : Kd α} {e : Nat} {base : Nat} {ok : Nat → Prop} {v : Value} {xs : List α} (h : d.R e w base ok v xs) (hg : w.grownBy w1 v.ownBlock) :
    w1.heap[k]? = some (.stringIter s pos) := by
  have hlt : k < w.heap.size := (Array.getElem?_eq_some_iff.1 hk).1
  rw [hg.block k hlt ?_]
  · exact hk
  · intro he
    obtain ⟨inner, ho⟩ := Kd.R_own h
    obtain ⟨cells, hc⟩ := own_typed ho k he.symm
    rw [hk] at hc
    cases hc

/-! ### strings.HasPrefix (the two functions as print.sh tells them) -/
def stringslite_HasPrefix.f (a0 : ByteArray) (a1 : ByteArray) : Option (Bool) := if (a0.size : Int) ≥ (a1.size : Int) then (some ((a0.extract 0 ((a1.size : Int) : Int).toNat).toList == a1.toList)) else (some false)
set_option maxHeartbeats 8000000 in
set_option maxRecDepth 100000 in
theorem stringslite_HasPrefix.calls (a0 : ByteArray) (a1 : ByteArray) (r : Bool) (w : World) (h : stringslite_HasPrefix.f a0 a1 = some r) :
    Calls Tryz.prog 210 #[.string a0, .string a1] w fun e w' => e = .returned (.bool r) ∧ Drawn0 w w' := by
  have H : (if (a0.size : Int) ≥ (a1.size : Int) then (some ((a0.extract 0 ((a1.size : Int) : Int).toNat).toList == a1.toList)) else (some false)) = some r := h
  clear h
  by_cases c3 : (a0.size : Int) ≥ (a1.size : Int)
  · rw [if_pos c3] at H
    have c3b0 : decide ((a1.size : Int) ≤ (a0.size : Int)) = true := decide_eq_true c3
    have c3b1 : decide (a1.size ≤ a0.size) = true := decide_eq_true (Int.ofNat_le.mp c3)
    have c4b0 := eq_true (show 0 ≤ (a1.size : Int) by omega)
    have c5b0 := eq_true (show (a1.size : Int) ≤ (a0.size : Int) from c3)
    clear c3
    obtain rfl := Option.some.inj H
    go_enter Tryz.func210, Tryz.ntmps210
    go_wp2
    go_ret
    exact ⟨by first | rfl | (simp; done) | (simp [*]; done), by repeat (first | exact Drawn0.refl _ | apply Drawn0.step)⟩
  · rw [if_neg c3] at H
    have c3b0 : decide ((a1.size : Int) ≤ (a0.size : Int)) = false := decide_eq_false c3
    have c3b1 : decide (a1.size ≤ a0.size) = false := decide_eq_false (fun h => c3 (Int.ofNat_le.mpr h))
    clear c3
    obtain rfl := Option.some.inj H
    go_enter Tryz.func210, Tryz.ntmps210
    go_wp2
    go_ret
    exact ⟨by first | rfl | (simp; done) | (simp [*]; done), by repeat (first | exact Drawn0.refl _ | apply Drawn0.step)⟩
def strings_HasPrefix.f (a0 : ByteArray) (a1 : ByteArray) : Option (Bool) := stringslite_HasPrefix.f a0 a1
set_option maxHeartbeats 8000000 in
set_option maxRecDepth 100000 in
theorem strings_HasPrefix.calls (a0 : ByteArray) (a1 : ByteArray) (r : Bool) (w : World) (h : strings_HasPrefix.f a0 a1 = some r) :
    Calls Tryz.prog 203 #[.string a0, .string a1] w fun e w' => e = .returned (.bool r) ∧ Drawn0 w w' := by
  have A3 := Aside0.mk (show stringslite_HasPrefix.f a0 a1 = some r from h)
  clear h
  go_enter Tryz.func203, Tryz.ntmps203
  go_wp2_with (go_at_call 210; (with_reducible refine (stringslite_HasPrefix.calls a0 a1 r _ A3.out).mono ?_); rintro e w' ⟨rfl, ⟨nd, rfl⟩⟩)
  go_ret
  exact ⟨by first | rfl | (simp; done) | (simp [*]; done), by repeat (first | exact Drawn0.refl _ | apply Drawn0.step)⟩

/-! ### wire.Check -/
abbrev fffd : ByteArray := ⟨#[239, 191, 189]⟩
def hasFffd (s : ByteArray) (i : Nat) : Bool := if ((s.extract i s.size).size : Int) ≥ 3 then ((s.extract i s.size).extract 0 3).toList == fffd.toList else false
theorem hasFffd_f (s : ByteArray) (i : Nat) : strings_HasPrefix.f (s.extract i s.size) fffd = some (hasFffd s i) := by
  unfold strings_HasPrefix.f stringslite_HasPrefix.f hasFffd
  have : (fffd.size : Int) = 3 := by decide
  rw [this]
  split <;> rfl
def wcL (s : ByteArray) : Nat → Nat → Int × Int
  | 0, _ => (0, 0)
  | k + 1, i => if i < s.size then
      (if (Utf8.decode s i).1 = 0 then ((i : Int), 14)
      else if (Utf8.decode s i).1 = 65533 ∧ hasFffd s i = false then ((i : Int), 13)
      else wcL s k (i + (Utf8.decode s i).2)) else (0, 0)
def wire_Check.f (a0 : ByteArray) : Option (Int × Int) := some (if (a0.size : Int) > 65535 then (65535, 11) else wcL a0 (a0.size + 1) 0)
set_option maxHeartbeats 8000000 in
set_option maxRecDepth 100000 in
theorem wire_Check.calls (a0 : ByteArray) (r1 : Int) (r2 : Int) (w : World) (h : wire_Check.f a0 = some (r1, r2)) :
    Calls Tryz.prog 143 #[.string a0] w fun e w' => e = .returned (.tuple #[.int .i64 r1, .int .i64 r2]) ∧ Below w.heap.size w w' := by
  have H : (if (a0.size : Int) > 65535 then (65535, 11) else wcL a0 (a0.size + 1) 0) = (r1, r2) := Option.some.inj h
  clear h
  by_cases c : (a0.size : Int) > 65535
  · rw [if_pos c] at H
    have cb : decide (65535 < (a0.size : Int)) = true := decide_eq_true c
    have cb1 : decide (65535 < a0.size) = true := decide_eq_true (by omega)
    clear c
    simp only [Prod.mk.injEq] at H
    obtain ⟨rfl, rfl⟩ := H
    go_enter Tryz.func143, Tryz.ntmps143
    go_wp2
    go_ret2
    exact ⟨rfl, Below.refl _ _⟩
  · rw [if_neg c] at H
    have cb : decide (65535 < (a0.size : Int)) = false := decide_eq_false c
    have cb1 : decide (65535 < a0.size) = false := decide_eq_false (by omega)
    have hs : a0.size ≤ 65535 := by omega
    clear c
    have HA := Aside0.mk H
    clear H
    go_enter Tryz.func143, Tryz.ntmps143
    go_wp2
    go_loopg [2, 3, 4, 5] (a0.size + 1) (fun kq v2 v3 v4 v5 w' => ∃ i : Nat, i ≤ a0.size ∧ a0.size < i + kq ∧ v2 = .int .i64 0 ∧ v3 = .int .i64 0 ∧ Aside0 (wcL a0 kq i = (r1, r2)) ∧ Aside0 (w'.heap[w.heap.size]? = some (.stringIter a0 i)) ∧ Aside0 (Below w.heap.size w w'))
    case atStart => exact ⟨0, Nat.zero_le _, by omega, rfl, rfl, HA, ⟨World.iter_heap w a0 0⟩, ⟨(Below.refl _ _).alloc (Nat.le_refl _) _⟩⟩
    case round =>
      clear HA
      obtain ⟨i, hi, hk, rfl, rfl, HA, HI, HB⟩ := hrel
      cases gk with
      | zero => omega
      | succ k1 =>
        have H := HA.out
        clear HA
        simp only [wcL] at H
        by_cases hlt : i < a0.size
        · rw [if_pos hlt] at H
          have hnx := fun ty => Lib.run_next_any_at (P := Tryz.prog) wr w.heap.size a0 i ty HI.out hlt
          have hdl := Cr.decode_le' a0 i
          have hdw := Cr.decode_width a0 i hlt
          obtain ⟨c, hc⟩ : ∃ c, (Utf8.decode a0 i).1 = c := ⟨_, rfl⟩
          obtain ⟨n, hn⟩ : ∃ n, (Utf8.decode a0 i).2 = n := ⟨_, rfl⟩
          rw [hc] at H hdl
          rw [hn] at H hdw
          simp only [hc, hn] at hnx
          clear hc hn
          have hd1 := hdw.1
          have hd2 := hdw.2.1
          clear hdw
          have HI2 := Aside0.mk (Lib.iterAt_heap wr w.heap.size a0 i (i + n) HI.out)
          have HB2 := Aside0.mk (Lib.below_iterAt HB.out (Nat.le_refl _) a0 (i + n))
          clear HI HB
          by_cases h0 : c = 0
          · subst h0
            rw [if_pos rfl] at H
            simp only [Prod.mk.injEq] at H
            obtain ⟨rfl, rfl⟩ := H
            go_wp2
            go_ret2
            exact ⟨rfl, HB2.out⟩
          · rw [if_neg h0] at H
            have h0b : ((c : Int) == 0) = false := beq_eq_false_iff_ne.mpr (by omega)
            by_cases hf : c = 65533
            · subst hf
              by_cases hp : hasFffd a0 i = false
              · rw [if_pos ⟨rfl, hp⟩] at H
                simp only [Prod.mk.injEq] at H
                obtain ⟨rfl, rfl⟩ := H
                have A4 := Aside0.mk (by rw [← hp]; exact hasFffd_f a0 i : strings_HasPrefix.f (a0.extract i a0.size) fffd = some false)
                clear hp
                go_wp2_with (go_at_call 203; (with_reducible refine (strings_HasPrefix.calls _ _ _ _ A4.out).mono ?_); rintro e w' ⟨rfl, ⟨nd, rfl⟩⟩)
                go_ret2
                exact ⟨rfl, pw_below_drewN HB2.out _⟩
              · rw [if_neg (by rintro ⟨_, e⟩; exact hp e)] at H
                have HA := Aside0.mk H
                clear H
                have hp' : hasFffd a0 i = true := by simpa using hp
                have A4 := Aside0.mk (by rw [← hp']; exact hasFffd_f a0 i : strings_HasPrefix.f (a0.extract i a0.size) fffd = some true)
                clear hp hp'
                go_wp2_with (go_at_call 203; (with_reducible refine (strings_HasPrefix.calls _ _ _ _ A4.out).mono ?_); rintro e w' ⟨rfl, ⟨nd, rfl⟩⟩)
                go_roundg k1
                case measure => omega
                case rel => exact ⟨i + n, hd2, by omega, rfl, rfl, HA, ⟨iter_drewN HI2.out _⟩, ⟨pw_below_drewN HB2.out _⟩⟩
            · rw [if_neg (by rintro ⟨e, _⟩; exact hf e)] at H
              have HA := Aside0.mk H
              clear H
              have hfb : ((c : Int) == 65533) = false := beq_eq_false_iff_ne.mpr (by omega)
              go_wp2
              go_roundg k1
              case measure => omega
              case rel => exact ⟨i + n, hd2, by omega, rfl, rfl, HA, HI2, HB2⟩
        · rw [if_neg hlt] at H
          simp only [Prod.mk.injEq] at H
          obtain ⟨rfl, rfl⟩ := H
          have hnx := fun ty => Lib.run_next_end_at (P := Tryz.prog) wr w.heap.size a0 i ty HI.out hlt
          go_wp2
          go_ret2
          exact ⟨rfl, HB.out⟩

/-! ### topic.Levels -/
def ofT (x : Cr.T) : ByteArray := ⟨x.toArray⟩
theorem ofT_bl (s : ByteArray) : ofT (Cr.bl s) = s := by cases s; rfl
theorem bl_inj {a b : ByteArray} (h : Cr.bl a = Cr.bl b) : a = b := by rw [← ofT_bl a, h, ofT_bl]
def levelsB (s : ByteArray) : List ByteArray := (Cr.levels (Cr.bl s)).map ofT
def topic_Levels.f (a0 : ByteArray) : Option (List ByteArray) := if a0.size ≤ 4294967280 then some (levelsB a0) else none

/-- how far the levels have come: out is done, from is where the next one begins -/
def Lev (s : ByteArray) (i frm : Nat) (out : List ByteArray) : Prop := frm ≤ i ∧ i ≤ s.size ∧ out.length ≤ i ∧ Cr.levels ((Cr.bl s).take i) = out.map Cr.bl ++ [((Cr.bl s).take i).drop frm]
theorem Lev.zero (s : ByteArray) : Lev s 0 0 [] := ⟨Nat.le_refl _, Nat.zero_le _, Nat.le_refl _, rfl⟩
theorem bl_extract (s : ByteArray) (a b : Nat) : Cr.bl (s.extract a b) = ((Cr.bl s).take b).drop a := by
  simp [Cr.bl, List.extract_eq_take_drop, List.drop_take]
theorem Lev.slash {s : ByteArray} {i frm : Nat} {out : List ByteArray} (h : Lev s i frm out) (hi : i < s.size) (hc : s.get! i = 47) : Lev s (i + 1) (i + 1) (out ++ [s.extract frm i]) := by
  obtain ⟨h1, h2, h3, h4⟩ := h
  refine ⟨Nat.le_refl _, hi, by simp; omega, ?_⟩
  have hl : i < (Cr.bl s).length := by rw [Cr.bl_len]; exact hi
  have ht : (Cr.bl s).take (i + 1) = (Cr.bl s).take i ++ [47] := by
    rw [List.take_succ_eq_append_getElem hl, ← Cr.get_bl s i hi, hc]
  rw [ht, Cr.levels_snoc47, h4, List.map_append, List.map_cons, List.map_nil, bl_extract]
  have : ((Cr.bl s).take i ++ [47]).drop (i + 1) = [] := by simp; omega
  rw [this]
theorem Lev.on {s : ByteArray} {i frm n : Nat} {out : List ByteArray} (h : Lev s i frm out) (hn : 1 ≤ n) (hi : i + n ≤ s.size) (hc : ∀ j, i ≤ j → j < i + n → s.get! j ≠ 47) : Lev s (i + n) frm out := by
  obtain ⟨h1, h2, h3, h4⟩ := h
  refine ⟨by omega, hi, by omega, ?_⟩
  have ht : (Cr.bl s).take (i + n) = (Cr.bl s).take i ++ ((Cr.bl s).drop i).take n := by rw [List.take_add]
  rw [ht, Cr.levels_app _ _ _ _ h4 ?_]
  · rw [List.drop_append_of_le_length (by rw [List.length_take, Cr.bl_len]; omega)]
  · intro c hcm
    obtain ⟨j, hj, rfl⟩ := List.mem_iff_getElem.1 hcm
    have hj2 : j < n ∧ i + j < s.size := by rw [List.length_take, List.length_drop, Cr.bl_len] at hj; omega
    have := hc (i + j) (by omega) (by omega)
    rw [Cr.get_bl s (i + j) hj2.2] at this
    simpa using this
theorem Lev.fin {s : ByteArray} {frm : Nat} {out : List ByteArray} (h : Lev s s.size frm out) : levelsB s = out ++ [s.extract frm s.size] := by
  obtain ⟨h1, h2, h3, h4⟩ := h
  have ht : (Cr.bl s).take s.size = Cr.bl s := List.take_of_length_le (by rw [Cr.bl_len]; exact Nat.le_refl _)
  rw [ht] at h4
  unfold levelsB
  rw [h4, List.map_append, List.map_map]
  have e : out.map (ofT ∘ Cr.bl) = out := by
    conv => rhs; rw [← List.map_id out]
    exact List.map_congr_left fun x _ => ofT_bl x
  rw [e, List.map_cons, List.map_nil]
  congr 2
  rw [← ofT_bl (s.extract frm s.size), bl_extract, ht]

set_option maxHeartbeats 8000000 in
set_option maxRecDepth 100000 in
theorem topic_Levels.calls (a0 : ByteArray) (r : List ByteArray) (w : World) (h : topic_Levels.f a0 = some r) :
    Calls Tryz.prog 205 #[.string a0] w fun e w' => ∃ v0_ : Value, e = .returned (v0_) ∧ Kd.R Kd.string 9 w' w.heap.size (fun _ => True) v0_ r ∧ Below w.heap.size w w' := by
  have hsz : a0.size ≤ 4294967280 := by
    unfold topic_Levels.f at h
    split at h
    · assumption
    · cases h
  have HR := Aside0.mk (by unfold topic_Levels.f at h; rw [if_pos hsz] at h; exact Option.some.inj h : levelsB a0 = r)
  clear h
  go_enter Tryz.func205, Tryz.ntmps205
  go_wp2
  go_loopg [3, 4, 5, 6] (a0.size + 1) (fun kq v3 v4 v5 v6 w' => ∃ (i frm : Nat) (out : List ByteArray), i ≤ a0.size ∧ frm ≤ i ∧ a0.size < i + kq ∧ v4 = .int .i64 frm ∧ Aside0 (Lev a0 i frm out) ∧ Aside0 (Kd.R Kd.string 9 w' w.heap.size (fun _ => True) v3 out) ∧ Aside0 (w'.heap[w.heap.size]? = some (.stringIter a0 i)) ∧ Aside0 (Below w.heap.size w w'))
  case atStart => exact ⟨0, 0, [], Nat.zero_le _, Nat.le_refl _, by omega, rfl, ⟨Lev.zero a0⟩, ⟨Kd.R_nil _ _ _ _ _⟩, ⟨World.iter_heap w a0 0⟩, ⟨(Below.refl _ _).alloc (Nat.le_refl _) _⟩⟩
  case round =>
    obtain ⟨i, frm, out, hi, hfi, hk, rfl, HL, HO, HI, HB⟩ := hrel
    cases gk with
    | zero => omega
    | succ k1 =>
      by_cases hlt : i < a0.size
      · have hnx := fun ty => Lib.run_next_any_at (P := Tryz.prog) wr w.heap.size a0 i ty HI.out hlt
        have hdl := Cr.decode_le' a0 i
        have hdw := Cr.decode_width a0 i hlt
        have hds := Cr.decode_small a0 i hlt
        obtain ⟨c, hc⟩ : ∃ c, (Utf8.decode a0 i).1 = c := ⟨_, rfl⟩
        obtain ⟨n, hn⟩ : ∃ n, (Utf8.decode a0 i).2 = n := ⟨_, rfl⟩
        have hcn : Utf8.decode a0 i = (c, n) := by rw [← hc, ← hn]
        rw [hcn] at hds hdw hdl
        simp only [hcn] at hnx
        clear hc hn hcn
        have hd1 := hdw.1
        have hd2 := hdw.2.1
        have HD3 := Aside0.mk hdw.2.2
        have HDS := Aside0.mk hds
        simp only [] at hd1 hd2
        clear hdw hds
        have HI2 := Aside0.mk (Lib.iterAt_heap wr w.heap.size a0 i (i + n) HI.out)
        have HB2 := Aside0.mk (Lib.below_iterAt HB.out (Nat.le_refl _) a0 (i + n))
        have HO2 := Aside0.mk (R_iterAt HO.out HI.out (i + n))
        clear HI HB HO
        by_cases h47 : c = 47
        · subst h47
          have hg : a0.get! i = 47 ∧ n = 1 := by
            rcases HDS.out with ⟨_, e2⟩ | ⟨_, e1⟩
            · simp only [Prod.mk.injEq] at e2
              exact ⟨UInt8.toNat_inj.1 e2.1.symm, e2.2⟩
            · simp at e1
          have hn1 := hg.2
          subst hn1
          have HL2 := Aside0.mk (HL.out.slash hlt hg.1)
          clear HDS HD3 hg
          go_wp2_with ((with_reducible refine gate_builtin (b := .append) (xs := #[.tmp 15, .tmp 20]) rfl ?_); at_builtin; refine Kd.R_append Kd.string (w0 := w) w.heap.size rfl (.tmp 15) (.tmp 20) 27 9 (.string ⟨#[]⟩) 16 rfl Tryz.underlying27 info9 rfl (by decide) (by omega) u3 out (a0.extract frm i) [.string (a0.extract frm i)] (fun _ => True) (fun _ => False) rfl rfl ?aP (fun _ hk => hk.elim) ?aF ?aO ?aB ?aS ?aL ?_; (case aP => exact rfl); (case aB => exact pw_below_drewN (HB2.out) 0); (case aF => exact (fun _ _ => trivial)); (case aO => exact HO2.out); (case aS => exact below_size HB2.out); (case aL => have := HL.out.2.2.1; omega); intro v1 w1 ho hb hg hat)
          have HI3 := Aside0.mk (iter_grown HI2.out HO2.out hg)
          have HB3 := Aside0.mk hb
          have HO3 := Aside0.mk ho
          clear hg hb ho hat HI2 HO2 HB2 HL hnx hdl
          go_roundg k1
          case measure => omega
          case rel => exact ⟨i + 1, i + 1, _, hd2, Nat.le_refl _, by omega, by simp, HL2, HO3, HI3, HB3⟩
        · have h47b : ((c : Int) == 47) = false := beq_eq_false_iff_ne.mpr (by omega)
          have HL2 := Aside0.mk (HL.out.on hd1 hd2 (by
            intro j h1 h2
            by_cases hj : j = i
            · subst hj
              intro e
              rcases HDS.out with ⟨_, e2⟩ | ⟨e1, _⟩
              · rw [e] at e2; simp at e2; exact h47 e2.1
              · rw [e] at e1; simp at e1
            · intro e
              have := HD3.out j (by omega) h2
              rw [e] at this; simp at this))
          clear HL HDS HD3
          go_wp2
          go_roundg k1
          case measure => omega
          case rel => exact ⟨i + n, frm, out, hd2, by omega, by omega, rfl, HL2, HO2, HI2, HB2⟩
      · obtain rfl : i = a0.size := by omega
        have hnx := fun ty => Lib.run_next_end_at (P := Tryz.prog) wr w.heap.size a0 a0.size ty HI.out hlt
        have hf := HL.out.fin
        rw [HR.out] at hf
        have HF := Aside0.mk hf
        clear hf HR
        go_wp2_with ((with_reducible refine gate_builtin (b := .append) (xs := #[.tmp 24, .tmp 28]) rfl ?_); at_builtin; refine Kd.R_append Kd.string (w0 := w) w.heap.size rfl (.tmp 24) (.tmp 28) 27 9 (.string ⟨#[]⟩) 16 rfl Tryz.underlying27 info9 rfl (by decide) (by omega) u3 out (a0.extract frm a0.size) [.string (a0.extract frm a0.size)] (fun _ => True) (fun _ => False) rfl rfl ?aP (fun _ hk => hk.elim) ?aF ?aO ?aB ?aS ?aL ?_; (case aP => exact rfl); (case aB => exact HB.out); (case aF => exact (fun _ _ => trivial)); (case aO => exact HO.out); (case aS => exact below_size HB.out); (case aL => have := HL.out.2.2.1; omega); intro v1 w1 ho hb hg hat)
        rw [← HF.out] at ho
        go_ret
        exact ⟨_, rfl, ho, hb⟩
end Go.Proofs.YtndhkgfeknkfdaaGreatDoor.Giv
