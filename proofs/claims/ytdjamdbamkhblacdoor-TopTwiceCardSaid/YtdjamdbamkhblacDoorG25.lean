/- The walks of the reader's take and number: what they return, and what is left. No condition. Decoding, step by step: how what is left of the bytes makes up the whole. No condition. -/
import Derived.Test.YtdjamdbamkhblacDoorG07
import Derived.Test.YtdjamdbamkhblacDoorG17
import Derived.Test.YtdjamdbamkhblacDoorG03
namespace Go.Proofs.YtdjamdbamkhblacDoor
open Go.RowKit
set_option linter.unusedVariables false
set_option linter.unusedSimpArgs false
def takeS (n : Nat) : Option (List UInt8) → List UInt8 × Option (List UInt8)
 | none => ([], none)
 | some r => if n ≤ r.length then (r.take n, some (r.drop n)) else ([], none)
def numB : List UInt8 → Nat → Nat
 | [], x => x
 | c :: r, x => numB r (256 * x + c.toNat)
def numS (n : Nat) (st : Option (List UInt8)) : Nat × Option (List UInt8) := (numB (takeS n st).1 0, (takeS n st).2)
def RdrAt (w : World) (g : Nat) : Option (List UInt8) → Prop
 | some r => Blk w g 191 #[.string (ba r), .int .i64 0] ∧ r.length ≤ 4000
 | none => ∃ s : ByteArray, Blk w g 191 #[.string s, .int .i64 5]
theorem ba_size (r : List UInt8) : (ba r).size = r.length := rfl
theorem RdrAt.lt {w : World} {g : Nat} {st : Option (List UInt8)} (h : RdrAt w g st) : g < w.heap.size := by
 cases st with
 | none => obtain ⟨s, h⟩ := h; exact h.lt
 | some r => exact h.1.lt
theorem ba_extract (r : List UInt8) (a b : Nat) : (ba r).extract a b = ba ((r.drop a).take (b - a)) := by
 apply ByteArray.ext
 simp [ba, List.extract_eq_take_drop]
theorem ba_take (r : List UInt8) (n : Nat) : (ba r).extract 0 n = ba (r.take n) := by rw [ba_extract]; simp
theorem ba_drop (r : List UInt8) (n : Nat) : (ba r).extract n r.length = ba (r.drop n) := by rw [ba_extract, List.take_of_length_le (by simp)]
theorem grown_of_below {w w' : World} {row : Option Nat} (h : Below w.heap.size w w') : w.grownBy w' row := ⟨h.os, h.tape, h.output, h.size, fun k hk _ => h.block k hk⟩
theorem RdrAt.below {w w' : World} {B g : Nat} {st : Option (List UInt8)} (h : RdrAt w g st) (hb : Below B w w') (hg : g < B) : RdrAt w' g st := by
 cases st with
 | none => obtain ⟨s, h⟩ := h; exact ⟨s, h.below hb hg⟩
 | some r => exact ⟨h.1.below hb hg, h.2⟩
theorem RdrAt.grown {w w' : World} {row : Option Nat} {g : Nat} {st : Option (List UInt8)} (h : RdrAt w g st) (hb : w.grownBy w' row) (hg : some g ≠ row) : RdrAt w' g st := by
 cases st with
 | none => obtain ⟨s, h⟩ := h; exact ⟨s, h.grown hb hg⟩
 | some r => exact ⟨h.1.grown hb hg, h.2⟩
set_option maxHeartbeats 1000000 in
theorem take_any (g n : Nat) (st : Option (List UInt8)) (w : World) (hn : n ≤ 255) (h : RdrAt w g st) :
  Calls Tryd.prog 137 #[.pointer (some ⟨g, 0, none⟩), .int .i64 (n : Int)] w fun e w' => e = .returned (.string (ba (takeS n st).1)) ∧ RdrAt w' g (takeS n st).2 ∧ w.grownBy w' (some g) := by
 cases st with
 | none =>
   obtain ⟨s, hB⟩ := h
   have c0 := hB.cell 0
   have c1 := hB.cell 1
   simp at c0 c1
   go_enter Tryd.func137, Tryd.ntmps137
   go_wp2
   go_ret
   exact ⟨rfl, ⟨s, hB⟩, World.grownBy.refl w _⟩
 | some r =>
   obtain ⟨hB, hl⟩ := h
   have c0 := hB.cell 0
   have c1 := hB.cell 1
   have f0 := hB.frozen 0
   have f1 := hB.frozen 1
   have hs := ba_size r
   simp at c0 c1
   have HB := Lib.hid hB
   clear hB
   by_cases hle : n ≤ r.length
   ·have hle' : (n : Int) ≤ (r.length : Int) := by omega
    go_enter Tryd.func137, Tryd.ntmps137
    go_wp2
    go_ret
    have hb := HB.out.set_ 0 (.string (ba (r.drop n)))
    rw [ba_take, ba_drop, takeS, if_pos hle]
    exact ⟨rfl, ⟨hb, by rw [List.length_drop]; omega⟩, set_grown w ⟨g, 0, none⟩ _⟩
   ·have hle' : (r.length : Int) < (n : Int) := by omega
    go_enter Tryd.func137, Tryd.ntmps137
    go_wp2
    go_ret
    have hb := HB.out.set_ 1 (.int .i64 5)
    rw [takeS, if_neg hle]
    exact ⟨rfl, ⟨_, hb⟩, set_grown w ⟨g, 1, none⟩ _⟩
theorem numB_le : ∀ (l : List UInt8), l.length ≤ 2 → numB l 0 ≤ 65535 ∧ (l.length ≤ 1 → numB l 0 ≤ 255)
 | [], _ => by simp [numB]
 | [a], _ => by have := a.toNat_lt; simp [numB]; omega
 | [a, b], _ => by have := a.toNat_lt; have := b.toNat_lt; simp [numB]; omega
 | a :: b :: c :: r, h => by simp at h
theorem takeS_len (n : Nat) (st : Option (List UInt8)) : (takeS n st).1.length ≤ n := by
 unfold takeS
 split
 ·simp
 ·split
  ·simp; omega
  ·simp
theorem numS_le (n : Nat) (st : Option (List UInt8)) (h : n ≤ 2) : (numS n st).1 ≤ 65535 ∧ (n ≤ 1 → (numS n st).1 ≤ 255) := by
 have h1 := takeS_len n st
 have h2 := numB_le (takeS n st).1 (by omega)
 exact ⟨h2.1, fun hn => h2.2 (by omega)⟩
theorem numB_drop {l : List UInt8} {k : Nat} (h : k < l.length) (x : Nat) : numB (l.drop k) x = numB (l.drop (k + 1)) (256 * x + l[k].toNat) := by
 rw [List.drop_eq_getElem_cons h]; rfl
theorem or_byte (x c : Nat) (hx : x ≤ 255) (hc : c ≤ 255) : bits BinOp.or IntKind.i64 (256 * (x : Int)) (c : Int) = 256 * (x : Int) + (c : Int) := by
 have h := i64_or_word (256 * x) c (by omega) (by omega)
 rw [show ((256 * x : Nat) : Int) = 256 * (x : Int) by omega] at h
 rw [h]
 have e : 2 ^ 8 * x + c = 2 ^ 8 * x ||| c := Nat.two_pow_add_eq_or_of_lt (by omega) x
 rw [show 256 * x ||| c = 256 * x + c from e.symm]
 omega
set_option maxRecDepth 100000 in
set_option maxHeartbeats 1000000 in
theorem number_any (g n : Nat) (st : Option (List UInt8)) (w : World) (hn : n ≤ 2) (h : RdrAt w g st) :
  Calls Tryd.prog 138 #[.pointer (some ⟨g, 0, none⟩), .int .i64 (n : Int)] w fun e w' => e = .returned (.int .i64 ((numS n st).1 : Nat)) ∧ RdrAt w' g (numS n st).2 ∧ w.grownBy w' (some g) := by
 obtain ⟨l, hl⟩ : ∃ l, l = (takeS n st).1 := ⟨_, rfl⟩
 have hlen : l.length ≤ 2 := by have := takeS_len n st; rw [hl]; omega
 have HNS : Hid ((numS n st).1 = numB (l.drop 0) 0 ∧ (numS n st).2 = (takeS n st).2) := by rw [hl]; exact ⟨rfl, rfl⟩
 have HT := Lib.hid (take_any g n st w (by omega) h)
 rw [← hl] at HT
 have hgl := h.lt
 clear hl
 go_enter Tryd.func138, Tryd.ntmps138
 go_wp2_with fail
 refine HT.out.mono ?_
 rintro e w1 ⟨rfl, hR, hg⟩
 obtain ⟨cap, w2, hcv, hb2, hr2⟩ := conv_bytes w1 (ba l)
 rw [show (ba l).data.toList = l from rfl] at hcv hr2
 have HR := Lib.hid hR
 have HG := Lib.hid hg
 have HB2 := Lib.hid hb2
 clear hR hg hb2
 go_wp2
 have hl9 : (l.length : Int) ≤ 2 := by omega
 go_loop [5, 13] (fun x i => Cnt l.length i fun k => ∃ q : Nat, x = .int .i64 (q : Int) ∧ q ≤ 65535 ∧ (k = 0 → q = 0) ∧ (k ≤ 1 → q ≤ 255) ∧ Hid (numB (l.drop 0) 0 = numB (l.drop k) q)) (fun _ i => l.length - (intOf i).toNat)
 case atStart => exact ⟨0, Nat.zero_le _, rfl, 0, rfl, by omega, fun _ => rfl, fun _ => by omega, rfl⟩
 case round =>
  obtain ⟨k, hk, rfl, q, rfl, hq, hq0, hq1, HV⟩ := hrel
  by_cases hlt : k < l.length
  ·obtain ⟨b, o, e, hbB, hcell⟩ := hr2 (by omega)
   injection e with e
   injection e with e1 e2
   subst e1 e2
   have c0 := hcell k hlt
   rw [Nat.zero_add] at c0
   have hq2 : q ≤ 255 := hq1 (by omega)
   have hx := l[k].toNat_lt
   have hor := or_byte q l[k].toNat hq2 (by omega)
   have HD : Hid (numB (l.drop k) q = numB (l.drop (k + 1)) (256 * q + l[k].toNat)) := numB_drop hlt q
   have hkq : k = 0 → q = 0 := hq0
   have hwr : IntKind.i64.wrap ((q : Int) * 256) = 256 * (q : Int) := by rw [Go.IntWalk.i64_in _ (by omega)]; omega
   have H1 := Lib.hid hkq
   obtain ⟨z, hz⟩ : ∃ z, z = l[k].toNat := ⟨_, rfl⟩
   rw [← hz] at c0 hx hor HD
   clear hcell hr2 hq0 hq1 hkq hz
   go_wp2
   refine ⟨⟨k + 1, by omega, by go_num, 256 * q + z, congrArg (Value.int .i64) (by omega), by omega, fun h => by omega, fun h => ?_, ?_⟩, by simp [intOf]; omega⟩
   ·have := H1.out (by omega); omega
   ·show _ = _
    rw [HV.out, HD.out]
  ·have hk1 : k = l.length := by omega
   subst hk1
   go_wp2
   go_ret
   have hg1 : w1.grownBy w2 (some g) := grown_of_below HB2.out
   refine ⟨ret_int ?_, ?_, HG.out.trans hg1⟩
   ·rw [HNS.out.1, HV.out, List.drop_length]; rfl
   ·rw [HNS.out.2]
    exact HR.out.below HB2.out (Nat.lt_of_lt_of_le hgl (by have := HG.out.size; omega))
end Go.Proofs.YtdjamdbamkhblacDoor
namespace Go.Proofs.YtdjamdbamkhblacDoor
open Go.RowKit
def goI (st : Option (List UInt8)) (k : Nat) : Option (List Ins × List UInt8) := st.bind (getI k)
def goW (st : Option (List UInt8)) (k : Nat) : Option (List Int × List UInt8) := st.bind (getW k)
def stI (st : Option (List UInt8)) : Option (List UInt8) := (numS 2 (numS 1 (numS 1 st).2).2).2
def insS (st : Option (List UInt8)) : Ins := ⟨((numS 1 st).1 : Nat), ((numS 1 (numS 1 st).2).1 / 16 : Nat), ((numS 1 (numS 1 st).2).1 % 16 : Nat), ((numS 2 (numS 1 (numS 1 st).2).2).1 : Nat)⟩
theorem numS1_nil : numS 1 (some []) = (0, none) := rfl
theorem numS1_cons (c : UInt8) (r : List UInt8) : numS 1 (some (c :: r)) = (c.toNat, some r) := by
 simp [numS, takeS, numB]
theorem numS2_cons (c d : UInt8) (r : List UInt8) : numS 2 (some (c :: d :: r)) = (256 * c.toNat + d.toNat, some r) := by
 simp [numS, takeS, numB]
theorem goI_step (r : List UInt8) (j : Nat) (x : Ins) (hx : stI (some r) ≠ none → x = insS (some r)) : goI (some r) (j + 1) = (goI (stI (some r)) j).map fun y => (x :: y.1, y.2) := by
 match r, hx with
 | [], _ => rfl
 | [a], _ => rfl
 | [a, b], _ => rfl
 | [a, b, c], _ => rfl
 | a :: b :: c :: d :: r, hx =>
   have e : stI (some (a :: b :: c :: d :: r)) = some r := by simp only [stI, numS1_cons, numS2_cons]
   have hx' := hx (by rw [e]; simp)
   rw [e, hx']
   simp only [insS, numS1_cons, numS2_cons]
   rfl
theorem goI_zero (st : Option (List UInt8)) : goI st 0 = st.map fun r => ([], r) := by cases st <;> rfl
theorem goW_step (r : List UInt8) (j : Nat) (x : Int) (hx : (numS 2 (some r)).2 ≠ none → x = ((numS 2 (some r)).1 : Nat)) : goW (some r) (j + 1) = (goW (numS 2 (some r)).2 j).map fun y => (x :: y.1, y.2) := by
 match r, hx with
 | [], _ => rfl
 | [a], _ => rfl
 | a :: b :: r, hx =>
   have hx' := hx (by rw [numS2_cons]; simp)
   rw [hx', numS2_cons]
   rfl
theorem goW_zero (st : Option (List UInt8)) : goW st 0 = st.map fun r => ([], r) := by cases st <;> rfl
theorem go_next {α : Type} {g : Option (List α × List UInt8)} {st st' : Option (List UInt8)} {L : List α} {x : α} {f : Option (List UInt8) → Nat → Option (List α × List UInt8)} {k j : Nat}
  (h : g = (f st (j - k)).map fun y => (L ++ y.1, y.2)) (hk : k < j) (hs : f st (j - k - 1 + 1) = (f st' (j - k - 1)).map fun y => (x :: y.1, y.2)) : g = (f st' (j - (k + 1))).map fun y => ((L ++ [x]) ++ y.1, y.2) := by
 rw [h, show j - k = j - k - 1 + 1 by omega, hs, show j - (k + 1) = j - k - 1 by omega, Option.map_map]
 congr 1
 funext y
 simp
theorem getM_chain {t : List UInt8} {nm : List UInt8} {L : List Ins} {D : List Int} {st2 st4 st6 : Option (List UInt8)}
  (h2 : takeS (numS 1 (some t)).1 (numS 1 (some t)).2 = (nm, st2)) (h4 : goI (numS 1 st2).2 (numS 1 st2).1 = st4.map fun r => (L, r)) (h6 : goW (numS 1 st4).2 (numS 1 st4).1 = st6.map fun r => (D, r)) :
  getM t = st6.map fun r => (⟨ba nm, L, D⟩, r) := by
 cases t with
 | nil =>
   rw [numS1_nil] at h2
   obtain ⟨rfl, rfl⟩ := Prod.mk.inj h2
   cases st4 with
   | some r => cases h4
   | none =>
     cases st6 with
     | some r => cases h6
     | none => rfl
 | cons n r =>
   rw [numS1_cons] at h2
   simp only [takeS] at h2
   by_cases hle : n.toNat ≤ r.length
   ·rw [if_pos hle] at h2
    obtain ⟨rfl, rfl⟩ := Prod.mk.inj h2
    simp only [getM, if_neg (show ¬ r.length < n.toNat by omega)]
    cases hd : r.drop n.toNat with
    | nil =>
      rw [hd, numS1_nil] at h4
      cases st4 with
      | some r => cases h4
      | none =>
        cases st6 with
        | some r => cases h6
        | none => rfl
    | cons k r1 =>
      rw [hd, numS1_cons] at h4
      simp only [goI, Option.bind_some] at h4
      simp only [h4]
      cases st4 with
      | none =>
        cases st6 with
        | some r => cases h6
        | none => rfl
      | some r3 =>
        simp only [Option.map_some, Option.bind_some]
        cases r3 with
        | nil =>
          rw [numS1_nil] at h6
          cases st6 with
          | some r => cases h6
          | none => rfl
        | cons j r2 =>
          rw [numS1_cons] at h6
          simp only [goW, Option.bind_some] at h6
          simp only [h6]
          cases st6 <;> rfl
   ·rw [if_neg hle] at h2
    obtain ⟨rfl, rfl⟩ := Prod.mk.inj h2
    cases st4 with
    | some r => cases h4
    | none =>
      cases st6 with
      | some r => cases h6
      | none =>
        simp only [getM, if_pos (show r.length < n.toNat by omega)]
        rfl
def decR (s : ByteArray) : Mod × Int := ((decE s.data.toList modCheck).1.getD ⟨⟨#[]⟩, [], []⟩, (decE s.data.toList modCheck).2)
def DecPost (w : World) (r : Mod × Int) (e : Ending) (w' : World) : Prop :=
 ∃ VC VD, e = .returned (.tuple #[.agg #[.string r.1.name, VC, VD], .int .i64 r.2]) ∧ w'.ownsRow w.heap.size 65 4 VC r.1.code.length (insCells r.1.code) ∧ w'.ownsRow w.heap.size 3 1 VD r.1.data.length (intCells r.1.data) ∧ Below w.heap.size w w'
theorem DecPost.no {w w' : World} {s : ByteArray} {n : Int} {e : Ending} (hr : decE s.data.toList modCheck = (none, n)) (he : e = .returned (.tuple #[.agg #[.string ⟨#[]⟩, .slice none 0 0, .slice none 0 0], .int .i64 n])) (hb : Below w.heap.size w w') : DecPost w (decR s) e w' := by
 have : decR s = (⟨⟨#[]⟩, [], []⟩, n) := by unfold decR; rw [hr]; rfl
 rw [this]
 exact ⟨_, _, he, World.ownsRow_nil _ _ _ _, World.ownsRow_nil _ _ _ _, hb⟩
theorem DecPost.yes {w w' : World} {s : ByteArray} {m : Mod} {VC VD : Value} {e : Ending} (hr : decE s.data.toList modCheck = (some m, 0)) (he : e = .returned (.tuple #[.agg #[.string m.name, VC, VD], .int .i64 0]))
  (hc : w'.ownsRow w.heap.size 65 4 VC m.code.length (insCells m.code)) (hd : w'.ownsRow w.heap.size 3 1 VD m.data.length (intCells m.data)) (hb : Below w.heap.size w w') : DecPost w (decR s) e w' := by
 have : decR s = (m, 0) := by unfold decR; rw [hr]; rfl
 rw [this]
 exact ⟨_, _, he, hc, hd, hb⟩
end Go.Proofs.YtdjamdbamkhblacDoor
