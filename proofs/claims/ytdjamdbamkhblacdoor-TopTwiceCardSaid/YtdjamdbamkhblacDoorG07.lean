/- The walks of module.Name and of its reference. The walks of slices.IndexFunc and slices.ContainsFunc at one element type: for every predicate whose calls leave old memory as it was. A module, as plain data and as a value in memory. The walks of module.Check and of its reference: what they return, for every module. Modules as bytes, and back: what decoding an encoding answers, and that a byte that is changed is seen: plain mathematics. The walks of two bytes of a word and of the seal, and of the reference's seal. No condition. Small words for the use of wp_region_inv: no condition. Files, open ends, processes, kernels and acts as plain data, and as what memory reads: no condition. -/
import Derived.Test.YtdjamdbamkhblacDoorG01
import Derived.Test.YtdjamdbamkhblacDoorG06
import Derived.Lib.ConvBytes
import Derived.Test.YtdjamdbamkhblacDoorG04
import Derived.Test.YtdjamdbamkhblacDoorG05
import Derived.Test.YtdjamdbamkhblacDoorG03
import Derived.Laws.BytesArg
namespace Go.Proofs.YtdjamdbamkhblacDoor
open Go.RowKit
def oddBy (c : UInt8) : Bool := decide (c.toNat < 97 ∨ 122 < c.toNat)
set_option maxHeartbeats 400000 in
theorem Name1_any (c : UInt8) (w : World) :
  Calls Tryd.prog 87 #[.int .u8 c.toNat] w fun e w' => e = .returned (.bool (oddBy c)) ∧ w = w' := by
 go_enter Tryd.func87, Tryd.ntmps87
 go_wp2
 all_goals go_ret
 all_goals refine ⟨ret_bool ?_, rfl⟩
 all_goals (rw [Bool.eq_iff_iff]; simp [oddBy]; omega)
theorem Name1_enter : ∀ args w, (callFunc 87 args).run Tryd.prog w = .ok (.enter 87 args) w := fun args w => by
 simp only [callFunc, run_program, Sem.run_bind, Result.andThen_ok, Tryd.func87]
 rfl
def nameOk (s : ByteArray) : Bool := decide (1 ≤ s.size ∧ s.size ≤ 6) && !(s.data.toList.any oddBy)
theorem conv_bytes (w : World) (s : ByteArray) : ∃ (cap : Nat) (w1 : World), (convert 9 84 (.string s)).run Tryd.prog w = .ok (.slice (some ⟨w.heap.size, 0, none⟩) s.data.toList.length cap) w1 ∧
  Below w.heap.size w w1 ∧ RdB w1 w1.heap.size (some ⟨w.heap.size, 0, none⟩) s.data.toList := by
 refine ⟨grownCap w s.size 0 5, Lib.bytesWorld w 5 s, (Lib.run_convert_string_bytes w 9 84 5 s Tryd.underlying9 Tryd.underlying84 Tryd.underlying5).trans ?_, ⟨rfl, rfl, rfl, by rw [Lib.bytesWorld_size]; omega, fun k hk => Lib.bytesWorld_at_old w _ s k hk⟩, fun _ => ⟨w.heap.size, 0, rfl, by rw [Lib.bytesWorld_size]; omega, fun k hk => ?_⟩⟩
 ·rw [show s.size = s.data.toList.length by simp]
 ·rw [Nat.zero_add, Lib.bytesWorld_cell w _ s k (by simpa using hk)]
  simp [List.getD, List.getElem?_eq_getElem hk]
set_option maxHeartbeats 1000000 in
theorem Name_any (s : ByteArray) (w : World) (hs : s.size ≤ maxLen) :
  Calls Tryd.prog 47 #[.string s] w fun e w' => e = .returned (.bool (nameOk s)) ∧ Below w.heap.size w w' := by
 have hl : s.data.toList.length ≤ maxLen := by simpa using hs
 have HL := Lib.hid hl
 have hsz : s.data.toList.length = s.size := by simp
 have hemp : s.toList = s.data.toList := ByteArray.toList_eq s
 unfold maxLen at hs
 by_cases h0 : s.size = 0
 ·have hl0 : s.toList = [] := by rw [hemp]; exact List.eq_nil_of_length_eq_zero (by omega)
  have hl1 : (!s.toList.isEmpty) = false := by rw [hl0]; rfl
  have H0 := Lib.hid h0
  clear h0 hemp hsz hl
  go_enter Tryd.func47, Tryd.ntmps47
  go_wp2
  go_ret
  exact ⟨ret_bool (by simp [nameOk, H0.out]), Below.refl _ _⟩
 ·have hl0 : ¬ s.toList = [] := fun e => h0 (by rw [← hsz, ← hemp, e]; rfl)
  have hl1 : (!s.toList.isEmpty) = true := by simp [hl0]
  by_cases h6 : 6 < s.size
  ·have h6' : (6 : Int) < (s.size : Int) := by omega
   have H6 := Lib.hid h6
   clear h0 hemp hsz hl h6
   go_enter Tryd.func47, Tryd.ntmps47
   go_wp2
   go_ret
   refine ⟨ret_bool ?_, Below.refl _ _⟩
   have := H6.out
   simp [nameOk]; omega
  ·have h6' : (s.size : Int) ≤ 6 := by omega
   obtain ⟨cap, w1, hcv, hb1, hr1⟩ := conv_bytes w s
   have HS := Lib.hid (show 1 ≤ s.size ∧ s.size ≤ 6 by omega)
   have HE := Lib.hid hl0
   clear h0 hemp hsz hl h6
   go_enter Tryd.func47, Tryd.ntmps47
   go_wp2_with fail
   refine (ContainsFunc_byte 87 #[] oddBy _ cap s.data.toList w1 hr1 HL.out Name1_enter (fun x _ w2 _ => (Name1_any x w2).mono ?_)).mono ?_
   ·rintro e w3 ⟨rfl, rfl⟩
    exact ⟨rfl, Below.refl _ _⟩
   rintro e w2 ⟨rfl, hb2⟩
   go_wp2
   all_goals go_ret
   all_goals refine ⟨ret_bool ?_, hb1.trans (hb2.mono hb1.size)⟩
   all_goals simp [nameOk, HS.out]
end Go.Proofs.YtdjamdbamkhblacDoor
namespace Go.Proofs.YtdjamdbamkhblacDoor
open Go.RowKit
set_option maxHeartbeats 1000000 in
theorem IndexFunc_int (F : FuncId) (cp : Array Value) (p : Int → Bool) (A : Option Addr) (c : Nat) (l : List Int) (w : World) (hr : RdN w w.heap.size A l) (hl : l.length ≤ maxLen)
  (eg : ∀ args w, (callFunc F args).run Tryd.prog w = .ok (.enter F args) w)
  (hp : ∀ x ∈ l, ∀ (w1 : World), Below w.heap.size w w1 → Calls Tryd.prog F (#[.int .i64 x] ++ cp) w1 fun e w' => e = .returned (.bool (p x)) ∧ Below w1.heap.size w1 w') :
  Calls Tryd.prog 85 #[.slice A l.length c, .func (.func F) #[] cp] w fun e w' => e = .returned (.int .i64 (idxF p l 0)) ∧ Below w.heap.size w w' := by
 unfold maxLen at hl
 have HP := Lib.hid hp
 clear hp
 go_enter Tryd.func85, Tryd.ntmps85
 go_wp2
 go_loopw [8] (fun i wr => Cnt l.length i fun k => Below w.heap.size w wr ∧ Hid (idxF p l 0 = idxF p (l.drop k) k)) (fun i _ => l.length - (intOf i).toNat)
 case atStart => exact ⟨0, Nat.zero_le _, rfl, Below.refl _ _, rfl⟩
 case round =>
  obtain ⟨k, hk, rfl, hb, HV⟩ := hrel
  by_cases hlt : k < l.length
  ·obtain ⟨b, o, rfl, hbB, hcell⟩ := hr (by omega)
   have c0 := hcell k hlt
   rw [← hb.cell (p := ⟨b, _, none⟩) hbB] at c0
   have HD := Lib.hid (idxF_drop (p := p) hlt)
   have HM := Lib.hid (List.getElem_mem hlt)
   clear hr hcell
   cases hpk : p l[k] with
   | true =>
     have HK := Lib.hid hpk
     clear hpk
     go_wp2_with fail
     refine (HP.out _ HM.out _ hb).mono ?_
     rw [HK.out]
     rintro e w1 ⟨rfl, hb1⟩
     go_wp2
     go_ret
     exact ⟨ret_int (by rw [HV.out, HD.out, if_pos HK.out]), hb.trans (hb1.mono hb.size)⟩
   | false =>
     have HK := Lib.hid hpk
     clear hpk
     go_wp2_with fail
     refine (HP.out _ HM.out _ hb).mono ?_
     rw [HK.out]
     rintro e w1 ⟨rfl, hb1⟩
     go_wp2
     go_roundw
     case rel => exact ⟨k + 1, by omega, by go_num, hb.trans (hb1.mono hb.size), by show _ = _; rw [HV.out, HD.out, if_neg (by rw [HK.out]; decide)]⟩
     case measure => simp [intOf]; omega
  ·go_wp2
   go_ret
   exact ⟨ret_int (by rw [HV.out, List.drop_of_length_le (by omega)]; rfl), hb⟩
set_option maxHeartbeats 400000 in
theorem ContainsFunc_int (F : FuncId) (cp : Array Value) (p : Int → Bool) (A : Option Addr) (c : Nat) (l : List Int) (w : World) (hr : RdN w w.heap.size A l) (hl : l.length ≤ maxLen)
  (eg : ∀ args w, (callFunc F args).run Tryd.prog w = .ok (.enter F args) w)
  (hp : ∀ x ∈ l, ∀ (w1 : World), Below w.heap.size w w1 → Calls Tryd.prog F (#[.int .i64 x] ++ cp) w1 fun e w' => e = .returned (.bool (p x)) ∧ Below w1.heap.size w1 w') :
  Calls Tryd.prog 44 #[.slice A l.length c, .func (.func F) #[] cp] w fun e w' => e = .returned (.bool (l.any p)) ∧ Below w.heap.size w w' := by
 have HP := Lib.hid hp
 have HE := Lib.hid eg
 clear hp eg
 go_enter Tryd.func44, Tryd.ntmps44
 go_wp2_with fail
 refine (IndexFunc_int F cp p A c l w hr hl HE.out HP.out).mono ?_
 rintro e w1 ⟨rfl, hb1⟩
 go_wp2
 all_goals go_ret
 all_goals refine ⟨ret_bool ?_, hb1⟩
 all_goals rw [← idxF_any p l 0]
end Go.Proofs.YtdjamdbamkhblacDoor
namespace Go.Proofs.YtdjamdbamkhblacDoor
open Go.RowKit
structure Mod where
 name : ByteArray
 code : List Ins
 data : List Int
end Go.Proofs.YtdjamdbamkhblacDoor
namespace Go.Proofs.YtdjamdbamkhblacDoor
open Go.RowKit
def modCheck (m : Mod) : Int := if nameOk m.name then (if 64 < m.data.length then 1 else if m.data.any oddW then 2 else verify m.code) else 4
set_option maxHeartbeats 400000 in
theorem Check1_any (n : Int) (w : World) :
  Calls Tryd.prog 82 #[.int .i64 n] w fun e w' => e = .returned (.bool (oddW n)) ∧ w = w' := by
 go_enter Tryd.func82, Tryd.ntmps82
 go_wp2
 all_goals go_ret
 all_goals refine ⟨ret_bool ?_, rfl⟩
 all_goals (rw [Bool.eq_iff_iff]; simp [oddW]; try omega)
theorem Check1_enter : ∀ args w, (callFunc 82 args).run Tryd.prog w = .ok (.enter 82 args) w := fun args w => by
 simp only [callFunc, run_program, Sem.run_bind, Result.andThen_ok, Tryd.func82]
 rfl
set_option maxHeartbeats 1000000 in
theorem ModCheck_any (m : Mod) (A A' : Option Addr) (c c' : Nat) (w : World) (hn : m.name.size ≤ maxLen) (hr : RdI w w.heap.size A m.code) (hr' : RdN w w.heap.size A' m.data) (ht : Tab w) (hl : m.code.length ≤ maxLen) (hl' : m.data.length ≤ maxLen) :
  Calls Tryd.prog 41 #[.agg #[.string m.name, .slice A m.code.length c, .slice A' m.data.length c']] w fun e w' => e = .returned (.int .i64 (modCheck m)) ∧ Below w.heap.size w w' := by
 have HL := Lib.hid hl
 have HL' := Lib.hid hl'
 unfold maxLen at hl hl'
 have ha : ∀ o, Below w.heap.size w (w.alloc o) := fun o => (Below.refl _ _).alloc (Nat.le_refl _) o
 cases hnm : nameOk m.name with
 | false =>
   have HN := Lib.hid hnm
   clear hnm
   go_enter Tryd.func41, Tryd.ntmps41
   go_wp2_with fail
   refine (Name_any m.name _ hn).mono ?_
   rw [HN.out]
   rintro e w1 ⟨rfl, hb1⟩
   go_wp2
   go_ret
   exact ⟨ret_int (by rw [modCheck, HN.out]; rfl), (ha _).trans (hb1.mono (by simp))⟩
 | true =>
   have HN := Lib.hid hnm
   clear hnm
   by_cases h64 : 64 < m.data.length
   ·have h65 : (64 : Int) < (m.data.length : Int) := by omega
    go_enter Tryd.func41, Tryd.ntmps41
    go_wp2_with fail
    refine (Name_any m.name _ hn).mono ?_
    rw [HN.out]
    rintro e w1 ⟨rfl, hb1⟩
    obtain ⟨hc1, hf1⟩ := bcell hb1
    go_wp2
    go_ret
    exact ⟨ret_int (by rw [modCheck, HN.out, if_pos rfl, if_pos h64]), (ha _).trans (hb1.mono (by simp))⟩
   ·have h65 : (m.data.length : Int) ≤ 64 := by omega
    go_enter Tryd.func41, Tryd.ntmps41
    go_wp2_with fail
    refine (Name_any m.name _ hn).mono ?_
    rw [HN.out]
    rintro e w1 ⟨rfl, hb1⟩
    obtain ⟨hc1, hf1⟩ := bcell hb1
    have hbw1 := (ha _).trans (hb1.mono (Nat.le_of_lt (by simp)))
    go_wp2_with fail
    refine (ContainsFunc_int 82 #[] oddW A' c' m.data w1 ((hr'.below hbw1).more hbw1.size) HL'.out Check1_enter (fun x _ w2 _ => (Check1_any x w2).mono ?_)).mono ?_
    ·rintro e w3 ⟨rfl, rfl⟩
     exact ⟨rfl, Below.refl _ _⟩
    cases hod : m.data.any oddW with
    | true =>
      have HO := Lib.hid hod
      clear hod
      rintro e w2 ⟨rfl, hb2⟩
      go_wp2
      go_ret
      exact ⟨ret_int (by rw [modCheck, HN.out, if_pos rfl, if_neg h64, HO.out]; rfl), hbw1.trans (hb2.mono hbw1.size)⟩
    | false =>
      have HO := Lib.hid hod
      clear hod
      rintro e w2 ⟨rfl, hb2⟩
      obtain ⟨hc2, hf2⟩ := bcell hb2
      have hbw2 := hbw1.trans (hb2.mono hbw1.size)
      have hz := hb1.size
      simp at hz
      have hz1 : w.heap.size < w1.heap.size := by omega
      go_wp2_with fail
      refine (Verify_any A c m.code w2 ((hr.below hbw2).more hbw2.size) (ht.below hbw2) HL.out).mono ?_
      rintro e w3 ⟨rfl, hb3⟩
      go_wp2
      go_ret
      exact ⟨ret_int (by rw [modCheck, HN.out, if_pos rfl, if_neg h64, HO.out]; rfl), hbw2.trans (hb3.mono hbw2.size)⟩
end Go.Proofs.YtdjamdbamkhblacDoor
namespace Go.Proofs.YtdjamdbamkhblacDoor
def u8 (n : Nat) : UInt8 := UInt8.ofNat n
theorem u8_toNat (n : Nat) : (u8 n).toNat = n % 256 := by simp [u8]
theorem u8_lt (c : UInt8) : c.toNat < 256 := UInt8.toNat_lt c
def two (n : Nat) : List UInt8 := [u8 (n / 256), u8 n]
def adl : List UInt8 → Nat → Nat → Nat × Nat
 | [], x, y => (x, y)
 | c :: r, x, y => adl r ((x + c.toNat) % 65521) ((y + (x + c.toNat) % 65521) % 65521)
def sealL (l : List UInt8) : List UInt8 := two (adl l 1 0).2 ++ two (adl l 1 0).1
def insB (i : Ins) : List UInt8 := [u8 i.op.toNat, u8 (16 * i.a.toNat + i.b.toNat)] ++ two i.c.toNat
def wordB (n : Int) : List UInt8 := two n.toNat
def bodyB (m : Mod) : List UInt8 := [u8 m.name.size] ++ m.name.data.toList ++ [u8 m.code.length] ++ m.code.flatMap insB ++ [u8 m.data.length] ++ m.data.flatMap wordB
def encB (m : Mod) : List UInt8 := sealL (bodyB m) ++ bodyB m
def getI : Nat → List UInt8 → Option (List Ins × List UInt8)
 | 0, r => some ([], r)
 | k + 1, o :: ab :: c :: d :: r => (getI k r).map fun x => (⟨(o.toNat : Int), (ab.toNat / 16 : Nat), (ab.toNat % 16 : Nat), (256 * c.toNat + d.toNat : Nat)⟩ :: x.1, x.2)
 | _ + 1, _ => none
def getW : Nat → List UInt8 → Option (List Int × List UInt8)
 | 0, r => some ([], r)
 | k + 1, c :: d :: r => (getW k r).map fun x => (((256 * c.toNat + d.toNat : Nat) : Int) :: x.1, x.2)
 | _ + 1, _ => none
def getM : List UInt8 → Option (Mod × List UInt8)
 | [] => none
 | n :: r => if r.length < n.toNat then none else
   match r.drop n.toNat with
   | [] => none
   | k :: r1 => (getI k.toNat r1).bind fun x =>
     match x.2 with
     | [] => none
     | j :: r2 => (getW j.toNat r2).map fun y => (⟨⟨(r.take n.toNat).toArray⟩, x.1, y.1⟩, y.2)
theorem sealL_length (l : List UInt8) : (sealL l).length = 4 := rfl
def decE (s : List UInt8) (ck : Mod → Int) : Option Mod × Int :=
 if 4000 < s.length then (none, 1) else if s.length < 4 then (none, 5) else if sealL (s.drop 4) ≠ s.take 4 then (none, 11) else
 match getM (s.drop 4) with
 | none => (none, 5)
 | some (m, r) => if r ≠ [] then (none, 4) else if ck m = 0 then (some m, 0) else (none, ck m)
theorem decE_some {s : List UInt8} {ck : Mod → Int} {m : Mod} {e : Int} (h : decE s ck = (some m, e)) : ck m = 0 ∧ e = 0 := by
 unfold decE at h
 split at h
 ·cases h
 split at h
 ·cases h
 split at h
 ·cases h
 split at h
 ·cases h
 split at h
 ·cases h
 split at h
 ·cases h
  exact ⟨by assumption, rfl⟩
 ·cases h
theorem decE_none {s : List UInt8} {ck : Mod → Int} {e : Int} (h : decE s ck = (none, e)) : e ≠ 0 := by
 unfold decE at h
 split at h
 ·cases h; decide
 split at h
 ·cases h; decide
 split at h
 ·cases h; decide
 split at h
 ·cases h; decide
 split at h
 ·cases h; decide
 split at h
 ·cases h
 ·cases h; assumption
end Go.Proofs.YtdjamdbamkhblacDoor
namespace Go.Proofs.YtdjamdbamkhblacDoor
open Go.RowKit
set_option linter.unusedVariables false
set_option linter.unusedSimpArgs false
def ba (l : List UInt8) : ByteArray := ⟨l.toArray⟩
theorem ba_app (a b : List UInt8) : ba a ++ ba b = ba (a ++ b) := by
 apply ByteArray.ext
 simp [ba]
theorem conv_nums (W : World) (xs : List Int) (C : Array Value) (hC : C = (xs.map (Value.int .u8)).toArray) (n : Nat) (hn : xs.length = n) (cap : Nat) :
  (convert 84 9 (.slice (some ⟨W.heap.size, 0, none⟩) n cap)).run Tryd.prog (W.alloc (.cells C 5)) = .ok (.string (strOfNums xs)) (W.alloc (.cells C 5)) := by
 refine run_convert_bytes_arg _ 84 5 Tryd.underlying84 Tryd.underlying5 W.heap.size 0 n cap xs hn (fun i hi => ?_) 9 Tryd.underlying9
 subst hC
 simp [List.getD, List.getElem?_eq_getElem (show i < xs.length by omega)]
theorem conv1 (W : World) (x : Int) (cap : Nat) : (convert 84 9 (.slice (some ⟨W.heap.size, 0, none⟩) 1 cap)).run Tryd.prog (W.alloc (.cells #[.int .u8 x] 5)) = .ok (.string (strOfNums [x])) (W.alloc (.cells #[.int .u8 x] 5)) := conv_nums W [x] _ rfl 1 rfl cap
theorem conv2 (W : World) (x y : Int) (cap : Nat) : (convert 84 9 (.slice (some ⟨W.heap.size, 0, none⟩) 2 cap)).run Tryd.prog (W.alloc (.cells #[.int .u8 x, .int .u8 y] 5)) = .ok (.string (strOfNums [x, y])) (W.alloc (.cells #[.int .u8 x, .int .u8 y] 5)) := conv_nums W [x, y] _ rfl 2 rfl cap
theorem nums_ba (xs : List Int) : strOfNums xs = ba (xs.map fun n => u8 n.toNat) := by
 simp [strOfNums, ba, u8]
theorem conv1b (W : World) (g : Nat) (x : Int) (cap : Nat) (hg : g = W.heap.size) : (convert 84 9 (.slice (some ⟨g, 0, none⟩) 1 cap)).run Tryd.prog (W.alloc (.cells #[.int .u8 x] 5)) = .ok (.string (ba [u8 x.toNat])) (W.alloc (.cells #[.int .u8 x] 5)) := by
 subst hg
 rw [conv1 W x cap, nums_ba]
 rfl
theorem u8_mod (n : Nat) : u8 (n % 256) = u8 n := by
 apply UInt8.toNat_inj.1
 rw [u8_toNat, u8_toNat]; omega
theorem nums_two (n : Nat) : strOfNums [(n : Int) / 256, (n : Int) % 256] = ba (two n) := by
 rw [nums_ba]
 simp only [List.map_cons, List.map_nil]
 rw [show ((n : Int) / 256).toNat = n / 256 by omega, show ((n : Int) % 256).toNat = n % 256 by omega, u8_mod]
 rfl
theorem adl_drop {l : List UInt8} {k : Nat} (h : k < l.length) (a b : Nat) : adl (l.drop k) a b = adl (l.drop (k + 1)) ((a + l[k].toNat) % 65521) ((b + (a + l[k].toNat) % 65521) % 65521) := by
 rw [List.drop_eq_getElem_cons h]; rfl
theorem adl_end {l : List UInt8} {k : Nat} (h : l.length ≤ k) (a b : Nat) : adl (l.drop k) a b = (a, b) := by
 rw [List.drop_of_length_le h]; rfl
set_option maxHeartbeats 1000000 in
theorem two_any (n : Nat) (w : World) (hn : n ≤ 65535) :
  Calls Tryd.prog 112 #[.int .i64 (n : Int)] w fun e w' => e = .returned (.string (ba (two n))) ∧ Below w.heap.size w w' := by
 have k2 := conv2
 go_enter Tryd.func112, Tryd.ntmps112
 go_wp2
 go_ret
 exact ⟨by rw [← nums_two]; rfl, (Below.refl _ _).alloc (Nat.le_refl _) _⟩
set_option maxHeartbeats 1000000 in
theorem seal_any (s : ByteArray) (w : World) (hs : s.size ≤ maxLen) :
  Calls Tryd.prog 113 #[.string s] w fun e w' => e = .returned (.string (ba (sealL s.data.toList))) ∧ Below w.heap.size w w' := by
 unfold maxLen at hs
 have hsz : s.data.toList.length = s.size := by simp
 go_enter Tryd.func113, Tryd.ntmps113
 go_wp2
 go_loop [3, 4, 8] (fun x y i => Cnt s.size i fun k => ∃ a b : Nat, x = .int .i64 (a : Int) ∧ y = .int .i64 (b : Int) ∧ a < 65521 ∧ b < 65521 ∧ Hid (adl s.data.toList 1 0 = adl (s.data.toList.drop k) a b)) (fun _ _ i => s.size - (intOf i).toNat)
 case atStart => exact ⟨0, Nat.zero_le _, rfl, 1, 0, rfl, rfl, by decide, by decide, rfl⟩
 case round =>
  obtain ⟨k, hk, rfl, a, b, rfl, rfl, ha, hb, HV⟩ := hrel
  by_cases hlt : k < s.size
  ·have HD : Hid (adl (s.data.toList.drop k) a b = adl (s.data.toList.drop (k + 1)) ((a + s[k].toNat) % 65521) ((b + (a + s[k].toNat) % 65521) % 65521)) := by
    show _ = _
    have h' : k < s.data.toList.length := by omega
    exact adl_drop h' a b
   have hx : (s[k].toNat : Int) ≤ 255 := by have := s[k].toNat_lt; omega
   clear hsz
   go_wp2
   refine ⟨⟨k + 1, by omega, by go_num, (a + s[k].toNat) % 65521, (b + (a + s[k].toNat) % 65521) % 65521, by simp, by simp, Nat.mod_lt _ (by omega), Nat.mod_lt _ (by omega), ?_⟩, by simp [intOf]; omega⟩
   show _ = _
   rw [HV.out, HD.out]
  ·have HF : Hid (adl s.data.toList 1 0 = (a, b)) := by
    show _ = _
    rw [HV.out, adl_end (by omega)]
   clear hsz
   go_wp2_with (first | (go_at_call 112; (with_reducible refine (two_any a _ (by omega)).mono ?_); rintro e w1 ⟨rfl, hb1⟩) | (go_at_call 112; (with_reducible refine (two_any b _ (by omega)).mono ?_); rintro e w2 ⟨rfl, hb2⟩))
   go_ret
   refine ⟨?_, hb2.trans (hb1.mono hb2.size)⟩
   show Ending.returned (.string (ba (two b) ++ ba (two a))) = _
   rw [ba_app, sealL, HF.out]
end Go.Proofs.YtdjamdbamkhblacDoor
namespace Go.Proofs.YtdjamdbamkhblacDoor
open Go.RowKit
theorem waitsR {l : Array Bool} {j : Nat} (h : l[j]?.getD false = true) : l.getD j true = true := by
 rw [Array.getD_eq_getD_getElem?]
 cases hj : l[j]? with
 | none => rfl
 | some b => rw [hj] at h; exact h
theorem upeqR {l : Array Bool} {i j : Nat} (h : i ≠ j) : (l.setIfInBounds i true).getD j true = l.getD j true := by rw [listed_set]; simp [h]
theorem upneR {l : Array Bool} {i j : Nat} (h : i ≠ j) (x : (l.setIfInBounds i true).getD j true = true) : l.getD j true = true := by rw [upeqR h] at x; exact x
theorem upselfR {l : Array Bool} {i : Nat} : (l.setIfInBounds i true).getD i true = true := by rw [listed_set]; simp
theorem nlR {a b : Bool} (q : b = true → a = true) (h : a = false) : b = false := by
 cases b with
 | false => rfl
 | true => rw [q rfl] at h; cases h
theorem tfR {Q : Prop} (h : true = false) : Q := by cases h
section
variable {P : Program} (w : World)
theorem step_append_rdR {ops : Array Oper} {o : Oper} {a : Act} {K : Act → World → Prop} {Q : Exit → Act → World → Prop} {E : Prop} (hgd : o.guard = none) (s x : Operand) (t : TypeId)
  (ho : o.op = .call { callee := .builtin .append, args := #[s, x], argTypes := #[t, t] })
  (base : Nat) (e : TypeId) (i : TypeInfo) (z : Value) (size bytes : Nat) (ht : P.underlying t = some (.slice e)) (hi : P.info? e = some i) (hz : i.zero = some z)
  (hsize : i.size = size) (hby : i.bytes = bytes) (hzs : z.cells.size = size) (hsz : 0 < size)
  (v : Value) (n : Nat) (xs : List Value) (hs : a.eval s = v) (hown : w.ownsRow base e size v n xs)
  (B : Nat) (A : Option Addr) (m c : Nat) (news : List Value) (hx : a.eval x = .slice A m c) (hr : Rd w B size A m news) (h1 : ∀ u ∈ news, u.oneCell' = true)
  (h63 : n + m ≤ maxLen) (hbytes : (n + m) * bytes ≤ 140737488355328) (hbase : base ≤ w.heap.size)
  (h : ∀ A' c' w', w'.ownsRow base e size (.slice A' (n + m) c') (n + m) (xs ++ news) → w.grownBy w' v.ownBlock → ((Value.slice A' (n + m) c').ownBlock = v.ownBlock ∨ (Value.slice A' (n + m) c').ownBlock = some w.heap.size) → K (a.put o.dst (.slice A' (n + m) c')) w') :
  if Region.wanted o (yielded ops a.tmps) = true then Oper.wp P o a w K Q else E := by
 have hw : Region.wanted o (yielded ops a.tmps) = true := by simp [Region.wanted, hgd]
 rw [if_pos hw]
 obtain ⟨v', w', hrun, h2, h3, h4⟩ := run_append_rd (P := P) w base t o.type e i z size bytes ht hi hz hsize hby hzs hsz v n xs hown B A m c news hr h1 h63 hbytes hbase
 obtain ⟨A', c', rfl⟩ := own_slice h2
 unfold Oper.wp execOp
 simp only [ho, resolve, invoke, builtin, Sem.run_bind, Sem.run_pure, Result.andThen_ok, List.map_toArray, List.map_cons, List.map_nil, hs, hx, hrun]
 exact h A' c' w' h2 h3 h4
end
def regAt (id : Nat) : Code → Option Code
 | .region i ops d => if i = id then some (.region i ops d) else none
 | .seq a b => match regAt id a with
   | some c => some c
   | none => regAt id b
 | .loop c => regAt id c
 | .block _ c => regAt id c
 | .scope c => regAt id c
 | .cond _ a b => match regAt id a with
   | some c => some c
   | none => regAt id b
 | _ => none
end Go.Proofs.YtdjamdbamkhblacDoor
namespace Go.Proofs.YtdjamdbamkhblacDoor
open Go.RowKit
structure Nod where
 name : ByteArray
 kind : Int
 data : ByteArray
 unit : Int
instance : Inhabited Nod := ⟨⟨⟨#[]⟩, 0, ⟨#[]⟩, 0⟩⟩
structure Opn where
 kind : Int
 node : Int
 pos : Int
instance : Inhabited Opn := ⟨⟨0, 0, 0⟩⟩
structure Prc where
 live : Bool
 ends : List Opn
instance : Inhabited Prc := ⟨⟨false, []⟩⟩
instance : Inhabited Mod := ⟨⟨⟨#[]⟩, [], []⟩⟩
structure Krn where
 mods : List Mod
 mem : List Int
 nodes : List Nod
 pipes : List ByteArray
 procs : List Prc
structure Akt where
 kind : Int
 p : Int
 n : Int
 m : Int
 name : ByteArray
 data : ByteArray
instance : Inhabited Akt := ⟨⟨0, 0, 0, 0, ⟨#[]⟩, ⟨#[]⟩⟩⟩
def RdS (w : World) (B : Nat) (A : Option Addr) (l : List ByteArray) : Prop :=
 0 < l.length → ∃ b o, A = some ⟨b, o, none⟩ ∧ b < B ∧ ∀ k (h : k < l.length), w.cell? ⟨b, o + k, none⟩ = some (.string l[k])
def RdD (w : World) (B : Nat) (A : Option Addr) (l : List Nod) : Prop :=
 0 < l.length → ∃ b o, A = some ⟨b, o, none⟩ ∧ b < B ∧ ∀ k (h : k < l.length),
  w.cell? ⟨b, o + k * 4, none⟩ = some (.string l[k].name) ∧ w.cell? ⟨b, o + k * 4 + 1, none⟩ = some (.int .i64 l[k].kind) ∧
  w.cell? ⟨b, o + k * 4 + 2, none⟩ = some (.string l[k].data) ∧ w.cell? ⟨b, o + k * 4 + 3, none⟩ = some (.int .i64 l[k].unit)
def RdE (w : World) (B : Nat) (A : Option Addr) (l : List Opn) : Prop :=
 0 < l.length → ∃ b o, A = some ⟨b, o, none⟩ ∧ b < B ∧ ∀ k (h : k < l.length),
  w.cell? ⟨b, o + k * 3, none⟩ = some (.int .i64 l[k].kind) ∧ w.cell? ⟨b, o + k * 3 + 1, none⟩ = some (.int .i64 l[k].node) ∧
  w.cell? ⟨b, o + k * 3 + 2, none⟩ = some (.int .i64 l[k].pos)
def RdA (w : World) (B : Nat) (A : Option Addr) (l : List Akt) : Prop :=
 0 < l.length → ∃ b o, A = some ⟨b, o, none⟩ ∧ b < B ∧ ∀ k (h : k < l.length),
  w.cell? ⟨b, o + k * 6, none⟩ = some (.int .i64 l[k].kind) ∧ w.cell? ⟨b, o + k * 6 + 1, none⟩ = some (.int .i64 l[k].p) ∧
  w.cell? ⟨b, o + k * 6 + 2, none⟩ = some (.int .i64 l[k].n) ∧ w.cell? ⟨b, o + k * 6 + 3, none⟩ = some (.int .i64 l[k].m) ∧
  w.cell? ⟨b, o + k * 6 + 4, none⟩ = some (.string l[k].name) ∧ w.cell? ⟨b, o + k * 6 + 5, none⟩ = some (.string l[k].data)
structure ModAt (w : World) (B : Nat) (A : Option Addr) (c : Nat) (A' : Option Addr) (c' : Nat) (m : Mod) : Prop where
 code : RdI w B A m.code
 data : RdN w B A' m.data
 nm : m.name.size ≤ 140737488351232
 cl : m.code.length * 32 ≤ 140737488351232
 dl : m.data.length * 8 ≤ 140737488351232
 nil : A = none → m.code.length = 0 ∧ c = 0
 nil' : A' = none → m.data.length = 0 ∧ c' = 0
def RdM (w : World) (B : Nat) (A : Option Addr) (l : List Mod) : Prop :=
 0 < l.length → ∃ b o, A = some ⟨b, o, none⟩ ∧ b < B ∧ ∀ k (h : k < l.length), ∃ A1 c1 A2 c2,
  w.cell? ⟨b, o + k * 3, none⟩ = some (.string l[k].name) ∧ w.cell? ⟨b, o + k * 3 + 1, none⟩ = some (.slice A1 l[k].code.length c1) ∧
  w.cell? ⟨b, o + k * 3 + 2, none⟩ = some (.slice A2 l[k].data.length c2) ∧ ModAt w B A1 c1 A2 c2 l[k]
structure PrcAt (w : World) (B : Nat) (A : Option Addr) (c : Nat) (p : Prc) : Prop where
 ends : RdE w B A p.ends
 el : p.ends.length * 24 ≤ 140737488351232
 nil : A = none → p.ends.length = 0 ∧ c = 0
def RdP (w : World) (B : Nat) (A : Option Addr) (l : List Prc) : Prop :=
 0 < l.length → ∃ b o, A = some ⟨b, o, none⟩ ∧ b < B ∧ ∀ k (h : k < l.length), ∃ A1 c1,
  w.cell? ⟨b, o + k * 2, none⟩ = some (.bool l[k].live) ∧ w.cell? ⟨b, o + k * 2 + 1, none⟩ = some (.slice A1 l[k].ends.length c1) ∧ PrcAt w B A1 c1 l[k]
section
variable {w w' : World} {B B' : Nat} {A A' : Option Addr} {c c' : Nat}
theorem RdS.keep {l : List ByteArray} (h : RdS w B A l) (hk : ∀ p : Addr, p.block < B → w'.cell? p = w.cell? p) : RdS w' B A l := fun hl => by
 obtain ⟨b, o, e, hb, hc⟩ := h hl
 exact ⟨b, o, e, hb, fun k hk' => (hk _ hb).trans (hc k hk')⟩
theorem RdS.more {l : List ByteArray} (h : RdS w B A l) (hB : B ≤ B') : RdS w B' A l := fun hl => by
 obtain ⟨b, o, e, hb, hc⟩ := h hl
 exact ⟨b, o, e, by omega, hc⟩
theorem RdD.keep {l : List Nod} (h : RdD w B A l) (hk : ∀ p : Addr, p.block < B → w'.cell? p = w.cell? p) : RdD w' B A l := fun hl => by
 obtain ⟨b, o, e, hb, hc⟩ := h hl
 refine ⟨b, o, e, hb, fun k hk' => ?_⟩
 obtain ⟨h0, h1, h2, h3⟩ := hc k hk'
 exact ⟨(hk _ hb).trans h0, (hk _ hb).trans h1, (hk _ hb).trans h2, (hk _ hb).trans h3⟩
theorem RdD.more {l : List Nod} (h : RdD w B A l) (hB : B ≤ B') : RdD w B' A l := fun hl => by
 obtain ⟨b, o, e, hb, hc⟩ := h hl
 exact ⟨b, o, e, by omega, hc⟩
theorem RdE.keep {l : List Opn} (h : RdE w B A l) (hk : ∀ p : Addr, p.block < B → w'.cell? p = w.cell? p) : RdE w' B A l := fun hl => by
 obtain ⟨b, o, e, hb, hc⟩ := h hl
 refine ⟨b, o, e, hb, fun k hk' => ?_⟩
 obtain ⟨h0, h1, h2⟩ := hc k hk'
 exact ⟨(hk _ hb).trans h0, (hk _ hb).trans h1, (hk _ hb).trans h2⟩
theorem RdE.more {l : List Opn} (h : RdE w B A l) (hB : B ≤ B') : RdE w B' A l := fun hl => by
 obtain ⟨b, o, e, hb, hc⟩ := h hl
 exact ⟨b, o, e, by omega, hc⟩
theorem RdA.keep {l : List Akt} (h : RdA w B A l) (hk : ∀ p : Addr, p.block < B → w'.cell? p = w.cell? p) : RdA w' B A l := fun hl => by
 obtain ⟨b, o, e, hb, hc⟩ := h hl
 refine ⟨b, o, e, hb, fun k hk' => ?_⟩
 obtain ⟨h0, h1, h2, h3, h4, h5⟩ := hc k hk'
 exact ⟨(hk _ hb).trans h0, (hk _ hb).trans h1, (hk _ hb).trans h2, (hk _ hb).trans h3, (hk _ hb).trans h4, (hk _ hb).trans h5⟩
theorem RdA.more {l : List Akt} (h : RdA w B A l) (hB : B ≤ B') : RdA w B' A l := fun hl => by
 obtain ⟨b, o, e, hb, hc⟩ := h hl
 exact ⟨b, o, e, by omega, hc⟩
theorem ModAt.keep {m : Mod} (h : ModAt w B A c A' c' m) (hk : ∀ p : Addr, p.block < B → w'.cell? p = w.cell? p) : ModAt w' B A c A' c' m :=
 { h with code := h.code.keep hk, data := h.data.keep hk }
theorem ModAt.more {m : Mod} (h : ModAt w B A c A' c' m) (hB : B ≤ B') : ModAt w B' A c A' c' m :=
 { h with code := h.code.more hB, data := h.data.more hB }
theorem PrcAt.keep {p : Prc} (h : PrcAt w B A c p) (hk : ∀ p : Addr, p.block < B → w'.cell? p = w.cell? p) : PrcAt w' B A c p := { h with ends := h.ends.keep hk }
theorem PrcAt.more {p : Prc} (h : PrcAt w B A c p) (hB : B ≤ B') : PrcAt w B' A c p := { h with ends := h.ends.more hB }
theorem RdM.keep {l : List Mod} (h : RdM w B A l) (hk : ∀ p : Addr, p.block < B → w'.cell? p = w.cell? p) : RdM w' B A l := fun hl => by
 obtain ⟨b, o, e, hb, hc⟩ := h hl
 refine ⟨b, o, e, hb, fun k hk' => ?_⟩
 obtain ⟨A1, c1, A2, c2, h0, h1, h2, h3⟩ := hc k hk'
 exact ⟨A1, c1, A2, c2, (hk _ hb).trans h0, (hk _ hb).trans h1, (hk _ hb).trans h2, h3.keep hk⟩
theorem RdM.more {l : List Mod} (h : RdM w B A l) (hB : B ≤ B') : RdM w B' A l := fun hl => by
 obtain ⟨b, o, e, hb, hc⟩ := h hl
 refine ⟨b, o, e, by omega, fun k hk' => ?_⟩
 obtain ⟨A1, c1, A2, c2, h0, h1, h2, h3⟩ := hc k hk'
 exact ⟨A1, c1, A2, c2, h0, h1, h2, h3.more hB⟩
theorem RdP.keep {l : List Prc} (h : RdP w B A l) (hk : ∀ p : Addr, p.block < B → w'.cell? p = w.cell? p) : RdP w' B A l := fun hl => by
 obtain ⟨b, o, e, hb, hc⟩ := h hl
 refine ⟨b, o, e, hb, fun k hk' => ?_⟩
 obtain ⟨A1, c1, h0, h1, h2⟩ := hc k hk'
 exact ⟨A1, c1, (hk _ hb).trans h0, (hk _ hb).trans h1, h2.keep hk⟩
theorem RdP.more {l : List Prc} (h : RdP w B A l) (hB : B ≤ B') : RdP w B' A l := fun hl => by
 obtain ⟨b, o, e, hb, hc⟩ := h hl
 refine ⟨b, o, e, by omega, fun k hk' => ?_⟩
 obtain ⟨A1, c1, h0, h1, h2⟩ := hc k hk'
 exact ⟨A1, c1, h0, h1, h2.more hB⟩
theorem RdS.below {l : List ByteArray} (h : RdS w B A l) (hb : Below B w w') : RdS w' B A l := h.keep fun _ hp => hb.cell hp
theorem RdD.below {l : List Nod} (h : RdD w B A l) (hb : Below B w w') : RdD w' B A l := h.keep fun _ hp => hb.cell hp
theorem RdE.below {l : List Opn} (h : RdE w B A l) (hb : Below B w w') : RdE w' B A l := h.keep fun _ hp => hb.cell hp
theorem RdA.below {l : List Akt} (h : RdA w B A l) (hb : Below B w w') : RdA w' B A l := h.keep fun _ hp => hb.cell hp
theorem RdM.below {l : List Mod} (h : RdM w B A l) (hb : Below B w w') : RdM w' B A l := h.keep fun _ hp => hb.cell hp
theorem RdP.below {l : List Prc} (h : RdP w B A l) (hb : Below B w w') : RdP w' B A l := h.keep fun _ hp => hb.cell hp
end
structure KA where
 a0 : Option Addr
 c0 : Nat
 a1 : Option Addr
 c1 : Nat
 a2 : Option Addr
 c2 : Nat
 a3 : Option Addr
 c3 : Nat
 a4 : Option Addr
 c4 : Nat
def KA.cells (a : KA) (k : Krn) : Array Value := #[.slice a.a0 k.mods.length a.c0, .slice a.a1 k.mem.length a.c1, .slice a.a2 k.nodes.length a.c2, .slice a.a3 k.pipes.length a.c3, .slice a.a4 k.procs.length a.c4]
structure KrnAt (w : World) (B : Nat) (a : KA) (k : Krn) : Prop where
 mods : RdM w B a.a0 k.mods
 mem : RdN w B a.a1 k.mem
 nodes : RdD w B a.a2 k.nodes
 pipes : RdS w B a.a3 k.pipes
 procs : RdP w B a.a4 k.procs
 l0 : k.mods.length * 64 ≤ 140737488351232
 l1 : k.mem.length * 8 ≤ 140737488351232
 l2 : k.nodes.length * 48 ≤ 140737488351232
 l3 : k.pipes.length * 16 ≤ 140737488351232
 l4 : k.procs.length * 32 ≤ 140737488351232
 n0 : a.a0 = none → k.mods.length = 0 ∧ a.c0 = 0
 n1 : a.a1 = none → k.mem.length = 0 ∧ a.c1 = 0
 n2 : a.a2 = none → k.nodes.length = 0 ∧ a.c2 = 0
 n3 : a.a3 = none → k.pipes.length = 0 ∧ a.c3 = 0
 n4 : a.a4 = none → k.procs.length = 0 ∧ a.c4 = 0
structure KA.caps (a : KA) (k : Krn) : Prop where
 m : k.mods.length ≤ a.c0
 d : k.nodes.length ≤ a.c2
theorem KrnAt.keep {w w' : World} {B : Nat} {a : KA} {k : Krn} (h : KrnAt w B a k) (hk : ∀ p : Addr, p.block < B → w'.cell? p = w.cell? p) : KrnAt w' B a k :=
 { h with mods := h.mods.keep hk, mem := h.mem.keep hk, nodes := h.nodes.keep hk, pipes := h.pipes.keep hk, procs := h.procs.keep hk }
theorem KrnAt.below {w w' : World} {B : Nat} {a : KA} {k : Krn} (h : KrnAt w B a k) (hb : Below B w w') : KrnAt w' B a k := h.keep fun _ hp => hb.cell hp
theorem KrnAt.more {w : World} {B B' : Nat} {a : KA} {k : Krn} (h : KrnAt w B a k) (hB : B ≤ B') : KrnAt w B' a k :=
 { h with mods := h.mods.more hB, mem := h.mem.more hB, nodes := h.nodes.more hB, pipes := h.pipes.more hB, procs := h.procs.more hB }
def BoxK (w : World) (b : Nat) (a : KA) (k : Krn) : Prop :=
 w.cell? ⟨b, 0, none⟩ = some (.slice a.a0 k.mods.length a.c0) ∧ w.cell? ⟨b, 1, none⟩ = some (.slice a.a1 k.mem.length a.c1) ∧ w.cell? ⟨b, 2, none⟩ = some (.slice a.a2 k.nodes.length a.c2) ∧
 w.cell? ⟨b, 3, none⟩ = some (.slice a.a3 k.pipes.length a.c3) ∧ w.cell? ⟨b, 4, none⟩ = some (.slice a.a4 k.procs.length a.c4)
theorem BoxK.below {w w' : World} {b B : Nat} {a : KA} {k : Krn} (h : BoxK w b a k) (hb : Below B w w') (hlt : b < B) : BoxK w' b a k :=
 ⟨(hb.cell (p := ⟨b, 0, none⟩) hlt).trans h.1, (hb.cell (p := ⟨b, 1, none⟩) hlt).trans h.2.1, (hb.cell (p := ⟨b, 2, none⟩) hlt).trans h.2.2.1, (hb.cell (p := ⟨b, 3, none⟩) hlt).trans h.2.2.2.1, (hb.cell (p := ⟨b, 4, none⟩) hlt).trans h.2.2.2.2⟩
structure Krn.wf (k : Krn) : Prop where
 code : ∀ m ∈ k.mods, ∀ i ∈ m.code, i.wf
 data : ∀ m ∈ k.mods, ∀ n ∈ m.data, wf64 n
 mem : ∀ n ∈ k.mem, wf64 n
 nodes : ∀ x ∈ k.nodes, wf64 x.kind ∧ wf64 x.unit ∧ x.name.size ≤ maxLen ∧ x.data.size ≤ maxLen
 pipes : ∀ s ∈ k.pipes, s.size ≤ maxLen
 ends : ∀ p ∈ k.procs, ∀ x ∈ p.ends, wf64 x.kind ∧ wf64 x.node ∧ wf64 x.pos
structure Akt.wf (a : Akt) : Prop where
 kind : wf64 a.kind
 p : wf64 a.p
 n : wf64 a.n
 m : wf64 a.m
 name : a.name.size ≤ 140737488351232
 data : a.data.size ≤ 140737488351232
def Akt.cells (a : Akt) : Array Value := #[.int .i64 a.kind, .int .i64 a.p, .int .i64 a.n, .int .i64 a.m, .string a.name, .string a.data]
end Go.Proofs.YtdjamdbamkhblacDoor
