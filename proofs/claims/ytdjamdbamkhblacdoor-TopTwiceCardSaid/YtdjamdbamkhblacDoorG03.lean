/- Made code is trusted; what a verification that finds nothing says: plain mathematics. The walk of picked: no condition but that the number is one of 64 bits. What K.Plain makes of raw things is plain code, what is made of it is trusted, and what the law MadeSafe puts before it is not: plain mathematics. a slice that reads as cells; append onto a row of the call's own from it. Lists of instructions and of integers as rows of cells; rows of the call's own read as lists: no condition. A block that is known whole, and how it is kept: no condition. A region that draws its order, walked once by an invariant over what has run so far. No condition. -/
import Derived.Test.YtdjamdbamkhblacDoorG02
import Derived.Test.YtdjamdbamkhblacDoorG01
import Derived.RegionTactic
namespace Go.Proofs.YtdjamdbamkhblacDoor
theorem vrf_zero_iff (n : Nat) (l : List Ins) : vrf n l = 0 ↔ ∀ k (h : k < l.length), badB n l[k] (l.getD (k + 1) default) = false := by
 induction l with
 | nil => simp [vrf]
 | cons i r ih =>
   rw [vrf]
   have e0 : (i :: r).getD 1 default = r.headD default := by cases r <;> rfl
   by_cases h1 : badB n i (r.headD default) = true
   ·rw [if_pos h1]
    refine ⟨fun h => by omega, fun h => ?_⟩
    have := h 0 (by simp)
    rw [e0] at this
    simp only [List.getElem_cons_zero] at this
    rw [h1] at this; cases this
   ·rw [if_neg h1, ih]
    refine ⟨fun h k hk => ?_, fun h k hk => h (k + 1) (by simpa using hk)⟩
    cases k with
    | zero => rw [e0]; simpa using h1
    | succ k => exact h k (by simpa using hk)
theorem lastOk_iff (l : List Ins) : lastOk l = true ↔ ∃ h : 0 < l.length, endB l[l.length - 1] = true := by
 unfold lastOk
 rw [List.getLast?_eq_getElem?]
 by_cases h : 0 < l.length
 ·rw [List.getElem?_eq_getElem (by omega)]
  exact ⟨fun e => ⟨h, e⟩, fun ⟨_, e⟩ => e⟩
 ·rw [List.getElem?_eq_none (by omega)]
  exact ⟨fun e => (nomatch e), fun ⟨h', _⟩ => absurd h' h⟩
theorem verify_zero_iff (l : List Ins) : verify l = 0 ↔ check l = 0 ∧ lastOk l = true ∧ vrf l.length l = 0 := by
 unfold verify
 split
 ·rename_i h
  split
  ·rename_i h2
   exact ⟨fun e => ⟨h, h2, e⟩, fun e => e.2.2⟩
  ·rename_i h2
   exact ⟨fun e => by omega, fun e => absurd e.2.1 h2⟩
 ·rename_i h
  exact ⟨fun e => absurd e h, fun e => absurd e.1 h⟩
theorem flat_index (l0 : List Ins) : ∀ (l : List Ins) (q : Nat), q < (l.flatMap (mkI l0)).length → ∃ k j, ∃ h : k < l.length, j < (mkI l0 l[k]).length ∧ q = ((l.take k).flatMap (mkI l0)).length + j
 | [], q, h => by simp at h
 | i :: r, q, h => by
   rw [List.flatMap_cons, List.length_append] at h
   by_cases hq : q < (mkI l0 i).length
   ·exact ⟨0, q, by simp, hq, by simp⟩
   ·obtain ⟨k, j, hk, hj, e⟩ := flat_index l0 r (q - (mkI l0 i).length) (by omega)
    exact ⟨k + 1, j, by simpa using hk, by simpa using hj, by rw [List.take_succ_cons, List.flatMap_cons, List.length_append]; omega⟩
theorem madeOf_length (l : List Ins) : (madeOf l).length = atMap l l.length := by
 have := atMap_flat (l := l) (Nat.le_refl _)
 rw [List.take_length] at this
 exact this
theorem atMap_mono {l : List Ins} {a b : Nat} (h : a ≤ b) : atMap l a ≤ atMap l b := by
 unfold atMap
 have hs : (l.take a).Sublist (l.take b) := by
  have : l.take a = (l.take b).take a := by rw [List.take_take, Nat.min_eq_left h]
  rw [this]
  exact List.take_sublist _ _
 have := hs.countP_le (p := ldB)
 omega
theorem atMap_lt {l : List Ins} {k : Nat} (h : k < l.length) : atMap l k < (madeOf l).length := by
 rw [madeOf_length]
 have h1 := atMap_succ h
 have h2 := atMap_mono (l := l) (show k + 1 ≤ l.length by omega)
 omega
theorem madeOf_le (l : List Ins) : l.length ≤ (madeOf l).length ∧ (madeOf l).length ≤ 3 * l.length := by
 rw [madeOf_length, atMap, List.take_length]
 have := List.countP_le_length (p := ldB) (l := l)
 omega
theorem made_verify {l : List Ins} (hp : PlainOk l) (h0 : 0 < l.length) (hck : chk l = 0) (h200 : (madeOf l).length ≤ 200) : verify (madeOf l) = 0 := by
 have hok := (chk_zero_iff l).1 hck
 -- what stands at a place
 have at_ : ∀ q (hq : q < (madeOf l).length), ∃ k, ∃ hk : k < l.length,
   ((ldB l[k] = true ∧ (((madeOf l)[q] = ⟨4, 4, l[k].b, 6⟩ ∧ (madeOf l)[q + 1]? = some ⟨5, 4, 4, 5⟩) ∨ (madeOf l)[q] = ⟨5, 4, 4, 5⟩ ∨ (madeOf l)[q] = ⟨l[k].op, l[k].a, 4, l[k].c⟩)) ∨
    (ldB l[k] = false ∧ jmpB l[k] = true ∧ (madeOf l)[q] = ⟨l[k].op, l[k].a, l[k].b, (atMap l l[k].c.toNat : Nat)⟩) ∨
    (ldB l[k] = false ∧ jmpB l[k] = false ∧ (madeOf l)[q] = l[k])) := by
  intro q hq
  obtain ⟨k, j, hk, hj, e⟩ := flat_index l l q hq
  rw [atMap_flat (by omega)] at e
  have hm := fun j hj => made_at hk j hj
  have hq1 := hm j hj
  rw [← e, List.getElem?_eq_getElem hq] at hq1
  refine ⟨k, hk, ?_⟩
  cases hld : ldB l[k] with
  | true =>
    have mk : mkI l l[k] = [⟨4, 4, l[k].b, 6⟩, ⟨5, 4, 4, 5⟩, ⟨l[k].op, l[k].a, 4, l[k].c⟩] := by unfold mkI; rw [if_pos hld]
    rw [mk] at hq1 hj hm
    left
    refine ⟨rfl, ?_⟩
    match j, hj with
    | 0, _ => left; exact ⟨by simpa using hq1, by have := hm 1 (by simp); rw [e]; exact this⟩
    | 1, _ => right; left; simpa using hq1
    | 2, _ => right; right; simpa using hq1
  | false =>
    right
    have hj0 : j = 0 := by
     have := mkI_length l l[k]
     rw [hld] at this
     simp at this
     omega
    subst hj0
    cases hjb : jmpB l[k] with
    | true =>
      have mk : mkI l l[k] = [⟨l[k].op, l[k].a, l[k].b, (atMap l l[k].c.toNat : Nat)⟩] := by unfold mkI; rw [if_neg (by rw [hld]; decide), if_pos hjb]
      rw [mk] at hq1
      left
      exact ⟨rfl, rfl, by simpa using hq1⟩
    | false =>
      have mk : mkI l l[k] = [l[k]] := by unfold mkI; rw [if_neg (by rw [hld]; decide), if_neg (by rw [hjb]; decide)]
      rw [mk] at hq1
      right
      exact ⟨rfl, rfl, by simpa using hq1⟩
 have hlen := (madeOf_le l).1
 refine (verify_zero_iff _).2 ⟨(check_zero_iff _).2 ⟨h200, (chk_zero_iff _).2 fun i hi => ?_⟩, (lastOk_iff _).2 ⟨by omega, ?_⟩, (vrf_zero_iff _ _).2 fun q hq => ?_⟩
 ·obtain ⟨q, hq, rfl⟩ := List.mem_iff_getElem.1 hi
  obtain ⟨k, hk, hc⟩ := at_ q hq
  obtain ⟨⟨o1, o2⟩, o3⟩ := hok _ (List.getElem_mem hk)
  obtain ⟨ha, hb, hcc⟩ := (okI_iff _).1 o3
  obtain ⟨fa, fb, fc, fj⟩ := unplainB_false (hp.each k hk)
  rcases hc with ⟨hld, hc⟩ | ⟨hld, hjb, hc⟩ | ⟨hld, hjb, hc⟩
  ·have ho : l[k].op = 8 ∨ l[k].op = 9 := by simpa [ldB] using hld
   have b7 := gB_le l[k].op
   rcases hc with ⟨hc, _⟩ | hc | hc
   ·rw [hc]
    refine ⟨by simp, (okI_iff _).2 ⟨(by decide : (0 : Int) ≤ 4 ∧ (4 : Int) ≤ gA 4), ?_, (by decide : (0 : Int) ≤ 6 ∧ (6 : Int) ≤ gC 4)⟩⟩
    show 0 ≤ l[k].b ∧ l[k].b ≤ 7
    omega
   ·rw [hc]; exact ⟨by decide, by decide⟩
   ·rw [hc]
    refine ⟨⟨o1, o2⟩, (okI_iff _).2 ⟨ha, ?_, hcc⟩⟩
    show 0 ≤ (4 : Int) ∧ 4 ≤ gB l[k].op
    unfold gB
    rw [if_pos (by omega)]
    omega
  ·rw [hc]
   have ho : l[k].op = 10 ∨ l[k].op = 11 ∨ l[k].op = 12 := by simpa [jmpB] using hjb
   have hlt := fj ho
   have := atMap_lt (l := l) (k := l[k].c.toNat) (by omega)
   refine ⟨⟨o1, o2⟩, (okI_iff _).2 ⟨ha, hb, ?_⟩⟩
   show 0 ≤ ((atMap l l[k].c.toNat : Nat) : Int) ∧ ((atMap l l[k].c.toNat : Nat) : Int) ≤ gC l[k].op
   unfold gC
   rw [if_neg (by omega), if_neg (by omega), if_pos (by omega)]
   omega
  ·rw [hc]; exact ⟨⟨o1, o2⟩, o3⟩
 ·have hE := hp.last (l.length - 1) (by omega) (by omega)
  have hE' : l[l.length - 1].op = 10 ∨ l[l.length - 1].op = 13 ∨ l[l.length - 1].op = 15 := by simpa [endB] using hE
  have hld : ldB l[l.length - 1] = false := by simp [ldB]; omega
  have hm := made_at (l := l) (k := l.length - 1) (by omega) 0 (by rw [mkI_length]; omega)
  have hs := atMap_succ (l := l) (k := l.length - 1) (by omega)
  rw [hld, show l.length - 1 + 1 = l.length by omega, ← madeOf_length] at hs
  simp only [Bool.false_eq_true, if_false, Nat.mul_zero, Nat.add_zero] at hs
  rw [Nat.add_zero, show atMap l (l.length - 1) = (madeOf l).length - 1 by omega, List.getElem?_eq_getElem (by omega)] at hm
  unfold mkI at hm
  rw [if_neg (by rw [hld]; decide)] at hm
  split at hm
  ·simp only [List.getElem?_cons_zero, Option.some.injEq] at hm
   rw [hm]
   simp only [endB, decide_eq_true_eq]
   exact hE'
  ·simp only [List.getElem?_cons_zero, Option.some.injEq] at hm
   rw [hm]; exact hE
 ·obtain ⟨k, hk, hc⟩ := at_ q hq
  obtain ⟨⟨o1, o2⟩, o3⟩ := hok _ (List.getElem_mem hk)
  obtain ⟨fa, fb, fc, fj⟩ := unplainB_false (hp.each k hk)
  rcases hc with ⟨hld, hc⟩ | ⟨hld, hjb, hc⟩ | ⟨hld, hjb, hc⟩
  ·have ho : l[k].op = 8 ∨ l[k].op = 9 := by simpa [ldB] using hld
   rcases hc with ⟨hc, hn⟩ | hc | hc
   ·rw [hc, List.getD_eq_getElem?_getD, hn]
    simp [badB, wrB, fstB, sndB, jmpB]
   ·rw [hc]
    simp [badB, wrB, fstB, sndB, jmpB]
   ·rw [hc]
    have h1 : l[k].a ≠ 4 := by omega
    have h2 : l[k].a ≠ 5 := by omega
    have h3 : l[k].a ≠ 6 := by omega
    rcases ho with ho | ho <;> simp [badB, wrB, jmpB, ho, h1, h2, h3]
  ·rw [hc]
   have ho : l[k].op = 10 ∨ l[k].op = 11 ∨ l[k].op = 12 := by simpa [jmpB] using hjb
   have hlt := fj ho
   have := atMap_lt (l := l) (k := l[k].c.toNat) (by omega)
   rcases ho with ho | ho | ho <;> simp [badB, wrB, jmpB, ho] <;> omega
  ·rw [hc]
   have h1 : l[k].a ≠ 4 := by omega
   have h2 : l[k].a ≠ 5 := by omega
   have h3 : l[k].a ≠ 6 := by omega
   have h8 : l[k].op ≠ 8 ∧ l[k].op ≠ 9 := by simpa [ldB] using hld
   simp [badB, hjb, h1, h2, h3, h8.1, h8.2]
end Go.Proofs.YtdjamdbamkhblacDoor
namespace Go.Proofs.YtdjamdbamkhblacDoor
open Go.RowKit
def pick (n : Int) (m : Nat) : Nat := (if n < 0 then -(n + 1) else n).toNat % m
theorem pick_lt (n : Int) {m : Nat} (h : 0 < m) : pick n m < m := Nat.mod_lt _ h
set_option maxHeartbeats 400000 in
theorem picked_any (n : Int) (m : Nat) (w : World) (h1 : -9223372036854775808 ≤ n) (h2 : n ≤ 9223372036854775807) (hm : 0 < m) (hm2 : (m : Int) ≤ 9223372036854775807) :
  Calls Tryd.prog 13 #[.int .i64 n, .int .i64 (m : Int)] w fun e w' => e = .returned (.int .i64 (pick n m : Nat)) ∧ w = w' := by
 have hm0 : ¬ (m : Int) = 0 := by omega
 have hm1 : (0 : Int) < (m : Int) := by omega
 have hm3 : ((m : Int) == 0) = false := by rw [beq_eq_false_iff_ne]; exact hm0
 by_cases hn : n < 0
 ·have hn2 : 0 ≤ -(n + 1) := by omega
  have HP : Hid ((pick n m : Nat) = ((-(n + 1)) % (m : Int))) := by
   show ((pick n m : Nat) : Int) = _
   unfold pick
   rw [if_pos hn, Int.natCast_emod, Int.toNat_of_nonneg hn2]
  go_enter Tryd.func13, Tryd.ntmps13
  go_wp2
  go_ret
  refine ⟨ret_int ?_, rfl⟩
  rw [← Int.neg_tmod, Int.tmod_eq_emod_of_nonneg hn2]
  exact HP.out.symm
 ·have hn1 : 0 ≤ n := by omega
  have HP : Hid ((pick n m : Nat) = (n % (m : Int))) := by
   show ((pick n m : Nat) : Int) = _
   unfold pick
   rw [if_neg hn, Int.natCast_emod, Int.toNat_of_nonneg hn1]
  clear hn
  go_enter Tryd.func13, Tryd.ntmps13
  go_wp2
  go_ret
  refine ⟨ret_int ?_, rfl⟩
  first | exact HP.out.symm | (rw [Int.tmod_eq_emod_of_nonneg hn1]; exact HP.out.symm)
end Go.Proofs.YtdjamdbamkhblacDoor
namespace Go.Proofs.YtdjamdbamkhblacDoor
def plainI (n i : Nat) (r : Ins) : Ins :=
 if pick r.op 14 = 0 then ⟨1, (pick r.a 4 : Nat), 0, (pick r.c 80 : Nat)⟩
 else if pick r.op 14 = 7 ∨ pick r.op 14 = 8 then ⟨1 + (pick r.op 14 : Nat), (pick r.a 4 : Nat), (pick r.b 4 : Nat), 0⟩
 else if pick r.op 14 = 9 ∨ pick r.op 14 = 11 then (if pick r.b 9 = 0 then ⟨12, 0, 0, ((i + pick r.c (n + 1 - i) : Nat) : Int)⟩ else ⟨11, (pick r.a 4 : Nat), 0, ((i + pick r.c (n + 1 - i) : Nat) : Int)⟩)
 else if pick r.op 14 = 10 then ⟨11, (pick r.a 4 : Nat), 0, if pick r.b 12 = 0 then (pick r.c (n + 1) : Nat) else ((i + pick r.c (n + 1 - i) : Nat) : Int)⟩
 else if pick r.op 14 = 12 then (if 0 < pick r.c 3 then ⟨2, 1, 2, 3⟩ else ⟨13, 0, 0, 0⟩)
 else if pick r.op 14 = 13 then ⟨14, (pick r.a 4 : Nat), 0, 0⟩
 else ⟨1 + (pick r.op 14 : Nat), (pick r.a 4 : Nat), (pick r.b 4 : Nat), (pick r.c 4 : Nat)⟩
def plainTo (l : List Ins) (n k : Nat) : List Ins := (List.range k).map fun i => plainI n i (l.getD i default)
def plainN (l : List Ins) : Nat := min l.length 30
def plainL (l : List Ins) : List Ins := plainTo l (plainN l) (plainN l) ++ [⟨13, 0, 0, 0⟩]
theorem plainTo_succ (l : List Ins) (n k : Nat) : plainTo l n (k + 1) = plainTo l n k ++ [plainI n k (l.getD k default)] := by
 simp [plainTo, List.range_succ]
theorem plainTo_length (l : List Ins) (n k : Nat) : (plainTo l n k).length = k := by simp [plainTo]
theorem plainL_length (l : List Ins) : (plainL l).length = plainN l + 1 := by simp [plainL, plainTo_length]
theorem plainN_le (l : List Ins) : plainN l ≤ 30 := by unfold plainN; omega
theorem pick_le3 (n : Int) : (pick n 4 : Nat) ≤ 3 := by have := pick_lt n (m := 4) (by omega); omega
theorem plainI_ok (n i : Nat) (r : Ins) (hi : i ≤ n) (hn : n ≤ 30) : (1 ≤ (plainI n i r).op ∧ (plainI n i r).op ≤ 15) ∧ okI (plainI n i r) = true ∧ unplainB (n + 1) (plainI n i r) = false := by
 have ho := pick_lt r.op (m := 14) (by omega)
 have ha := pick_le3 r.a
 have hb := pick_le3 r.b
 have hc := pick_le3 r.c
 have hc80 := pick_lt r.c (m := 80) (by omega)
 have hc1 := pick_lt r.c (m := n + 1 - i) (by omega)
 have hc2 := pick_lt r.c (m := n + 1) (by omega)
 unfold plainI
 by_cases h0 : pick r.op 14 = 0
 ·rw [if_pos h0]; simp [okI, gA, gB, gC, unplainB, oddB, jmpB]; omega
 rw [if_neg h0]
 by_cases h1 : pick r.op 14 = 7 ∨ pick r.op 14 = 8
 ·rw [if_pos h1]
  rcases h1 with h1 | h1 <;> rw [h1] <;> simp [okI, gA, gB, gC, unplainB, oddB, jmpB] <;> omega
 rw [if_neg h1]
 by_cases h2 : pick r.op 14 = 9 ∨ pick r.op 14 = 11
 ·rw [if_pos h2]
  split <;> simp [okI, gA, gB, gC, unplainB, oddB, jmpB] <;> omega
 rw [if_neg h2]
 by_cases h3 : pick r.op 14 = 10
 ·rw [if_pos h3]
  split <;> simp [okI, gA, gB, gC, unplainB, oddB, jmpB] <;> omega
 rw [if_neg h3]
 by_cases h4 : pick r.op 14 = 12
 ·rw [if_pos h4]
  split <;> simp [okI, gA, gB, gC, unplainB, oddB, jmpB]
 rw [if_neg h4]
 by_cases h5 : pick r.op 14 = 13
 ·rw [if_pos h5]; simp [okI, gA, gB, gC, unplainB, oddB, jmpB]; omega
 rw [if_neg h5]
 have : pick r.op 14 = 1 ∨ pick r.op 14 = 2 ∨ pick r.op 14 = 3 ∨ pick r.op 14 = 4 ∨ pick r.op 14 = 5 ∨ pick r.op 14 = 6 := by omega
 rcases this with h | h | h | h | h | h <;> rw [h] <;> simp [okI, gA, gB, gC, unplainB, oddB, jmpB] <;> omega
theorem plainL_at (l : List Ins) (k : Nat) (h : k < (plainL l).length) : ((1 ≤ (plainL l)[k].op ∧ (plainL l)[k].op ≤ 15) ∧ okI (plainL l)[k] = true ∧ unplainB (plainL l).length (plainL l)[k] = false) ∧ (k + 1 = (plainL l).length → (plainL l)[k] = ⟨13, 0, 0, 0⟩) := by
 have hlen := plainL_length l
 have hn := plainN_le l
 rw [hlen] at h
 rcases Nat.lt_or_ge k (plainN l) with hk | hk
 ·have e : (plainL l)[k]'(by rw [hlen]; omega) = plainI (plainN l) k (l.getD k default) := by
   unfold plainL
   rw [List.getElem_append_left (by rw [plainTo_length]; exact hk)]
   simp [plainTo]
  rw [e, hlen]
  exact ⟨plainI_ok _ _ _ (by omega) hn, fun h => by omega⟩
 ·have hk' : k = plainN l := by omega
  have e : (plainL l)[k]'(by rw [hlen]; omega) = ⟨13, 0, 0, 0⟩ := by
   unfold plainL
   rw [List.getElem_append_right (by rw [plainTo_length]; omega)]
   simp
  rw [e, hlen]
  refine ⟨⟨⟨by decide, by decide⟩, rfl, ?_⟩, fun _ => rfl⟩
  simp [unplainB, oddB, jmpB]
theorem plainL_ok (l : List Ins) : PlainOk (plainL l) ∧ chk (plainL l) = 0 ∧ 0 < (plainL l).length ∧ (plainL l).length ≤ 31 := by
 have hlen := plainL_length l
 have hn := plainN_le l
 have hchk : chk (plainL l) = 0 := (chk_zero_iff _).2 fun i hi => by
  obtain ⟨k, hk, rfl⟩ := List.mem_iff_getElem.1 hi
  exact ⟨(plainL_at l k hk).1.1, (plainL_at l k hk).1.2.1⟩
 refine ⟨⟨codeOk_of_check ((check_zero_iff _).2 ⟨by omega, hchk⟩), fun k hk h => ?_, fun k hk => (plainL_at l k hk).1.2.2⟩, hchk, by omega, by omega⟩
 rw [(plainL_at l k hk).2 h]
 rfl
theorem plainL_made (l : List Ins) : (plainL l).length ≤ (madeOf (plainL l)).length ∧ (madeOf (plainL l)).length ≤ 93 ∧ verify (madeOf (plainL l)) = 0 := by
 obtain ⟨h1, h2, h3, h4⟩ := plainL_ok l
 obtain ⟨h5, h6⟩ := madeOf_le (plainL l)
 exact ⟨h5, by omega, made_verify h1 h3 h2 (by omega)⟩
theorem plainL_plainB (l : List Ins) : lastOk (plainL l) = true ∧ (plainL l).any (unplainB (plainL l).length) = false := by
 obtain ⟨h1, _, h3, _⟩ := plainL_ok l
 refine ⟨(lastOk_iff _).2 ⟨h3, h1.last _ (by omega) (by omega)⟩, ?_⟩
 rw [List.any_eq_false]
 intro i hi
 obtain ⟨k, hk, rfl⟩ := List.mem_iff_getElem.1 hi
 rw [h1.each k hk]; simp
end Go.Proofs.YtdjamdbamkhblacDoor
namespace Go.Proofs.YtdjamdbamkhblacDoor
open Go.RowKit
def Rd (w : World) (B size : Nat) (A : Option Addr) (n : Nat) (xs : List Value) : Prop :=
 xs.length = n * size ∧ (0 < n → ∃ b o, A = some ⟨b, o, none⟩ ∧ b < B ∧ ∀ j u, xs[j]? = some u → w.cell? ⟨b, o + j, none⟩ = some u)
theorem Rd.keep {w w' : World} {B size n : Nat} {A : Option Addr} {xs : List Value} (h : Rd w B size A n xs) (hk : ∀ p : Addr, p.block < B → w'.cell? p = w.cell? p) : Rd w' B size A n xs :=
 ⟨h.1, fun hn => by
   obtain ⟨b, o, e, hb, hc⟩ := h.2 hn
   exact ⟨b, o, e, hb, fun j u hu => (hk _ hb).trans (hc j u hu)⟩⟩
theorem Rd.below {w w' : World} {B size n : Nat} {A : Option Addr} {xs : List Value} (h : Rd w B size A n xs) (hb : Below B w w') : Rd w' B size A n xs := h.keep fun _ hp => hb.cell hp
theorem Rd.more {w : World} {B B' size n : Nat} {A : Option Addr} {xs : List Value} (h : Rd w B size A n xs) (hB : B ≤ B') : Rd w B' size A n xs :=
 ⟨h.1, fun hn => by
   obtain ⟨b, o, e, hb, hc⟩ := h.2 hn
   exact ⟨b, o, e, by omega, hc⟩⟩
theorem add_plain (b o j : Nat) : (⟨b, o, none⟩ : Addr).add j = ⟨b, o + j, none⟩ := by unfold Addr.add; split <;> simp_all
section
variable {P : Program} (w : World)
theorem run_append_rd (base : Nat) (t ty e : TypeId) (i : TypeInfo) (z : Value) (size bytes : Nat) (ht : P.underlying t = some (.slice e)) (hi : P.info? e = some i) (hz : i.zero = some z)
  (hsize : i.size = size) (hby : i.bytes = bytes) (hzs : z.cells.size = size) (hsz : 0 < size)
  (v : Value) (n : Nat) (xs : List Value) (hown : w.ownsRow base e size v n xs)
  (B : Nat) (A : Option Addr) (m c : Nat) (news : List Value) (hr : Rd w B size A m news) (h1 : ∀ u ∈ news, u.oneCell' = true)
  (h63 : n + m ≤ maxLen) (hbytes : (n + m) * bytes ≤ 140737488355328) (hbase : base ≤ w.heap.size) :
  ∃ v' w', (Builtin.append_ #[t, t] ty #[v, .slice A m c]).run P w = .ok v' w' ∧ w'.ownsRow base e size v' (n + m) (xs ++ news) ∧ w.grownBy w' v.ownBlock ∧
   (v'.ownBlock = v.ownBlock ∨ v'.ownBlock = some w.heap.size) := by
 rcases Nat.eq_zero_or_pos m with h0 | h0
 ·subst h0
  have hn : news = [] := List.eq_nil_of_length_eq_zero (by simpa using hr.1)
  subst hn
  cases A with
  | none =>
    refine ⟨v, w, ?_, by simpa using hown, World.grownBy.refl w _, .inl rfl⟩
    rcases hown.2 with ⟨rfl, rfl⟩ | ⟨g, cap, cur, rfl, _, _, hnc, _⟩
    ·simp [Builtin.append_, run_underlying ht, sizeOf, typeInfo, hi, Builtin.lenOf, Builtin.firstCells]
    ·simp [Builtin.append_, run_underlying ht, sizeOf, typeInfo, hi, Builtin.lenOf, Builtin.firstCells, hnc, storeCells]
  | some ad =>
    obtain ⟨v', w', hrun, h2, h3, _, h5⟩ := run_append_own_at (P := P) w base t ty e i z size bytes ht hi hz hsize hby hzs hsz v n xs hown ad 0 c [] (by simp) (by simp) (by simp) h63 hbytes hbase
    exact ⟨v', w', hrun, h2, h3, h5⟩
 ·obtain ⟨b, o, rfl, _, hc⟩ := hr.2 h0
  obtain ⟨v', w', hrun, h2, h3, _, h5⟩ := run_append_own_at (P := P) w base t ty e i z size bytes ht hi hz hsize hby hzs hsz v n xs hown ⟨b, o, none⟩ m c news hr.1 (fun j u hj => by rw [add_plain]; exact hc j u hj) h1 h63 hbytes hbase
  exact ⟨v', w', hrun, h2, h3, h5⟩
theorem wpList_append_rd {ops : Array Oper} {rest : List Oper} {o : Oper} {a : Act} {Q : Exit → Act → World → Prop} (hgd : o.guard = none) (s x : Operand) (t : TypeId)
  (ho : o.op = .call { callee := .builtin .append, args := #[s, x], argTypes := #[t, t] })
  (base : Nat) (e : TypeId) (i : TypeInfo) (z : Value) (size bytes : Nat) (ht : P.underlying t = some (.slice e)) (hi : P.info? e = some i) (hz : i.zero = some z)
  (hsize : i.size = size) (hby : i.bytes = bytes) (hzs : z.cells.size = size) (hsz : 0 < size)
  (v : Value) (n : Nat) (xs : List Value) (hs : a.eval s = v) (hown : w.ownsRow base e size v n xs)
  (B : Nat) (A : Option Addr) (m c : Nat) (news : List Value) (hx : a.eval x = .slice A m c) (hr : Rd w B size A m news) (h1 : ∀ u ∈ news, u.oneCell' = true)
  (h63 : n + m ≤ maxLen) (hbytes : (n + m) * bytes ≤ 140737488355328) (hbase : base ≤ w.heap.size)
  (h : ∀ v' w', w'.ownsRow base e size v' (n + m) (xs ++ news) → w.grownBy w' v.ownBlock → (v'.ownBlock = v.ownBlock ∨ v'.ownBlock = some w.heap.size) → wpList P ops Q rest (a.put o.dst v') w') : wpList P ops Q (o :: rest) a w :=
 wpList_plain hgd fun K hK => by
  obtain ⟨v', w', hrun, h2, h3, h4⟩ := run_append_rd (P := P) w base t o.type e i z size bytes ht hi hz hsize hby hzs hsz v n xs hown B A m c news hr h1 h63 hbytes hbase
  unfold Oper.wp execOp
  simp only [ho, resolve, invoke, builtin, Sem.run_bind, Sem.run_pure, Result.andThen_ok, List.map_toArray, List.map_cons, List.map_nil, hs, hx, hrun]
  exact hK _ _ (h v' w' h2 h3 h4)
end
theorem own_slice {w : World} {base : Nat} {e : TypeId} {size : Nat} {v : Value} {n : Nat} {xs : List Value} (h : w.ownsRow base e size v n xs) : ∃ A c, v = .slice A n c := by
 rcases h.2 with ⟨rfl, rfl⟩ | ⟨g, cap, cur, rfl, _⟩
 ·exact ⟨none, 0, rfl⟩
 ·exact ⟨_, _, rfl⟩
theorem own_base {w : World} {base B : Nat} {e : TypeId} {size : Nat} {v : Value} {n : Nat} {xs : List Value} (h : w.ownsRow base e size v n xs) (hB : B ≤ base) : w.ownsRow B e size v n xs := by
 refine ⟨h.1, ?_⟩
 rcases h.2 with h2 | ⟨g, cap, cur, hv, hg, r⟩
 ·exact .inl h2
 ·exact .inr ⟨g, cap, cur, hv, Nat.le_trans hB hg, r⟩
theorem own_below {w w' : World} {base : Nat} {e : TypeId} {size : Nat} {v : Value} {n : Nat} {xs : List Value} (h : w.ownsRow base e size v n xs) (hb : Below w.heap.size w w') : w'.ownsRow base e size v n xs :=
 h.kept (row := none) ⟨hb.os, hb.tape, hb.output, hb.size, fun k hk _ => hb.block k hk⟩ (by cases hv : v.ownBlock <;> simp)
end Go.Proofs.YtdjamdbamkhblacDoor
namespace Go.Proofs.YtdjamdbamkhblacDoor
open Go.RowKit
def insCells (l : List Ins) : List Value := l.flatMap fun i => [.int .i64 i.op, .int .i64 i.a, .int .i64 i.b, .int .i64 i.c]
def intCells (l : List Int) : List Value := l.map (Value.int .i64)
theorem insCells_length (l : List Ins) : (insCells l).length = l.length * 4 := by
 induction l with
 | nil => rfl
 | cons i r ih => simp [insCells] at ih ⊢; omega
theorem insCells_at (l : List Ins) : ∀ (k : Nat) (h : k < l.length), (insCells l)[k * 4]? = some (.int .i64 l[k].op) ∧ (insCells l)[k * 4 + 1]? = some (.int .i64 l[k].a) ∧ (insCells l)[k * 4 + 2]? = some (.int .i64 l[k].b) ∧ (insCells l)[k * 4 + 3]? = some (.int .i64 l[k].c) := by
 induction l with
 | nil => intro k h; cases h
 | cons i r ih =>
   intro k h
   have hc : insCells (i :: r) = [.int .i64 i.op, .int .i64 i.a, .int .i64 i.b, .int .i64 i.c] ++ insCells r := by simp [insCells]
   rw [hc]
   cases k with
   | zero => exact ⟨rfl, rfl, rfl, rfl⟩
   | succ k =>
     have h4 : ∀ j, ([.int .i64 i.op, .int .i64 i.a, .int .i64 i.b, .int .i64 i.c] ++ insCells r : List Value)[(k + 1) * 4 + j]? = (insCells r)[k * 4 + j]? := fun j => by
      rw [List.getElem?_append_right (by simp; omega)]
      congr 1
      simp; omega
     have := ih k (by simpa using h)
     exact ⟨(h4 0).trans this.1, (h4 1).trans this.2.1, (h4 2).trans this.2.2.1, (h4 3).trans this.2.2.2⟩
theorem RdI.rd {w : World} {B : Nat} {A : Option Addr} {l : List Ins} (h : RdI w B A l) : Rd w B 4 A l.length (insCells l) :=
 ⟨insCells_length l, fun hn => by
   obtain ⟨b, o, e, hb, hc⟩ := h hn
   refine ⟨b, o, e, hb, fun j u hu => ?_⟩
   have hj : j < l.length * 4 := by rw [← insCells_length]; exact (List.getElem?_eq_some_iff.1 hu).1
   have hm : ∃ q, q < l.length ∧ (j = q * 4 ∨ j = q * 4 + 1 ∨ j = q * 4 + 2 ∨ j = q * 4 + 3) := ⟨j / 4, by omega, by omega⟩
   obtain ⟨q, hq, hm⟩ := hm
   obtain ⟨x0, x1, x2, x3⟩ := insCells_at l q hq
   obtain ⟨c0, c1, c2, c3⟩ := hc q hq
   rcases hm with h | h | h | h <;> subst h
   ·rw [x0] at hu; cases hu; exact c0
   ·rw [x1] at hu; cases hu; exact c1
   ·rw [x2] at hu; cases hu; exact c2
   ·rw [x3] at hu; cases hu; exact c3⟩
theorem intCells_at (l : List Int) (k : Nat) (h : k < l.length) : (intCells l)[k]? = some (.int .i64 l[k]) := by simp [intCells, h]
theorem RdN.rd {w : World} {B : Nat} {A : Option Addr} {l : List Int} (h : RdN w B A l) : Rd w B 1 A l.length (intCells l) :=
 ⟨by simp [intCells], fun hn => by
   obtain ⟨b, o, e, hb, hc⟩ := h hn
   refine ⟨b, o, e, hb, fun j u hu => ?_⟩
   have hj : j < l.length := by simpa [intCells] using (List.getElem?_eq_some_iff.1 hu).1
   rw [intCells_at l j hj] at hu; cases hu; exact hc j hj⟩
theorem ins_one (l : List Ins) : ∀ u ∈ insCells l, u.oneCell' = true := by
 intro u hu
 simp only [insCells, List.mem_flatMap] at hu
 obtain ⟨i, _, hu⟩ := hu
 simp at hu
 rcases hu with h | h | h | h <;> subst h <;> rfl
theorem int_one (l : List Int) : ∀ u ∈ intCells l, u.oneCell' = true := by
 intro u hu
 simp only [intCells, List.mem_map] at hu
 obtain ⟨i, _, rfl⟩ := hu
 rfl
theorem Rd.of_own {w : World} {base : Nat} {e : TypeId} {size n c : Nat} {A : Option Addr} {xs : List Value} (h : w.ownsRow base e size (.slice A n c) n xs) : Rd w w.heap.size size A n xs := by
 refine ⟨h.1, fun hn => ?_⟩
 obtain ⟨g, cap, hv, _, hlt⟩ := h.form hn
 have hA : A = some ⟨g, 0, none⟩ := by injection hv
 subst hA
 refine ⟨g, 0, rfl, hlt, fun j u hu => ?_⟩
 have := h.cells (g := g) rfl j u hu
 rwa [add_plain] at this
theorem RdI.of {w : World} {B : Nat} {A : Option Addr} {l : List Ins} (h : Rd w B 4 A l.length (insCells l)) : RdI w B A l := fun hl => by
 obtain ⟨b, o, e, hb, hc⟩ := h.2 hl
 refine ⟨b, o, e, hb, fun k hk => ?_⟩
 obtain ⟨x0, x1, x2, x3⟩ := insCells_at l k hk
 exact ⟨hc _ _ x0, hc _ _ x1, hc _ _ x2, hc _ _ x3⟩
theorem RdN.of {w : World} {B : Nat} {A : Option Addr} {l : List Int} (h : Rd w B 1 A l.length (intCells l)) : RdN w B A l := fun hl => by
 obtain ⟨b, o, e, hb, hc⟩ := h.2 hl
 exact ⟨b, o, e, hb, fun k hk => hc _ _ (intCells_at l k hk)⟩
end Go.Proofs.YtdjamdbamkhblacDoor
namespace Go.Proofs.YtdjamdbamkhblacDoor
open Go.RowKit
def Blk (w : World) (g : Nat) (t : TypeId) (cs : Array Value) : Prop := w.heap[g]? = some (.cells cs t (0, 0))
section
variable {w w' : World} {g : Nat} {t : TypeId} {cs : Array Value}
theorem Blk.lt (h : Blk w g t cs) : g < w.heap.size := by
 rcases Nat.lt_or_ge g w.heap.size with hlt | hge
 ·exact hlt
 ·unfold Blk at h; rw [Array.getElem?_eq_none hge] at h; cases h
theorem Blk.cell (h : Blk w g t cs) (i : Nat) : w.cell? ⟨g, i, none⟩ = cs[i]? := cell_of_row w g i cs t (0, 0) h
theorem Blk.frozen (h : Blk w g t cs) (i : Nat) : w.frozen? ⟨g, i, none⟩ = false := by
 unfold Blk at h
 simp [World.frozen?, h]
theorem Blk.new (w : World) (t : TypeId) (cs : Array Value) : Blk (w.alloc (.cells cs t)) w.heap.size t cs := heap_alloc_new w _
theorem Blk.drew (h : Blk w g t cs) : Blk w.drew g t cs := h
theorem Blk.drewN (h : Blk w g t cs) (n : Nat) : Blk (w.drewN n) g t cs := h
theorem Blk.alloc (h : Blk w g t cs) (o : Obj) : Blk (w.alloc o) g t cs := (Below.heap_alloc w o g h.lt).trans h
theorem Blk.set_ (h : Blk w g t cs) (i : Nat) (u : Value) : Blk (w.setCell ⟨g, i, none⟩ u) g t (cs.setIfInBounds i u) := by
 unfold Blk at h ⊢
 simp [World.setCell, Array.getElem?_modify, h]
theorem Blk.far (h : Blk w g t cs) {p : Addr} (hp : g ≠ p.block) (u : Value) : Blk (w.setCell p u) g t cs := (Below.heap_setCell w p u g hp).trans h
theorem Blk.below {B : Nat} (h : Blk w g t cs) (hb : Below B w w') (hg : g < B) : Blk w' g t cs := (hb.block g hg).trans h
theorem Blk.grown {row : Option Nat} (h : Blk w g t cs) (hb : w.grownBy w' row) (hg : some g ≠ row) : Blk w' g t cs := (hb.block g h.lt hg).trans h
theorem Blk.ne_ {g' : Nat} {t' : TypeId} {cs' : Array Value} (h : Blk w g t cs) (h' : Blk w g' t' cs') (hne : t ≠ t') : g ≠ g' := by
 rintro rfl
 unfold Blk at h h'
 rw [h] at h'
 injection h' with h'
 injection h' with _ ht
 exact hne ht
theorem own_blk_ne {base : Nat} {e : TypeId} {size n : Nat} {v : Value} {xs : List Value} (h : w.ownsRow base e size v n xs) (hg : Blk w g t cs) (hne : e ≠ t) : v.ownBlock ≠ some g := by
 rcases h.2 with ⟨rfl, _⟩ | ⟨g', cap, cur, rfl, _, hh, _⟩
 ·simp [Value.ownBlock]
 ·intro he
  have : g' = g := by simpa [Value.ownBlock] using he
  subst this
  exact Blk.ne_ (t := e) hh hg hne rfl
theorem Blk.rd (h : Blk w g t cs) (n size : Nat) (hn : n * size ≤ cs.size) : Rd w w.heap.size size (some ⟨g, 0, none⟩) n (cs.toList.take (n * size)) := by
 refine ⟨by rw [List.length_take, Array.length_toList, Nat.min_eq_left hn], fun _ => ⟨g, 0, rfl, h.lt, fun j u hu => ?_⟩⟩
 rw [Nat.zero_add, h.cell]
 rw [List.getElem?_take] at hu
 split at hu
 ·simpa using hu
 ·cases hu
end
theorem Blk.new' {w : World} {n : Nat} {t : TypeId} {cs : Array Value} (h : n = w.heap.size) : Blk (w.alloc (.cells cs t)) n t cs := by subst h; exact Blk.new w t cs
def lay5 (w : World) (b : Nat) (u0 u1 u2 u3 u4 : Value) : World := ((((w.setCell ⟨b, 0, none⟩ u0).setCell ⟨b, 1, none⟩ u1).setCell ⟨b, 2, none⟩ u2).setCell ⟨b, 3, none⟩ u3).setCell ⟨b, 4, none⟩ u4
theorem lay5_far (w : World) (b : Nat) (u0 u1 u2 u3 u4 : Value) (q : Nat) (h : q ≠ b) : (lay5 w b u0 u1 u2 u3 u4).heap[q]? = w.heap[q]? := by
 unfold lay5
 rw [Below.heap_setCell _ _ _ _ h, Below.heap_setCell _ _ _ _ h, Below.heap_setCell _ _ _ _ h, Below.heap_setCell _ _ _ _ h, Below.heap_setCell _ _ _ _ h]
theorem lay5_below {B : Nat} {a w : World} (h : Below B a w) (u0 u1 u2 u3 u4 : Value) : Below B a (lay5 w B u0 u1 u2 u3 u4) := by
 unfold lay5
 have h0 := h.setCell (p := ⟨B, 0, none⟩) (Nat.le_refl _) u0
 have h1 := h0.setCell (p := ⟨B, 1, none⟩) (Nat.le_refl _) u1
 have h2 := h1.setCell (p := ⟨B, 2, none⟩) (Nat.le_refl _) u2
 have h3 := h2.setCell (p := ⟨B, 3, none⟩) (Nat.le_refl _) u3
 exact h3.setCell (p := ⟨B, 4, none⟩) (Nat.le_refl _) u4
theorem set_grown (w : World) (p : Addr) (u : Value) : w.grownBy (w.setCell p u) (some p.block) :=
 ⟨rfl, rfl, rfl, by simp, fun q _ hne => Below.heap_setCell w p u q (fun e => hne (by rw [e]))⟩
theorem lay5_grown (w : World) (b : Nat) (u0 u1 u2 u3 u4 : Value) : w.grownBy (lay5 w b u0 u1 u2 u3 u4) (some b) := by
 unfold lay5
 exact ((((set_grown w ⟨b, 0, none⟩ u0).trans (set_grown _ ⟨b, 1, none⟩ u1)).trans (set_grown _ ⟨b, 2, none⟩ u2)).trans (set_grown _ ⟨b, 3, none⟩ u3)).trans (set_grown _ ⟨b, 4, none⟩ u4)
theorem Blk.lay5 {w : World} {b : Nat} {t : TypeId} {cs : Array Value} (h : Blk w b t cs) (hs : cs.size = 5) (u0 u1 u2 u3 u4 : Value) : Blk (lay5 w b u0 u1 u2 u3 u4) b t #[u0, u1, u2, u3, u4] := by
 have e : ((((cs.setIfInBounds 0 u0).setIfInBounds 1 u1).setIfInBounds 2 u2).setIfInBounds 3 u3).setIfInBounds 4 u4 = #[u0, u1, u2, u3, u4] := by
  match cs, hs with
  | ⟨[x0, x1, x2, x3, x4]⟩, _ => rfl
 have h1 := h.set_ 0 u0
 have h2 := h1.set_ 1 u1
 have h3 := h2.set_ 2 u2
 have h4 := h3.set_ 3 u3
 have h5 := h4.set_ 4 u4
 rw [e] at h5
 unfold Go.Proofs.YtdjamdbamkhblacDoor.lay5
 exact h5
theorem mk_lit {P : Program} (w : World) (t e : TypeId) (z : Value) (size bytes n : Nat) (ht : P.underlying t = some (.slice e)) (hinfo : (P.info? e).map (fun i => (i.zero, i.size, i.bytes)) = some (some z, size, bytes))
  (hb : bytes * n ≤ 281474976710656) (hn : n ≤ 9223372036854775807) :
  (Instr.makeSlice t (.int .i64 (n : Int)) (.int .i64 (n : Int))).run P w = .ok (.slice (some ⟨w.heap.size, 0, none⟩) n n) (w.alloc (.cells (madeCells z.cells (n * size)) e)) := by
 obtain ⟨i, hi, hz, hs, hby⟩ := info_parts hinfo
 have h1 : (i.bytes : Int) * (n : Int) ≤ 281474976710656 := by
  rw [hby]
  have : ((bytes * n : Nat) : Int) ≤ ((281474976710656 : Nat) : Int) := Int.ofNat_le.2 hb
  rw [Int.natCast_mul] at this
  exact this
 have h2 := run_make w t e i z ht hi hz .i64 .i64 (n : Int) (n : Int) (by omega) (by omega) h1 (by omega)
 rw [hs] at h2
 exact h2
end Go.Proofs.YtdjamdbamkhblacDoor
namespace Go.Proofs.YtdjamdbamkhblacDoor
open Go.RowKit
section
variable {P : Program} {ops : Array Oper} {Q : Exit → Act → World → Prop} {md : Region.Mode}
theorem ready_mem {listed : Array Bool} {i : Nat} (h : i ∈ Region.ready md ops listed) : ∃ o, ops[i]? = some o ∧ listed.getD i true = false ∧ (o.after.all fun e => !Region.binds md e || listed.getD e.on false) = true := by
 unfold Region.ready at h
 obtain ⟨h1, h2⟩ := List.mem_filter.1 h
 rw [Bool.and_eq_true] at h2
 obtain ⟨h3, h4⟩ := h2
 cases ho : ops[i]? with
 | none => rw [ho] at h4; simp at h4
 | some o =>
   rw [ho] at h4
   exact ⟨o, rfl, by simpa using h3, by simpa using h4⟩
theorem ready_all {listed : Array Bool} (hord : ∀ (i : Nat) (o : Oper), ops[i]? = some o → ∀ e ∈ o.after, e.on < i) (h : Region.ready md ops listed = []) : ∀ i, i < ops.size → listed.getD i true = true := by
 intro i
 induction i using Nat.strongRecOn with
 | ind i ih =>
   intro hi
   cases hl : listed.getD i true with
   | true => rfl
   | false =>
     exfalso
     have : i ∈ Region.ready md ops listed := by
      unfold Region.ready
      refine List.mem_filter.2 ⟨List.mem_range.2 hi, ?_⟩
      obtain ⟨o, ho⟩ : ∃ o, ops[i]? = some o := ⟨_, Array.getElem?_eq_getElem hi⟩
      rw [hl, ho]
      simp only [Bool.not_false, Bool.true_and, Option.map_some, Option.getD_some]
      rw [Array.all_eq_true_iff_forall_mem]
      intro e he
      have h1 := hord i o ho e he
      have h2 := ih e.on h1 (by omega)
      have h3 : listed.getD e.on false = true := by
       rw [Array.getD_eq_getD_getElem?] at h2 ⊢
       cases hx : listed[e.on]? with
       | none =>
         exfalso
         rw [Array.getD_eq_getD_getElem?] at hl
         cases hy : listed[i]? with
         | none => rw [hy] at hl; simp at hl
         | some b =>
           have := (Array.getElem?_eq_some_iff.1 hy).1
           have := Array.getElem?_eq_none_iff.1 hx
           omega
       | some b => rw [hx] at h2; simpa using h2
      rw [h3]; simp
     rw [h] at this
     cases this
def unlisted (listed : Array Bool) : Nat := listed.toList.countP (· == false)
theorem unlisted_set {listed : Array Bool} {i : Nat} (h : listed.getD i true = false) : unlisted (listed.setIfInBounds i true) + 1 = unlisted listed := by
 rw [Array.getD_eq_getD_getElem?] at h
 cases hy : listed[i]? with
 | none => rw [hy] at h; simp at h
 | some b =>
   rw [hy] at h
   have hb : b = false := by simpa using h
   subst hb
   obtain ⟨hi, hv⟩ := Array.getElem?_eq_some_iff.1 hy
   unfold unlisted
   rw [Array.toList_setIfInBounds, List.set_eq_take_append_cons_drop, if_pos (by simpa using hi)]
   have e : listed.toList = listed.toList.take i ++ false :: listed.toList.drop (i + 1) := by
    conv => lhs; rw [← List.take_append_drop i listed.toList]
    congr 1
    rw [List.drop_eq_getElem_cons (by simpa using hi)]
    congr 1
   conv => rhs; rw [e]
   simp only [List.countP_append, List.countP_cons]
   simp
   omega
theorem wpAny_inv (I : Array Bool → Act → World → Prop) (hord : ∀ (i : Nat) (o : Oper), ops[i]? = some o → ∀ e ∈ o.after, e.on < i)
  (hstep : ∀ (i : Nat) (o : Oper), ops[i]? = some o → ∀ listed a w, listed.getD i true = false → (o.after.all fun e => !Region.binds md e || listed.getD e.on false) = true → I listed a w →
    ∀ K : Act → World → Prop, (∀ a w, I (listed.setIfInBounds i true) a w → K a w) → if Region.wanted o (yielded ops a.tmps) = true then Oper.wp P o a w K Q else K (a.put o.dst undef) w)
  (hend : ∀ listed a w, (∀ i, i < ops.size → listed.getD i true = true) → I listed a w → Q .normal a w) :
  ∀ (fuel : Nat) (listed : Array Bool) (a : Act) (w : World), unlisted listed ≤ fuel → I listed a w → wpAny P md ops Q fuel listed a w := by
 intro fuel
 induction fuel with
 | zero =>
   intro listed a w hu hI
   have hr : Region.ready md ops listed = [] := by
    cases hr : Region.ready md ops listed with
    | nil => rfl
    | cons i r =>
      obtain ⟨o, ho, h1, h2⟩ := ready_mem (md := md) (ops := ops) (listed := listed) (i := i) (by rw [hr]; simp)
      have := unlisted_set h1
      omega
   exact ⟨hr, hend _ _ _ (ready_all hord hr) hI⟩
 | succ fuel ih =>
   intro listed a w hu hI
   refine ⟨fun hr => hend _ _ _ (ready_all hord hr) hI, fun i hi => ?_⟩
   obtain ⟨o, ho, h1, h2⟩ := ready_mem hi
   refine wpOp_step ho fun K' hK' => ?_
   refine hstep i o ho listed a w h1 h2 hI K' fun a' w' hI' => hK' _ _ (ih _ _ _ ?_ hI')
   have := unlisted_set h1
   omega
theorem unlisted_none (n : Nat) : unlisted (Array.replicate n false) ≤ n := by
 unfold unlisted
 refine Nat.le_trans List.countP_le_length ?_
 simp
theorem wp_region_inv {id : Nat} {a : Act} {w : World} (I : Array Bool → Act → World → Prop) (hm : P.follows .mixedOrders = true) (hord : ∀ (i : Nat) (o : Oper), ops[i]? = some o → ∀ e ∈ o.after, e.on < i)
  (h0 : I (Array.replicate ops.size false) a w.drew)
  (hstep : ∀ (i : Nat) (o : Oper), ops[i]? = some o → ∀ listed a w, listed.getD i true = false → (o.after.all fun e => !Region.binds .any e || listed.getD e.on false) = true → I listed a w →
    ∀ K : Act → World → Prop, (∀ a w, I (listed.setIfInBounds i true) a w → K a w) → if Region.wanted o (yielded ops a.tmps) = true then Oper.wp P o a w K Q else K (a.put o.dst undef) w)
  (hend : ∀ listed a w, (∀ i, i < ops.size → listed.getD i true = true) → I listed a w → Q .normal a w) : (Code.region id ops true).wp P Q a w :=
 wp_region_any hm (wpAny_inv I hord hstep hend _ _ _ _ (unlisted_none _) h0)
def ordB (ops : Array Oper) : Bool := (List.range ops.size).all fun i => match ops[i]? with
 | some o => o.after.all fun e => decide (e.on < i)
 | none => true
theorem ord_of (h : ordB ops = true) : ∀ (i : Nat) (o : Oper), ops[i]? = some o → ∀ e ∈ o.after, e.on < i := fun i o ho e he => by
 have hi : i < ops.size := (Array.getElem?_eq_some_iff.1 ho).1
 have := (List.all_eq_true.1 h) i (List.mem_range.2 hi)
 rw [ho] at this
 simpa using (Array.all_eq_true_iff_forall_mem.1 this) e he
end
theorem listed_set (listed : Array Bool) (i j : Nat) : (listed.setIfInBounds i true).getD j true = (decide (i = j) || listed.getD j true) := by
 rw [Array.getD_eq_getD_getElem?, Array.getD_eq_getD_getElem?, Array.getElem?_setIfInBounds]
 by_cases h : i = j
 ·subst h
  by_cases h2 : i < listed.size <;> simp [h2]
 ·simp [h]
end Go.Proofs.YtdjamdbamkhblacDoor
