/- Modules as bytes, and back: what decoding an encoding answers, and that a byte that is changed is seen: plain mathematics. -/
import Derived.Test.YtdjamdbamkhblabDoorModData
namespace Go.Proofs.YtdjamdbamkhblabDoor
def u8 (n : Nat) : UInt8 := UInt8.ofNat n
theorem u8_toNat (n : Nat) : (u8 n).toNat = n % 256 := by simp [u8]
theorem u8_lt (c : UInt8) : c.toNat < 256 := UInt8.toNat_lt c
theorem u8_of (c : UInt8) : u8 c.toNat = c := by simp [u8]
def two (n : Nat) : List UInt8 := [u8 (n / 256), u8 n]
/-- The two sums of the seal. -/
def adl : List UInt8 → Nat → Nat → Nat × Nat
  | [], x, y => (x, y)
  | c :: r, x, y => adl r ((x + c.toNat) % 65521) ((y + (x + c.toNat) % 65521) % 65521)
def sealL (l : List UInt8) : List UInt8 := two (adl l 1 0).2 ++ two (adl l 1 0).1
def insB (i : Ins) : List UInt8 := [u8 i.op.toNat, u8 (16 * i.a.toNat + i.b.toNat)] ++ two i.c.toNat
def wordB (n : Int) : List UInt8 := two n.toNat
def bodyB (m : Mod) : List UInt8 := [u8 m.name.size] ++ m.name.data.toList ++ [u8 m.code.length] ++ m.code.flatMap insB ++ [u8 m.data.length] ++ m.data.flatMap wordB
/-- A module's bytes. -/
def encB (m : Mod) : List UInt8 := sealL (bodyB m) ++ bodyB m

/-- So many instructions off bytes. -/
def getI : Nat → List UInt8 → Option (List Ins × List UInt8)
  | 0, r => some ([], r)
  | k + 1, o :: ab :: c :: d :: r => (getI k r).map fun x => (⟨(o.toNat : Int), (ab.toNat / 16 : Nat), (ab.toNat % 16 : Nat), (256 * c.toNat + d.toNat : Nat)⟩ :: x.1, x.2)
  | _ + 1, _ => none
def getW : Nat → List UInt8 → Option (List Int × List UInt8)
  | 0, r => some ([], r)
  | k + 1, c :: d :: r => (getW k r).map fun x => (((256 * c.toNat + d.toNat : Nat) : Int) :: x.1, x.2)
  | _ + 1, _ => none
/-- A module off bytes; what is left of them. -/
def getM : List UInt8 → Option (Mod × List UInt8)
  | [] => none
  | n :: r => if r.length < n.toNat then none else
    match r.drop n.toNat with
    | [] => none
    | k :: r1 => (getI k.toNat r1).bind fun x =>
      match x.2 with
      | [] => none
      | j :: r2 => (getW j.toNat r2).map fun y => (⟨⟨(r.take n.toNat).toArray⟩, x.1, y.1⟩, y.2)

theorem getI_app (l : List Ins) (r : List UInt8) (h : ∀ i ∈ l, (0 ≤ i.op ∧ i.op ≤ 255) ∧ (0 ≤ i.a ∧ i.a ≤ 15) ∧ (0 ≤ i.b ∧ i.b ≤ 15) ∧ (0 ≤ i.c ∧ i.c ≤ 65535)) : getI l.length (l.flatMap insB ++ r) = some (l, r) := by
  induction l with
  | nil => rfl
  | cons i l ih =>
    obtain ⟨⟨o1, o2⟩, ⟨a1, a2⟩, ⟨b1, b2⟩, ⟨c1, c2⟩⟩ := h i (by simp)
    have e : (i :: l).flatMap insB ++ r = u8 i.op.toNat :: u8 (16 * i.a.toNat + i.b.toNat) :: u8 (i.c.toNat / 256) :: u8 i.c.toNat :: (l.flatMap insB ++ r) := by simp [insB, two]
    rw [e, List.length_cons, getI, ih (fun j hj => h j (by simp [hj]))]
    simp only [Option.map_some, u8_toNat]
    congr 2
    congr 1
    apply Ins.ext' <;> simp only <;> omega
theorem getW_app (l : List Int) (r : List UInt8) (h : ∀ n ∈ l, 0 ≤ n ∧ n ≤ 65535) : getW l.length (l.flatMap wordB ++ r) = some (l, r) := by
  induction l with
  | nil => rfl
  | cons n l ih =>
    obtain ⟨o1, o2⟩ := h n (by simp)
    have e : (n :: l).flatMap wordB ++ r = u8 (n.toNat / 256) :: u8 n.toNat :: (l.flatMap wordB ++ r) := by simp [wordB, two]
    rw [e, List.length_cons, getW, ih (fun j hj => h j (by simp [hj]))]
    simp only [Option.map_some, u8_toNat]
    congr 2
    congr 1
    omega
/-- Decoding what was encoded. -/
theorem getM_body (m : Mod) (hn : m.name.size ≤ 255) (hc : m.code.length ≤ 255) (hd : m.data.length ≤ 255)
    (hi : ∀ i ∈ m.code, (0 ≤ i.op ∧ i.op ≤ 255) ∧ (0 ≤ i.a ∧ i.a ≤ 15) ∧ (0 ≤ i.b ∧ i.b ≤ 15) ∧ (0 ≤ i.c ∧ i.c ≤ 65535)) (hw : ∀ n ∈ m.data, 0 ≤ n ∧ n ≤ 65535) : getM (bodyB m) = some (m, []) := by
  obtain ⟨⟨⟨nm⟩⟩, code, data⟩ := m
  have e : bodyB ⟨⟨⟨nm⟩⟩, code, data⟩ = u8 nm.length :: (nm ++ u8 code.length :: (code.flatMap insB ++ (u8 data.length :: (data.flatMap wordB ++ [])))) := by
    simp [bodyB]
    rfl
  have z : ∀ n, n ≤ 255 → (u8 n).toNat = n := fun n h => by rw [u8_toNat]; omega
  have hn' : nm.length ≤ 255 := hn
  simp only at hc hd hi hw
  rw [e, getM, z _ hn', if_neg (by simp), List.drop_left, List.take_left]
  simp only
  rw [z _ hc, getI_app _ _ hi]
  simp only [Option.bind_some]
  rw [z _ hd, getW_app _ _ hw]
  rfl
theorem adl_fst (l : List UInt8) : ∀ x y, x < 65521 → (adl l x y).1 = (x + (l.map UInt8.toNat).sum) % 65521 ∧ (adl l x y).1 < 65521 := by
  induction l with
  | nil => intro x y hx; simp [adl]; omega
  | cons c r ih =>
    intro x y hx
    rw [adl]
    obtain ⟨h1, h2⟩ := ih ((x + c.toNat) % 65521) ((y + (x + c.toNat) % 65521) % 65521) (Nat.mod_lt _ (by decide))
    refine ⟨?_, h2⟩
    rw [h1, List.map_cons, List.sum_cons]
    omega
theorem sum_set (l : List UInt8) : ∀ (k : Nat) (h : k < l.length) (c : UInt8), ((l.set k c).map UInt8.toNat).sum + l[k].toNat = (l.map UInt8.toNat).sum + c.toNat := by
  induction l with
  | nil => intro k h; cases h
  | cons a r ih =>
    intro k h c
    cases k with
    | zero => simp; omega
    | succ k =>
      have := ih k (by simpa using h) c
      simp only [List.set_cons_succ, List.map_cons, List.sum_cons, List.getElem_cons_succ]
      omega
theorem adl_snd (l : List UInt8) : ∀ x y, y < 65521 → (adl l x y).2 < 65521 := by
  induction l with
  | nil => intro x y hy; exact hy
  | cons c r ih => intro x y _; rw [adl]; exact ih _ _ (Nat.mod_lt _ (by decide))
theorem two_inj {a b : Nat} (ha : a < 65536) (hb : b < 65536) (h : two a = two b) : a = b := by
  simp only [two, List.cons.injEq, and_true] at h
  have h1 := congrArg UInt8.toNat h.1
  have h2 := congrArg UInt8.toNat h.2
  rw [u8_toNat, u8_toNat] at h1 h2
  omega
theorem sealL_length (l : List UInt8) : (sealL l).length = 4 := rfl
/-- A byte that is changed in what was sealed changes the seal. -/
theorem seal_set (l : List UInt8) (k : Nat) (h : k < l.length) (c : UInt8) (hc : c ≠ l[k]) : sealL (l.set k c) ≠ sealL l := by
  intro e
  have hs := sum_set l k h c
  obtain ⟨p1, p2⟩ := adl_fst l 1 0 (by decide)
  obtain ⟨q1, q2⟩ := adl_fst (l.set k c) 1 0 (by decide)
  have e2 := List.append_inj_right e rfl
  have e3 := two_inj (by omega) (by omega) e2
  rw [p1, q1] at e3
  have hne : c.toNat ≠ l[k].toNat := fun e => hc (UInt8.toNat_inj.1 e)
  have := u8_lt c
  have := u8_lt l[k]
  omega

/-- What decoding answers. -/
def decE (s : List UInt8) (ck : Mod → Int) : Option Mod × Int :=
  if 4000 < s.length then (none, 1) else if s.length < 4 then (none, 5) else if sealL (s.drop 4) ≠ s.take 4 then (none, 11) else
  match getM (s.drop 4) with
  | none => (none, 5)
  | some (m, r) => if r ≠ [] then (none, 4) else if ck m = 0 then (some m, 0) else (none, ck m)
theorem dec_enc (m : Mod) (ck : Mod → Int) (h4 : (encB m).length ≤ 4000) (hg : getM (bodyB m) = some (m, [])) (hk : ck m = 0) : decE (encB m) ck = (some m, 0) := by
  have hl : (encB m).length = 4 + (bodyB m).length := by simp [encB, sealL_length]
  have hd : (encB m).drop 4 = bodyB m := by
    unfold encB
    rw [List.drop_append_of_le_length (by rw [sealL_length]; omega), List.drop_of_length_le (by rw [sealL_length]; omega)]; rfl
  have ht : (encB m).take 4 = sealL (bodyB m) := by
    unfold encB
    rw [List.take_append_of_le_length (by rw [sealL_length]; omega), List.take_of_length_le (by rw [sealL_length]; omega)]
  unfold decE
  rw [if_neg (by omega), if_neg (by omega), hd, ht, if_neg (by simp), hg]
  simp [hk]
theorem dec_changed (m : Mod) (ck : Mod → Int) (h4 : (encB m).length ≤ 4000) (k : Nat) (hk : k < (encB m).length) (c : UInt8) (hc : (encB m)[k]? ≠ some c) : decE ((encB m).set k c) ck = (none, 11) := by
  have hl : (encB m).length = 4 + (bodyB m).length := by simp [encB, sealL_length]
  unfold decE
  rw [List.length_set, if_neg (by omega), if_neg (by omega), if_pos]
  have hL : (sealL (bodyB m)).length = 4 := rfl
  rcases Nat.lt_or_ge k 4 with h | h
  · have e : (encB m).set k c = (sealL (bodyB m)).set k c ++ bodyB m := by unfold encB; rw [List.set_append_left _ _ (by omega)]
    have hl2 : ((sealL (bodyB m)).set k c).length = 4 := by rw [List.length_set]; rfl
    rw [e, List.drop_append_of_le_length (by omega), List.drop_of_length_le (by omega), List.take_append_of_le_length (by omega), List.take_of_length_le (by omega), List.nil_append]
    intro he
    apply hc
    unfold encB
    rw [List.getElem?_append_left (by omega), he, List.getElem?_set_self (by omega)]
  · obtain ⟨j, rfl⟩ : ∃ j, k = 4 + j := ⟨k - 4, by omega⟩
    have hj : j < (bodyB m).length := by omega
    have e : (encB m).set (4 + j) c = sealL (bodyB m) ++ (bodyB m).set j c := by
      unfold encB
      rw [List.set_append_right _ _ (by omega)]
      congr 2
      omega
    rw [e, List.drop_append_of_le_length (by omega), List.drop_of_length_le (by omega), List.take_append_of_le_length (by omega), List.take_of_length_le (by omega), List.nil_append]
    refine seal_set _ _ hj _ fun he => hc ?_
    unfold encB
    rw [List.getElem?_append_right (by omega), hL, Nat.add_sub_cancel_left, List.getElem?_eq_getElem hj, ← he]
theorem decE_some {s : List UInt8} {ck : Mod → Int} {m : Mod} {e : Int} (h : decE s ck = (some m, e)) : ck m = 0 ∧ e = 0 := by
  unfold decE at h
  split at h
  · cases h
  split at h
  · cases h
  split at h
  · cases h
  split at h
  · cases h
  split at h
  · cases h
  split at h
  · cases h
    exact ⟨by assumption, rfl⟩
  · cases h
theorem decE_none {s : List UInt8} {ck : Mod → Int} {e : Int} (h : decE s ck = (none, e)) : e ≠ 0 := by
  unfold decE at h
  split at h
  · cases h; decide
  split at h
  · cases h; decide
  split at h
  · cases h; decide
  split at h
  · cases h; decide
  split at h
  · cases h; decide
  split at h
  · cases h
  · cases h; assumption
theorem decE_abc (ck : Mod → Int) : decE [97, 98, 99] ck = (none, 5) := by
  unfold decE
  rw [if_neg (by decide), if_pos (by decide)]
end Go.Proofs.YtdjamdbamkhblabDoor
