/- Decoding, step by step: how what is left of the bytes makes up the whole. No condition. -/
import Derived.Test.YtdjamdbamkhblabDoorReader
import Derived.Test.YtdjamdbamkhblabDoorCells
import Derived.Test.YtdjamdbamkhblabDoorMod
namespace Go.Proofs.YtdjamdbamkhblabDoor
open Go.RowKit
def goI (st : Option (List UInt8)) (k : Nat) : Option (List Ins × List UInt8) := st.bind (getI k)
def goW (st : Option (List UInt8)) (k : Nat) : Option (List Int × List UInt8) := st.bind (getW k)
/-- What is left behind one instruction, and the instruction's four numbers. -/
def stI (st : Option (List UInt8)) : Option (List UInt8) := (numS 2 (numS 1 (numS 1 st).2).2).2
def insS (st : Option (List UInt8)) : Ins := ⟨((numS 1 st).1 : Nat), ((numS 1 (numS 1 st).2).1 / 16 : Nat), ((numS 1 (numS 1 st).2).1 % 16 : Nat), ((numS 2 (numS 1 (numS 1 st).2).2).1 : Nat)⟩
theorem numS_none (n : Nat) : numS n none = (0, none) := rfl
theorem numS1_nil : numS 1 (some []) = (0, none) := rfl
theorem numS1_cons (c : UInt8) (r : List UInt8) : numS 1 (some (c :: r)) = (c.toNat, some r) := by
  simp [numS, takeS, numB]
theorem numS2_nil : numS 2 (some []) = (0, none) := rfl
theorem numS2_one (c : UInt8) : numS 2 (some [c]) = (0, none) := rfl
theorem numS2_cons (c d : UInt8) (r : List UInt8) : numS 2 (some (c :: d :: r)) = (256 * c.toNat + d.toNat, some r) := by
  simp [numS, takeS, numB]
theorem goI_step (r : List UInt8) (j : Nat) (x : Ins) (hx : stI (some r) ≠ none → x = insS (some r)) : goI (some r) (j + 1) = (goI (stI (some r)) j).map fun y => (x :: y.1, y.2) := by
  match r, hx with
  | [], _ => rfl
  | [a], _ => rfl
  | [a, b], _ => rfl
  | [a, b, c], _ => rfl
  | a :: b :: c :: d :: r, hx =>
    have e : stI (some (a :: b :: c :: d :: r)) = some r := by simp only [stI, numS1_cons, numS2_cons]
    have hx' := hx (by rw [e]; simp)
    rw [e, hx']
    simp only [insS, numS1_cons, numS2_cons]
    rfl
theorem goI_zero (st : Option (List UInt8)) : goI st 0 = st.map fun r => ([], r) := by cases st <;> rfl
theorem goW_step (r : List UInt8) (j : Nat) (x : Int) (hx : (numS 2 (some r)).2 ≠ none → x = ((numS 2 (some r)).1 : Nat)) : goW (some r) (j + 1) = (goW (numS 2 (some r)).2 j).map fun y => (x :: y.1, y.2) := by
  match r, hx with
  | [], _ => rfl
  | [a], _ => rfl
  | a :: b :: r, hx =>
    have hx' := hx (by rw [numS2_cons]; simp)
    rw [hx', numS2_cons]
    rfl
theorem goW_zero (st : Option (List UInt8)) : goW st 0 = st.map fun r => ([], r) := by cases st <;> rfl
theorem go_next {α : Type} {g : Option (List α × List UInt8)} {st st' : Option (List UInt8)} {L : List α} {x : α} {f : Option (List UInt8) → Nat → Option (List α × List UInt8)} {k j : Nat}
    (h : g = (f st (j - k)).map fun y => (L ++ y.1, y.2)) (hk : k < j) (hs : f st (j - k - 1 + 1) = (f st' (j - k - 1)).map fun y => (x :: y.1, y.2)) : g = (f st' (j - (k + 1))).map fun y => ((L ++ [x]) ++ y.1, y.2) := by
  rw [h, show j - k = j - k - 1 + 1 by omega, hs, show j - (k + 1) = j - k - 1 by omega, Option.map_map]
  congr 1
  funext y
  simp
/-- The whole. -/
theorem getM_chain {t : List UInt8} {nm : List UInt8} {L : List Ins} {D : List Int} {st2 st4 st6 : Option (List UInt8)}
    (h2 : takeS (numS 1 (some t)).1 (numS 1 (some t)).2 = (nm, st2)) (h4 : goI (numS 1 st2).2 (numS 1 st2).1 = st4.map fun r => (L, r)) (h6 : goW (numS 1 st4).2 (numS 1 st4).1 = st6.map fun r => (D, r)) :
    getM t = st6.map fun r => (⟨ba nm, L, D⟩, r) := by
  cases t with
  | nil =>
    rw [numS1_nil] at h2
    obtain ⟨rfl, rfl⟩ := Prod.mk.inj h2
    cases st4 with
    | some r => cases h4
    | none =>
      cases st6 with
      | some r => cases h6
      | none => rfl
  | cons n r =>
    rw [numS1_cons] at h2
    simp only [takeS] at h2
    by_cases hle : n.toNat ≤ r.length
    · rw [if_pos hle] at h2
      obtain ⟨rfl, rfl⟩ := Prod.mk.inj h2
      simp only [getM, if_neg (show ¬ r.length < n.toNat by omega)]
      cases hd : r.drop n.toNat with
      | nil =>
        rw [hd, numS1_nil] at h4
        cases st4 with
        | some r => cases h4
        | none =>
          cases st6 with
          | some r => cases h6
          | none => rfl
      | cons k r1 =>
        rw [hd, numS1_cons] at h4
        simp only [goI, Option.bind_some] at h4
        simp only [h4]
        cases st4 with
        | none =>
          cases st6 with
          | some r => cases h6
          | none => rfl
        | some r3 =>
          simp only [Option.map_some, Option.bind_some]
          cases r3 with
          | nil =>
            rw [numS1_nil] at h6
            cases st6 with
            | some r => cases h6
            | none => rfl
          | cons j r2 =>
            rw [numS1_cons] at h6
            simp only [goW, Option.bind_some] at h6
            simp only [h6]
            cases st6 <;> rfl
    · rw [if_neg hle] at h2
      obtain ⟨rfl, rfl⟩ := Prod.mk.inj h2
      cases st4 with
      | some r => cases h4
      | none =>
        cases st6 with
        | some r => cases h6
        | none =>
          simp only [getM, if_pos (show r.length < n.toNat by omega)]
          rfl
/-- What module.Decode answers. -/
def decR (s : ByteArray) : Mod × Int := ((decE s.data.toList modCheck).1.getD ⟨⟨#[]⟩, [], []⟩, (decE s.data.toList modCheck).2)
def DecPost (w : World) (r : Mod × Int) (e : Ending) (w' : World) : Prop :=
  ∃ VC VD, e = .returned (.tuple #[.agg #[.string r.1.name, VC, VD], .int .i64 r.2]) ∧ w'.ownsRow w.heap.size 45 4 VC r.1.code.length (insCells r.1.code) ∧ w'.ownsRow w.heap.size 3 1 VD r.1.data.length (intCells r.1.data) ∧ Below w.heap.size w w'
theorem DecPost.no {w w' : World} {s : ByteArray} {n : Int} {e : Ending} (hr : decE s.data.toList modCheck = (none, n)) (he : e = .returned (.tuple #[.agg #[.string ⟨#[]⟩, .slice none 0 0, .slice none 0 0], .int .i64 n])) (hb : Below w.heap.size w w') : DecPost w (decR s) e w' := by
  have : decR s = (⟨⟨#[]⟩, [], []⟩, n) := by unfold decR; rw [hr]; rfl
  rw [this]
  exact ⟨_, _, he, World.ownsRow_nil _ _ _ _, World.ownsRow_nil _ _ _ _, hb⟩
theorem DecPost.yes {w w' : World} {s : ByteArray} {m : Mod} {VC VD : Value} {e : Ending} (hr : decE s.data.toList modCheck = (some m, 0)) (he : e = .returned (.tuple #[.agg #[.string m.name, VC, VD], .int .i64 0]))
    (hc : w'.ownsRow w.heap.size 45 4 VC m.code.length (insCells m.code)) (hd : w'.ownsRow w.heap.size 3 1 VD m.data.length (intCells m.data)) (hb : Below w.heap.size w w') : DecPost w (decR s) e w' := by
  have : decR s = (m, 0) := by unfold decR; rw [hr]; rfl
  rw [this]
  exact ⟨_, _, he, hc, hd, hb⟩
end Go.Proofs.YtdjamdbamkhblabDoor
