/- The kernel behind TopQuiet's head: two modules are in and attached, the first is open: plain mathematics. -/
import Derived.Test.YtdjamdbamkhblacDoorG37
import Derived.Test.YtdjamdbamkhblacDoorG36
namespace Go.Proofs.YtdjamdbamkhblacDoor
open Go.RowKit
set_option linter.unusedVariables false
set_option linter.unusedSimpArgs false
def twoS : ByteArray := ⟨#[116, 119, 111]⟩
def headL (m n : List Ins) (r : Ins) : List Akt := insL m r oneS 0 ++ (insL n r twoS 1 ++ [⟨5, 0, 0, 0, oneS, noS⟩])
theorem insM_ok (l : List Ins) (r : Ins) {nm : ByteArray} (hn : Azu nm = true) : Az7 (insM l r nm) = 0 := by
  have h3 := Dzw l
  unfold Az7 insM
  rw [if_pos hn, if_neg (by rw [Bzd]; omega), Szd, if_neg (by decide)]
  exact h3.2.2
theorem insM_dec (l : List Ins) (r : Ins) {nm : ByteArray} (hn : Azu nm = true) (hs : nm.size ≤ 100) : decE (encR (insM l r nm)).1.data.toList Az7 = (some (insM l r nm), 0) := by
  have h3 := Dzw l
  have hk := insM_ok l r hn
  have hg : getM (Fzt (insM l r nm)) = some (insM l r nm, []) := by
    have hv : verify (madeOf (Azl l)) = 0 := h3.2.2
    have hc := Bz4 (Fzi hv)
    refine Sza _ (show nm.size ≤ 255 by omega) (by show (madeOf (Azl l)).length ≤ 255; omega) (by show (Dzs r _).length ≤ 255; rw [Bzd]; omega) (fun i hi => ?_) fun q hq => ?_
    · have h := hc i hi
      exact ⟨⟨by have := h.op1; omega, by have := h.op2; omega⟩, ⟨h.a0, by have := h.a7; omega⟩, ⟨h.b0, by have := h.b7; omega⟩, h.c0, h.cw⟩
    · have h := Szd r 20
      rw [List.any_eq_false] at h
      have := h q hq
      simp [oddW] at this
      omega
  have h4 : (encB (insM l r nm)).length ≤ 4000 := by
    have h := Pz7 l r nm (by omega)
    unfold encR at h
    rw [if_pos hk, Ezs] at h
    omega
  have e : (encR (insM l r nm)).1.data.toList = encB (insM l r nm) := by
    unfold encR
    rw [if_pos hk]
    rfl
  rw [e]
  exact Szx (insM l r nm) Az7 h4 hg hk
theorem install_step (k : Krn) (l : List Ins) (r : Ins) {nm : ByteArray} (hn : Azu    nm = true) (hs : nm.size ≤ 100) (hd : k.mods.any (fun x => x.name == nm) = false) (hl : k.mods.length < 8) :
    ∃ mem, (doK k ⟨1, 0, 0, 0, noS, (encR (insM l r nm)).1⟩).1 = { k with mods := k.mods ++ [insM l r nm], mem := mem } := by
  unfold doK
  rw [if_pos rfl]
  unfold Bzm
  simp only [insM_dec l r hn hs]
  rw [show (insM l r nm).name = nm from rfl, hd, if_neg (by decide), if_neg (by omega)]
  exact ⟨_, rfl⟩
theorem attach_step (k : Krn) {nm : ByteArray} {u : Int} {i : Nat} (hn : Azu    nm = true) (h1 : Bzp   k nm < 0) (h0 : 0 ≤ u) (hu : u < k.mods.length) (hf : Ez5   k = (i : Int)) :
    (doK k ⟨3, 0, u, 0, nm, noS⟩).1 = setNod k i ⟨nm, 2, noS, u⟩ := by
  unfold doK
  rw [if_neg (by simp), if_neg (by simp), if_pos rfl]
  unfold Bzq
  rw [if_pos hn, if_neg (by first | omega | (simp only; omega)), if_neg (by first | omega | (simp only; omega)), if_neg (by first | omega | (simp only; omega)), hf]
  rfl
theorem open_step (k : Krn) {nm : ByteArray} {i j : Nat} (hn : Azu    nm = true) (hl : (k.procs.getD 0 default).live = true) (hf : Bzp   k nm = (i : Int)) (he : Cz4   (k.procs.getD 0 default).ends = (j : Int)) :
    (doK k ⟨5, 0, 0, 0, nm, noS⟩).1 = setEnd k 0 j ⟨1, i, 0⟩ := by
  unfold doK
  rw [if_neg (by simp), if_neg (by simp), if_neg (by simp), if_neg (by simp), if_pos ⟨by simp, by simp, hl⟩]
  unfold byK
  rw [if_pos rfl]
  unfold Hze
  show (if Azu nm = true then if Bzp k nm < 0 then _ else if Cz4 (k.procs.getD 0 default).ends < 0 then _ else (setEnd k 0 (Cz4 (k.procs.getD 0 default).ends).toNat ⟨1, Bzp k nm, 0⟩, _) else _).1 = _
  rw [if_pos hn, if_neg (by omega), if_neg (by omega), he, hf]
  rfl
/-- What the head leaves. -/
theorem head_dev (m n : List Ins) (r : Ins) : KOk (runK newK (headL m n r)).1 ∧ Dev0 (runK newK (headL m n r)).1 := by
  refine ⟨Jzj _ Rz3, ?_⟩
  have n1 : Azu oneS = true := by decide
  have n2 : Azu twoS = true := by decide
  have s1 : oneS.size ≤ 100 := by decide
  have s2 : twoS.size ≤ 100 := by decide
  have o0 := Rz3
  obtain ⟨m1, e1⟩ := install_step newK m r n1 s1 rfl (by decide)
  obtain ⟨k1, hk1⟩ : ∃ k, k = (doK newK ⟨1, 0, 0, 0, noS, (encR (insM m r oneS)).1⟩).1 := ⟨_, rfl⟩
  have o1 : KOk k1 := by rw [hk1]; exact Ozp o0 _ ⟨by simp, by simp⟩
  rw [← hk1] at e1
  have f1 : Bzp k1 oneS < 0 := by rw [e1]; show idxF (fun x : Nod => (x.kind != 0) && (x.name == oneS)) newK.nodes 0 < 0; decide
  have g1 : Ez5 k1 = ((0 : Nat) : Int) := by rw [e1]; show idxF (fun x : Nod => x.kind == 0) newK.nodes 0 = 0; decide
  have e2 := attach_step k1 (u := 0) n1 f1 (by omega) (by rw [e1]; show (0 : Int) < (((newK.mods ++ [insM m r oneS]).length : Nat) : Int); rw [List.length_append, List.length_singleton]; omega) g1
  obtain ⟨k2, hk2⟩ : ∃ k, k = (doK k1 ⟨3, 0, 0, 0, oneS, noS⟩).1 := ⟨_, rfl⟩
  have o2 : KOk k2 := by rw [hk2]; exact Ozp o1 _ ⟨by decide, by decide⟩
  rw [← hk2] at e2
  have q2 : k2.mods = [insM m r oneS] := by rw [e2, e1]; rfl
  obtain ⟨m3, e3⟩ := install_step k2 n r n2 s2 (by rw [q2]; show ((oneS == twoS) || false) = false; decide) (by rw [q2]; simp)
  obtain ⟨k3, hk3⟩ : ∃ k, k = (doK k2 ⟨1, 0, 0, 0, noS, (encR (insM n r twoS)).1⟩).1 := ⟨_, rfl⟩
  have o3 : KOk k3 := by rw [hk3]; exact Ozp o2 _ ⟨by simp, by simp⟩
  rw [← hk3] at e3
  have q3 : k3.nodes = newK.nodes.set 0 ⟨oneS, 2, noS, 0⟩ := by rw [e3, e2, e1]; rfl
  have p3 : k3.procs = newK.procs := by rw [e3, e2, e1]; rfl
  have l3 : k3.mods.length = 2 := by rw [e3]; simp [q2]
  have f3 : Bzp k3 twoS < 0 := by unfold Bzp; rw [q3]; decide
  have g3 : Ez5 k3 = ((1 : Nat) : Int) := by unfold Ez5; rw [q3]; decide
  have e4 := attach_step k3 (u := 1) n2 f3 (by omega) (by rw [l3]; omega) g3
  obtain ⟨k4, hk4⟩ : ∃ k, k = (doK k3 ⟨3, 0, 1, 0, twoS, noS⟩).1 := ⟨_, rfl⟩
  have o4 : KOk k4 := by rw [hk4]; exact Ozp o3 _ ⟨by decide, by decide⟩
  rw [← hk4] at e4
  have q4 : k4.nodes = (newK.nodes.set 0 ⟨oneS, 2, noS, 0⟩).set 1 ⟨twoS, 2, noS, 1⟩ := by rw [e4]; show k3.nodes.set 1 _ = _; rw [q3]
  have p4 : k4.procs = newK.procs := by rw [e4]; exact p3
  have f4 : Bzp k4 oneS = ((0 : Nat) : Int) := by unfold Bzp; rw [q4]; decide
  have e5 := open_step k4 n1 (by rw [p4]; rfl) f4 (j := 0) (by rw [p4]; decide)
  have er : (runK newK (headL m n r)).1 = (doK k4 ⟨5, 0, 0, 0, oneS, noS⟩).1 := by
    unfold headL insL
    simp only [List.cons_append, List.nil_append]
    rw [Gz7 o0 ⟨by simp, by simp⟩, ← hk1, Gz7 o1 ⟨by decide, by decide⟩, ← hk2, Gz7 o2 ⟨by simp, by simp⟩, ← hk3, Gz7 o3 ⟨by decide, by decide⟩, ← hk4, Gz7 o4 ⟨by decide, by decide⟩]
    rfl
  rw [er, e5]
  have hn : (setEnd k4 0 0 ⟨1, ((0 : Nat) : Int), 0⟩).nodes = (newK.nodes.set 0 ⟨oneS, 2, noS, 0⟩).set 1 ⟨twoS, 2, noS, 1⟩ := q4
  refine ⟨?_, ?_, ?_, ?_, ?_⟩
  · unfold setEnd; simp only [p4]; rfl
  · unfold setEnd; simp only [p4]; rfl
  · rw [hn]; rfl
  · rw [hn]; rfl
  · rw [hn]; rfl
end Go.Proofs.YtdjamdbamkhblacDoor
