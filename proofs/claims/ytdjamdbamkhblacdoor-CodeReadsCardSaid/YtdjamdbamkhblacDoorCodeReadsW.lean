/- The walk of the law CodeReads: code.Read and the reference's CodeOf answer alike, for every text. Condition: the library's variables and the tables (EnvT). By an AI agent. -/
import Derived.Test.YtdjamdbamkhblacDoorRefC
import Derived.Test.YtdjamdbamkhblacDoorSameC
namespace Go.Proofs.YtdjamdbamkhblacDoor
open Go.RowKit
set_option linter.unusedVariables false
set_option linter.unusedSimpArgs false
/-- A row of one's own, as a law's argument reads. -/
theorem rdI_own {w : World} {base : Nat} {A : Option Addr} {c : Nat} {l : List Ins} (h : w.ownsRow base 65 4 (.slice A l.length c) l.length (insCells l)) : RdI w w.heap.size A l := RdI.of (Rd.of_own h)
theorem own_lenR {w : World} {base : Nat} {e : TypeId} {size n : Nat} {v : Value} {xs : List Value} (h : w.ownsRow base e size v n xs) : n ≤ maxLen := by
  rcases h.2 with ⟨_, h0⟩ | ⟨_, _, _, _, _, _, h1, h2, _⟩
  · rw [h0]; exact Nat.zero_le _
  · exact Nat.le_trans h1 h2
set_option maxHeartbeats 4000000 in
theorem CodeReads_any (s : ByteArray) (hz : s.size ≤ maxLen) (w : World) (he : EnvT w) :
    Calls Tryd.prog 6 #[.string s] w fun e w' => e = .returned (.bool true) ∧ Below w.heap.size w w' := by
  have H1 := Lib.hid (Read_any s hz w he)
  have H2 := Lib.hid (fun W : World => CodeOf_any s hz W)
  clear he
  obtain ⟨⟨x, k, n⟩, hr⟩ : ∃ r, r = readT s.data.toList := ⟨_, rfl⟩
  have HR := Lib.hid hr
  clear hr
  go_enter Tryd.func6, Tryd.ntmps6
  go_wp2_with fail
  refine H1.out.mono ?_
  rintro e w1 ⟨V1, rfl, ho1, hb1⟩
  rw [← HR.out] at ho1 ⊢
  simp only at ho1 ⊢
  obtain ⟨A1, c1, rfl⟩ := own_slice ho1
  go_wp2_with fail
  refine (H2.out w1).mono ?_
  rintro e w2 ⟨V2, rfl, ho2, hb2⟩
  rw [← HR.out] at ho2 ⊢
  simp only at ho2 ⊢
  obtain ⟨A2, c2, rfl⟩ := own_slice ho2
  have HO1 := Lib.hid (own_below ho1 hb2)
  have HO2 := Lib.hid ho2
  have HB := Lib.hid (hb1.trans (hb2.mono hb1.size))
  have HX := Lib.hid (own_lenR HO1.out)
  clear ho1 ho2 hb1 hb2 H1 H2 HR
  go_wp2_with fail
  refine (sameCode_any A1 A2 c1 c2 x w2 (rdI_own HO1.out) (rdI_own HO2.out) HX.out).mono ?_
  rintro e w3 ⟨rfl, m, rfl⟩
  have HB3 := Lib.hid (HB.out.trans ((Below.drewN' (Below.refl w2.heap.size w2) m).mono HB.out.size))
  clear HB HO1 HO2
  go_wp2
  go_ret
  exact ⟨rfl, HB3.out⟩
end Go.Proofs.YtdjamdbamkhblacDoor
