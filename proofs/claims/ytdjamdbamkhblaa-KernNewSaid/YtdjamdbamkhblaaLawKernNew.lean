/- Proved: kern.New returns the new kernel of the reference. No condition. -/
import Derived.Test.YtdjamdbamkhblaaLaw
import Derived.Test.YtdjamdbamkhblaaBare
import Derived.Test.YtdjamdbamkhblaaNewI
import Derived.Test.YtdjamdbamkhblaaNewRd
import Derived.Test.YtdjamdbamkhblaaSameKern
namespace Go.Proofs.Ytdjamdbamkhblaa.kernNew
open Go.RowKit Go.WideShapes Go.ChangeShapes Go.ChangeAt Go.Deep Go.Joins

set_option maxHeartbeats 1000000 in
theorem walk (w : World) : Calls Try.prog 5 #[] w fun e w' => e = .returned (.bool true) ∧ Below w.heap.size w w' := by
  go_enter Try.func5, Try.ntmps5
  go_wp2_with fail
  refine (New_own _).mono ?_
  rintro e w1 ⟨g1, g2, g3, V, es, rfl, hF, h4⟩
  obtain ⟨a, ha, hk⟩ := hF.krn h4
  have hb1 := hF.below
  rw [ha]
  have HK := Lib.hid hk
  clear hF h4 ha hk
  unfold KA.cells
  go_wp2_with fail
  refine (KernelOf_own _).mono ?_
  rintro e w2 ⟨g1', g2', g3', V', es', rfl, hF', h4'⟩
  obtain ⟨a', ha', hk'⟩ := hF'.krn h4'
  have hb2 := hF'.below
  rw [ha']
  have hB : Blk w2 w1.heap.size 35 (a.cells newKr) := (Blk.new w1 35 (a.cells newKr)).below hb2 (Blk.new w1 35 (a.cells newKr)).lt
  have c0 := hB.cell 0
  have c1 := hB.cell 1
  have c2 := hB.cell 2
  have c3 := hB.cell 3
  have c4 := hB.cell 4
  have hz := hB.lt
  simp [KA.cells] at c0 c1 c2 c3 c4
  have hbw : Below w.heap.size w w2 := (hb1.alloc hb1.size _).trans (hb2.mono (Nat.le_trans hb1.size (by simp)))
  have HK1 := Lib.hid ((HK.out.below ((below_new1 w1 _).trans (hb2.mono (by simp)))).more (Nat.le_of_lt hz))
  have HK' := Lib.hid hk'
  have hw3 : Below w2.heap.size w2 (w2.alloc (.cells (a'.cells newKr) 35)) := below_new1 w2 _
  have HKA := Lib.hid ((HK1.out.below hw3).more hw3.size)
  have HKB := Lib.hid ((HK'.out.below hw3).more hw3.size)
  clear hF' h4' ha' hk' hB
  unfold KA.cells at *
  go_wp2_with fail
  refine (sameKernel_any newKr a a' _ HKA.out HKB.out).mono ?_
  rintro e w3 ⟨rfl, hb3⟩
  have hbw3 := (hbw.alloc hbw.size (.cells (a'.cells newKr) 35)).trans (hb3.mono (Nat.le_trans hbw.size (by simp)))
  go_wp2
  go_ret
  exact ⟨rfl, hbw3⟩

set_option maxRecDepth 100000 in
theorem contract (H : Type) (enc : TypeId × Value → H) (W : World) (base : Nat) (args : Array Value) (ds gs : List (DataW H)) (before : List MemPlace)
    (hval : ∀ (j : Nat) t v, Try.f5.params[j]? = some t → args[j]? = some v → Value.okWide Try.prog W .any base t v)
    (hW : DataW.Whole enc Try.prog Try.f5.params.toList Rows.kernNewSpec.vars false W args.toList ds gs before) (_hL : laidMetH Try.prog Rows.kernNewRow.laid W)
    (_hsz : (DataW.weightsEach Try.prog (Try.f5.params.toList ++ (OpenSpec.ofChange Rows.kernNewSpec).bare.plain.varTypes Try.prog) (ds ++ gs)).all (· ≤ reachBytes) = true) :
    Calls Try.prog 5 args W fun e W' => ∃ v, e = .returned v ∧ Rows.kernNewSpec.post enc Try.prog Try.f5 false true false false W args v W' := by
  have hW' := hW
  obtain ⟨p, q, hA0, hV, rfl, hfz, hnd⟩ := hW
  have hA : DataW.TrodAll enc Try.prog W 0 (fun _ => true) true Try.f5.params.toList args.toList ds p := hA0
  rw [Try.params5] at hA hval
  obtain ⟨rfl, rfl, rfl⟩ := trodAll_none hA
  refine (walk W).mono fun e W' ⟨he, hb⟩ => ?_
  subst he
  exact ⟨_, rfl, law_post hW' rfl rfl Try.underlying4 laidOut (by kernel_rfl) rfl hb⟩

theorem laid_met (os : Os) : laidMet Try.prog Rows.kernNewRow.laid ((laidWorld os).forCall (fun _ _ => 0) ⟨#[], #[], []⟩).memory :=
  laidMet_of_run' 8 (by kernel_rfl) (by kernel_rfl)
theorem reads (os : Os) {H : Type} (enc : TypeId × Value → H) : ∃ places, DataW.whole enc Try.prog ((laidWorld os).forCall (fun _ _ => 0) ⟨#[], #[], []⟩).memory Try.f5.params.toList Rows.kernNewSpec.vars false (#[] : Array Value).toList 8 = some ([], [], places) :=
  ⟨[], by kernel_rfl⟩

set_option maxRecDepth 100000 in
theorem lifted (os : Os) (started : os.Started) (H : Type) (enc : TypeId × Value → H) (F : Stop.Interp) :
    ReturnsInHanded {} Try.checked os 5 .any ((OpenSpec.ofChange Rows.kernNewSpec).preRow enc Try.prog Try.f5 Rows.kernNewRow.domain false Rows.kernNewRow.laid) (((OpenSpec.ofChange Rows.kernNewSpec).at F).post enc Try.prog Try.f5 false true false false) := by
  obtain ⟨places, hx⟩ := reads os enc
  refine returnsInHanded_of_row (C := Try.checked) (s := OpenSpec.ofChange Rows.kernNewSpec) own started (by kernel_rfl) Try.func5
    (witness_row_at (enc := enc) (C := Try.checked) false (laidWorld os) #[] rfl (by kernel_rfl) (by kernel_rfl) (by kernel_rfl)
      (OpenSpec.preRow_of_cond 8 hx (by kernel_rfl) (fun k hk => by cases hk) (by kernel_rfl) (laid_met os))) ?_
  intro W base args ds gs before hval hW _ _ hsz hL _ _
  exact contract H enc W base args ds gs before hval hW hL hsz

theorem said : Rows.KernNewSaid :=
  OpenClaim.holds_of_cond 5 Try.f5 rfl rfl rfl rfl rfl rfl rfl ⟨rfl, rfl, rfl, rfl, rfl⟩ rfl rfl rfl rfl rfl (by kernel_rfl) Try.func5 (by kernel_rfl)
    (of_decide_eq_true (by kernel_rfl)) (by unfold Func.isWrapper; first | (rw [if_pos (by decide +kernel)]; kernel_rfl) | (rw [if_neg (by decide +kernel)]; exact ⟨rfl, rfl⟩))
    (fun os started H enc _ F => by rw [OpenClaim.pre_eq_preRow]; exact lifted os started H enc F)
end Go.Proofs.Ytdjamdbamkhblaa.kernNew
