/- Proved: kern.Copy returns what it is handed, for every kernel. No condition. -/
import Derived.Test.YtdjamdbamkhblaaLaw
import Derived.Test.YtdjamdbamkhblaaBare
import Derived.Test.YtdjamdbamkhblaaKernCopyW
import Derived.Test.YtdjamdbamkhblaaSameKern
import Derived.Test.YtdjamdbamkhblaaOpenKrn
namespace Go.Proofs.Ytdjamdbamkhblaa.kernCopies
open Go.RowKit Go.WideShapes Go.ChangeShapes Go.ChangeAt Go.Deep Go.Joins

set_option maxHeartbeats 1000000 in
theorem walk (k : Krn) (a : KA) (w : World) (hK : KrnAt w w.heap.size a k) :
    Calls Try.prog 8 #[.agg (a.cells k)] w fun e w' => e = .returned (.bool true) ∧ Below w.heap.size w w' := by
  have hz : Below w.heap.size w (w.alloc (.cells (a.cells k) 35)) := Below.one w _
  have HM := Lib.hid ((hK.below hz).more hz.size)
  clear hK
  unfold KA.cells at hz HM
  show Calls Try.prog 8 #[.agg #[.slice a.a0 k.mods.length a.c0, .slice a.a1 k.mem.length a.c1, .slice a.a2 k.nodes.length a.c2, .slice a.a3 k.pipes.length a.c3, .slice a.a4 k.procs.length a.c4]] w _
  go_enter Try.func8, Try.ntmps8
  go_wp2_with fail
  refine (Copy_own k a _ HM.out).mono ?_
  rintro e w1 ⟨V0, V1, V2, V3, V4, ms, es, rfl, hC, hb1⟩
  obtain ⟨a', ha', hk'⟩ := hC.krn HM.out.fits
  rw [ha']
  obtain ⟨hc1, hf1⟩ := bcell hb1
  have hbw := hz.trans (hb1.mono hz.size)
  have HV := Lib.hid hk'
  have HN := Lib.hid ((HM.out.below hb1).more hb1.size)
  clear hC ha' hk'
  have hp1 : w.heap.size < w1.heap.size := Nat.lt_of_lt_of_le (by simp) hb1.size
  have hz1 : Below w1.heap.size w1 (w1.alloc (.cells (a'.cells k) 35)) := Below.one w1 _
  have HN' := Lib.hid ((HN.out.below hz1).more hz1.size)
  have HV' := Lib.hid ((HV.out.below hz1).more hz1.size)
  have hbw1 := hbw.trans (hz1.mono hbw.size)
  unfold KA.cells
  unfold KA.cells at hbw1 HN' HV'
  go_wp2_with fail
  refine (sameKernel_any k a' a _ HV'.out HN'.out).mono ?_
  rintro e w2 ⟨rfl, hb2⟩
  go_wp2
  go_ret
  exact ⟨rfl, hbw1.trans (hb2.mono hbw1.size)⟩

theorem contract (H : Type) (enc : TypeId × Value → H) (W : World) (base : Nat) (args : Array Value) (ds gs : List (DataW H)) (before : List MemPlace)
    (hval : ∀ (j : Nat) t v, Try.f8.params[j]? = some t → args[j]? = some v → Value.okWide Try.prog W .any base t v)
    (hW : DataW.Whole enc Try.prog Try.f8.params.toList Rows.kernCopiesSpec.vars false W args.toList ds gs before) (_hL : laidMetH Try.prog Rows.kernCopiesRow.laid W)
    (hsz : (DataW.weightsEach Try.prog (Try.f8.params.toList ++ (OpenSpec.ofChange Rows.kernCopiesSpec).bare.plain.varTypes Try.prog) (ds ++ gs)).all (· ≤ reachBytes) = true) :
    Calls Try.prog 8 args W fun e W' => ∃ v, e = .returned v ∧ Rows.kernCopiesSpec.post enc Try.prog Try.f8 false true false false W args v W' := by
  have hW' := hW
  obtain ⟨p, q, hA0, hV, rfl, hfz, hnd⟩ := hW
  have hA : DataW.TrodAll enc Try.prog W 0 (fun _ => true) true Try.f8.params.toList args.toList ds p := hA0
  rw [Try.params8] at hA hval
  obtain ⟨v0, d0, rfl, rfl, h0⟩ := trodAll_one hA
  have L0 : Light Try.prog 35 d0 := Light_arg hsz 0 (by rw [Try.params8]; rfl) rfl
  obtain ⟨k0, a0, rfl, hK0, hw0⟩ := open_kernelW (hval 0 35 v0 rfl rfl) h0 L0
  refine (walk k0 a0 W hK0).mono fun e W' ⟨he, hb⟩ => ?_
  subst he
  exact ⟨_, rfl, law_post hW' rfl rfl Try.underlying4 laidOut (by kernel_rfl) rfl hb⟩

theorem laid_met (os : Os) : laidMet Try.prog Rows.kernCopiesRow.laid ((laidWorld os).forCall (fun _ _ => 0) ⟨#[], #[.agg #[.slice none 0 0, .slice none 0 0, .slice none 0 0, .slice none 0 0, .slice none 0 0]], []⟩).memory :=
  laidMet_of_run' 8 (by kernel_rfl) (by kernel_rfl)
theorem reads (os : Os) {H : Type} (enc : TypeId × Value → H) : ∃ places, DataW.whole enc Try.prog ((laidWorld os).forCall (fun _ _ => 0) ⟨#[], #[.agg #[.slice none 0 0, .slice none 0 0, .slice none 0 0, .slice none 0 0, .slice none 0 0]], []⟩).memory Try.f8.params.toList Rows.kernCopiesSpec.vars false (#[.agg #[.slice none 0 0, .slice none 0 0, .slice none 0 0, .slice none 0 0, .slice none 0 0]] : Array Value).toList 8 = some ([.agg [.nil, .nil, .nil, .nil, .nil]], [], places) :=
  ⟨[], by kernel_rfl⟩

set_option maxRecDepth 100000 in
theorem lifted (os : Os) (started : os.Started) (H : Type) (enc : TypeId × Value → H) (F : Stop.Interp) :
    ReturnsInHanded {} Try.checked os 8 .any ((OpenSpec.ofChange Rows.kernCopiesSpec).preRow enc Try.prog Try.f8 Rows.kernCopiesRow.domain false Rows.kernCopiesRow.laid) (((OpenSpec.ofChange Rows.kernCopiesSpec).at F).post enc Try.prog Try.f8 false true false false) := by
  obtain ⟨places, hx⟩ := reads os enc
  refine returnsInHanded_of_row (C := Try.checked) (s := OpenSpec.ofChange Rows.kernCopiesSpec) own started (by kernel_rfl) Try.func8
    (witness_row_at (enc := enc) (C := Try.checked) false (laidWorld os) #[.agg #[.slice none 0 0, .slice none 0 0, .slice none 0 0, .slice none 0 0, .slice none 0 0]] rfl (by kernel_rfl) (by kernel_rfl) (by kernel_rfl)
      (OpenSpec.preRow_of_cond 8 hx (by kernel_rfl) (fun k hk => by cases hk) (by kernel_rfl) (laid_met os))) ?_
  intro W base args ds gs before hval hW _ _ hsz hL _ _
  exact contract H enc W base args ds gs before hval hW hL hsz

theorem said : Rows.KernCopiesSaid :=
  OpenClaim.holds_of_cond 8 Try.f8 rfl rfl rfl rfl rfl rfl rfl ⟨rfl, rfl, rfl, rfl, rfl⟩ rfl rfl rfl rfl rfl (by kernel_rfl) Try.func8 (by kernel_rfl)
    (of_decide_eq_true (by kernel_rfl)) (by unfold Func.isWrapper; first | (rw [if_pos (by decide +kernel)]; kernel_rfl) | (rw [if_neg (by decide +kernel)]; exact ⟨rfl, rfl⟩))
    (fun os started H enc _ F => by rw [OpenClaim.pre_eq_preRow]; exact lifted os started H enc F)
end Go.Proofs.Ytdjamdbamkhblaa.kernCopies
