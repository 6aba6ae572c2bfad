/- Proved: module.Copy returns what it is handed, for every module. No condition. -/
import Derived.Test.YtdjamdbamkhblaaLaw
import Derived.Test.YtdjamdbamkhblaaBare
import Derived.Test.YtdjamdbamkhblaaOwn
import Derived.Test.YtdjamdbamkhblaaOpenKern
namespace Go.Proofs.Ytdjamdbamkhblaa.moduleCopies
open Go.RowKit Go.WideShapes Go.ChangeShapes Go.ChangeAt Go.Deep Go.Joins

set_option maxHeartbeats 1000000 in
theorem walk (m : Mod) (A A' : Option Addr) (c c' : Nat) (w : World) (hM : ModAt w w.heap.size A c A' c' m) :
    Calls Try.prog 6 #[.agg #[.string m.name, .slice A m.code.length c, .slice A' m.data.length c']] w fun e w' => e = .returned (.bool true) ∧ Below w.heap.size w w' := by
  have hz : Below w.heap.size w (w.alloc (.cells #[.string m.name, .slice A m.code.length c, .slice A' m.data.length c'] 40)) := (Below.refl _ _).alloc (Nat.le_refl _) _
  have HM := Lib.hid ((hM.keep (fun _ hp => hz.cell hp)).more hz.size)
  clear hM
  go_enter Try.func6, Try.ntmps6
  go_wp2_with fail
  refine (ModCopy_any m A A' c c' _ HM.out.code HM.out.data HM.out.nil HM.out.nil' HM.out.cl HM.out.dl).mono ?_
  rintro e w1 ⟨v, u, rfl, hv, hu, hb1⟩
  obtain ⟨a1, k1, rfl⟩ := own_slice hv
  obtain ⟨a2, k2, rfl⟩ := own_slice hu
  obtain ⟨hc1, hf1⟩ := bcell hb1
  have hbw := hz.trans (hb1.mono hz.size)
  have HV := Lib.hid (RdI.of (Rd.of_own hv))
  have HU := Lib.hid (RdN.of (Rd.of_own hu))
  have HN := Lib.hid ((HM.out.keep (fun _ hp => hb1.cell hp)).more hb1.size)
  clear hv hu
  have hp1 : w.heap.size < w1.heap.size := Nat.lt_of_lt_of_le (by simp) hb1.size
  have hz1 : Below w1.heap.size w1 (w1.alloc (.cells #[.string m.name, .slice a1 m.code.length k1, .slice a2 m.data.length k2] 40)) := (Below.refl _ _).alloc (Nat.le_refl _) _
  have HN' := Lib.hid ((HN.out.keep (fun _ hp => hz1.cell hp)).more hz1.size)
  have HV' := Lib.hid ((HV.out.below hz1).more hz1.size)
  have HU' := Lib.hid ((HU.out.below hz1).more hz1.size)
  have HL := Lib.hid (show m.code.length ≤ maxLen by have := HN.out.cl; simp [maxLen]; omega)
  have HL' := Lib.hid (show m.data.length ≤ maxLen by have := HN.out.dl; simp [maxLen]; omega)
  have hbw1 := hbw.trans (hz1.mono hbw.size)
  go_wp2_with fail
  refine (sameModule_any m a1 a2 A A' k1 k2 c c' _ HV'.out HN'.out.code HU'.out HN'.out.data HL.out HL'.out).mono ?_
  rintro e w2 ⟨rfl, hb2⟩
  go_wp2
  go_ret
  exact ⟨rfl, hbw1.trans (hb2.mono hbw1.size)⟩

theorem contract (H : Type) (enc : TypeId × Value → H) (W : World) (base : Nat) (args : Array Value) (ds gs : List (DataW H)) (before : List MemPlace)
    (hval : ∀ (j : Nat) t v, Try.f6.params[j]? = some t → args[j]? = some v → Value.okWide Try.prog W .any base t v)
    (hW : DataW.Whole enc Try.prog Try.f6.params.toList Rows.moduleCopiesSpec.vars false W args.toList ds gs before) (_hL : laidMetH Try.prog Rows.moduleCopiesRow.laid W)
    (hsz : (DataW.weightsEach Try.prog (Try.f6.params.toList ++ (OpenSpec.ofChange Rows.moduleCopiesSpec).bare.plain.varTypes Try.prog) (ds ++ gs)).all (· ≤ reachBytes) = true) :
    Calls Try.prog 6 args W fun e W' => ∃ v, e = .returned v ∧ Rows.moduleCopiesSpec.post enc Try.prog Try.f6 false true false false W args v W' := by
  have hW' := hW
  obtain ⟨p, q, hA0, hV, rfl, hfz, hnd⟩ := hW
  have hA : DataW.TrodAll enc Try.prog W 0 (fun _ => true) true Try.f6.params.toList args.toList ds p := hA0
  rw [Try.params6] at hA hval
  obtain ⟨v0, d0, rfl, rfl, h0⟩ := trodAll_one hA
  have L0 : Light Try.prog 40 d0 := Light_arg hsz 0 (by rw [Try.params6]; rfl) rfl
  obtain ⟨m0, A0, c0, B0, e0, rfl, hM0, hw0, hx0⟩ := open_moduleW (hval 0 40 v0 rfl rfl) h0 L0
  refine (walk m0 A0 B0 c0 e0 W hM0).mono fun e W' ⟨he, hb⟩ => ?_
  subst he
  exact ⟨_, rfl, law_post hW' rfl rfl Try.underlying4 laidOut (by kernel_rfl) rfl hb⟩

theorem laid_met (os : Os) : laidMet Try.prog Rows.moduleCopiesRow.laid ((laidWorld os).forCall (fun _ _ => 0) ⟨#[], #[.agg #[.string ⟨#[]⟩, .slice none 0 0, .slice none 0 0]], []⟩).memory :=
  laidMet_of_run' 8 (by kernel_rfl) (by kernel_rfl)
theorem reads (os : Os) {H : Type} (enc : TypeId × Value → H) : ∃ places, DataW.whole enc Try.prog ((laidWorld os).forCall (fun _ _ => 0) ⟨#[], #[.agg #[.string ⟨#[]⟩, .slice none 0 0, .slice none 0 0]], []⟩).memory Try.f6.params.toList Rows.moduleCopiesSpec.vars false (#[.agg #[.string ⟨#[]⟩, .slice none 0 0, .slice none 0 0]] : Array Value).toList 8 = some ([.agg [.lit (.string []), .nil, .nil]], [], places) :=
  ⟨[], by kernel_rfl⟩

set_option maxRecDepth 100000 in
theorem lifted (os : Os) (started : os.Started) (H : Type) (enc : TypeId × Value → H) (F : Stop.Interp) :
    ReturnsInHanded {} Try.checked os 6 .any ((OpenSpec.ofChange Rows.moduleCopiesSpec).preRow enc Try.prog Try.f6 Rows.moduleCopiesRow.domain false Rows.moduleCopiesRow.laid) (((OpenSpec.ofChange Rows.moduleCopiesSpec).at F).post enc Try.prog Try.f6 false true false false) := by
  obtain ⟨places, hx⟩ := reads os enc
  refine returnsInHanded_of_row (C := Try.checked) (s := OpenSpec.ofChange Rows.moduleCopiesSpec) own started (by kernel_rfl) Try.func6
    (witness_row_at (enc := enc) (C := Try.checked) false (laidWorld os) #[.agg #[.string ⟨#[]⟩, .slice none 0 0, .slice none 0 0]] rfl (by kernel_rfl) (by kernel_rfl) (by kernel_rfl)
      (OpenSpec.preRow_of_cond 8 hx (by kernel_rfl) (fun k hk => by cases hk) (by kernel_rfl) (laid_met os))) ?_
  intro W base args ds gs before hval hW _ _ hsz hL _ _
  exact contract H enc W base args ds gs before hval hW hL hsz

theorem said : Rows.ModuleCopiesSaid :=
  OpenClaim.holds_of_cond 6 Try.f6 rfl rfl rfl rfl rfl rfl rfl ⟨rfl, rfl, rfl, rfl, rfl⟩ rfl rfl rfl rfl rfl (by kernel_rfl) Try.func6 (by kernel_rfl)
    (of_decide_eq_true (by kernel_rfl)) (by unfold Func.isWrapper; first | (rw [if_pos (by decide +kernel)]; kernel_rfl) | (rw [if_neg (by decide +kernel)]; exact ⟨rfl, rfl⟩))
    (fun os started H enc _ F => by rw [OpenClaim.pre_eq_preRow]; exact lifted os started H enc F)
end Go.Proofs.Ytdjamdbamkhblaa.moduleCopies
