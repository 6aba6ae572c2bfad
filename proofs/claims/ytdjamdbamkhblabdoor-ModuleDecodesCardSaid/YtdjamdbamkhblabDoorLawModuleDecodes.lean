/- Proved: module.Decode returns what the reference returns, for every string. Condition: the listed tables hold what the program's text lays (the card ties them). -/
import Derived.Test.YtdjamdbamkhblabDoorCards
import Derived.Test.YtdjamdbamkhblabDoorTie
import Derived.Test.YtdjamdbamkhblabDoorLaid
import Derived.Test.YtdjamdbamkhblabDoorDecode
import Derived.Test.YtdjamdbamkhblabDoorModOf
import Derived.Test.YtdjamdbamkhblabDoorSame
namespace Go.Proofs.YtdjamdbamkhblabDoor.moduleDecodes
open Go.RowKit Go.WideShapes Go.ChangeShapes Go.ChangeAt Go.Deep Go.Joins
open Go.ChangeMaps (open_string)

theorem own_max {w : World} {base : Nat} {e : TypeId} {size n : Nat} {v : Value} {xs : List Value} (h : w.ownsRow base e size v n xs) : n ≤ maxLen := by
  rcases h.2 with ⟨_, h2⟩ | ⟨g, cap, cur, _, _, _, h1, h2, _⟩
  · omega
  · omega
set_option maxHeartbeats 1000000 in
theorem walk (s : ByteArray) (w : World) (hs : s.size ≤ maxLen) (ht : Tab w) :
    Calls Tryd.prog 5 #[.string s] w fun e w' => e = .returned (.bool true) ∧ Below w.heap.size w w' := by
  have hsl : s.data.toList.length ≤ maxLen := by rw [Array.length_toList]; exact hs
  have HA := Lib.hid (Decode_ba s.data.toList w hsl ht)
  have HB := Lib.hid (fun W : World => ModuleOf_ba s.data.toList W hsl)
  rw [ba_of] at HA HB
  obtain ⟨x, hx⟩ : ∃ x, x = decR s := ⟨_, rfl⟩
  rw [← hx] at HA HB
  obtain ⟨m, n⟩ := x
  clear hx ht
  go_enter Tryd.func5, Tryd.ntmps5
  go_wp2_with fail
  refine HA.out.mono ?_
  rintro e w1 ⟨VC, VD, rfl, hC, hD, hb1⟩
  obtain ⟨a1, k1, rfl⟩ := own_slice hC
  obtain ⟨a2, k2, rfl⟩ := own_slice hD
  have HL := Lib.hid (own_max hC)
  have HL' := Lib.hid (own_max hD)
  have hbx := below_one w1 (.cells #[.string m.name, .slice a1 m.code.length k1, .slice a2 m.data.length k2] 50)
  have hbw := hb1.trans (hbx.mono hb1.size)
  have HX := Lib.hid (Blk.new w1 50 #[.string m.name, .slice a1 m.code.length k1, .slice a2 m.data.length k2])
  have HV := Lib.hid (((RdI.of (Rd.of_own hC)).below hbx).more hbx.size)
  have HU := Lib.hid (((RdN.of (Rd.of_own hD)).below hbx).more hbx.size)
  clear hC hD hbx
  go_wp2_with fail
  refine (HB.out _).mono ?_
  rintro e w2 ⟨VC', VD', rfl, hC', hD', hb2⟩
  obtain ⟨a3, k3, rfl⟩ := own_slice hC'
  obtain ⟨a4, k4, rfl⟩ := own_slice hD'
  have hx2 := HX.out.below hb2 HX.out.lt
  have c0 := hx2.cell 0
  have c1 := hx2.cell 1
  have c2 := hx2.cell 2
  have z2 := hx2.lt
  simp at c0 c1 c2
  have hbw2 := hbw.trans (hb2.mono hbw.size)
  have hbz := below_one w2 (.cells #[.string m.name, .slice a3 m.code.length k3, .slice a4 m.data.length k4] 50)
  have hbw3 := hbw2.trans (hbz.mono hbw2.size)
  have HV2 := Lib.hid ((((HV.out.below hb2).more hb2.size).below hbz).more hbz.size)
  have HU2 := Lib.hid ((((HU.out.below hb2).more hb2.size).below hbz).more hbz.size)
  have HV3 := Lib.hid (((RdI.of (Rd.of_own hC')).below hbz).more hbz.size)
  have HU3 := Lib.hid (((RdN.of (Rd.of_own hD')).below hbz).more hbz.size)
  clear hC' hD' hb2 hx2
  go_wp2_with fail
  refine (sameModule_any m a1 a2 a3 a4 k1 k2 k3 k4 _ HV2.out HV3.out HU2.out HU3.out HL.out HL'.out).mono ?_
  rintro e w3 ⟨rfl, hb3⟩
  go_wp2
  go_ret
  exact ⟨rfl, hbw3.trans (hb3.mono hbw3.size)⟩

set_option maxRecDepth 100000 in
theorem contract (H : Type) (enc : TypeId × Value → H) (W : World) (base : Nat) (args : Array Value) (ds gs : List (DataW H)) (before : List MemPlace)
    (hval : ∀ (j : Nat) t v, Tryd.f5.params[j]? = some t → args[j]? = some v → Value.okWide Tryd.prog W .any base t v)
    (hW : DataW.Whole enc Tryd.prog Tryd.f5.params.toList Rows.moduleDecodesSpec.vars false W args.toList ds gs before) (hL : laidMetH Tryd.prog Rows.moduleDecodesRow.laid W)
    (_hsz : (DataW.weightsEach Tryd.prog (Tryd.f5.params.toList ++ (OpenSpec.ofChange Rows.moduleDecodesSpec).bare.plain.varTypes Tryd.prog) (ds ++ gs)).all (· ≤ reachBytes) = true) :
    Calls Tryd.prog 5 args W fun e W' => ∃ v, e = .returned v ∧ Rows.moduleDecodesSpec.post enc Tryd.prog Tryd.f5 false true false false W args v W' := by
  have hW' := hW
  obtain ⟨p, q, hA0, hV, rfl, hfz, hnd⟩ := hW
  have hA : DataW.TrodAll enc Tryd.prog W 0 (fun _ => true) true Tryd.f5.params.toList args.toList ds p := hA0
  rw [Tryd.params5] at hA hval
  obtain ⟨v0, d0, rfl, rfl, h0⟩ := trodAll_one hA
  obtain ⟨s0, rfl, rfl, rfl, hs0⟩ := open_string Tryd.underlying9 (hval 0 9 v0 rfl rfl) h0
  refine (walk s0 W hs0 (tab_of_laid hL)).mono fun e W' ⟨he, hb⟩ => ?_
  subst he
  exact ⟨_, rfl, law_post hW' rfl rfl Tryd.underlying4 laidOut (by kernel_rfl) rfl hb⟩

theorem laid_met (os : Os) : laidMet Tryd.prog Rows.moduleDecodesRow.laid ((laidWorld os).forCall (fun _ _ => 0) ⟨#[], #[.string ⟨#[]⟩], []⟩).memory :=
  laidMet_of_run' 8 (by kernel_rfl) (by kernel_rfl)
theorem reads (os : Os) {H : Type} (enc : TypeId × Value → H) : ∃ places, DataW.whole enc Tryd.prog ((laidWorld os).forCall (fun _ _ => 0) ⟨#[], #[.string ⟨#[]⟩], []⟩).memory Tryd.f5.params.toList Rows.moduleDecodesSpec.vars false (#[.string ⟨#[]⟩] : Array Value).toList 8 = some ([.lit (.string [])], [], places) :=
  ⟨[], by kernel_rfl⟩

set_option maxRecDepth 100000 in
theorem lifted (os : Os) (started : os.Started) (H : Type) (enc : TypeId × Value → H) (F : Stop.Interp) :
    ReturnsInHanded {} Tryd.checked os 5 .any ((OpenSpec.ofChange Rows.moduleDecodesSpec).preRow enc Tryd.prog Tryd.f5 Rows.moduleDecodesRow.domain false Rows.moduleDecodesRow.laid) (((OpenSpec.ofChange Rows.moduleDecodesSpec).at F).post enc Tryd.prog Tryd.f5 false true false false) := by
  obtain ⟨places, hx⟩ := reads os enc
  refine returnsInHanded_of_row (C := Tryd.checked) (s := OpenSpec.ofChange Rows.moduleDecodesSpec) own started (by kernel_rfl) Tryd.func5
    (witness_row_at (enc := enc) (C := Tryd.checked) false (laidWorld os) #[.string ⟨#[]⟩] rfl (by kernel_rfl) (by kernel_rfl) (by kernel_rfl)
      (OpenSpec.preRow_of_cond 8 hx (by kernel_rfl) (fun k hk => by cases hk) (by kernel_rfl) (laid_met os))) ?_
  intro W base args ds gs before hval hW _ _ hsz hL _ _
  exact contract H enc W base args ds gs before hval hW hL hsz

theorem said : Rows.ModuleDecodesSaid :=
  OpenClaim.holds_of_cond 5 Tryd.f5 rfl rfl rfl rfl rfl rfl rfl ⟨rfl, rfl, rfl, rfl, rfl⟩ rfl rfl rfl rfl rfl (by kernel_rfl) Tryd.func5 (by kernel_rfl)
    (of_decide_eq_true (by kernel_rfl)) (by unfold Func.isWrapper; first | (rw [if_pos (by decide +kernel)]; kernel_rfl) | (rw [if_neg (by decide +kernel)]; exact ⟨rfl, rfl⟩))
    (fun os started H enc _ F => by rw [OpenClaim.pre_eq_preRow]; exact lifted os started H enc F)

theorem plain (f : FuncId) (fn : Func) (hf : Tryd.pinned.checked.prog.funcNamed "curfew/curfewlaw.ModuleDecodes" = some f) (hfn : Tryd.pinned.checked.prog.funcs[f]? = some fn) :
    false = Tryd.pinned.checked.prog.looks [] ∧ ∀ (j : Nat) t, fn.params[j]? = some t → Tryd.pinned.checked.prog.wantsStandIn t = false := by
  obtain rfl : f = 5 := Option.some.inj ((show Tryd.prog.funcNamed "curfew/curfewlaw.ModuleDecodes" = some 5 by kernel_rfl).symm.trans hf) |>.symm
  obtain rfl : fn = Tryd.f5 := (Option.some.inj (Tryd.func5.symm.trans hfn)).symm
  refine ⟨by kernel_rfl, fun j t ht => ?_⟩
  rw [Tryd.params5] at ht
  have hall : (#[9] : Array TypeId).all (fun t => Tryd.pinned.checked.prog.wantsStandIn t == false) = true := by kernel_rfl
  have := (Array.all_eq_true_iff_forall_mem.1 hall) t (Array.mem_of_getElem? ht)
  simpa using this

/-- The card. -/
theorem card : Rows.ModuleDecodesCardSaid :=
  Claim7.holds_tied_plain_at .later [] _ _ _ _ said (fun _ h => by cases h) (by kernel_rfl) (fun _ h => by cases h) moduleDecodes_row_tie rfl ⟨rfl, rfl⟩ (by kernel_rfl) rfl plain (by kernel_rfl)
end Go.Proofs.YtdjamdbamkhblabDoor.moduleDecodes
