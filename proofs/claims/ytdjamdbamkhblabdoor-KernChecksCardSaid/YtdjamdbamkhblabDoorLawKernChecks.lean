/- Proved: kern.Check returns what the reference returns, for every kernel, and changes nothing that was there. Condition: the listed tables hold what the program's text lays (the card ties them). -/
import Derived.Test.YtdjamdbamkhblabDoorCards
import Derived.Test.YtdjamdbamkhblabDoorTie
import Derived.Test.YtdjamdbamkhblabDoorLaid
import Derived.Test.YtdjamdbamkhblabDoorKCheckW
import Derived.Test.YtdjamdbamkhblabDoorKFault
import Derived.Test.YtdjamdbamkhblabDoorOpenKrn
namespace Go.Proofs.YtdjamdbamkhblabDoor.kernChecks
open Go.RowKit Go.WideShapes Go.ChangeShapes Go.ChangeAt Go.Deep Go.Joins

theorem small_of {k : Krn} (h : k.wf) : k.small := ⟨fun x hx => ⟨(h.nodes x hx).2.2.1, (h.nodes x hx).2.2.2⟩, h.pipes⟩
set_option maxHeartbeats 1000000 in
theorem walk (k : Krn) (a : KA) (w : World) (hK : KrnAt w w.heap.size a k) (hS : k.small) (hC : a.caps k) (ht : Tab w) :
    Calls Tryd.prog 6 #[.agg (a.cells k)] w fun e w' => e = .returned (.bool true) ∧ Below w.heap.size w w' := by
  have hz : Below w.heap.size w (w.alloc (.cells (a.cells k) 60)) := below_box w _
  have HM := Lib.hid ((hK.below hz).more hz.size)
  have HT := Lib.hid (ht.below hz)
  have HX := Lib.hid (Blk.new w 60 (a.cells k))
  clear hK ht
  unfold KA.cells at hz HM HT HX
  show Calls Tryd.prog 6 #[.agg #[.slice a.a0 k.mods.length a.c0, .slice a.a1 k.mem.length a.c1, .slice a.a2 k.nodes.length a.c2, .slice a.a3 k.pipes.length a.c3, .slice a.a4 k.procs.length a.c4]] w _
  go_enter Tryd.func6, Tryd.ntmps6
  go_wp2_with fail
  refine (KCheck_any k a _ HM.out hS hC HT.out).mono ?_
  rintro e w1 ⟨rfl, hb1⟩
  have hbw := hz.trans (hb1.mono hz.size)
  have HN := Lib.hid ((HM.out.below hb1).more hb1.size)
  have hx1 := HX.out.below hb1 HX.out.lt
  have c0 := hx1.cell 0
  have c1 := hx1.cell 1
  have c2 := hx1.cell 2
  have c3 := hx1.cell 3
  have c4 := hx1.cell 4
  have hz1 := hx1.lt
  simp at c0 c1 c2 c3 c4
  clear hx1 hb1
  go_wp2_with fail
  refine (KFault_any k a _ HN.out hS).mono ?_
  rintro e w2 ⟨rfl, hb2⟩
  go_wp2
  go_ret
  exact ⟨ret_bool (by simp), hbw.trans (hb2.mono hbw.size)⟩

set_option maxRecDepth 100000 in
theorem contract (H : Type) (enc : TypeId × Value → H) (W : World) (base : Nat) (args : Array Value) (ds gs : List (DataW H)) (before : List MemPlace)
    (hval : ∀ (j : Nat) t v, Tryd.f6.params[j]? = some t → args[j]? = some v → Value.okWide Tryd.prog W .any base t v)
    (hW : DataW.Whole enc Tryd.prog Tryd.f6.params.toList Rows.kernChecksSpec.vars false W args.toList ds gs before) (hL : laidMetH Tryd.prog Rows.kernChecksRow.laid W)
    (hsz : (DataW.weightsEach Tryd.prog (Tryd.f6.params.toList ++ (OpenSpec.ofChange Rows.kernChecksSpec).bare.plain.varTypes Tryd.prog) (ds ++ gs)).all (· ≤ reachBytes) = true) :
    Calls Tryd.prog 6 args W fun e W' => ∃ v, e = .returned v ∧ Rows.kernChecksSpec.post enc Tryd.prog Tryd.f6 false true false false W args v W' := by
  have hW' := hW
  obtain ⟨p, q, hA0, hV, rfl, hfz, hnd⟩ := hW
  have hA : DataW.TrodAll enc Tryd.prog W 0 (fun _ => true) true Tryd.f6.params.toList args.toList ds p := hA0
  rw [Tryd.params6] at hA hval
  obtain ⟨v0, d0, rfl, rfl, h0⟩ := trodAll_one hA
  have L0 : Light Tryd.prog 60 d0 := Light_arg hsz 0 (by rw [Tryd.params6]; rfl) rfl
  obtain ⟨k0, a0, rfl, hK0, hw0, hcap0⟩ := open_kernelW (hval 0 60 v0 rfl rfl) h0 L0
  refine (walk k0 a0 W hK0 (small_of hw0) hcap0 (tab_of_laid hL)).mono fun e W' ⟨he, hb⟩ => ?_
  subst he
  exact ⟨_, rfl, law_post hW' rfl rfl Tryd.underlying4 laidOut (by kernel_rfl) rfl hb⟩

theorem laid_met (os : Os) : laidMet Tryd.prog Rows.kernChecksRow.laid ((laidWorld os).forCall (fun _ _ => 0) ⟨#[], #[.agg #[.slice none 0 0, .slice none 0 0, .slice none 0 0, .slice none 0 0, .slice none 0 0]], []⟩).memory :=
  laidMet_of_run' 8 (by kernel_rfl) (by kernel_rfl)
theorem reads (os : Os) {H : Type} (enc : TypeId × Value → H) : ∃ places, DataW.whole enc Tryd.prog ((laidWorld os).forCall (fun _ _ => 0) ⟨#[], #[.agg #[.slice none 0 0, .slice none 0 0, .slice none 0 0, .slice none 0 0, .slice none 0 0]], []⟩).memory Tryd.f6.params.toList Rows.kernChecksSpec.vars false (#[.agg #[.slice none 0 0, .slice none 0 0, .slice none 0 0, .slice none 0 0, .slice none 0 0]] : Array Value).toList 8 = some ([.agg [.nil, .nil, .nil, .nil, .nil]], [], places) :=
  ⟨[], by kernel_rfl⟩

set_option maxRecDepth 100000 in
theorem lifted (os : Os) (started : os.Started) (H : Type) (enc : TypeId × Value → H) (F : Stop.Interp) :
    ReturnsInHanded {} Tryd.checked os 6 .any ((OpenSpec.ofChange Rows.kernChecksSpec).preRow enc Tryd.prog Tryd.f6 Rows.kernChecksRow.domain false Rows.kernChecksRow.laid) (((OpenSpec.ofChange Rows.kernChecksSpec).at F).post enc Tryd.prog Tryd.f6 false true false false) := by
  obtain ⟨places, hx⟩ := reads os enc
  refine returnsInHanded_of_row (C := Tryd.checked) (s := OpenSpec.ofChange Rows.kernChecksSpec) own started (by kernel_rfl) Tryd.func6
    (witness_row_at (enc := enc) (C := Tryd.checked) false (laidWorld os) #[.agg #[.slice none 0 0, .slice none 0 0, .slice none 0 0, .slice none 0 0, .slice none 0 0]] rfl (by kernel_rfl) (by kernel_rfl) (by kernel_rfl)
      (OpenSpec.preRow_of_cond 8 hx (by kernel_rfl) (fun k hk => by cases hk) (by kernel_rfl) (laid_met os))) ?_
  intro W base args ds gs before hval hW _ _ hsz hL _ _
  exact contract H enc W base args ds gs before hval hW hL hsz

theorem said : Rows.KernChecksSaid :=
  OpenClaim.holds_of_cond 6 Tryd.f6 rfl rfl rfl rfl rfl rfl rfl ⟨rfl, rfl, rfl, rfl, rfl⟩ rfl rfl rfl rfl rfl (by kernel_rfl) Tryd.func6 (by kernel_rfl)
    (of_decide_eq_true (by kernel_rfl)) (by unfold Func.isWrapper; first | (rw [if_pos (by decide +kernel)]; kernel_rfl) | (rw [if_neg (by decide +kernel)]; exact ⟨rfl, rfl⟩))
    (fun os started H enc _ F => by rw [OpenClaim.pre_eq_preRow]; exact lifted os started H enc F)

theorem plain (f : FuncId) (fn : Func) (hf : Tryd.pinned.checked.prog.funcNamed "curfew/curfewlaw.KernChecks" = some f) (hfn : Tryd.pinned.checked.prog.funcs[f]? = some fn) :
    false = Tryd.pinned.checked.prog.looks [] ∧ ∀ (j : Nat) t, fn.params[j]? = some t → Tryd.pinned.checked.prog.wantsStandIn t = false := by
  obtain rfl : f = 6 := Option.some.inj ((show Tryd.prog.funcNamed "curfew/curfewlaw.KernChecks" = some 6 by kernel_rfl).symm.trans hf) |>.symm
  obtain rfl : fn = Tryd.f6 := (Option.some.inj (Tryd.func6.symm.trans hfn)).symm
  refine ⟨by kernel_rfl, fun j t ht => ?_⟩
  rw [Tryd.params6] at ht
  have hall : (#[60] : Array TypeId).all (fun t => Tryd.pinned.checked.prog.wantsStandIn t == false) = true := by kernel_rfl
  have := (Array.all_eq_true_iff_forall_mem.1 hall) t (Array.mem_of_getElem? ht)
  simpa using this

/-- The card. -/
theorem card : Rows.KernChecksCardSaid :=
  Claim7.holds_tied_plain_at .later [] _ _ _ _ said (fun _ h => by cases h) (by kernel_rfl) (fun _ h => by cases h) kernChecks_row_tie rfl ⟨rfl, rfl⟩ (by kernel_rfl) rfl plain (by kernel_rfl)
end Go.Proofs.YtdjamdbamkhblabDoor.kernChecks
