/- Proved: arithmetic is modulo 2^16, and bitwise operations are consistent with it: the law answers true. Condition: the listed tables hold what the program's text lays (the card ties them). -/
import Derived.Test.YtdjamdbamkhblabDoorCards
import Derived.Test.YtdjamdbamkhblabDoorTie
import Derived.Test.YtdjamdbamkhblabDoorLaid
import Derived.Test.YtdjamdbamkhblabDoorRunsL
import Derived.Test.YtdjamdbamkhblabDoorEqRegs
namespace Go.Proofs.YtdjamdbamkhblabDoor.runsReckon
open Go.RowKit Go.WideShapes Go.ChangeShapes Go.ChangeAt Go.Deep Go.Joins

set_option maxRecDepth 100000 in
set_option maxHeartbeats 4000000 in
theorem walk (n f : Int) (w : World) (wn : (Lit.int .i64 n).wf = true) (wf : (Lit.int .i64 f).wf = true) (ht : Tab w) :
    Calls Tryd.prog 10 #[.int .i64 n, .int .i64 f] w fun e w' => e = .returned (.bool true) ∧ Below w.heap.size w w' := by
  obtain ⟨n1, n2⟩ := wf64_of wn
  obtain ⟨f1, f2⟩ := wf64_of wf
  obtain ⟨x, hx⟩ : ∃ x, pick n 65536 = x := ⟨_, rfl⟩
  have hx1 : x < 65536 := by rw [← hx]; exact pick_lt n (by omega)
  obtain ⟨y, hy⟩ : ∃ y, pick f 65536 = y := ⟨_, rfl⟩
  have hy1 : y < 65536 := by rw [← hy]; exact pick_lt f (by omega)
  have C1 : Hid (∀ W : World, Calls Tryd.prog 22 #[.int .i64 n, .int .i64 65536] W fun e w' => e = .returned (.int .i64 (x : Nat)) ∧ W = w') := fun W => by
    rw [← hx]; exact picked_any n 65536 W n1 n2 (by omega) (by omega)
  have C2 : Hid (∀ W : World, Calls Tryd.prog 22 #[.int .i64 f, .int .i64 65536] W fun e w' => e = .returned (.int .i64 (y : Nat)) ∧ W = w') := fun W => by
    rw [← hy]; exact picked_any f 65536 W f1 f2 (by omega) (by omega)
  have HR1 := Lib.hid (rck_run x y hx1 hy1)
  have HRD : Hid (RdI (w.alloc (.cells #[.int .i64 2, .int .i64 2, .int .i64 0, .int .i64 1, .int .i64 3, .int .i64 3, .int .i64 2, .int .i64 1, .int .i64 4, .int .i64 4, .int .i64 0, .int .i64 1, .int .i64 6, .int .i64 5, .int .i64 0, .int .i64 1, .int .i64 5, .int .i64 6, .int .i64 4, .int .i64 5, .int .i64 7, .int .i64 7, .int .i64 0, .int .i64 1, .int .i64 15, .int .i64 0, .int .i64 0, .int .i64 0] 45)) (w.alloc (.cells #[.int .i64 2, .int .i64 2, .int .i64 0, .int .i64 1, .int .i64 3, .int .i64 3, .int .i64 2, .int .i64 1, .int .i64 4, .int .i64 4, .int .i64 0, .int .i64 1, .int .i64 6, .int .i64 5, .int .i64 0, .int .i64 1, .int .i64 5, .int .i64 6, .int .i64 4, .int .i64 5, .int .i64 7, .int .i64 7, .int .i64 0, .int .i64 1, .int .i64 15, .int .i64 0, .int .i64 0, .int .i64 0] 45)).heap.size (some ⟨w.heap.size, 0, none⟩) rckCode) :=
    RdI.of ((Blk.new w 45 #[.int .i64 2, .int .i64 2, .int .i64 0, .int .i64 1, .int .i64 3, .int .i64 3, .int .i64 2, .int .i64 1, .int .i64 4, .int .i64 4, .int .i64 0, .int .i64 1, .int .i64 6, .int .i64 5, .int .i64 0, .int .i64 1, .int .i64 5, .int .i64 6, .int .i64 4, .int .i64 5, .int .i64 7, .int .i64 7, .int .i64 0, .int .i64 1, .int .i64 15, .int .i64 0, .int .i64 0, .int .i64 0]).rd 7 4 (by simp))
  have hb0 := below_al w (.cells #[.int .i64 2, .int .i64 2, .int .i64 0, .int .i64 1, .int .i64 3, .int .i64 3, .int .i64 2, .int .i64 1, .int .i64 4, .int .i64 4, .int .i64 0, .int .i64 1, .int .i64 6, .int .i64 5, .int .i64 0, .int .i64 1, .int .i64 5, .int .i64 6, .int .i64 4, .int .i64 5, .int .i64 7, .int .i64 7, .int .i64 0, .int .i64 1, .int .i64 15, .int .i64 0, .int .i64 0, .int .i64 0] 45)
  have HT := Lib.hid (ht.below hb0)
  have b1 := i64_and_word x y (by omega) (by omega)
  have b2 := i64_or_word x y (by omega) (by omega)
  have b3 := i64_xor_word x y (by omega) (by omega)
  have heq := eql_regs
  have hxw : (x : Int) < 65536 := by omega
  have hyw : (y : Int) < 65536 := by omega
  clear wn wf hx hy n1 n2 f1 f2 ht
  by_cases hxy : x < y
  all_goals
    go_enter Tryd.func10, Tryd.ntmps10
    go_wp2_with (first | (go_at_call 22; (with_reducible refine (C1.out _).mono ?_); rintro e w' ⟨rfl, rfl⟩) | (go_at_call 22; (with_reducible refine (C2.out _).mono ?_); rintro e w' ⟨rfl, rfl⟩))
    generalize w.alloc (.cells #[.int .i64 2, .int .i64 2, .int .i64 0, .int .i64 1, .int .i64 3, .int .i64 3, .int .i64 2, .int .i64 1, .int .i64 4, .int .i64 4, .int .i64 0, .int .i64 1, .int .i64 6, .int .i64 5, .int .i64 0, .int .i64 1, .int .i64 5, .int .i64 6, .int .i64 4, .int .i64 5, .int .i64 7, .int .i64 7, .int .i64 0, .int .i64 1, .int .i64 15, .int .i64 0, .int .i64 0, .int .i64 0] 45) = V at *
    refine (Run_any (some ⟨w.heap.size, 0, none⟩) none 7 0 rckCode (x : Int) (y : Int) 0 0 0 0 0 0 [] ((100 : Nat) : Int) V HRD.out HT.out (by show 7 ≤ _; unfold maxLen; omega) (fun h => absurd h (by simp)) (by show 0 ≤ _; omega) (fun _ => ⟨rfl, rfl⟩)).mono ?_
    rw [HR1.out.1, HR1.out.2]
    rintro e w1 ⟨T, M, rfl, hT, hM, hb1⟩
    obtain ⟨AT, kT, rfl⟩ := own_slice hT
    obtain ⟨AM, kM, rfl⟩ := own_slice hM
    clear hT hM
    simp only [outV, natV, List.getD_cons_zero, List.getD_cons_succ, hxy]
    have hbw1 := hb0.trans (hb1.mono hb0.size)
    go_wp2
    go_ret
    exact ⟨ret_bool (by simp), hbw1.alloc hbw1.size _⟩

set_option maxRecDepth 100000 in
theorem contract (H : Type) (enc : TypeId × Value → H) (W : World) (base : Nat) (args : Array Value) (ds gs : List (DataW H)) (before : List MemPlace)
    (hval : ∀ (j : Nat) t v, Tryd.f10.params[j]? = some t → args[j]? = some v → Value.okWide Tryd.prog W .any base t v)
    (hW : DataW.Whole enc Tryd.prog Tryd.f10.params.toList Rows.runsReckonSpec.vars false W args.toList ds gs before) (hL : laidMetH Tryd.prog Rows.runsReckonRow.laid W)
    (_hsz : (DataW.weightsEach Tryd.prog (Tryd.f10.params.toList ++ (OpenSpec.ofChange Rows.runsReckonSpec).bare.plain.varTypes Tryd.prog) (ds ++ gs)).all (· ≤ reachBytes) = true) :
    Calls Tryd.prog 10 args W fun e W' => ∃ v, e = .returned v ∧ Rows.runsReckonSpec.post enc Tryd.prog Tryd.f10 false true false false W args v W' := by
  have hW' := hW
  obtain ⟨p, q, hA0, hV, rfl, hfz, hnd⟩ := hW
  have hA : DataW.TrodAll enc Tryd.prog W 0 (fun _ => true) true Tryd.f10.params.toList args.toList ds p := hA0
  rw [Tryd.params10] at hA hval
  obtain ⟨v0, vs0, d0, ds0, p0, q0, hargs, rfl, rfl, h0, r0⟩ := trodAll_cons hA
  obtain ⟨v1, vs1, d1, ds1, p1, q1, rfl, rfl, rfl, h1, r1⟩ := trodAll_cons r0
  obtain ⟨rfl, rfl, rfl⟩ := trodAll_nil r1
  obtain rfl : args = #[v0, v1] := by cases args; simp_all
  obtain ⟨x0, rfl, rfl, rfl, wx0⟩ := open_int Tryd.underlying3 (hval 0 3 v0 rfl rfl) h0
  obtain ⟨x1, rfl, rfl, rfl, wx1⟩ := open_int Tryd.underlying3 (hval 1 3 v1 rfl rfl) h1
  refine (walk x0 x1 W wx0 wx1 (tab_of_laid hL)).mono fun e W' ⟨he, hb⟩ => ?_
  subst he
  exact ⟨_, rfl, law_post hW' rfl rfl Tryd.underlying4 laidOut (by kernel_rfl) rfl hb⟩

theorem laid_met (os : Os) : laidMet Tryd.prog Rows.runsReckonRow.laid ((laidWorld os).forCall (fun _ _ => 0) ⟨#[], #[.int .i64 0, .int .i64 0], []⟩).memory :=
  laidMet_of_run' 8 (by kernel_rfl) (by kernel_rfl)
theorem reads (os : Os) {H : Type} (enc : TypeId × Value → H) : ∃ places, DataW.whole enc Tryd.prog ((laidWorld os).forCall (fun _ _ => 0) ⟨#[], #[.int .i64 0, .int .i64 0], []⟩).memory Tryd.f10.params.toList Rows.runsReckonSpec.vars false (#[.int .i64 0, .int .i64 0] : Array Value).toList 8 = some ([.lit (.int .i64 0), .lit (.int .i64 0)], [], places) :=
  ⟨[], by kernel_rfl⟩

set_option maxRecDepth 100000 in
theorem lifted (os : Os) (started : os.Started) (H : Type) (enc : TypeId × Value → H) (F : Stop.Interp) :
    ReturnsInHanded {} Tryd.checked os 10 .any ((OpenSpec.ofChange Rows.runsReckonSpec).preRow enc Tryd.prog Tryd.f10 Rows.runsReckonRow.domain false Rows.runsReckonRow.laid) (((OpenSpec.ofChange Rows.runsReckonSpec).at F).post enc Tryd.prog Tryd.f10 false true false false) := by
  obtain ⟨places, hx⟩ := reads os enc
  refine returnsInHanded_of_row (C := Tryd.checked) (s := OpenSpec.ofChange Rows.runsReckonSpec) own started (by kernel_rfl) Tryd.func10
    (witness_row_at (enc := enc) (C := Tryd.checked) false (laidWorld os) #[.int .i64 0, .int .i64 0] rfl (by kernel_rfl) (by kernel_rfl) (by kernel_rfl)
      (OpenSpec.preRow_of_cond 8 hx (by kernel_rfl) (fun k hk => by cases hk) (by kernel_rfl) (laid_met os))) ?_
  intro W base args ds gs before hval hW _ _ hsz hL _ _
  exact contract H enc W base args ds gs before hval hW hL hsz

theorem said : Rows.RunsReckonSaid :=
  OpenClaim.holds_of_cond 10 Tryd.f10 rfl rfl rfl rfl rfl rfl rfl ⟨rfl, rfl, rfl, rfl, rfl⟩ rfl rfl rfl rfl rfl (by kernel_rfl) Tryd.func10 (by kernel_rfl)
    (of_decide_eq_true (by kernel_rfl)) (by unfold Func.isWrapper; first | (rw [if_pos (by decide +kernel)]; kernel_rfl) | (rw [if_neg (by decide +kernel)]; exact ⟨rfl, rfl⟩))
    (fun os started H enc _ F => by rw [OpenClaim.pre_eq_preRow]; exact lifted os started H enc F)

theorem plain (f : FuncId) (fn : Func) (hf : Tryd.pinned.checked.prog.funcNamed "curfew/curfewkeep.RunsReckon" = some f) (hfn : Tryd.pinned.checked.prog.funcs[f]? = some fn) :
    false = Tryd.pinned.checked.prog.looks [] ∧ ∀ (j : Nat) t, fn.params[j]? = some t → Tryd.pinned.checked.prog.wantsStandIn t = false := by
  obtain rfl : f = 10 := Option.some.inj ((show Tryd.prog.funcNamed "curfew/curfewkeep.RunsReckon" = some 10 by kernel_rfl).symm.trans hf) |>.symm
  obtain rfl : fn = Tryd.f10 := (Option.some.inj (Tryd.func10.symm.trans hfn)).symm
  refine ⟨by kernel_rfl, fun j t ht => ?_⟩
  rw [Tryd.params10] at ht
  have hall : (#[3, 3] : Array TypeId).all (fun t => Tryd.pinned.checked.prog.wantsStandIn t == false) = true := by kernel_rfl
  have := (Array.all_eq_true_iff_forall_mem.1 hall) t (Array.mem_of_getElem? ht)
  simpa using this

/-- The card. -/
theorem card : Rows.RunsReckonCardSaid :=
  Claim7.holds_tied_plain_at .later [] _ _ _ _ said (fun _ h => by cases h) (by kernel_rfl) (fun _ h => by cases h) runsReckon_row_tie rfl ⟨rfl, rfl⟩ (by kernel_rfl) rfl plain (by kernel_rfl)
end Go.Proofs.YtdjamdbamkhblabDoor.runsReckon
