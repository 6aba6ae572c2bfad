/- Proved: a loop is executed the specified number of times, and each step consumes one unit of fuel: the law answers true. Condition: the listed tables hold what the program's text lays (the card ties them). -/
import Derived.Test.YtdjamdbamkhblabDoorCards
import Derived.Test.YtdjamdbamkhblabDoorTie
import Derived.Test.YtdjamdbamkhblabDoorLaid
import Derived.Test.YtdjamdbamkhblabDoorRunsL
namespace Go.Proofs.YtdjamdbamkhblabDoor.runsCount
open Go.RowKit Go.WideShapes Go.ChangeShapes Go.ChangeAt Go.Deep Go.Joins

set_option maxRecDepth 100000 in
set_option maxHeartbeats 4000000 in
theorem walk (n f : Int) (w : World) (wn : (Lit.int .i64 n).wf = true) (wf : (Lit.int .i64 f).wf = true) (ht : Tab w) :
    Calls Tryd.prog 9 #[.int .i64 n, .int .i64 f] w fun e w' => e = .returned (.bool true) ∧ Below w.heap.size w w' := by
  obtain ⟨n1, n2⟩ := wf64_of wn
  obtain ⟨f1, f2⟩ := wf64_of wf
  obtain ⟨p, hp⟩ : ∃ p, pick n 100 = p := ⟨_, rfl⟩
  have hp1 : p < 100 := by rw [← hp]; exact pick_lt n (by omega)
  obtain ⟨k, hk⟩ : ∃ k, k = 1 + p := ⟨_, rfl⟩
  have hk1 : 1 ≤ k := by omega
  have hk2 : k ≤ 100 := by omega
  have hki : (1 : Int) + (p : Nat) = (k : Int) := by omega
  have he : ((2 + 3 * k : Nat) : Int) = 2 + 3 * (k : Int) := by omega
  obtain ⟨q, hq⟩ : ∃ q, pick f (2 + 3 * k) = q := ⟨_, rfl⟩
  have hq1 : q < 2 + 3 * k := by rw [← hq]; exact pick_lt f (by omega)
  have C1 : Hid (∀ W : World, Calls Tryd.prog 22 #[.int .i64 n, .int .i64 100] W fun e w' => e = .returned (.int .i64 (p : Nat)) ∧ W = w') := fun W => by
    rw [← hp]; exact picked_any n 100 W n1 n2 (by omega) (by omega)
  have C2 : Hid (∀ W : World, Calls Tryd.prog 22 #[.int .i64 f, .int .i64 (2 + 3 * (k : Int))] W fun e w' => e = .returned (.int .i64 (q : Nat)) ∧ W = w') := fun W => by
    rw [← hq, ← he]; exact picked_any f (2 + 3 * k) W f1 f2 (by omega) (by omega)
  have HR1 := Lib.hid (cnt_run k hk1 hk2)
  have HR2 := Lib.hid (cnt_run2 k q hk1 hk2 hq1)
  rw [he] at HR1
  have HRD : Hid (RdI (w.alloc (.cells #[.int .i64 1, .int .i64 1, .int .i64 0, .int .i64 (k : Int), .int .i64 1, .int .i64 2, .int .i64 0, .int .i64 1, .int .i64 3, .int .i64 1, .int .i64 1, .int .i64 2, .int .i64 11, .int .i64 1, .int .i64 0, .int .i64 5, .int .i64 10, .int .i64 0, .int .i64 0, .int .i64 2, .int .i64 15, .int .i64 0, .int .i64 0, .int .i64 0] 45)) (w.alloc (.cells #[.int .i64 1, .int .i64 1, .int .i64 0, .int .i64 (k : Int), .int .i64 1, .int .i64 2, .int .i64 0, .int .i64 1, .int .i64 3, .int .i64 1, .int .i64 1, .int .i64 2, .int .i64 11, .int .i64 1, .int .i64 0, .int .i64 5, .int .i64 10, .int .i64 0, .int .i64 0, .int .i64 2, .int .i64 15, .int .i64 0, .int .i64 0, .int .i64 0] 45)).heap.size (some ⟨w.heap.size, 0, none⟩) (cntCode k)) :=
    RdI.of ((Blk.new w 45 #[.int .i64 1, .int .i64 1, .int .i64 0, .int .i64 (k : Int), .int .i64 1, .int .i64 2, .int .i64 0, .int .i64 1, .int .i64 3, .int .i64 1, .int .i64 1, .int .i64 2, .int .i64 11, .int .i64 1, .int .i64 0, .int .i64 5, .int .i64 10, .int .i64 0, .int .i64 0, .int .i64 2, .int .i64 15, .int .i64 0, .int .i64 0, .int .i64 0]).rd 6 4 (by simp))
  have hb0 := below_al w (.cells #[.int .i64 1, .int .i64 1, .int .i64 0, .int .i64 (k : Int), .int .i64 1, .int .i64 2, .int .i64 0, .int .i64 1, .int .i64 3, .int .i64 1, .int .i64 1, .int .i64 2, .int .i64 11, .int .i64 1, .int .i64 0, .int .i64 5, .int .i64 10, .int .i64 0, .int .i64 0, .int .i64 2, .int .i64 15, .int .i64 0, .int .i64 0, .int .i64 0] 45)
  have HT := Lib.hid (ht.below hb0)
  clear wn wf hk hq hp he n1 n2 f1 f2 ht
  go_enter Tryd.func9, Tryd.ntmps9
  go_wp2_with (first | (go_at_call 22; refine (C1.out _).mono ?_; rintro e w' ⟨rfl, rfl⟩) | (go_at_call 22; refine (C2.out _).mono ?_; rintro e w' ⟨rfl, rfl⟩))
  generalize w.alloc (.cells #[.int .i64 1, .int .i64 1, .int .i64 0, .int .i64 (k : Int), .int .i64 1, .int .i64 2, .int .i64 0, .int .i64 1, .int .i64 3, .int .i64 1, .int .i64 1, .int .i64 2, .int .i64 11, .int .i64 1, .int .i64 0, .int .i64 5, .int .i64 10, .int .i64 0, .int .i64 0, .int .i64 2, .int .i64 15, .int .i64 0, .int .i64 0, .int .i64 0] 45) = V at *
  refine (Run_any (some ⟨w.heap.size, 0, none⟩) none 6 0 (cntCode k) 0 0 0 0 0 0 0 0 [] (2 + 3 * (k : Int)) V HRD.out HT.out (by show 6 ≤ _; unfold maxLen; omega) (fun h => absurd h (by simp)) (by show 0 ≤ _; omega) (fun _ => ⟨rfl, rfl⟩)).mono ?_
  rw [HR1.out.1, HR1.out.2]
  rintro e w1 ⟨T, M, rfl, hT, hM, hb1⟩
  obtain ⟨AT, kT, rfl⟩ := own_slice hT
  obtain ⟨AM, kM, rfl⟩ := own_slice hM
  clear hT hM
  simp only [outV, cntAt, natV, List.getD_cons_zero, List.getD_cons_succ]
  have hbw1 := hb0.trans (hb1.mono hb0.size)
  go_wp2_with (first | (go_at_call 22; refine (C2.out _).mono ?_; rintro e w' ⟨rfl, rfl⟩))
  have hO := Blk.new w1 35 #[.int .i64 1, .int .i64 0, .int .i64 0, .int .i64 1, .int .i64 0, .int .i64 0, .int .i64 0, .int .i64 0, .int .i64 0, .slice AT 0 kT, .slice AM 0 kM]
  have hb2 := below_al w1 (.cells #[.int .i64 1, .int .i64 0, .int .i64 0, .int .i64 1, .int .i64 0, .int .i64 0, .int .i64 0, .int .i64 0, .int .i64 0, .slice AT 0 kT, .slice AM 0 kM] 35)
  have hbv := hb1.trans (hb2.mono hb1.size)
  refine (Run_any (some ⟨w.heap.size, 0, none⟩) none 6 0 (cntCode k) 0 0 0 0 0 0 0 0 [] (q : Int) _ ((HRD.out.below hbv).more hbv.size) (HT.out.below hbv) (by show 6 ≤ _; unfold maxLen; omega) (fun h => absurd h (by simp)) (by show 0 ≤ _; omega) (fun _ => ⟨rfl, rfl⟩)).mono ?_
  obtain ⟨⟨s2, e2⟩, hrs⟩ : ∃ rs, runRes (cntCode k) [0, 0, 0, 0, 0, 0, 0, 0] [] (q : Int) = rs := ⟨_, rfl⟩
  have he2 := HR2.out.2
  rw [hrs] at he2
  simp only at he2
  subst he2
  rw [HR2.out.1, hrs]
  rintro e w2 ⟨T2, M2, rfl, hT2, hM2, hb3⟩
  obtain ⟨AT2, kT2, rfl⟩ := own_slice hT2
  obtain ⟨AM2, kM2, rfl⟩ := own_slice hM2
  clear hT2 hM2 hrs
  simp only [outV, natV]
  have hO2 := hO.below hb3 hO.lt
  have d0 := hO2.cell 0
  have d2 := hO2.cell 2
  simp at d0 d2
  have hz2 := hO2.lt
  have hbw2 := (hbw1.trans (hb2.mono hbw1.size)).trans (hb3.mono (Nat.le_trans hbw1.size hb2.size))
  clear hO hO2
  go_wp2
  go_ret
  exact ⟨ret_bool (by simp), hbw2.alloc hbw2.size _⟩

set_option maxRecDepth 100000 in
theorem contract (H : Type) (enc : TypeId × Value → H) (W : World) (base : Nat) (args : Array Value) (ds gs : List (DataW H)) (before : List MemPlace)
    (hval : ∀ (j : Nat) t v, Tryd.f9.params[j]? = some t → args[j]? = some v → Value.okWide Tryd.prog W .any base t v)
    (hW : DataW.Whole enc Tryd.prog Tryd.f9.params.toList Rows.runsCountSpec.vars false W args.toList ds gs before) (hL : laidMetH Tryd.prog Rows.runsCountRow.laid W)
    (_hsz : (DataW.weightsEach Tryd.prog (Tryd.f9.params.toList ++ (OpenSpec.ofChange Rows.runsCountSpec).bare.plain.varTypes Tryd.prog) (ds ++ gs)).all (· ≤ reachBytes) = true) :
    Calls Tryd.prog 9 args W fun e W' => ∃ v, e = .returned v ∧ Rows.runsCountSpec.post enc Tryd.prog Tryd.f9 false true false false W args v W' := by
  have hW' := hW
  obtain ⟨p, q, hA0, hV, rfl, hfz, hnd⟩ := hW
  have hA : DataW.TrodAll enc Tryd.prog W 0 (fun _ => true) true Tryd.f9.params.toList args.toList ds p := hA0
  rw [Tryd.params9] at hA hval
  obtain ⟨v0, vs0, d0, ds0, p0, q0, hargs, rfl, rfl, h0, r0⟩ := trodAll_cons hA
  obtain ⟨v1, vs1, d1, ds1, p1, q1, rfl, rfl, rfl, h1, r1⟩ := trodAll_cons r0
  obtain ⟨rfl, rfl, rfl⟩ := trodAll_nil r1
  obtain rfl : args = #[v0, v1] := by cases args; simp_all
  obtain ⟨x0, rfl, rfl, rfl, wx0⟩ := open_int Tryd.underlying3 (hval 0 3 v0 rfl rfl) h0
  obtain ⟨x1, rfl, rfl, rfl, wx1⟩ := open_int Tryd.underlying3 (hval 1 3 v1 rfl rfl) h1
  refine (walk x0 x1 W wx0 wx1 (tab_of_laid hL)).mono fun e W' ⟨he, hb⟩ => ?_
  subst he
  exact ⟨_, rfl, law_post hW' rfl rfl Tryd.underlying4 laidOut (by kernel_rfl) rfl hb⟩

theorem laid_met (os : Os) : laidMet Tryd.prog Rows.runsCountRow.laid ((laidWorld os).forCall (fun _ _ => 0) ⟨#[], #[.int .i64 0, .int .i64 0], []⟩).memory :=
  laidMet_of_run' 8 (by kernel_rfl) (by kernel_rfl)
theorem reads (os : Os) {H : Type} (enc : TypeId × Value → H) : ∃ places, DataW.whole enc Tryd.prog ((laidWorld os).forCall (fun _ _ => 0) ⟨#[], #[.int .i64 0, .int .i64 0], []⟩).memory Tryd.f9.params.toList Rows.runsCountSpec.vars false (#[.int .i64 0, .int .i64 0] : Array Value).toList 8 = some ([.lit (.int .i64 0), .lit (.int .i64 0)], [], places) :=
  ⟨[], by kernel_rfl⟩

set_option maxRecDepth 100000 in
theorem lifted (os : Os) (started : os.Started) (H : Type) (enc : TypeId × Value → H) (F : Stop.Interp) :
    ReturnsInHanded {} Tryd.checked os 9 .any ((OpenSpec.ofChange Rows.runsCountSpec).preRow enc Tryd.prog Tryd.f9 Rows.runsCountRow.domain false Rows.runsCountRow.laid) (((OpenSpec.ofChange Rows.runsCountSpec).at F).post enc Tryd.prog Tryd.f9 false true false false) := by
  obtain ⟨places, hx⟩ := reads os enc
  refine returnsInHanded_of_row (C := Tryd.checked) (s := OpenSpec.ofChange Rows.runsCountSpec) own started (by kernel_rfl) Tryd.func9
    (witness_row_at (enc := enc) (C := Tryd.checked) false (laidWorld os) #[.int .i64 0, .int .i64 0] rfl (by kernel_rfl) (by kernel_rfl) (by kernel_rfl)
      (OpenSpec.preRow_of_cond 8 hx (by kernel_rfl) (fun k hk => by cases hk) (by kernel_rfl) (laid_met os))) ?_
  intro W base args ds gs before hval hW _ _ hsz hL _ _
  exact contract H enc W base args ds gs before hval hW hL hsz

theorem said : Rows.RunsCountSaid :=
  OpenClaim.holds_of_cond 9 Tryd.f9 rfl rfl rfl rfl rfl rfl rfl ⟨rfl, rfl, rfl, rfl, rfl⟩ rfl rfl rfl rfl rfl (by kernel_rfl) Tryd.func9 (by kernel_rfl)
    (of_decide_eq_true (by kernel_rfl)) (by unfold Func.isWrapper; first | (rw [if_pos (by decide +kernel)]; kernel_rfl) | (rw [if_neg (by decide +kernel)]; exact ⟨rfl, rfl⟩))
    (fun os started H enc _ F => by rw [OpenClaim.pre_eq_preRow]; exact lifted os started H enc F)

theorem plain (f : FuncId) (fn : Func) (hf : Tryd.pinned.checked.prog.funcNamed "curfew/curfewkeep.RunsCount" = some f) (hfn : Tryd.pinned.checked.prog.funcs[f]? = some fn) :
    false = Tryd.pinned.checked.prog.looks [] ∧ ∀ (j : Nat) t, fn.params[j]? = some t → Tryd.pinned.checked.prog.wantsStandIn t = false := by
  obtain rfl : f = 9 := Option.some.inj ((show Tryd.prog.funcNamed "curfew/curfewkeep.RunsCount" = some 9 by kernel_rfl).symm.trans hf) |>.symm
  obtain rfl : fn = Tryd.f9 := (Option.some.inj (Tryd.func9.symm.trans hfn)).symm
  refine ⟨by kernel_rfl, fun j t ht => ?_⟩
  rw [Tryd.params9] at ht
  have hall : (#[3, 3] : Array TypeId).all (fun t => Tryd.pinned.checked.prog.wantsStandIn t == false) = true := by kernel_rfl
  have := (Array.all_eq_true_iff_forall_mem.1 hall) t (Array.mem_of_getElem? ht)
  simpa using this

/-- The card. -/
theorem card : Rows.RunsCountCardSaid :=
  Claim7.holds_tied_plain_at .later [] _ _ _ _ said (fun _ h => by cases h) (by kernel_rfl) (fun _ h => by cases h) runsCount_row_tie rfl ⟨rfl, rfl⟩ (by kernel_rfl) rfl plain (by kernel_rfl)
end Go.Proofs.YtdjamdbamkhblabDoor.runsCount
