/- Proved: a call returns to the instruction after it, and the depth of calls is limited as documented: the law answers true. Condition: the listed tables hold what the program's text lays (the card ties them). -/
import Derived.Test.YtdjamdbamkhblabDoorCards
import Derived.Test.YtdjamdbamkhblabDoorTie
import Derived.Test.YtdjamdbamkhblabDoorLaid
import Derived.Test.YtdjamdbamkhblabDoorRunsL
namespace Go.Proofs.YtdjamdbamkhblabDoor.runsCall
open Go.RowKit Go.WideShapes Go.ChangeShapes Go.ChangeAt Go.Deep Go.Joins

set_option maxRecDepth 100000 in
set_option maxHeartbeats 4000000 in
theorem walk (n : Int) (w : World) (wn : (Lit.int .i64 n).wf = true) (ht : Tab w) :
    Calls Tryd.prog 11 #[.int .i64 n] w fun e w' => e = .returned (.bool true) ∧ Below w.heap.size w w' := by
  obtain ⟨n1, n2⟩ := wf64_of wn
  obtain ⟨p, hp⟩ : ∃ p, pick n 32 = p := ⟨_, rfl⟩
  have hp1 : p < 32 := by rw [← hp]; exact pick_lt n (by omega)
  obtain ⟨k, hk⟩ : ∃ k, k = 1 + p := ⟨_, rfl⟩
  have hk1 : 1 ≤ k := by omega
  have hk2 : k ≤ 32 := by omega
  have hki : (1 : Int) + (p : Nat) = (k : Int) := by omega
  have C1 : Hid (∀ W : World, Calls Tryd.prog 22 #[.int .i64 n, .int .i64 32] W fun e w' => e = .returned (.int .i64 (p : Nat)) ∧ W = w') := fun W => by
    rw [← hp]; exact picked_any n 32 W n1 n2 (by omega) (by omega)
  have HR1 := Lib.hid (call_run k hk1 hk2)
  have HRD : Hid (RdI (w.alloc (.cells #[.int .i64 1, .int .i64 1, .int .i64 0, .int .i64 (k : Int), .int .i64 1, .int .i64 3, .int .i64 0, .int .i64 1, .int .i64 12, .int .i64 0, .int .i64 0, .int .i64 4, .int .i64 15, .int .i64 0, .int .i64 0, .int .i64 0, .int .i64 3, .int .i64 1, .int .i64 1, .int .i64 3, .int .i64 11, .int .i64 1, .int .i64 0, .int .i64 7, .int .i64 12, .int .i64 0, .int .i64 0, .int .i64 4, .int .i64 2, .int .i64 2, .int .i64 2, .int .i64 3, .int .i64 13, .int .i64 0, .int .i64 0, .int .i64 0] 45)) (w.alloc (.cells #[.int .i64 1, .int .i64 1, .int .i64 0, .int .i64 (k : Int), .int .i64 1, .int .i64 3, .int .i64 0, .int .i64 1, .int .i64 12, .int .i64 0, .int .i64 0, .int .i64 4, .int .i64 15, .int .i64 0, .int .i64 0, .int .i64 0, .int .i64 3, .int .i64 1, .int .i64 1, .int .i64 3, .int .i64 11, .int .i64 1, .int .i64 0, .int .i64 7, .int .i64 12, .int .i64 0, .int .i64 0, .int .i64 4, .int .i64 2, .int .i64 2, .int .i64 2, .int .i64 3, .int .i64 13, .int .i64 0, .int .i64 0, .int .i64 0] 45)).heap.size (some ⟨w.heap.size, 0, none⟩) (callCode k)) :=
    RdI.of ((Blk.new w 45 #[.int .i64 1, .int .i64 1, .int .i64 0, .int .i64 (k : Int), .int .i64 1, .int .i64 3, .int .i64 0, .int .i64 1, .int .i64 12, .int .i64 0, .int .i64 0, .int .i64 4, .int .i64 15, .int .i64 0, .int .i64 0, .int .i64 0, .int .i64 3, .int .i64 1, .int .i64 1, .int .i64 3, .int .i64 11, .int .i64 1, .int .i64 0, .int .i64 7, .int .i64 12, .int .i64 0, .int .i64 0, .int .i64 4, .int .i64 2, .int .i64 2, .int .i64 2, .int .i64 3, .int .i64 13, .int .i64 0, .int .i64 0, .int .i64 0]).rd 9 4 (by simp))
  have hb0 := below_al w (.cells #[.int .i64 1, .int .i64 1, .int .i64 0, .int .i64 (k : Int), .int .i64 1, .int .i64 3, .int .i64 0, .int .i64 1, .int .i64 12, .int .i64 0, .int .i64 0, .int .i64 4, .int .i64 15, .int .i64 0, .int .i64 0, .int .i64 0, .int .i64 3, .int .i64 1, .int .i64 1, .int .i64 3, .int .i64 11, .int .i64 1, .int .i64 0, .int .i64 7, .int .i64 12, .int .i64 0, .int .i64 0, .int .i64 4, .int .i64 2, .int .i64 2, .int .i64 2, .int .i64 3, .int .i64 13, .int .i64 0, .int .i64 0, .int .i64 0] 45)
  have HT := Lib.hid (ht.below hb0)
  clear wn hk hp n1 n2 ht
  by_cases h16 : 16 < k
  · have h16i : (16 : Int) < (k : Int) := by omega
    have H16 := Lib.hid h16
    clear h16
    go_enter Tryd.func11, Tryd.ntmps11
    go_wp2_with (first | (go_at_call 22; refine (C1.out _).mono ?_; rintro e w' ⟨rfl, rfl⟩))
    generalize w.alloc (.cells #[.int .i64 1, .int .i64 1, .int .i64 0, .int .i64 (k : Int), .int .i64 1, .int .i64 3, .int .i64 0, .int .i64 1, .int .i64 12, .int .i64 0, .int .i64 0, .int .i64 4, .int .i64 15, .int .i64 0, .int .i64 0, .int .i64 0, .int .i64 3, .int .i64 1, .int .i64 1, .int .i64 3, .int .i64 11, .int .i64 1, .int .i64 0, .int .i64 7, .int .i64 12, .int .i64 0, .int .i64 0, .int .i64 4, .int .i64 2, .int .i64 2, .int .i64 2, .int .i64 3, .int .i64 13, .int .i64 0, .int .i64 0, .int .i64 0] 45) = V at *
    refine (Run_any (some ⟨w.heap.size, 0, none⟩) none 9 0 (callCode k) 0 0 0 0 0 0 0 0 [] ((2000 : Nat) : Int) V HRD.out HT.out (by show 9 ≤ _; unfold maxLen; omega) (fun h => absurd h (by simp)) (by show 0 ≤ _; omega) (fun _ => ⟨rfl, rfl⟩)).mono ?_
    obtain ⟨⟨s2, e2⟩, hrs⟩ : ∃ rs, runRes (callCode k) [0, 0, 0, 0, 0, 0, 0, 0] [] ((2000 : Nat) : Int) = rs := ⟨_, rfl⟩
    have he2 := HR1.out.2.1
    rw [hrs, if_pos H16.out] at he2
    simp only at he2
    subst he2
    rw [HR1.out.1, hrs]
    rintro e w1 ⟨T, M, rfl, hT, hM, hb1⟩
    obtain ⟨AT, kT, rfl⟩ := own_slice hT
    obtain ⟨AM, kM, rfl⟩ := own_slice hM
    clear hT hM hrs
    simp only [outV, natV]
    have hbw1 := hb0.trans (hb1.mono hb0.size)
    go_wp2
    go_ret
    exact ⟨ret_bool (by simp), hbw1.alloc hbw1.size _⟩
  · have h16i : ¬ (16 : Int) < (k : Int) := by omega
    have H16 := Lib.hid h16
    clear h16
    go_enter Tryd.func11, Tryd.ntmps11
    go_wp2_with (first | (go_at_call 22; refine (C1.out _).mono ?_; rintro e w' ⟨rfl, rfl⟩))
    generalize w.alloc (.cells #[.int .i64 1, .int .i64 1, .int .i64 0, .int .i64 (k : Int), .int .i64 1, .int .i64 3, .int .i64 0, .int .i64 1, .int .i64 12, .int .i64 0, .int .i64 0, .int .i64 4, .int .i64 15, .int .i64 0, .int .i64 0, .int .i64 0, .int .i64 3, .int .i64 1, .int .i64 1, .int .i64 3, .int .i64 11, .int .i64 1, .int .i64 0, .int .i64 7, .int .i64 12, .int .i64 0, .int .i64 0, .int .i64 4, .int .i64 2, .int .i64 2, .int .i64 2, .int .i64 3, .int .i64 13, .int .i64 0, .int .i64 0, .int .i64 0] 45) = V at *
    refine (Run_any (some ⟨w.heap.size, 0, none⟩) none 9 0 (callCode k) 0 0 0 0 0 0 0 0 [] ((2000 : Nat) : Int) V HRD.out HT.out (by show 9 ≤ _; unfold maxLen; omega) (fun h => absurd h (by simp)) (by show 0 ≤ _; omega) (fun _ => ⟨rfl, rfl⟩)).mono ?_
    obtain ⟨⟨s2, e2⟩, hrs⟩ : ∃ rs, runRes (callCode k) [0, 0, 0, 0, 0, 0, 0, 0] [] ((2000 : Nat) : Int) = rs := ⟨_, rfl⟩
    have he2 := HR1.out.2.1
    have hv := HR1.out.2.2.resolve_left H16.out
    rw [hrs] at hv
    rw [hrs, if_neg H16.out] at he2
    simp only at he2 hv
    subst he2
    rw [HR1.out.1, hrs]
    rintro e w1 ⟨T, M, rfl, hT, hM, hb1⟩
    obtain ⟨AT, kT, rfl⟩ := own_slice hT
    obtain ⟨AM, kM, rfl⟩ := own_slice hM
    clear hT hM hrs
    simp only [outV, natV, hv.1, hv.2]
    clear hv
    have hbw1 := hb0.trans (hb1.mono hb0.size)
    go_wp2
    go_ret
    exact ⟨ret_bool (by simp), hbw1.alloc hbw1.size _⟩

set_option maxRecDepth 100000 in
theorem contract (H : Type) (enc : TypeId × Value → H) (W : World) (base : Nat) (args : Array Value) (ds gs : List (DataW H)) (before : List MemPlace)
    (hval : ∀ (j : Nat) t v, Tryd.f11.params[j]? = some t → args[j]? = some v → Value.okWide Tryd.prog W .any base t v)
    (hW : DataW.Whole enc Tryd.prog Tryd.f11.params.toList Rows.runsCallSpec.vars false W args.toList ds gs before) (hL : laidMetH Tryd.prog Rows.runsCallRow.laid W)
    (_hsz : (DataW.weightsEach Tryd.prog (Tryd.f11.params.toList ++ (OpenSpec.ofChange Rows.runsCallSpec).bare.plain.varTypes Tryd.prog) (ds ++ gs)).all (· ≤ reachBytes) = true) :
    Calls Tryd.prog 11 args W fun e W' => ∃ v, e = .returned v ∧ Rows.runsCallSpec.post enc Tryd.prog Tryd.f11 false true false false W args v W' := by
  have hW' := hW
  obtain ⟨p, q, hA0, hV, rfl, hfz, hnd⟩ := hW
  have hA : DataW.TrodAll enc Tryd.prog W 0 (fun _ => true) true Tryd.f11.params.toList args.toList ds p := hA0
  rw [Tryd.params11] at hA hval
  obtain ⟨v0, d0, rfl, rfl, h0⟩ := trodAll_one hA
  obtain ⟨x0, rfl, rfl, rfl, wx0⟩ := open_int Tryd.underlying3 (hval 0 3 v0 rfl rfl) h0
  refine (walk x0 W wx0 (tab_of_laid hL)).mono fun e W' ⟨he, hb⟩ => ?_
  subst he
  exact ⟨_, rfl, law_post hW' rfl rfl Tryd.underlying4 laidOut (by kernel_rfl) rfl hb⟩

theorem laid_met (os : Os) : laidMet Tryd.prog Rows.runsCallRow.laid ((laidWorld os).forCall (fun _ _ => 0) ⟨#[], #[.int .i64 0], []⟩).memory :=
  laidMet_of_run' 8 (by kernel_rfl) (by kernel_rfl)
theorem reads (os : Os) {H : Type} (enc : TypeId × Value → H) : ∃ places, DataW.whole enc Tryd.prog ((laidWorld os).forCall (fun _ _ => 0) ⟨#[], #[.int .i64 0], []⟩).memory Tryd.f11.params.toList Rows.runsCallSpec.vars false (#[.int .i64 0] : Array Value).toList 8 = some ([.lit (.int .i64 0)], [], places) :=
  ⟨[], by kernel_rfl⟩

set_option maxRecDepth 100000 in
theorem lifted (os : Os) (started : os.Started) (H : Type) (enc : TypeId × Value → H) (F : Stop.Interp) :
    ReturnsInHanded {} Tryd.checked os 11 .any ((OpenSpec.ofChange Rows.runsCallSpec).preRow enc Tryd.prog Tryd.f11 Rows.runsCallRow.domain false Rows.runsCallRow.laid) (((OpenSpec.ofChange Rows.runsCallSpec).at F).post enc Tryd.prog Tryd.f11 false true false false) := by
  obtain ⟨places, hx⟩ := reads os enc
  refine returnsInHanded_of_row (C := Tryd.checked) (s := OpenSpec.ofChange Rows.runsCallSpec) own started (by kernel_rfl) Tryd.func11
    (witness_row_at (enc := enc) (C := Tryd.checked) false (laidWorld os) #[.int .i64 0] rfl (by kernel_rfl) (by kernel_rfl) (by kernel_rfl)
      (OpenSpec.preRow_of_cond 8 hx (by kernel_rfl) (fun k hk => by cases hk) (by kernel_rfl) (laid_met os))) ?_
  intro W base args ds gs before hval hW _ _ hsz hL _ _
  exact contract H enc W base args ds gs before hval hW hL hsz

theorem said : Rows.RunsCallSaid :=
  OpenClaim.holds_of_cond 11 Tryd.f11 rfl rfl rfl rfl rfl rfl rfl ⟨rfl, rfl, rfl, rfl, rfl⟩ rfl rfl rfl rfl rfl (by kernel_rfl) Tryd.func11 (by kernel_rfl)
    (of_decide_eq_true (by kernel_rfl)) (by unfold Func.isWrapper; first | (rw [if_pos (by decide +kernel)]; kernel_rfl) | (rw [if_neg (by decide +kernel)]; exact ⟨rfl, rfl⟩))
    (fun os started H enc _ F => by rw [OpenClaim.pre_eq_preRow]; exact lifted os started H enc F)

theorem plain (f : FuncId) (fn : Func) (hf : Tryd.pinned.checked.prog.funcNamed "curfew/curfewkeep.RunsCall" = some f) (hfn : Tryd.pinned.checked.prog.funcs[f]? = some fn) :
    false = Tryd.pinned.checked.prog.looks [] ∧ ∀ (j : Nat) t, fn.params[j]? = some t → Tryd.pinned.checked.prog.wantsStandIn t = false := by
  obtain rfl : f = 11 := Option.some.inj ((show Tryd.prog.funcNamed "curfew/curfewkeep.RunsCall" = some 11 by kernel_rfl).symm.trans hf) |>.symm
  obtain rfl : fn = Tryd.f11 := (Option.some.inj (Tryd.func11.symm.trans hfn)).symm
  refine ⟨by kernel_rfl, fun j t ht => ?_⟩
  rw [Tryd.params11] at ht
  have hall : (#[3] : Array TypeId).all (fun t => Tryd.pinned.checked.prog.wantsStandIn t == false) = true := by kernel_rfl
  have := (Array.all_eq_true_iff_forall_mem.1 hall) t (Array.mem_of_getElem? ht)
  simpa using this

/-- The card. -/
theorem card : Rows.RunsCallCardSaid :=
  Claim7.holds_tied_plain_at .later [] _ _ _ _ said (fun _ h => by cases h) (by kernel_rfl) (fun _ h => by cases h) runsCall_row_tie rfl ⟨rfl, rfl⟩ (by kernel_rfl) rfl plain (by kernel_rfl)
end Go.Proofs.YtdjamdbamkhblabDoor.runsCall
