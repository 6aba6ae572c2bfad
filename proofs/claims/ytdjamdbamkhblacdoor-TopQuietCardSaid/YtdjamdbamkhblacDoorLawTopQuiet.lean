/- Proved: whatever a module does, files, pipes and processes are as they would be without it, and so are the words of other modules: the law answers true. Condition: the listed tables hold what the program's text lays (the card ties them). -/
import Derived.Test.YtdjamdbamkhblacDoorCards
import Derived.Test.YtdjamdbamkhblacDoorTie
import Derived.Test.YtdjamdbamkhblacDoorG39
import Derived.Test.YtdjamdbamkhblacDoorTopQW
namespace Go.Proofs.YtdjamdbamkhblacDoor.topQuiet
open Go.RowKit Go.WideShapes Go.ChangeShapes Go.ChangeAt Go.Deep Go.Joins

theorem walk (A0 A1 A2 : Option Addr) (c0 c1 c2 : Nat) (l m n : List Ins) (r : Ins) (w : World) (hr0 : RdI w w.heap.size A0 l) (hwf0 : ∀ i ∈ l, i.wf) (hl0 : l.length ≤ maxLen) (hr1 : RdI w w.heap.size A1 m) (hwf1 : ∀ i ∈ m, i.wf) (hl1 : m.length ≤ maxLen) (hr2 : RdI w w.heap.size A2 n) (hwf2 : ∀ i ∈ n, i.wf) (hl2 : n.length ≤ maxLen) (hrw : r.wf) (ht : Tab w) :
    Calls Tryd.prog 11 #[.slice A0 l.length c0, .slice A1 m.length c1, .slice A2 n.length c2, .agg #[.int .i64 r.op, .int .i64 r.a, .int .i64 r.b, .int .i64 r.c]] w fun e w' => e = .returned (.bool true) ∧ Below w.heap.size w w' := TopQuiet_any Szt A0 A1 A2 c0 c1 c2 l m n r w hr0 hwf0 hl0 hr1 hwf1 hl1 hr2 hwf2 hl2 hrw ht

set_option maxRecDepth 100000 in
theorem contract (H : Type) (enc : TypeId × Value → H) (W : World) (base : Nat) (args : Array Value) (ds gs : List (DataW H)) (before : List MemPlace)
    (hval : ∀ (j : Nat) t v, Tryd.f11.params[j]? = some t → args[j]? = some v → Value.okWide Tryd.prog W .any base t v)
    (hW : DataW.Whole enc Tryd.prog Tryd.f11.params.toList Rows.topQuietSpec.vars false W args.toList ds gs before) (hL : laidMetH Tryd.prog Rows.topQuietRow.laid W)
    (_hsz : (DataW.weightsEach Tryd.prog (Tryd.f11.params.toList ++ (OpenSpec.ofChange Rows.topQuietSpec).bare.plain.varTypes Tryd.prog) (ds ++ gs)).all (· ≤ reachBytes) = true) :
    Calls Tryd.prog 11 args W fun e W' => ∃ v, e = .returned v ∧ Rows.topQuietSpec.post enc Tryd.prog Tryd.f11 false true false false W args v W' := by
  have hW' := hW
  obtain ⟨p, q, hA0, hV, rfl, hfz, hnd⟩ := hW
  have hA : DataW.TrodAll enc Tryd.prog W 0 (fun _ => true) true Tryd.f11.params.toList args.toList ds p := hA0
  rw [Tryd.params11] at hA hval
  obtain ⟨v0, vs0, d0, ds0, p0, q0, hargs, rfl, rfl, h0, z0⟩ := trodAll_cons hA
  obtain ⟨v1, vs1, d1, ds1, p1, q1, rfl, rfl, rfl, h1, z1⟩ := trodAll_cons z0
  obtain ⟨v2, vs2, d2, ds2, p2, q2, rfl, rfl, rfl, h2, z2⟩ := trodAll_cons z1
  obtain ⟨v3, vs3, d3, ds3, p3, q3, rfl, rfl, rfl, h3, z3⟩ := trodAll_cons z2
  obtain ⟨rfl, rfl, rfl⟩ := trodAll_nil z3
  obtain rfl : args = #[v0, v1, v2, v3] := by cases args; simp_all
  obtain ⟨A0, c0, l0, rfl, hlc0, hcm0, hnil0, hr0, hw0⟩ := Szj Tryd.underlying43 Tryd.underlying23 (by kernel_rfl) Sz1 Tryd.underlying3 Tryd.underlying3 Tryd.underlying3 Tryd.underlying3 (hval 0 43 v0 rfl rfl) h0
  obtain ⟨A1, c1, l1, rfl, hlc1, hcm1, hnil1, hr1, hw1⟩ := Szj Tryd.underlying43 Tryd.underlying23 (by kernel_rfl) Sz1 Tryd.underlying3 Tryd.underlying3 Tryd.underlying3 Tryd.underlying3 (hval 1 43 v1 rfl rfl) h1
  obtain ⟨A2, c2, l2, rfl, hlc2, hcm2, hnil2, hr2, hw2⟩ := Szj Tryd.underlying43 Tryd.underlying23 (by kernel_rfl) Sz1 Tryd.underlying3 Tryd.underlying3 Tryd.underlying3 Tryd.underlying3 (hval 2 43 v2 rfl rfl) h2
  obtain ⟨r3, rfl, hw3⟩ := Szk Tryd.underlying23 (by kernel_rfl) Sz1 Tryd.underlying3 Tryd.underlying3 Tryd.underlying3 Tryd.underlying3 (hval 3 23 v3 rfl rfl) h3
  refine (walk A0 A1 A2 c0 c1 c2 l0 l1 l2 r3 W hr0 hw0 (by omega) hr1 hw1 (by omega) hr2 hw2 (by omega) hw3 (Rzk hL)).mono fun e W' ⟨he, hb⟩ => ?_
  subst he
  exact ⟨_, rfl, Szs hW' rfl rfl Tryd.underlying4 laidOut (by kernel_rfl) rfl hb⟩

theorem laid_met (os : Os) : laidMet Tryd.prog Rows.topQuietRow.laid ((laidWorld os).forCall (fun _ _ => 0) ⟨#[], #[.slice none 0 0, .slice none 0 0, .slice none 0 0, .agg #[.int .i64 0, .int .i64 0, .int .i64 0, .int .i64 0]], []⟩).memory :=
  laidMet_of_run' 8 (by kernel_rfl) (by kernel_rfl)
theorem reads (os : Os) {H : Type} (enc : TypeId × Value → H) : ∃ places, DataW.whole enc Tryd.prog ((laidWorld os).forCall (fun _ _ => 0) ⟨#[], #[.slice none 0 0, .slice none 0 0, .slice none 0 0, .agg #[.int .i64 0, .int .i64 0, .int .i64 0, .int .i64 0]], []⟩).memory Tryd.f11.params.toList Rows.topQuietSpec.vars false (#[.slice none 0 0, .slice none 0 0, .slice none 0 0, .agg #[.int .i64 0, .int .i64 0, .int .i64 0, .int .i64 0]] : Array Value).toList 8 = some ([.nil, .nil, .nil, .agg [.lit (.int .i64 0), .lit (.int .i64 0), .lit (.int .i64 0), .lit (.int .i64 0)]], [], places) :=
  ⟨[], by kernel_rfl⟩

set_option maxRecDepth 100000 in
theorem lifted (os : Os) (started : os.Started) (H : Type) (enc : TypeId × Value → H) (F : Stop.Interp) :
    ReturnsInHanded {} Tryd.checked os 11 .any ((OpenSpec.ofChange Rows.topQuietSpec).preRow enc Tryd.prog Tryd.f11 Rows.topQuietRow.domain false Rows.topQuietRow.laid) (((OpenSpec.ofChange Rows.topQuietSpec).at F).post enc Tryd.prog Tryd.f11 false true false false) := by
  obtain ⟨places, hx⟩ := reads os enc
  refine returnsInHanded_of_row (C := Tryd.checked) (s := OpenSpec.ofChange Rows.topQuietSpec) own started (by kernel_rfl) Tryd.func11
    (witness_row_at (enc := enc) (C := Tryd.checked) false (laidWorld os) #[.slice none 0 0, .slice none 0 0, .slice none 0 0, .agg #[.int .i64 0, .int .i64 0, .int .i64 0, .int .i64 0]] rfl (by kernel_rfl) (by kernel_rfl) (by kernel_rfl)
      (OpenSpec.preRow_of_cond 8 hx (by kernel_rfl) (fun k hk => by cases hk) (by kernel_rfl) (laid_met os))) ?_
  intro W base args ds gs before hval hW _ _ hsz hL _ _
  exact contract H enc W base args ds gs before hval hW hL hsz

theorem said : Rows.TopQuietSaid :=
  OpenClaim.holds_of_cond 11 Tryd.f11 rfl rfl rfl rfl rfl rfl rfl ⟨rfl, rfl, rfl, rfl, rfl⟩ rfl rfl rfl rfl rfl (by kernel_rfl) Tryd.func11 (by kernel_rfl)
    (of_decide_eq_true (by kernel_rfl)) (by unfold Func.isWrapper; first | (rw [if_pos (by decide +kernel)]; kernel_rfl) | (rw [if_neg (by decide +kernel)]; exact ⟨rfl, rfl⟩))
    (fun os started H enc _ F => by rw [OpenClaim.pre_eq_preRow]; exact lifted os started H enc F)

theorem plain (f : FuncId) (fn : Func) (hf : Tryd.pinned.checked.prog.funcNamed "curfew/curfewtop.TopQuiet" = some f) (hfn : Tryd.pinned.checked.prog.funcs[f]? = some fn) :
    true = Tryd.pinned.checked.prog.looks [] ∧ ∀ (j : Nat) t, fn.params[j]? = some t → Tryd.pinned.checked.prog.wantsStandIn t = false := by
  obtain rfl : f = 11 := Option.some.inj ((show Tryd.prog.funcNamed "curfew/curfewtop.TopQuiet" = some 11 by kernel_rfl).symm.trans hf) |>.symm
  obtain rfl : fn = Tryd.f11 := (Option.some.inj (Tryd.func11.symm.trans hfn)).symm
  refine ⟨by kernel_rfl, fun j t ht => ?_⟩
  rw [Tryd.params11] at ht
  have hall : (#[43, 43, 43, 23] : Array TypeId).all (fun t => Tryd.pinned.checked.prog.wantsStandIn t == false) = true := by kernel_rfl
  have := (Array.all_eq_true_iff_forall_mem.1 hall) t (Array.mem_of_getElem? ht)
  simpa using this

/-- The card. -/
theorem card : Rows.TopQuietCardSaid :=
  Claim7.holds_tied_plain_at .later [] _ _ _ _ said (fun _ h => by cases h) (by kernel_rfl) (fun _ h => by cases h) topQuiet_row_tie rfl ⟨rfl, rfl⟩ (by kernel_rfl) rfl plain (by kernel_rfl)
end Go.Proofs.YtdjamdbamkhblacDoor.topQuiet
