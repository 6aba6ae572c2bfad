/- Proved: safe.Make returns what the reference returns, for every code, and changes nothing that was there. Condition: the listed tables hold what the program's text lays (the card ties them). -/
import Derived.Test.YtdjamdbamkhblaaDoorCards
import Derived.Test.YtdjamdbamkhblaaDoorTie
import Derived.Test.YtdjamdbamkhblaaDoorLaid
import Derived.Test.YtdjamdbamkhblaaDoorMadeRef
import Derived.Test.YtdjamdbamkhblaaDoorSameC
import Derived.Test.YtdjamdbamkhblaaDoorWeigh
namespace Go.Proofs.YtdjamdbamkhblaaDoor.safeMakes
open Go.RowKit Go.WideShapes Go.ChangeShapes Go.ChangeAt Go.Deep Go.Joins

theorem makeOf_len (l : List Ins) : (makeOf l).1.length ≤ 200 := by
  unfold makeOf
  repeat' split
  all_goals simp
  omega
set_option maxHeartbeats 1000000 in
theorem walk (A : Option Addr) (c : Nat) (l : List Ins) (w : World) (hr : RdI w w.heap.size A l) (ht : Tab w) (hl : l.length ≤ c) (hb : c * 32 ≤ 140737488351232) :
    Calls Tryd.prog 7 #[.slice A l.length c] w fun e w' => e = .returned (.bool true) ∧ Below w.heap.size w w' := by
  have HL := Lib.hid (show l.length ≤ maxLen by unfold maxLen; omega)
  have hU := Tryd.underlying22
  obtain ⟨i0, hi0, hz0, hz1, hz2⟩ := info_parts minfo_ins
  obtain ⟨rl, rn, hrr⟩ : ∃ rl rn, makeOf l = (rl, rn) := ⟨_, _, rfl⟩
  have hlen := makeOf_len l
  rw [hrr] at hlen
  have HRR := Lib.hid hrr
  have HLN := Lib.hid (show rl.length ≤ maxLen by simp only at hlen; unfold maxLen; omega)
  clear hrr hlen
  go_enter Tryd.func7, Tryd.ntmps7
  go_wp2_with (at_builtin; (refine wpList_append_rd _ rfl _ (.tmp 8) _ rfl w.heap.size 52 i0 _ 4 32 hU hi0 hz0 hz1 hz2 rfl (by omega) (.slice none 0 0) 0 [] rfl (World.ownsRow_nil _ _ _ _) w.heap.size A l.length c (insCells l) rfl hr.rd (ins_one _) ?len ?byt (Nat.le_refl _) ?_); (case len => (unfold maxLen; omega)); (case byt => omega); intro v1 w1 hv1 hg1 _; rw [Nat.zero_add, List.nil_append] at hv1; obtain ⟨A1, c1, rfl⟩ := own_slice hv1)
  have hb1 : Below w.heap.size w w1 := (Below.refl _ _).grown hg1 (Nat.le_refl _) (by simp [Value.ownBlock])
  refine (Make_any A1 c1 l w1 (RdI.of (Rd.of_own hv1)) (ht.below hb1) HL.out).mono ?_
  rw [HRR.out]
  rintro e w2 ⟨V, rfl, hV, hb2⟩
  obtain ⟨A2, c2, rfl⟩ := own_slice hV
  have hbw := hb1.trans (hb2.mono hb1.size)
  go_wp2_with fail
  refine (MadeOf_any A c l w2 ((hr.below hbw).more hbw.size) HL.out).mono ?_
  rw [HRR.out]
  rintro e w3 ⟨V', rfl, hV', hb3⟩
  obtain ⟨A3, c3, rfl⟩ := own_slice hV'
  have hbw3 := hbw.trans (hb3.mono hbw.size)
  go_wp2_with fail
  refine (sameCode_any A2 A3 c2 c3 rl w3 (((RdI.of (Rd.of_own hV)).below hb3).more hb3.size) (RdI.of (Rd.of_own hV')) HLN.out).mono ?_
  rintro e w4 ⟨rfl, n, rfl⟩
  go_wp2
  go_ret
  exact ⟨rfl, Below.drewN' hbw3 n⟩
theorem bytesI : Tryd.prog.bytesOf 52 = 32 := by kernel_rfl

theorem contract (H : Type) (enc : TypeId × Value → H) (W : World) (base : Nat) (args : Array Value) (ds gs : List (DataW H)) (before : List MemPlace)
    (hval : ∀ (j : Nat) t v, Tryd.f7.params[j]? = some t → args[j]? = some v → Value.okWide Tryd.prog W .any base t v)
    (hW : DataW.Whole enc Tryd.prog Tryd.f7.params.toList Rows.safeMakesSpec.vars false W args.toList ds gs before) (hL : laidMetH Tryd.prog Rows.safeMakesRow.laid W)
    (hsz : (DataW.weightsEach Tryd.prog (Tryd.f7.params.toList ++ (OpenSpec.ofChange Rows.safeMakesSpec).bare.plain.varTypes Tryd.prog) (ds ++ gs)).all (· ≤ reachBytes) = true) :
    Calls Tryd.prog 7 args W fun e W' => ∃ v, e = .returned v ∧ Rows.safeMakesSpec.post enc Tryd.prog Tryd.f7 false true false false W args v W' := by
  have hW' := hW
  obtain ⟨p, q, hA0, hV, rfl, hfz, hnd⟩ := hW
  have hA : DataW.TrodAll enc Tryd.prog W 0 (fun _ => true) true Tryd.f7.params.toList args.toList ds p := hA0
  rw [Tryd.params7] at hA hval
  obtain ⟨v0, d0, rfl, rfl, h0⟩ := trodAll_one hA
  have L0 : Light Tryd.prog 22 d0 := Light_arg hsz 0 (by rw [Tryd.params7]; rfl) rfl
  obtain ⟨A0, c0, l0, rfl, hlc0, hcm0, hnil0, hr0, hw0⟩ := open_code Tryd.underlying22 Tryd.underlying52 (by kernel_rfl) cells_Instr Tryd.underlying3 Tryd.underlying3 Tryd.underlying3 Tryd.underlying3 (hval 0 22 v0 rfl rfl) h0
  have hb0 := reach_Trod Tryd.underlying22 cells_Instr (by omega) h0 L0
  refine (walk A0 c0 l0 W hr0 (tab_of_laid hL) hlc0 (by rw [bytesI] at hb0; exact hb0)).mono fun e W' ⟨he, hb⟩ => ?_
  subst he
  exact ⟨_, rfl, law_post hW' rfl rfl Tryd.underlying4 laidOut (by kernel_rfl) rfl hb⟩

theorem laid_met (os : Os) : laidMet Tryd.prog Rows.safeMakesRow.laid ((laidWorld os).forCall (fun _ _ => 0) ⟨#[], #[.slice none 0 0], []⟩).memory :=
  laidMet_of_run' 8 (by kernel_rfl) (by kernel_rfl)
theorem reads (os : Os) {H : Type} (enc : TypeId × Value → H) : ∃ places, DataW.whole enc Tryd.prog ((laidWorld os).forCall (fun _ _ => 0) ⟨#[], #[.slice none 0 0], []⟩).memory Tryd.f7.params.toList Rows.safeMakesSpec.vars false (#[.slice none 0 0] : Array Value).toList 8 = some ([.nil], [], places) :=
  ⟨[], by kernel_rfl⟩

set_option maxRecDepth 100000 in
theorem lifted (os : Os) (started : os.Started) (H : Type) (enc : TypeId × Value → H) (F : Stop.Interp) :
    ReturnsInHanded {} Tryd.checked os 7 .any ((OpenSpec.ofChange Rows.safeMakesSpec).preRow enc Tryd.prog Tryd.f7 Rows.safeMakesRow.domain false Rows.safeMakesRow.laid) (((OpenSpec.ofChange Rows.safeMakesSpec).at F).post enc Tryd.prog Tryd.f7 false true false false) := by
  obtain ⟨places, hx⟩ := reads os enc
  refine returnsInHanded_of_row (C := Tryd.checked) (s := OpenSpec.ofChange Rows.safeMakesSpec) own started (by kernel_rfl) Tryd.func7
    (witness_row_at (enc := enc) (C := Tryd.checked) false (laidWorld os) #[.slice none 0 0] rfl (by kernel_rfl) (by kernel_rfl) (by kernel_rfl)
      (OpenSpec.preRow_of_cond 8 hx (by kernel_rfl) (fun k hk => by cases hk) (by kernel_rfl) (laid_met os))) ?_
  intro W base args ds gs before hval hW _ _ hsz hL _ _
  exact contract H enc W base args ds gs before hval hW hL hsz

theorem said : Rows.SafeMakesSaid :=
  OpenClaim.holds_of_cond 7 Tryd.f7 rfl rfl rfl rfl rfl rfl rfl ⟨rfl, rfl, rfl, rfl, rfl⟩ rfl rfl rfl rfl rfl (by kernel_rfl) Tryd.func7 (by kernel_rfl)
    (of_decide_eq_true (by kernel_rfl)) (by unfold Func.isWrapper; first | (rw [if_pos (by decide +kernel)]; kernel_rfl) | (rw [if_neg (by decide +kernel)]; exact ⟨rfl, rfl⟩))
    (fun os started H enc _ F => by rw [OpenClaim.pre_eq_preRow]; exact lifted os started H enc F)

theorem plain (f : FuncId) (fn : Func) (hf : Tryd.pinned.checked.prog.funcNamed "curfew/curfewlaw.SafeMakes" = some f) (hfn : Tryd.pinned.checked.prog.funcs[f]? = some fn) :
    false = Tryd.pinned.checked.prog.looks [] ∧ ∀ (j : Nat) t, fn.params[j]? = some t → Tryd.pinned.checked.prog.wantsStandIn t = false := by
  obtain rfl : f = 7 := Option.some.inj ((show Tryd.prog.funcNamed "curfew/curfewlaw.SafeMakes" = some 7 by kernel_rfl).symm.trans hf) |>.symm
  obtain rfl : fn = Tryd.f7 := (Option.some.inj (Tryd.func7.symm.trans hfn)).symm
  refine ⟨by kernel_rfl, fun j t ht => ?_⟩
  rw [Tryd.params7] at ht
  have hall : (#[22] : Array TypeId).all (fun t => Tryd.pinned.checked.prog.wantsStandIn t == false) = true := by kernel_rfl
  have := (Array.all_eq_true_iff_forall_mem.1 hall) t (Array.mem_of_getElem? ht)
  simpa using this

/-- The card. -/
theorem card : Rows.SafeMakesCardSaid :=
  Claim7.holds_tied_plain_at .later [] _ _ _ _ said (fun _ h => by cases h) (by kernel_rfl) (fun _ h => by cases h) safeMakes_row_tie rfl ⟨rfl, rfl⟩ (by kernel_rfl) rfl plain (by kernel_rfl)
end Go.Proofs.YtdjamdbamkhblaaDoor.safeMakes
