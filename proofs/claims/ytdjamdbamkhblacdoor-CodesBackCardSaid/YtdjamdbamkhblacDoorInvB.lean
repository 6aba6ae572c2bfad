/- wp_region_inv for a region with an order of one compiler's alone (an edge that does not bind): what binds waits for earlier operations. No condition. -/
import Derived.Test.YtdjamdbamkhblacDoorInv
namespace Go.Proofs.YtdjamdbamkhblacDoor
open Go.RowKit
section
variable {P : Program} {ops : Array Oper} {Q : Exit → Act → World → Prop} {md : Region.Mode}
theorem ready_allB {listed : Array Bool} (hord : ∀ (i : Nat) (o : Oper), ops[i]? = some o → ∀ e ∈ o.after, Region.binds md e = true → e.on < i) (h : Region.ready md ops listed = []) : ∀ i, i < ops.size → listed.getD i true = true := by
  intro i
  induction i using Nat.strongRecOn with
  | ind i ih =>
    intro hi
    cases hl : listed.getD i true with
    | true => rfl
    | false =>
      exfalso
      have : i ∈ Region.ready md ops listed := by
        unfold Region.ready
        refine List.mem_filter.2 ⟨List.mem_range.2 hi, ?_⟩
        obtain ⟨o, ho⟩ : ∃ o, ops[i]? = some o := ⟨_, Array.getElem?_eq_getElem hi⟩
        rw [hl, ho]
        simp only [Bool.not_false, Bool.true_and, Option.map_some, Option.getD_some]
        rw [Array.all_eq_true_iff_forall_mem]
        intro e he
        cases hbd : Region.binds md e with
        | false => simp
        | true =>
        have h1 := hord i o ho e he hbd
        have h2 := ih e.on h1 (by omega)
        have h3 : listed.getD e.on false = true := by
          rw [Array.getD_eq_getD_getElem?] at h2 ⊢
          cases hx : listed[e.on]? with
          | none =>
            exfalso
            rw [Array.getD_eq_getD_getElem?] at hl
            cases hy : listed[i]? with
            | none => rw [hy] at hl; simp at hl
            | some b =>
              have := (Array.getElem?_eq_some_iff.1 hy).1
              have := Array.getElem?_eq_none_iff.1 hx
              omega
          | some b => rw [hx] at h2; simpa using h2
        rw [h3]; simp
      rw [h] at this
      cases this

/-- THE REGION BY AN INVARIANT: each operation that may come up keeps it; it gives the post when nothing is left. -/
theorem wpAny_invB (I : Array Bool → Act → World → Prop) (hord : ∀ (i : Nat) (o : Oper), ops[i]? = some o → ∀ e ∈ o.after, Region.binds md e = true → e.on < i)
    (hstep : ∀ (i : Nat) (o : Oper), ops[i]? = some o → ∀ listed a w, listed.getD i true = false → (o.after.all fun e => !Region.binds md e || listed.getD e.on false) = true → I listed a w →
      ∀ K : Act → World → Prop, (∀ a w, I (listed.setIfInBounds i true) a w → K a w) → if Region.wanted o (yielded ops a.tmps) = true then Oper.wp P o a w K Q else K (a.put o.dst undef) w)
    (hend : ∀ listed a w, (∀ i, i < ops.size → listed.getD i true = true) → I listed a w → Q .normal a w) :
    ∀ (fuel : Nat) (listed : Array Bool) (a : Act) (w : World), unlisted listed ≤ fuel → I listed a w → wpAny P md ops Q fuel listed a w := by
  intro fuel
  induction fuel with
  | zero =>
    intro listed a w hu hI
    have hr : Region.ready md ops listed = [] := by
      cases hr : Region.ready md ops listed with
      | nil => rfl
      | cons i r =>
        obtain ⟨o, ho, h1, h2⟩ := ready_mem (md := md) (ops := ops) (listed := listed) (i := i) (by rw [hr]; simp)
        have := unlisted_set h1
        omega
    exact ⟨hr, hend _ _ _ (ready_allB hord hr) hI⟩
  | succ fuel ih =>
    intro listed a w hu hI
    refine ⟨fun hr => hend _ _ _ (ready_allB hord hr) hI, fun i hi => ?_⟩
    obtain ⟨o, ho, h1, h2⟩ := ready_mem hi
    refine wpOp_step ho fun K' hK' => ?_
    refine hstep i o ho listed a w h1 h2 hI K' fun a' w' hI' => hK' _ _ (ih _ _ _ ?_ hI')
    have := unlisted_set h1
    omega
theorem wp_region_invB {id : Nat} {a : Act} {w : World} (I : Array Bool → Act → World → Prop) (hm : P.follows .mixedOrders = true) (hord : ∀ (i : Nat) (o : Oper), ops[i]? = some o → ∀ e ∈ o.after, Region.binds .any e = true → e.on < i)
    (h0 : I (Array.replicate ops.size false) a w.drew)
    (hstep : ∀ (i : Nat) (o : Oper), ops[i]? = some o → ∀ listed a w, listed.getD i true = false → (o.after.all fun e => !Region.binds .any e || listed.getD e.on false) = true → I listed a w →
      ∀ K : Act → World → Prop, (∀ a w, I (listed.setIfInBounds i true) a w → K a w) → if Region.wanted o (yielded ops a.tmps) = true then Oper.wp P o a w K Q else K (a.put o.dst undef) w)
    (hend : ∀ listed a w, (∀ i, i < ops.size → listed.getD i true = true) → I listed a w → Q .normal a w) : (Code.region id ops true).wp P Q a w :=
  wp_region_any hm (wpAny_invB I hord hstep hend _ _ _ _ (unlisted_none _) h0)
def ordBB (ops : Array Oper) : Bool := (List.range ops.size).all fun i => match ops[i]? with
  | some o => o.after.all fun e => !Region.binds .any e || decide (e.on < i)
  | none => true
theorem ord_ofB (h : ordBB ops = true) : ∀ (i : Nat) (o : Oper), ops[i]? = some o → ∀ e ∈ o.after, Region.binds .any e = true → e.on < i := fun i o ho e he hb => by
  have hi : i < ops.size := (Array.getElem?_eq_some_iff.1 ho).1
  have := (List.all_eq_true.1 h) i (List.mem_range.2 hi)
  rw [ho] at this
  have := (Array.all_eq_true_iff_forall_mem.1 this) e he
  rw [hb] at this
  simpa using this
end
end Go.Proofs.YtdjamdbamkhblacDoor
