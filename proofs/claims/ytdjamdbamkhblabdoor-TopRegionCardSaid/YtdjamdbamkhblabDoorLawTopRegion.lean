/- Proved: trusted code accesses only its own region, whatever else exists: the law answers true. Condition: the listed tables hold what the program's text lays (the card ties them). -/
import Derived.Test.YtdjamdbamkhblabDoorTopP
import Derived.Test.YtdjamdbamkhblabDoorBase
import Derived.Test.YtdjamdbamkhblabDoorOutG
import Derived.Test.YtdjamdbamkhblabDoorCalm
import Derived.Laws.CopyOwn
import Derived.StillTailTactics
import Derived.Test.YtdjamdbamkhblabDoorTrusted
import Derived.Test.YtdjamdbamkhblabDoorKMem
import Derived.Test.YtdjamdbamkhblabDoorEnterW
import Derived.Test.YtdjamdbamkhblabDoorEqRegs
import Derived.Test.YtdjamdbamkhblabDoorRun
import Derived.Test.YtdjamdbamkhblabDoorCards
import Derived.Test.YtdjamdbamkhblabDoorTie
import Derived.Test.YtdjamdbamkhblabDoorLaid
import Derived.Test.YtdjamdbamkhblabDoorOpenRaw
namespace Go.Proofs.YtdjamdbamkhblabDoor
open Go.RowKit
/-- The words of a run's end, as integers. -/
def memI (s : Mc) : List Int := s.mem.map fun (x : Nat) => (x : Int)
theorem memI_getD (s : Mc) (j : Nat) : (memI s).getD j 0 = ((s.mem.getD j 0 : Nat) : Int) := by
  unfold memI
  simp only [List.getD_eq_getElem?_getD, List.getElem?_map]
  cases s.mem[j]? <;> rfl
theorem oddW_nonneg {m : List Int} (hm : m.any oddW = false) (j : Nat) : ((m.getD j 0).toNat : Int) = m.getD j 0 := by
  have : 0 ≤ m.getD j 0 := by
    rw [List.any_eq_false] at hm
    rw [List.getD_eq_getElem?_getD]
    rcases Nat.lt_or_ge j m.length with h | h
    · rw [List.getElem?_eq_getElem h]
      have := hm _ (List.getElem_mem h)
      simp [oddW] at this
      show 0 ≤ m[j]
      omega
    · rw [List.getElem?_eq_none h]
      decide
  omega
theorem ext_getD {l l' : List Int} (hl : l.length = l'.length) (h : ∀ j, l.getD j 0 = l'.getD j 0) : l = l' := by
  apply List.ext_getElem hl
  intro i h1 h2
  have := h i
  rw [List.getD_eq_getElem?_getD, List.getD_eq_getElem?_getD, List.getElem?_eq_getElem h1, List.getElem?_eq_getElem h2] at this
  exact this
theorem take_ext {l l' : List Int} {n : Nat} (hl : l.length = l'.length) (h : ∀ j, j < n → l.getD j 0 = l'.getD j 0) : l.take n = l'.take n := by
  apply List.ext_getElem (by simp [hl])
  intro i h1 h2
  have := h i (by simp at h1; omega)
  rw [List.getElem_take, List.getElem_take]
  have g1 : i < l.length := by simp at h1; omega
  have g2 : i < l'.length := by omega
  rw [List.getD_eq_getElem?_getD, List.getD_eq_getElem?_getD, List.getElem?_eq_getElem g1, List.getElem?_eq_getElem g2] at this
  exact this
theorem drop_ext {l l' : List Int} {n : Nat} (hl : l.length = l'.length) (h : ∀ j, n ≤ j → l.getD j 0 = l'.getD j 0) : l.drop n = l'.drop n := by
  apply List.ext_getElem (by simp [hl])
  intro i h1 h2
  have := h (n + i) (by omega)
  rw [List.getElem_drop, List.getElem_drop]
  have g1 : n + i < l.length := by simp at h1; omega
  have g2 : n + i < l'.length := by omega
  rw [List.getD_eq_getElem?_getD, List.getD_eq_getElem?_getD, List.getElem?_eq_getElem g1, List.getElem?_eq_getElem g2] at this
  exact this
theorem mid_ext {l l' : List Int} {n m : Nat} (hl : l.length = l'.length) (h : ∀ j, n ≤ j → j < n + m → l.getD j 0 = l'.getD j 0) : (l.drop n).take m = (l'.drop n).take m := by
  refine take_ext (by simp [hl]) fun j hj => ?_
  have := h (n + j) (by omega) (by omega)
  simpa [List.getD_eq_getElem?_getD, List.getElem?_drop] using this
theorem mixM_getD {r : Nat} {x y : List Int} (hr : r < 16) (hx : x.length = 1024) (hy : y.length = 1024) (j : Nat) : (mixM r x y).getD j 0 = if r * 64 ≤ j ∧ j < r * 64 + 64 then x.getD j 0 else y.getD j 0 := by
  simp only [List.getD_eq_getElem?_getD]
  rw [mixM_at hr hx hy]
  split <;> rfl
/-- All that the law TopRegion asks. -/
structure RegSame (r : Nat) (x y : List Int) (o p : Mc × Nat) : Prop where
  en : o.2 = p.2
  regs : o.1.regs = p.1.regs
  told : o.1.told = p.1.told
  ol : o.1.mem.length = 1024
  pl : p.1.mem.length = 1024
  o0 : (memI o.1).take (r * 64) = x.take (r * 64)
  o1 : (memI o.1).drop (r * 64 + 64) = x.drop (r * 64 + 64)
  p0 : (memI p.1).take (r * 64) = y.take (r * 64)
  p1 : (memI p.1).drop (r * 64 + 64) = y.drop (r * 64 + 64)
  mid : ((memI o.1).drop (r * 64)).take 64 = ((memI p.1).drop (r * 64)).take 64
theorem memI_length (s : Mc) : (memI s).length = s.mem.length := by simp [memI]
theorem region_same {c : List Ins} {r x : Nat} {m m0 : List Int} {fuel : Nat} (hv : verify c = 0) (hr : r < 16) (hx : x ≤ 65535) (hl : m.length = 1024) (hl0 : m0.length = 1024) (hm : m.any oddW = false) (hm0 : m0.any oddW = false) (hf : fuel ≤ 20000) :
    RegSame r m (mixM r m m0) (runRes c (entR r x) m (fuel : Int)) (runRes c (entR r x) (mixM r m m0) (fuel : Int)) := by
  have hl' := mixM_length hr hl hl0
  have hm' := mixM_odd (r := r) hm hm0
  obtain ⟨k0, k1, k2, k3, k4, k5, k6, k7⟩ := region_keep (x := x) (fuel := fuel) hv hr hx hl hl' hm hm' hf (fun j h1 h2 => by rw [mixM_getD hr hl hl0, if_pos ⟨by omega, by omega⟩])
  have e1 : ∀ j, j < 64 * r ∨ 64 * r + 64 ≤ j → (memI (runRes c (entR r x) m (fuel : Int)).1).getD j 0 = m.getD j 0 := fun j hj => by rw [memI_getD, k6 j hj, oddW_nonneg hm]
  have e2 : ∀ j, j < 64 * r ∨ 64 * r + 64 ≤ j → (memI (runRes c (entR r x) (mixM r m m0) (fuel : Int)).1).getD j 0 = (mixM r m m0).getD j 0 := fun j hj => by rw [memI_getD, k7 j hj, oddW_nonneg hm']
  refine ⟨k0, k1, k2, k3, k4, ?_, ?_, ?_, ?_, ?_⟩
  · exact take_ext (by rw [memI_length, k3, hl]) fun j hj => e1 j (by omega)
  · exact drop_ext (by rw [memI_length, k3, hl]) fun j hj => e1 j (by omega)
  · exact take_ext (by rw [memI_length, k4, hl']) fun j hj => e2 j (by omega)
  · exact drop_ext (by rw [memI_length, k4, hl']) fun j hj => e2 j (by omega)
  · exact mid_ext (by rw [memI_length, memI_length, k3, k4]) fun j h1 h2 => by rw [memI_getD, memI_getD, k5 j (by omega) (by omega)]
end Go.Proofs.YtdjamdbamkhblabDoor
namespace Go.Proofs.YtdjamdbamkhblabDoor
open Go.RowKit
set_option maxHeartbeats 1000000 in
theorem Equal_int (A A' : Option Addr) (c c' : Nat) (l : List Int) (w : World) (hr : RdN w w.heap.size A l) (hr' : RdN w w.heap.size A' l) (hl : l.length ≤ maxLen) :
    Calls Tryd.prog 29 #[.slice A l.length c, .slice A' l.length c'] w fun e w' => e = .returned (.bool true) ∧ ∃ n, w' = w.drewN n := by
  unfold maxLen at hl
  go_enter Tryd.func29, Tryd.ntmps29
  go_wp2
  go_loopw [13] (fun i wr => Cnt l.length i fun _ => ∃ n, wr = w.drewN n) (fun i _ => l.length - (intOf i).toNat)
  case atStart => exact ⟨0, Nat.zero_le _, rfl, 0, rfl⟩
  case round =>
    obtain ⟨k, hk, rfl, n, rfl⟩ := hrel
    by_cases hlt : k < l.length
    · obtain ⟨b, o, rfl, hbB, hcell⟩ := hr (by omega)
      obtain ⟨b', o', rfl, hbB', hcell'⟩ := hr' (by omega)
      have c0 := hcell k hlt
      have d0 := hcell' k hlt
      clear hr hr' hcell hcell'
      generalize l[k] = z at *
      go_wp2
      go_quiet (fail)
      go_wp2
      exact ⟨⟨k + 1, by omega, by go_num, _, rfl⟩, by simp [intOf]; omega⟩
    · go_wp2
      go_ret
      exact ⟨rfl, n, rfl⟩
end Go.Proofs.YtdjamdbamkhblabDoor
namespace Go.Proofs.YtdjamdbamkhblabDoor
open Go.RowKit
set_option linter.unusedVariables false
set_option linter.unusedSimpArgs false
theorem own_addrT {w : World} {base : Nat} {e : TypeId} {size n c : Nat} {A : Option Addr} {xs : List Value} (h : w.ownsRow base e size (.slice A n c) n xs) (hn : 0 < n) : ∃ g, A = some ⟨g, 0, none⟩ ∧ base ≤ g ∧ g < w.heap.size := by
  obtain ⟨g, cap, hv, hb, hlt⟩ := h.form hn
  cases hv
  exact ⟨g, rfl, hb, hlt⟩
theorem own_capT {w : World} {base : Nat} {e : TypeId} {size n c : Nat} {A : Option Addr} {xs : List Value} (h : w.ownsRow base e size (.slice A n c) n xs) (hn : 0 < n) : n ≤ c ∧ c ≤ maxLen := by
  rcases h.2 with ⟨_, h0⟩ | ⟨_, _, _, e1, _, _, h1, h2, _⟩
  · omega
  · cases e1; exact ⟨h1, h2⟩
theorem own_lenT {w : World} {base : Nat} {e : TypeId} {size n c : Nat} {A : Option Addr} {xs : List Value} (h : w.ownsRow base e size (.slice A n c) n xs) : n ≤ maxLen := by
  rcases Nat.eq_zero_or_pos n with h0 | h0
  · rw [h0]; unfold maxLen; omega
  · obtain ⟨h1, h2⟩ := own_capT h h0; exact Nat.le_trans h1 h2
theorem set_row_grownT (w : World) (b : Nat) (cs : Array Value) : w.grownBy (w.setRow b cs) (some b) := ⟨rfl, rfl, rfl, by simp, fun q _ hne => setRow_other w b q cs (fun e => hne (by rw [e]))⟩
theorem wpList_copy_runT {P : Program} {ops : Array Oper} {rest : List Oper} {o : Oper} {a : Act} {w : World} {Q : Exit → Act → World → Prop} (hgd : o.guard = none) (s x : Operand) (t u : TypeId)
    (ho : o.op = .call { callee := .builtin .copy, args := #[s, x], argTypes := #[t, u] }) (vs vx v : Value) (w' : World) (hs : a.eval s = vs) (hx : a.eval x = vx)
    (hrun : (Builtin.copy_ #[t, u] o.type #[vs, vx]).run P w = .ok v w') (h : wpList P ops Q rest (a.put o.dst v) w') : wpList P ops Q (o :: rest) a w :=
  wpList_plain hgd fun _ hK => by
    unfold Oper.wp
    simp [execOp, ho, resolve, invoke, builtin, hs, hx, hrun, Result.andThen]
    exact hK _ _ h
/-- A stretch of an own row of integers is laid anew. -/
theorem own_relaid {w : World} {base b n c o : Nat} {M : List Int} (h : w.ownsRow base 3 1 (.slice (some ⟨b, 0, none⟩) n c) n (intCells M)) (hM : M.length = n) (l : List Int) (hl : o + l.length ≤ n) :
    ∃ cur, w.heap[b]? = some (.cells cur 3 (0, 0)) ∧ o + l.length ≤ cur.size ∧ base ≤ b ∧
      (w.setRow b (cur.toList.take o ++ intCells l ++ cur.toList.drop (o + l.length)).toArray).ownsRow base 3 1 (.slice (some ⟨b, 0, none⟩) n c) n (intCells (M.take o ++ l ++ M.drop (o + l.length))) := by
  have hbb : base ≤ b := (h.lt b rfl).1
  obtain ⟨hlen, h2⟩ := h
  rcases h2 with ⟨h2, _⟩ | ⟨b', cap, cur, hv, _, hh, hnc, hcm, hcs, htk⟩
  · cases h2
  cases hv
  have hil : (intCells l).length = l.length := by simp [intCells]
  have hcl : cur.toList.length = cur.size := by simp
  have hcsz : o + l.length ≤ cur.size := by omega
  refine ⟨cur, hh, hcsz, hbb, ?_⟩
  obtain ⟨cs, hcs'⟩ : ∃ cs, cs = cur.toList.take o ++ intCells l ++ cur.toList.drop (o + l.length) := ⟨_, rfl⟩
  have hcsl : cs.length = cur.size := by rw [hcs', List.length_append, List.length_append, List.length_take, List.length_drop, hil, hcl]; omega
  have hml : (M.take o ++ l ++ M.drop (o + l.length)).length = n := by rw [List.length_append, List.length_append, List.length_take, List.length_drop]; omega
  rw [← hcs']
  have hnew : (w.setRow b cs.toArray).heap[b]? = some (.cells cs.toArray 3 (0, 0)) := setRow_heap w b cur _ _ _ hh
  have hpre : cs.take n = intCells (M.take o ++ l ++ M.drop (o + l.length)) := by
    have ek : intCells M = cur.toList.take n := by rw [← htk, Nat.mul_one]
    have e1 : intCells (M.take o ++ l ++ M.drop (o + l.length)) = (intCells M).take o ++ intCells l ++ (intCells M).drop (o + l.length) := by simp [intCells, List.map_append, List.map_take, List.map_drop]
    rw [e1, ek, hcs']
    apply List.ext_getElem?
    intro j
    have t1 : (cur.toList.take o).length = o := by rw [List.length_take]; omega
    have t2 : ((cur.toList.take n).take o).length = o := by rw [List.length_take, List.length_take]; omega
    rcases Nat.lt_or_ge j o with h1 | h1
    · rw [List.getElem?_take, if_pos (by omega), List.append_assoc, List.getElem?_append_left (by omega), List.append_assoc, List.getElem?_append_left (by omega), List.getElem?_take, if_pos h1, List.getElem?_take, if_pos h1, List.getElem?_take, if_pos (by omega)]
    · rcases Nat.lt_or_ge j (o + l.length) with h3 | h3
      · rw [List.getElem?_take, if_pos (by omega), List.append_assoc, List.getElem?_append_right (by omega), t1, List.getElem?_append_left (by rw [hil]; omega), List.append_assoc, List.getElem?_append_right (by omega), t2, List.getElem?_append_left (by rw [hil]; omega)]
      · rw [List.getElem?_take, List.getElem?_append_right (by rw [List.length_append, hil]; omega), List.getElem?_append_right (by rw [List.length_append, hil]; omega), List.length_append, List.length_append, t1, t2, hil, List.getElem?_drop, List.getElem?_drop, List.getElem?_take]
        rw [show o + l.length + (j - (o + l.length)) = j by omega]
  refine ⟨by rw [← hpre, List.length_take]; omega, .inr ⟨b, _, _, rfl, hbb, hnew, hnc, hcm, by simp; omega, ?_⟩⟩
  rw [Nat.mul_one, ← hpre]
/-- A stretch of a row, read. -/
theorem RdN.sub {w : World} {B b : Nat} {M : List Int} (h : RdN w B (some ⟨b, 0, none⟩) M) (o m : Nat) (hm : o + m ≤ M.length) : RdN w B (some ⟨b, o, none⟩) ((M.drop o).take m) := by
  intro hl
  obtain ⟨b', o', e, hb, hc⟩ := h (by simp at hl; omega)
  cases e
  refine ⟨b, o, rfl, hb, fun k hk => ?_⟩
  simp at hk
  have := hc (o + k) (by omega)
  rw [Nat.zero_add] at this
  rw [this, List.getElem_take, List.getElem_drop]
/-- 64 words of one own row over those of another. -/
theorem run_copy64 {w : World} {baseX baseY bX bY cX cY o capX capY : Nat} {mx my : List Int} (ty : TypeId) (hx : w.ownsRow baseX 3 1 (.slice (some ⟨bX, 0, none⟩) 1024 cX) 1024 (intCells mx)) (hy : w.ownsRow baseY 3 1 (.slice (some ⟨bY, 0, none⟩) 1024 cY) 1024 (intCells my))
    (hmx : mx.length = 1024) (hmy : my.length = 1024) (ho : o + 64 ≤ 1024) (hbb : bX < baseY) (hbX : baseX ≤ bX) {dn : Nat} (hdn : dn = 64) :
    ∃ v w', (Builtin.copy_ #[33, 33] ty #[.slice (some ⟨bY, o, none⟩) dn capY, .slice (some ⟨bX, o, none⟩) dn capX]).run Tryd.prog w = .ok v w' ∧ Below baseY w w' ∧
      w'.ownsRow baseX 3 1 (.slice (some ⟨bX, 0, none⟩) 1024 cX) 1024 (intCells mx) ∧ w'.ownsRow baseY 3 1 (.slice (some ⟨bY, 0, none⟩) 1024 cY) 1024 (intCells (my.take o ++ (mx.drop o).take 64 ++ my.drop (o + 64))) := by
  subst hdn
  have hl : ((mx.drop o).take 64).length = 64 := by simp; omega
  obtain ⟨cur, h1, h2, h3, h4⟩ := own_relaid hy hmy ((mx.drop o).take 64) (o := o) (by rw [hl]; exact ho)
  have hil : (intCells ((mx.drop o).take 64)).length = 64 := by simp [intCells]; omega
  have hsz : (Tryd.prog.info? 3).map (·.size) = some 1 := by kernel_rfl
  have hrd := (RdN.of (by rw [hmx]; exact Rd.of_own hx) : RdN w w.heap.size (some ⟨bX, 0, none⟩) mx)
  have hs := RdN.sub hrd o 64 (by omega)
  have e := run_copy_row Tryd.prog w 33 33 ty 3 bY o 64 capY ⟨bX, o, none⟩ 64 capX cur 3 (intCells ((mx.drop o).take 64)) Tryd.underlying33 hsz h1 (by rw [hil]; rfl) (fun j v hj => by
    obtain ⟨b', o', e1, _, hc⟩ := hs (by omega)
    cases e1
    have hj' : j < ((mx.drop o).take 64).length := by
      rcases Nat.lt_or_ge j ((mx.drop o).take 64).length with h | h
      · exact h
      · rw [List.getElem?_eq_none (by rw [hil]; omega)] at hj; cases hj
    rw [intCells_at _ _ hj'] at hj
    rw [show (⟨bX, o, none⟩ : Addr).add j = ⟨bX, o + j, none⟩ from add_plain _ _ _, hc j hj', ← hj]) (by rw [hil]; omega) (int_one _)
  rw [hil] at e
  rw [hl] at h4
  refine ⟨_, _, e, below_setRow (Below.refl baseY w) h3 _, ?_, h4⟩
  refine hx.kept (set_row_grownT w bY _) (.inr ?_)
  intro e
  have e : (some bX : Option Nat) = some bY := e
  injection e with e
  omega
end Go.Proofs.YtdjamdbamkhblabDoor
namespace Go.Proofs.YtdjamdbamkhblabDoor
open Go.RowKit
set_option linter.unusedVariables false
set_option linter.unusedSimpArgs false
attribute [local go_sem] After.cell
set_option maxHeartbeats 1000000 in
theorem Picked_anyT (n : Int) (m : Nat) (w : World) (h1 : -9223372036854775808 ≤ n) (h2 : n ≤ 9223372036854775807) (hm : 0 < m) (hm2 : (m : Int) ≤ 9223372036854775807) :
    Calls Tryd.prog 16 #[.int .i64 n, .int .i64 (m : Int)] w fun e w' => e = .returned (.int .i64 (pick n m : Nat)) ∧ w = w' := by
  have C := Lib.hid (picked_any n m w h1 h2 hm hm2)
  go_enter Tryd.func16, Tryd.ntmps16
  go_wp2_with fail
  refine C.out.mono ?_
  rintro e w' ⟨rfl, rfl⟩
  go_wp2
  go_ret
  exact ⟨rfl, rfl⟩
theorem entV_in {r x : Nat} (hr : r < 16) (hx : x ≤ 65535) : entV (r : Int) (x : Int) = .tuple #[.agg #[.int .i64 x, .int .i64 0, .int .i64 0, .int .i64 0, .int .i64 ((r : Int) * 64), .int .i64 ((r : Int) * 64), .int .i64 63, .int .i64 0], .int .i64 0] := by
  have : entBad (r : Int) (x : Int) = false := by
    unfold entBad
    simp
    omega
  unfold entV
  rw [this]
  rfl
theorem own_nilN {w : World} {base : Nat} {A : Option Addr} {c : Nat} {l : List Int} (h : w.ownsRow base 3 1 (.slice A l.length c) l.length (intCells l)) : A = none → l.length = 0 ∧ c = 0 := fun e => by
  subst e
  rcases h.2 with ⟨e1, h0⟩ | ⟨_, _, _, e1, _⟩
  · injection e1 with _ _ e2; exact ⟨h0, e2⟩
  · cases e1
set_option maxRecDepth 100000 in
set_option maxHeartbeats 8000000 in
theorem TopRegion_any (A : Option Addr) (c : Nat) (l : List Ins) (made : Bool) (region word : Int) (ra rb : Ins) (w : World) (hr : RdI w w.heap.size A l) (hwf : ∀ i ∈ l, i.wf) (hl : l.length ≤ maxLen) (wn : (Lit.int .i64 region).wf = true) (wo : (Lit.int .i64 word).wf = true) (hra : ra.wf) (hrb : rb.wf) (ht : Tab w) :
    Calls Tryd.prog 7 #[.slice A l.length c, .bool made, .int .i64 region, .int .i64 word, .agg #[.int .i64 ra.op, .int .i64 ra.a, .int .i64 ra.b, .int .i64 ra.c], .agg #[.int .i64 rb.op, .int .i64 rb.a, .int .i64 rb.b, .int .i64 rb.c]] w fun e w' => e = .returned (.bool true) ∧ Below w.heap.size w w' := by
  obtain ⟨n1, n2⟩ := wf64_of wn
  obtain ⟨o1, o2⟩ := wf64_of wo
  have hb0 := ((Below.refl w.heap.size w).alloc (Nat.le_refl _) (.cells #[.int .i64 ra.op, .int .i64 ra.a, .int .i64 ra.b, .int .i64 ra.c] 24)).alloc (by simp) (.cells #[.int .i64 rb.op, .int .i64 rb.a, .int .i64 rb.b, .int .i64 rb.c] 24)
  obtain ⟨w0, hw0⟩ : ∃ w0, w0 = (w.alloc (.cells #[.int .i64 ra.op, .int .i64 ra.a, .int .i64 ra.b, .int .i64 ra.c] 24)).alloc (.cells #[.int .i64 rb.op, .int .i64 rb.a, .int .i64 rb.b, .int .i64 rb.c] 24) := ⟨_, rfl⟩
  have hx0 : Blk w0 w.heap.size 24 #[.int .i64 ra.op, .int .i64 ra.a, .int .i64 ra.b, .int .i64 ra.c] := by rw [hw0]; exact (Blk.new w _ _).alloc _
  have hy0 : Blk w0 (w.heap.size + 1) 24 #[.int .i64 rb.op, .int .i64 rb.a, .int .i64 rb.b, .int .i64 rb.c] := by rw [hw0]; exact Blk.new' (by simp)
  rw [← hw0] at hb0
  have HX0 := Lib.hid hx0
  have HY0 := Lib.hid hy0
  have HTR := Lib.hid (trusted_any A c l made w0 ((hr.below hb0).more hb0.size) hwf hl (ht.below hb0))
  have HVM := Lib.hid (trC_verify l)
  have HLN := Lib.hid (trC_len l made)
  obtain ⟨cd, hcd⟩ : ∃ cd, cd = trC l made := ⟨_, rfl⟩
  have HCM : Hid (verify cd ≠ 0 → made = false) := fun h => by
    cases made with
    | false => rfl
    | true => exact absurd HVM.out (by rw [← hcd]; exact h)
  rw [← hcd] at HTR HLN
  obtain ⟨r, hrr⟩ : ∃ r, pick region 16 = r := ⟨_, rfl⟩
  have hr16 : r < 16 := by rw [← hrr]; exact pick_lt region (by omega)
  obtain ⟨x, hxx⟩ : ∃ x, pick word 65536 = x := ⟨_, rfl⟩
  have hx16 : x ≤ 65535 := by have := pick_lt word (m := 65536) (by omega); omega
  have C1 : Hid (∀ W : World, Calls Tryd.prog 16 #[.int .i64 region, .int .i64 16] W fun e w' => e = .returned (.int .i64 (r : Nat)) ∧ W = w') := fun W => by
    rw [← hrr]; exact Picked_anyT region 16 W n1 n2 (by omega) (by omega)
  have C2 : Hid (∀ W : World, Calls Tryd.prog 16 #[.int .i64 word, .int .i64 65536] W fun e w' => e = .returned (.int .i64 (x : Nat)) ∧ W = w') := fun W => by
    rw [← hxx]; exact Picked_anyT word 65536 W o1 o2 (by omega) (by omega)
  have HT := Lib.hid ht
  have HB0 := Lib.hid hb0
  have HW0 := Lib.hid hw0
  clear hcd hrr hxx hb0 wn n1 n2 wo o1 o2 hr hwf hl ht HVM hx0 hy0 hw0
  go_enter Tryd.func7, Tryd.ntmps7
  go_upto_region 1 with fail
  refine (show ∀ W : World, W = w0 → Code.wp _ _ _ _ W from ?_) _ HW0.out.symm
  rintro W rfl
  go_wp2_with fail
  refine HTR.out.mono ?_
  rintro e w1 ⟨V, rfl, hV, hb1⟩
  obtain ⟨A1, c1, rfl⟩ := own_slice hV
  have HB1 := Lib.hid (HB0.out.trans (hb1.mono HB0.out.size))
  have HX1 := Lib.hid (HX0.out.below hb1 HX0.out.lt)
  have HY1 := Lib.hid (HY0.out.below hb1 HY0.out.lt)
  have HR1 := Lib.hid (RdI.of (Rd.of_own hV))
  clear hV hb1 HTR HX0 HY0 HB0 HW0
  by_cases hv : verify cd = 0
  · have HV := Lib.hid hv
    rw [decide_eq_true hv]
    clear hv HCM
    have HE := Lib.hid (entV_in (r := r) (x := x) hr16 hx16)
    go_wp2_with fail
    refine (C1.out w1).mono ?_
    rintro e w2 ⟨rfl, rfl⟩
    go_wp2_with fail
    refine (C2.out w1).mono ?_
    rintro e w2 ⟨rfl, rfl⟩
    go_wp2_with fail
    refine (Enter_any (r : Int) (x : Int) w1).mono ?_
    rw [HE.out]
    rintro e w2 ⟨rfl, hb2⟩
    have hb3 := HB1.out.trans (hb2.mono HB1.out.size)
    have hbq := hb3.alloc hb3.size (.cells #[.int .i64 x, .int .i64 0, .int .i64 0, .int .i64 0, .int .i64 ((r : Int) * 64), .int .i64 ((r : Int) * 64), .int .i64 63, .int .i64 0] 28)
    have hbn := (Below.refl w2.heap.size w2).alloc (Nat.le_refl _) (.cells #[.int .i64 x, .int .i64 0, .int .i64 0, .int .i64 0, .int .i64 ((r : Int) * 64), .int .i64 ((r : Int) * 64), .int .i64 63, .int .i64 0] 28)
    have hX2 := (HX1.out.below hb2 HX1.out.lt).alloc (.cells #[.int .i64 x, .int .i64 0, .int .i64 0, .int .i64 0, .int .i64 ((r : Int) * 64), .int .i64 ((r : Int) * 64), .int .i64 63, .int .i64 0] 28)
    have hY2 := (HY1.out.below hb2 HY1.out.lt).alloc (.cells #[.int .i64 x, .int .i64 0, .int .i64 0, .int .i64 0, .int .i64 ((r : Int) * 64), .int .i64 ((r : Int) * 64), .int .i64 63, .int .i64 0] 28)
    have hA2 := Blk.new w2 28 #[.int .i64 x, .int .i64 0, .int .i64 0, .int .i64 0, .int .i64 ((r : Int) * 64), .int .i64 ((r : Int) * 64), .int .i64 63, .int .i64 0]
    have hR2 := (((HR1.out.below hb2).more hb2.size).below hbn).more hbn.size
    go_upto_region 6 with fail
    refine (show ∀ W : World, Below w.heap.size w W → Blk W w.heap.size 24 #[.int .i64 ra.op, .int .i64 ra.a, .int .i64 ra.b, .int .i64 ra.c] → Blk W (w.heap.size + 1) 24 #[.int .i64 rb.op, .int .i64 rb.a, .int .i64 rb.b, .int .i64 rb.c] → Blk W w2.heap.size 28 #[.int .i64 x, .int .i64 0, .int .i64 0, .int .i64 0, .int .i64 ((r : Int) * 64), .int .i64 ((r : Int) * 64), .int .i64 63, .int .i64 0] → RdI W W.heap.size A1 cd → Code.wp _ _ _ _ W from ?_) _ hbq hX2 hY2 hA2 hR2
    clear hb2 hb3 hbq hbn hX2 hY2 hA2 hR2 HB1 HX1 HY1 HR1
    intro W3 hb hX hY hA hR
    have HB3 := Lib.hid hb
    have HX3 := Lib.hid hX
    have HY3 := Lib.hid hY
    have HA3 := Lib.hid hA
    have HR3 := Lib.hid hR
    have x0 := hX.cell 0
    have x1 := hX.cell 1
    have x2 := hX.cell 2
    have x3 := hX.cell 3
    have xl := hX.lt
    simp at x0 x1 x2 x3
    clear hb hX hY hA hR
    obtain ⟨mx, hmx⟩ : ∃ mx, mx = memTo ra 1024 := ⟨_, rfl⟩
    have hml : mx.length = 1024 := by rw [hmx]; exact memTo_length ra 1024
    have HMO := Lib.hid (show mx.any oddW = false by rw [hmx]; exact memTo_odd ra 1024)
    have HKX := Lib.hid (KMem_any ra hra 1024 (by omega) W3)
    rw [← hmx] at HKX
    obtain ⟨my, hmy⟩ : ∃ my, my = memTo rb 1024 := ⟨_, rfl⟩
    have hnl : my.length = 1024 := by rw [hmy]; exact memTo_length rb 1024
    have HNO := Lib.hid (show my.any oddW = false by rw [hmy]; exact memTo_odd rb 1024)
    have HML := Lib.hid hml
    have HNL := Lib.hid hnl
    go_wp2_with fail
    refine HKX.out.mono ?_
    rintro e w4 ⟨VX, rfl, hox, hb4⟩
    have HKY := Lib.hid (KMem_any rb hrb 1024 (by omega) w4)
    rw [← hmy] at HKY
    clear hmx hmy hml hnl x0 x1 x2 x3 xl
    have HB4 := Lib.hid (HB3.out.trans (hb4.mono HB3.out.size))
    have HY4 := Lib.hid (HY3.out.below hb4 HY3.out.lt)
    have HA4 := Lib.hid (HA3.out.below hb4 HA3.out.lt)
    have HR4 := Lib.hid ((HR3.out.below hb4).more hb4.size)
    have y0 := HY4.out.cell 0
    have y1 := HY4.out.cell 1
    have y2 := HY4.out.cell 2
    have y3 := HY4.out.cell 3
    have yl := HY4.out.lt
    simp at y0 y1 y2 y3
    have HOX := Lib.hid hox
    obtain ⟨AX, cX, rfl⟩ := own_slice hox
    obtain ⟨bX, rfl, hbX, hlX⟩ := own_addrT hox (by omega)
    obtain ⟨kX, mX⟩ := own_capT hox (by omega)
    clear hox hb4 HB3 HX3 HY3 HA3 HR3
    go_wp2_with fail
    refine HKY.out.mono ?_
    rintro e w5 ⟨VY, rfl, hoy, hb5⟩
    clear y0 y1 y2 y3 yl HKX HKY
    have HOX5 := Lib.hid (own_below HOX.out hb5)
    have HW4 := Lib.hid (show w.heap.size ≤ w4.heap.size from HB4.out.size)
    have HB54 := Lib.hid hb5
    clear hb5 HY4 HOX
    obtain ⟨AY, cY, rfl⟩ := own_slice hoy
    obtain ⟨bY, rfl, hbY, hlY⟩ := own_addrT hoy (by omega)
    obtain ⟨kY, mY⟩ := own_capT hoy (by omega)
    have HOY5 := Lib.hid hoy
    have HBX := Lib.hid (show W3.heap.size ≤ bX ∧ bX < w4.heap.size from ⟨hbX, hlX⟩)
    clear hoy hbX hlX hbY hlY
    go_upto_region 10 with fail
    obtain ⟨F, hF⟩ : ∃ F : Nat, (r : Int) * 64 = (F : Int) := ⟨r * 64, by push_cast; rfl⟩
    have hFr : F = r * 64 := by omega
    have hF16 : F + 64 ≤ 1024 := by omega
    simp only [hF] at HA4 ⊢
    have HF := Lib.hid hFr
    clear hF hFr
    have q0 : (F : Int) ≤ 1024 := by omega
    have q1 : (F : Int) + 64 ≤ 1024 := by omega
    have q2 : (F : Int) + 64 ≤ (cX : Int) := by omega
    have q3 : (F : Int) + 64 ≤ (cY : Int) := by omega
    have q4 : (F : Int) ≤ (F : Int) + 64 := by omega
    have q5 : 0 ≤ (F : Int) := by omega
    have q6 : ¬ cX = F := by omega
    have q7 : ¬ cY = F := by omega
    go_still_tail 8, (by kernel_rfl)
    change wpList _ _ _ _ _ w5.drew
    have hd5 := Below.drewN' (Below.refl w5.heap.size w5) 1
    obtain ⟨v, w6, hrun, hb6, hx6, hy6⟩ := run_copy64 (w := w5.drew) (capX := cX - F) (capY := cY - F) 3 (own_below HOX5.out hd5) (own_below HOY5.out hd5) HML.out HNL.out hF16 HBX.out.2 HBX.out.1 (dn := ((F : Int) + 64).toNat - F) (by omega)
    refine wpList_copy_runT rfl _ _ _ _ rfl _ _ v w6 rfl rfl hrun ?_
    clear hrun
    have hbw : Below w4.heap.size w4 w6 := (HB54.out.trans (hd5.mono HB54.out.size)).trans hb6
    have HB6 := Lib.hid (HB4.out.trans (hbw.mono HB4.out.size))
    have HA6 := Lib.hid (HA4.out.below hbw HA4.out.lt)
    have HR6 := Lib.hid ((HR4.out.below hbw).more hbw.size)
    have hmix : my.take F ++ (mx.drop F).take 64 ++ my.drop (F + 64) = mixM r mx my := by unfold mixM; rw [HF.out]
    rw [hmix] at hy6
    have HMIX := Lib.hid (mixM_length hr16 HML.out HNL.out)
    have HX6 := Lib.hid hx6
    have HY6 := Lib.hid hy6
    clear hmix hx6 hy6 hb6 hbw hd5 HOX5 HOY5 HA4 HR4 HB4 HB54 q0 q1 q2 q3 q4 q5 q6 q7
    obtain ⟨mz, hmz⟩ : ∃ mz, mz = mixM r mx my := ⟨_, rfl⟩
    have HSAME := Lib.hid (region_same (fuel := 3000) HV.out hr16 hx16 HML.out HNL.out HMO.out HNO.out (by omega))
    rw [← hmz] at HSAME HMIX HY6
    have HODD := Lib.hid (show mz.any oddW = false by rw [hmz]; exact mixM_odd HMO.out HNO.out)
    clear hmz
    have HENT := Lib.hid (show entR r x = [(x : Int), 0, 0, 0, (F : Int), (F : Int), 63, 0] from by
      have : ((r : Int) * 64) = (F : Int) := by rw [HF.out]; push_cast; rfl
      unfold entR
      rw [this])
    have HRUN : Hid (∀ (W : World) (m : List Int) (bM cM base : Nat), Below w.heap.size w W → RdI W W.heap.size A1 cd → W.ownsRow base 3 1 (.slice (some ⟨bM, 0, none⟩) 1024 cM) 1024 (intCells m) → m.length = 1024 → m.any oddW = false →
        Calls Tryd.prog 17 #[.slice A1 cd.length c1, .agg #[.int .i64 x, .int .i64 0, .int .i64 0, .int .i64 0, .int .i64 F, .int .i64 F, .int .i64 63, .int .i64 0], .slice (some ⟨bM, 0, none⟩) 1024 cM, .int .i64 3000] W (RunPost W (runRes cd (entR r x) m ((3000 : Nat) : Int)) 0)) := by
      intro W m bM cM base hB hR hM hm ho
      have hrd : RdN W W.heap.size (some ⟨bM, 0, none⟩) m := RdN.of (by rw [hm]; exact Rd.of_own hM)
      have := Run_any A1 (some ⟨bM, 0, none⟩) c1 cM cd (x : Int) 0 0 0 (F : Int) (F : Int) 63 0 m 3000 W hR (HT.out.below hB) (by have := HLN.out; unfold maxLen; omega) hrd (by rw [hm]; decide) (fun h => nomatch h)
      rw [← HENT.out, hm] at this
      have e := enter_err (fuel := 3000) HV.out hr16 hx16 (by rw [hm]; exact Nat.le_refl _) ho (by omega)
      have e' : runErr cd (entR r x) m 3000 = 0 := e
      rw [e'] at this
      exact this
    obtain ⟨o, ho⟩ : ∃ o, o = runRes cd (entR r x) mx ((3000 : Nat) : Int) := ⟨_, rfl⟩
    obtain ⟨p, hp⟩ : ∃ p, p = runRes cd (entR r x) mz ((3000 : Nat) : Int) := ⟨_, rfl⟩
    have HR1 := Lib.hid (HRUN.out w6 mx bX cX _ HB6.out HR6.out HX6.out HML.out HMO.out)
    have HR2 : Hid (∀ (W : World), Below w.heap.size w W → RdI W W.heap.size A1 cd → W.ownsRow w4.heap.size 3 1 (.slice (some ⟨bY, 0, none⟩) 1024 cY) 1024 (intCells mz) →
        Calls Tryd.prog 17 #[.slice A1 cd.length c1, .agg #[.int .i64 x, .int .i64 0, .int .i64 0, .int .i64 0, .int .i64 F, .int .i64 F, .int .i64 63, .int .i64 0], .slice (some ⟨bY, 0, none⟩) 1024 cY, .int .i64 3000] W (RunPost W p 0)) := fun W h1 h2 h3 => by
      rw [hp]
      exact HRUN.out W mz bY cY _ h1 h2 h3 HMIX.out HODD.out
    rw [← ho] at HR1
    rw [← ho, ← hp] at HSAME
    clear ho hp HRUN
    refine (show ∀ W : World, W = w6 → wpList _ _ _ _ _ W from ?_) _ rfl
    rintro W rfl
    have a0 := HA6.out.cell 0
    have a1 := HA6.out.cell 1
    have a2 := HA6.out.cell 2
    have a3 := HA6.out.cell 3
    have a4 := HA6.out.cell 4
    have a5 := HA6.out.cell 5
    have a6 := HA6.out.cell 6
    have a7 := HA6.out.cell 7
    have al := HA6.out.lt
    simp at a0 a1 a2 a3 a4 a5 a6 a7
    go_wp2_with fail
    refine HR1.out.mono ?_
    rintro e w7 ⟨T1, M1, rfl, hT1, hM1, hb7⟩
    clear HR1 a0 a1 a2 a3 a4 a5 a6 a7 al
    obtain ⟨AT1, cT1, rfl⟩ := own_slice hT1
    obtain ⟨AM1, cM1, rfl⟩ := own_slice hM1
    unfold outV natV
    go_upto_region 12 with fail
    have hX8 := Blk.new w7 35 (outC o.2 o.1.regs (.slice AT1 o.1.told.length cT1) (.slice AM1 o.1.mem.length cM1))
    have hb78 := (Below.refl w7.heap.size w7).alloc (Nat.le_refl _) (.cells (outC o.2 o.1.regs (.slice AT1 o.1.told.length cT1) (.slice AM1 o.1.mem.length cM1)) 35)
    have hb68 := hb7.trans (hb78.mono hb7.size)
    refine (show ∀ W8 : World, Blk W8 w7.heap.size 35 (outC o.2 o.1.regs (.slice AT1 o.1.told.length cT1) (.slice AM1 o.1.mem.length cM1)) → Below W.heap.size W W8 → W8.ownsRow W.heap.size 3 1 (.slice AT1 o.1.told.length cT1) o.1.told.length (natsV o.1.told) → W8.ownsRow W.heap.size 3 1 (.slice AM1 o.1.mem.length cM1) o.1.mem.length (natsV o.1.mem) → Code.wp _ _ _ _ W8 from ?_) _ hX8 hb68 (own_below hT1 hb78) (own_below hM1 hb78)
    clear hX8 hb78 hb68 hT1 hM1 hb7
    intro W8 hX8 hb8 hT1 hM1
    have HO8 := Lib.hid hX8
    have HT8 := Lib.hid hT1
    have HM8 := Lib.hid hM1
    have HB8 := Lib.hid (HB6.out.trans (hb8.mono HB6.out.size))
    have HA8 := Lib.hid (HA6.out.below hb8 HA6.out.lt)
    have HR8 := Lib.hid ((HR6.out.below hb8).more hb8.size)
    have HX8 := Lib.hid (own_below HX6.out hb8)
    have HY8 := Lib.hid (own_below HY6.out hb8)
    clear hX8 hb8 hT1 hM1 HB6 HA6 HR6 HX6 HY6
    have a0 := HA8.out.cell 0
    have a1 := HA8.out.cell 1
    have a2 := HA8.out.cell 2
    have a3 := HA8.out.cell 3
    have a4 := HA8.out.cell 4
    have a5 := HA8.out.cell 5
    have a6 := HA8.out.cell 6
    have a7 := HA8.out.cell 7
    have al := HA8.out.lt
    simp at a0 a1 a2 a3 a4 a5 a6 a7
    have HQ := Lib.hid (HR2.out W8 HB8.out HR8.out HY8.out)
    go_wp2_with fail
    refine HQ.out.mono ?_
    rintro e w9 ⟨T2, M2, rfl, hT2, hM2, hb9⟩
    clear HQ HR2 a0 a1 a2 a3 a4 a5 a6 a7 al
    obtain ⟨AT2, cT2, rfl⟩ := own_slice hT2
    obtain ⟨AM2, cM2, rfl⟩ := own_slice hM2
    unfold outV natV
    go_upto_region 13 with fail
    have hP9 := Blk.new w9 35 (outC p.2 p.1.regs (.slice AT2 p.1.told.length cT2) (.slice AM2 p.1.mem.length cM2))
    have hb90 := (Below.refl w9.heap.size w9).alloc (Nat.le_refl _) (.cells (outC p.2 p.1.regs (.slice AT2 p.1.told.length cT2) (.slice AM2 p.1.mem.length cM2)) 35)
    have hb80 := hb9.trans (hb90.mono hb9.size)
    refine (show ∀ W9 : World, Blk W9 w9.heap.size 35 (outC p.2 p.1.regs (.slice AT2 p.1.told.length cT2) (.slice AM2 p.1.mem.length cM2)) → Below W8.heap.size W8 W9 → W9.ownsRow W8.heap.size 3 1 (.slice AT2 p.1.told.length cT2) p.1.told.length (natsV p.1.told) → W9.ownsRow W8.heap.size 3 1 (.slice AM2 p.1.mem.length cM2) p.1.mem.length (natsV p.1.mem) → Code.wp _ _ _ _ W9 from ?_) _ hP9 hb80 (own_below hT2 hb90) (own_below hM2 hb90)
    clear hP9 hb90 hb80 hT2 hM2 hb9
    intro W9 hP9 hb9 hT2 hM2
    have hO9 := HO8.out.below hb9 HO8.out.lt
    have hB9 := HB8.out.trans (hb9.mono HB8.out.size)
    have hX9 := own_below HX8.out hb9
    have hY9 := own_below HY8.out hb9
    have hT9 := own_below HT8.out hb9
    have hM9 := own_below HM8.out hb9
    clear HO8 HB8 HX8 HY8 HT8 HM8 HA8 HR8 hb9
    rw [← HSAME.out.en, ← HSAME.out.regs, ← HSAME.out.told] at hP9
    rw [← HSAME.out.told] at hT2
    have e1 : natsV o.1.mem = intCells (memI o.1) := by simp [natsV, intCells, memI, natV]
    have e2 : natsV p.1.mem = intCells (memI p.1) := by simp [natsV, intCells, memI, natV]
    have l1 := HSAME.out.ol
    have l2 := HSAME.out.pl
    rw [e1] at hM9
    rw [e2] at hM2
    have hm1 : (memI o.1).length = 1024 := by rw [memI_length, l1]
    have hm2 : (memI p.1).length = 1024 := by rw [memI_length, l2]
    have E0 := HSAME.out.o0
    have E1 := HSAME.out.o1
    have E2 := HSAME.out.p0
    have E3 := HSAME.out.p1
    have E4 := HSAME.out.mid
    rw [← HF.out] at E0 E1 E2 E3 E4
    rw [l1] at hM9 hO9
    rw [l2] at hM2 hP9
    obtain ⟨mo, hmo⟩ : ∃ mo, mo = memI o.1 := ⟨_, rfl⟩
    obtain ⟨mp, hmp⟩ : ∃ mp, mp = memI p.1 := ⟨_, rfl⟩
    rw [← hmo] at hM9 hm1 E0 E1 E4
    rw [← hmp] at hM2 hm2 E2 E3 E4
    obtain ⟨tl, htl⟩ : ∃ tl, tl = o.1.told.map fun (x : Nat) => (x : Int) := ⟨_, rfl⟩
    have e3 : natsV o.1.told = intCells tl := by rw [htl]; simp [natsV, intCells, natV]
    have e4 : o.1.told.length = tl.length := by rw [htl]; simp
    rw [e3, e4] at hT9 hT2
    have htl2 : tl.length ≤ maxLen := own_lenT hT9
    rw [e4] at hO9 hP9
    unfold outC natV at hO9 hP9
    obtain ⟨bM1, rfl, hbM1, hlM1⟩ := own_addrT hM9 (by omega)
    obtain ⟨bM2, rfl, hbM2, hlM2⟩ := own_addrT hM2 (by omega)
    obtain ⟨kM1, mM1⟩ := own_capT hM9 (by omega)
    obtain ⟨kM2, mM2⟩ := own_capT hM2 (by omega)
    have RX : RdN W9 W9.heap.size (some ⟨bX, 0, none⟩) mx := RdN.of (by rw [HML.out]; exact Rd.of_own hX9)
    have RY : RdN W9 W9.heap.size (some ⟨bY, 0, none⟩) mz := RdN.of (by rw [HMIX.out]; exact Rd.of_own hY9)
    have RO : RdN W9 W9.heap.size (some ⟨bM1, 0, none⟩) mo := RdN.of (by rw [hm1]; exact Rd.of_own hM9)
    have RP : RdN W9 W9.heap.size (some ⟨bM2, 0, none⟩) mp := RdN.of (by rw [hm2]; exact Rd.of_own hM2)
    have RT1 : RdN W9 W9.heap.size AT1 tl := RdN.of (Rd.of_own hT9)
    have RT2 : RdN W9 W9.heap.size AT2 tl := RdN.of (Rd.of_own hT2)
    have o0 := hO9.cell 0
    have o1 := hO9.cell 1
    have o2 := hO9.cell 2
    have o3 := hO9.cell 3
    have o4 := hO9.cell 4
    have o5 := hO9.cell 5
    have o6 := hO9.cell 6
    have o7 := hO9.cell 7
    have o8 := hO9.cell 8
    have o9 := hO9.cell 9
    have o10 := hO9.cell 10
    have ol := hO9.lt
    have p0 := hP9.cell 0
    have p1 := hP9.cell 1
    have p2 := hP9.cell 2
    have p3 := hP9.cell 3
    have p4 := hP9.cell 4
    have p5 := hP9.cell 5
    have p6 := hP9.cell 6
    have p7 := hP9.cell 7
    have p8 := hP9.cell 8
    have p9 := hP9.cell 9
    have p10 := hP9.cell 10
    have pl := hP9.lt
    simp at o0 o1 o2 o3 o4 o5 o6 o7 o8 o9 o10 p0 p1 p2 p3 p4 p5 p6 p7 p8 p9 p10
    have HB9 := Lib.hid hB9
    clear hB9 hO9 hP9 hX9 hY9 hT9 hM9 hT2 hM2 e1 e2 e3 e4 htl hmo hmp l1 l2 HSAME HODD HMO HNO HNL
    have HMLX := Lib.hid HML.out
    have HMLZ := Lib.hid HMIX.out
    clear HML HMIX
    generalize o.2 = E at *
    generalize o.1.regs[0]?.getD 0 = g0 at *
    generalize o.1.regs[1]?.getD 0 = g1 at *
    generalize o.1.regs[2]?.getD 0 = g2 at *
    generalize o.1.regs[3]?.getD 0 = g3 at *
    generalize o.1.regs[4]?.getD 0 = g4 at *
    generalize o.1.regs[5]?.getD 0 = g5 at *
    generalize o.1.regs[6]?.getD 0 = g6 at *
    generalize o.1.regs[7]?.getD 0 = g7 at *
    have EQ : Hid (∀ (X : After W9) (l : List Int) (A A' : Option Addr) (c c' n n' : Nat), RdN W9 W9.heap.size A l → RdN W9 W9.heap.size A' l → n = l.length → n' = l.length → l.length ≤ maxLen →
        Calls Tryd.prog 29 #[.slice A n c, .slice A' n' c'] X.w' fun e w' => e = .returned (.bool true) ∧ Below X.w'.heap.size X.w' w') := by
      rintro X l A A' c c' n n' h1 h2 rfl rfl hl
      refine (Equal_int A A' c c' l X.w' ((h1.below X.h).more X.h.size) ((h2.below X.h).more X.h.size) hl).mono ?_
      rintro e w' ⟨rfl, m, rfl⟩
      exact ⟨rfl, Below.drewN' (Below.refl _ _) m⟩
    have hz1 : (F : Int).toNat = F := by omega
    have q0 : (F : Int) ≤ 1024 := by omega
    have q1 : (F : Int) + 64 ≤ 1024 := by omega
    have q2 : 0 ≤ (F : Int) := by omega
    have q3 : 0 ≤ (F : Int) + 64 := by omega
    have q4 : (F : Int) ≤ (F : Int) + 64 := by omega
    have q5 : (F : Int) ≤ (cM1 : Int) := by omega
    have q6 : (F : Int) ≤ (cM2 : Int) := by omega
    have q7 : (F : Int) ≤ (cX : Int) := by omega
    have q8 : (F : Int) ≤ (cY : Int) := by omega
    have q9 : ((F : Int) + 64).toNat = F + 64 := by omega
    have q10 : (F : Int) + 64 ≤ (cM1 : Int) := by omega
    have q11 : (F : Int) + 64 ≤ (cM2 : Int) := by omega
    have q12 : (F : Int) + 64 ≤ (cX : Int) := by omega
    have q13 : (F : Int) + 64 ≤ (cY : Int) := by omega
    go_upto_region 15 with fail
    refine wp_region_calm (by kernel_rfl) (by kernel_rfl) ?_
    have L0 : mo.length = 1024 := hm1
    have S1 : RdN W9 W9.heap.size (some ⟨bM1, 0, none⟩) (mo.take F) := by have := RdN.sub RO 0 F (by omega); rwa [List.drop_zero] at this
    have S2 : RdN W9 W9.heap.size (some ⟨bX, 0, none⟩) (mo.take F) := by rw [E0]; have := RdN.sub RX 0 F (by have := HMLX.out; omega); rwa [List.drop_zero] at this
    have S3 : RdN W9 W9.heap.size (if cM1 = F + 64 then some ⟨bM1, 0, none⟩ else some ⟨bM1, F + 64, none⟩) (mo.drop (F + 64)) := by
      by_cases hc : cM1 = F + 64
      · exact fun h => absurd h (by simp; omega)
      · rw [if_neg hc]
        have := RdN.sub RO (F + 64) (1024 - (F + 64)) (by omega)
        rwa [List.take_of_length_le (by simp; omega)] at this
    have S4 : RdN W9 W9.heap.size (if cX = F + 64 then some ⟨bX, 0, none⟩ else some ⟨bX, F + 64, none⟩) (mo.drop (F + 64)) := by
      by_cases hc : cX = F + 64
      · exact fun h => absurd h (by simp; omega)
      · rw [if_neg hc]
        rw [E1]
        have := RdN.sub RX (F + 64) (1024 - (F + 64)) (by have := HMLX.out; omega)
        rwa [List.take_of_length_le (by have := HMLX.out; simp; omega)] at this
    have S5 : RdN W9 W9.heap.size (some ⟨bM2, 0, none⟩) (mp.take F) := by have := RdN.sub RP 0 F (by omega); rwa [List.drop_zero] at this
    have S6 : RdN W9 W9.heap.size (some ⟨bY, 0, none⟩) (mp.take F) := by rw [E2]; have := RdN.sub RY 0 F (by have := HMLZ.out; omega); rwa [List.drop_zero] at this
    have S7 : RdN W9 W9.heap.size (if cM2 = F + 64 then some ⟨bM2, 0, none⟩ else some ⟨bM2, F + 64, none⟩) (mp.drop (F + 64)) := by
      by_cases hc : cM2 = F + 64
      · exact fun h => absurd h (by simp; omega)
      · rw [if_neg hc]
        have := RdN.sub RP (F + 64) (1024 - (F + 64)) (by omega)
        rwa [List.take_of_length_le (by simp; omega)] at this
    have S8 : RdN W9 W9.heap.size (if cY = F + 64 then some ⟨bY, 0, none⟩ else some ⟨bY, F + 64, none⟩) (mp.drop (F + 64)) := by
      by_cases hc : cY = F + 64
      · exact fun h => absurd h (by simp; omega)
      · rw [if_neg hc]
        rw [E3]
        have := RdN.sub RY (F + 64) (1024 - (F + 64)) (by have := HMLZ.out; omega)
        rwa [List.take_of_length_le (by have := HMLZ.out; simp; omega)] at this
    have S9 : RdN W9 W9.heap.size (some ⟨bM1, F, none⟩) ((mo.drop F).take 64) := RdN.sub RO F 64 (by omega)
    have S10 : RdN W9 W9.heap.size (some ⟨bM2, F, none⟩) ((mo.drop F).take 64) := by rw [E4]; exact RdN.sub RP F 64 (by omega)
    have HTL := Lib.hid htl2
    have HS := Lib.hid (And.intro S1 (And.intro S2 (And.intro S3 (And.intro S4 (And.intro S5 (And.intro S6 (And.intro S7 (And.intro S8 (And.intro S9 (And.intro S10 (And.intro RT1 RT2)))))))))))
    have HMO := Lib.hid hm1
    have HMP := Lib.hid hm2
    clear S1 S2 S3 S4 S5 S6 S7 S8 S9 S10 RT1 RT2 E0 E1 E2 E3 E4 RX RY RO RP L0 hm1 hm2
    have heq := fun (W : World) => eql_regs W (g0 : Int) g1 g2 g3 g4 g5 g6 g7 g0 g1 g2 g3 g4 g5 g6 g7
    simp only [and_self, decide_true] at heq
    simp only [List.append_eq, List.cons_append, List.nil_append]
    repeat (go_big_quiet_step (fail))
    go_big_quiet_step ((rename_i X; exact Calls.calm (EQ.out X (mo.take F) _ _ _ _ _ _ HS.out.1 HS.out.2.1 (by have := HMO.out; simp; omega) (by have := HMO.out; simp; omega) (by have := HMO.out; unfold maxLen; simp; omega))))
    repeat (go_big_quiet_step (fail))
    go_big_quiet_step ((rename_i X; exact Calls.calm (EQ.out X (mo.drop (F + 64)) _ _ _ _ _ _ HS.out.2.2.1 HS.out.2.2.2.1 (by have := HMO.out; simp; omega) (by have := HMO.out; simp; omega) (by have := HMO.out; unfold maxLen; simp; omega))))
    repeat (go_big_quiet_step (fail))
    go_big_quiet_step ((rename_i X; exact Calls.calm (EQ.out X (mp.take F) _ _ _ _ _ _ HS.out.2.2.2.2.1 HS.out.2.2.2.2.2.1 (by have := HMP.out; simp; omega) (by have := HMP.out; simp; omega) (by have := HMP.out; unfold maxLen; simp; omega))))
    repeat (go_big_quiet_step (fail))
    go_big_quiet_step ((rename_i X; exact Calls.calm (EQ.out X (mp.drop (F + 64)) _ _ _ _ _ _ HS.out.2.2.2.2.2.2.1 HS.out.2.2.2.2.2.2.2.1 (by have := HMP.out; simp; omega) (by have := HMP.out; simp; omega) (by have := HMP.out; unfold maxLen; simp; omega))))
    repeat (go_big_quiet_step (fail))
    go_big_quiet_step ((rename_i X; exact Calls.calm (EQ.out X ((mo.drop F).take 64) _ _ _ _ _ _ HS.out.2.2.2.2.2.2.2.2.1 HS.out.2.2.2.2.2.2.2.2.2.1 (by have := HMO.out; simp; omega) (by have := HMO.out; simp; omega) (by have := HMO.out; unfold maxLen; simp; omega))))
    repeat (go_big_quiet_step (fail))
    repeat (go_big_quiet_step (fail))
    go_big_quiet_step ((rename_i X; exact Calls.calm (EQ.out X tl _ _ _ _ _ _ HS.out.2.2.2.2.2.2.2.2.2.2.1 HS.out.2.2.2.2.2.2.2.2.2.2.2 rfl rfl HTL.out)))
    repeat (go_big_quiet_step (fail))
    refine wpQuiet_nil ?_
    rintro WE ⟨X, rfl⟩
    have hfin := HB9.out.trans (X.h.mono HB9.out.size)
    clear HS heq EQ
    go_wp2
    all_goals
      go_ret
      exact ⟨rfl, hfin⟩
  · have hm := HCM.out hv
    subst hm
    rw [decide_eq_false hv]
    clear hv
    go_wp2
    go_ret
    exact ⟨rfl, HB1.out⟩
end Go.Proofs.YtdjamdbamkhblabDoor
namespace Go.Proofs.YtdjamdbamkhblabDoor.topRegion
open Go.RowKit Go.WideShapes Go.ChangeShapes Go.ChangeAt Go.Deep Go.Joins

theorem walk (A : Option Addr) (c : Nat) (l : List Ins) (made : Bool) (region word : Int) (ra rb : Ins) (w : World) (hr : RdI w w.heap.size A l) (hwf : ∀ i ∈ l, i.wf) (hl : l.length ≤ maxLen) (wn : (Lit.int .i64 region).wf = true) (wo : (Lit.int .i64 word).wf = true) (hra : ra.wf) (hrb : rb.wf) (ht : Tab w) :
    Calls Tryd.prog 7 #[.slice A l.length c, .bool made, .int .i64 region, .int .i64 word, .agg #[.int .i64 ra.op, .int .i64 ra.a, .int .i64 ra.b, .int .i64 ra.c], .agg #[.int .i64 rb.op, .int .i64 rb.a, .int .i64 rb.b, .int .i64 rb.c]] w fun e w' => e = .returned (.bool true) ∧ Below w.heap.size w w' := TopRegion_any A c l made region word ra rb w hr hwf hl wn wo hra hrb ht

set_option maxRecDepth 100000 in
theorem contract (H : Type) (enc : TypeId × Value → H) (W : World) (base : Nat) (args : Array Value) (ds gs : List (DataW H)) (before : List MemPlace)
    (hval : ∀ (j : Nat) t v, Tryd.f7.params[j]? = some t → args[j]? = some v → Value.okWide Tryd.prog W .any base t v)
    (hW : DataW.Whole enc Tryd.prog Tryd.f7.params.toList Rows.topRegionSpec.vars false W args.toList ds gs before) (hL : laidMetH Tryd.prog Rows.topRegionRow.laid W)
    (_hsz : (DataW.weightsEach Tryd.prog (Tryd.f7.params.toList ++ (OpenSpec.ofChange Rows.topRegionSpec).bare.plain.varTypes Tryd.prog) (ds ++ gs)).all (· ≤ reachBytes) = true) :
    Calls Tryd.prog 7 args W fun e W' => ∃ v, e = .returned v ∧ Rows.topRegionSpec.post enc Tryd.prog Tryd.f7 false true false false W args v W' := by
  have hW' := hW
  obtain ⟨p, q, hA0, hV, rfl, hfz, hnd⟩ := hW
  have hA : DataW.TrodAll enc Tryd.prog W 0 (fun _ => true) true Tryd.f7.params.toList args.toList ds p := hA0
  rw [Tryd.params7] at hA hval
  obtain ⟨v0, vs0, d0, ds0, p0, q0, hargs, rfl, rfl, h0, z0⟩ := trodAll_cons hA
  obtain ⟨v1, vs1, d1, ds1, p1, q1, rfl, rfl, rfl, h1, z1⟩ := trodAll_cons z0
  obtain ⟨v2, vs2, d2, ds2, p2, q2, rfl, rfl, rfl, h2, z2⟩ := trodAll_cons z1
  obtain ⟨v3, vs3, d3, ds3, p3, q3, rfl, rfl, rfl, h3, z3⟩ := trodAll_cons z2
  obtain ⟨v4, vs4, d4, ds4, p4, q4, rfl, rfl, rfl, h4, z4⟩ := trodAll_cons z3
  obtain ⟨v5, vs5, d5, ds5, p5, q5, rfl, rfl, rfl, h5, z5⟩ := trodAll_cons z4
  obtain ⟨rfl, rfl, rfl⟩ := trodAll_nil z5
  obtain rfl : args = #[v0, v1, v2, v3, v4, v5] := by cases args; simp_all
  obtain ⟨A0, c0, l0, rfl, hlc0, hcm0, hnil0, hr0, hw0⟩ := open_code Tryd.underlying22 Tryd.underlying24 (by kernel_rfl) cells_Raw Tryd.underlying3 Tryd.underlying3 Tryd.underlying3 Tryd.underlying3 (hval 0 22 v0 rfl rfl) h0
  obtain ⟨x1, rfl, rfl, rfl⟩ := open_bool Tryd.underlying4 (hval 1 4 v1 rfl rfl) h1
  obtain ⟨x2, rfl, rfl, rfl, wx2⟩ := open_int Tryd.underlying3 (hval 2 3 v2 rfl rfl) h2
  obtain ⟨x3, rfl, rfl, rfl, wx3⟩ := open_int Tryd.underlying3 (hval 3 3 v3 rfl rfl) h3
  obtain ⟨r4, rfl, hw4⟩ := open_four Tryd.underlying24 (by kernel_rfl) cells_Raw Tryd.underlying3 Tryd.underlying3 Tryd.underlying3 Tryd.underlying3 (hval 4 24 v4 rfl rfl) h4
  obtain ⟨r5, rfl, hw5⟩ := open_four Tryd.underlying24 (by kernel_rfl) cells_Raw Tryd.underlying3 Tryd.underlying3 Tryd.underlying3 Tryd.underlying3 (hval 5 24 v5 rfl rfl) h5
  refine (walk A0 c0 l0 x1 x2 x3 r4 r5 W hr0 hw0 (by omega) wx2 wx3 hw4 hw5 (tab_of_laid hL)).mono fun e W' ⟨he, hb⟩ => ?_
  subst he
  exact ⟨_, rfl, law_post hW' rfl rfl Tryd.underlying4 laidOut (by kernel_rfl) rfl hb⟩

theorem laid_met (os : Os) : laidMet Tryd.prog Rows.topRegionRow.laid ((laidWorld os).forCall (fun _ _ => 0) ⟨#[], #[.slice none 0 0, .bool false, .int .i64 0, .int .i64 0, .agg #[.int .i64 0, .int .i64 0, .int .i64 0, .int .i64 0], .agg #[.int .i64 0, .int .i64 0, .int .i64 0, .int .i64 0]], []⟩).memory :=
  laidMet_of_run' 8 (by kernel_rfl) (by kernel_rfl)
theorem reads (os : Os) {H : Type} (enc : TypeId × Value → H) : ∃ places, DataW.whole enc Tryd.prog ((laidWorld os).forCall (fun _ _ => 0) ⟨#[], #[.slice none 0 0, .bool false, .int .i64 0, .int .i64 0, .agg #[.int .i64 0, .int .i64 0, .int .i64 0, .int .i64 0], .agg #[.int .i64 0, .int .i64 0, .int .i64 0, .int .i64 0]], []⟩).memory Tryd.f7.params.toList Rows.topRegionSpec.vars false (#[.slice none 0 0, .bool false, .int .i64 0, .int .i64 0, .agg #[.int .i64 0, .int .i64 0, .int .i64 0, .int .i64 0], .agg #[.int .i64 0, .int .i64 0, .int .i64 0, .int .i64 0]] : Array Value).toList 8 = some ([.nil, .lit (.bool false), .lit (.int .i64 0), .lit (.int .i64 0), .agg [.lit (.int .i64 0), .lit (.int .i64 0), .lit (.int .i64 0), .lit (.int .i64 0)], .agg [.lit (.int .i64 0), .lit (.int .i64 0), .lit (.int .i64 0), .lit (.int .i64 0)]], [], places) :=
  ⟨[], by kernel_rfl⟩

set_option maxRecDepth 100000 in
theorem lifted (os : Os) (started : os.Started) (H : Type) (enc : TypeId × Value → H) (F : Stop.Interp) :
    ReturnsInHanded {} Tryd.checked os 7 .any ((OpenSpec.ofChange Rows.topRegionSpec).preRow enc Tryd.prog Tryd.f7 Rows.topRegionRow.domain false Rows.topRegionRow.laid) (((OpenSpec.ofChange Rows.topRegionSpec).at F).post enc Tryd.prog Tryd.f7 false true false false) := by
  obtain ⟨places, hx⟩ := reads os enc
  refine returnsInHanded_of_row (C := Tryd.checked) (s := OpenSpec.ofChange Rows.topRegionSpec) own started (by kernel_rfl) Tryd.func7
    (witness_row_at (enc := enc) (C := Tryd.checked) false (laidWorld os) #[.slice none 0 0, .bool false, .int .i64 0, .int .i64 0, .agg #[.int .i64 0, .int .i64 0, .int .i64 0, .int .i64 0], .agg #[.int .i64 0, .int .i64 0, .int .i64 0, .int .i64 0]] rfl (by kernel_rfl) (by kernel_rfl) (by kernel_rfl)
      (OpenSpec.preRow_of_cond 8 hx (by kernel_rfl) (fun k hk => by cases hk) (by kernel_rfl) (laid_met os))) ?_
  intro W base args ds gs before hval hW _ _ hsz hL _ _
  exact contract H enc W base args ds gs before hval hW hL hsz

theorem said : Rows.TopRegionSaid :=
  OpenClaim.holds_of_cond 7 Tryd.f7 rfl rfl rfl rfl rfl rfl rfl ⟨rfl, rfl, rfl, rfl, rfl⟩ rfl rfl rfl rfl rfl (by kernel_rfl) Tryd.func7 (by kernel_rfl)
    (of_decide_eq_true (by kernel_rfl)) (by unfold Func.isWrapper; first | (rw [if_pos (by decide +kernel)]; kernel_rfl) | (rw [if_neg (by decide +kernel)]; exact ⟨rfl, rfl⟩))
    (fun os started H enc _ F => by rw [OpenClaim.pre_eq_preRow]; exact lifted os started H enc F)

theorem plain (f : FuncId) (fn : Func) (hf : Tryd.pinned.checked.prog.funcNamed "curfew/curfewtop.TopRegion" = some f) (hfn : Tryd.pinned.checked.prog.funcs[f]? = some fn) :
    false = Tryd.pinned.checked.prog.looks [] ∧ ∀ (j : Nat) t, fn.params[j]? = some t → Tryd.pinned.checked.prog.wantsStandIn t = false := by
  obtain rfl : f = 7 := Option.some.inj ((show Tryd.prog.funcNamed "curfew/curfewtop.TopRegion" = some 7 by kernel_rfl).symm.trans hf) |>.symm
  obtain rfl : fn = Tryd.f7 := (Option.some.inj (Tryd.func7.symm.trans hfn)).symm
  refine ⟨by kernel_rfl, fun j t ht => ?_⟩
  rw [Tryd.params7] at ht
  have hall : (#[22, 4, 3, 3, 24, 24] : Array TypeId).all (fun t => Tryd.pinned.checked.prog.wantsStandIn t == false) = true := by kernel_rfl
  have := (Array.all_eq_true_iff_forall_mem.1 hall) t (Array.mem_of_getElem? ht)
  simpa using this

/-- The card. -/
theorem card : Rows.TopRegionCardSaid :=
  Claim7.holds_tied_plain_at .later [] _ _ _ _ said (fun _ h => by cases h) (by kernel_rfl) (fun _ h => by cases h) topRegion_row_tie rfl ⟨rfl, rfl⟩ (by kernel_rfl) rfl plain (by kernel_rfl)
end Go.Proofs.YtdjamdbamkhblabDoor.topRegion
