/- Words for the walk of the reference's RunOf. No condition. -/
import Derived.Test.YtdjamdbamkhblabDoorMachR
import Derived.Test.YtdjamdbamkhblabDoorRun
import Derived.Test.YtdjamdbamkhblabDoorCodeRef
namespace Go.Proofs.YtdjamdbamkhblabDoor
open Go.RowKit
set_option linter.unusedVariables false
set_option linter.unusedSimpArgs false

section
variable {P : Program} (w : World)
theorem step_append_rd {ops : Array Oper} {o : Oper} {a : Act} {K : Act → World → Prop} {Q : Exit → Act → World → Prop} {E : Prop} (hgd : o.guard = none) (s x : Operand) (t : TypeId)
    (ho : o.op = .call { callee := .builtin .append, args := #[s, x], argTypes := #[t, t] })
    (base : Nat) (e : TypeId) (i : TypeInfo) (z : Value) (size bytes : Nat) (ht : P.underlying t = some (.slice e)) (hi : P.info? e = some i) (hz : i.zero = some z)
    (hsize : i.size = size) (hby : i.bytes = bytes) (hzs : z.cells.size = size) (hsz : 0 < size)
    (v : Value) (n : Nat) (xs : List Value) (hs : a.eval s = v) (hown : w.ownsRow base e size v n xs)
    (B : Nat) (A : Option Addr) (m c : Nat) (news : List Value) (hx : a.eval x = .slice A m c) (hr : Rd w B size A m news) (h1 : ∀ u ∈ news, u.oneCell' = true)
    (h63 : n + m ≤ maxLen) (hbytes : (n + m) * bytes ≤ 140737488355328) (hbase : base ≤ w.heap.size)
    (h : ∀ A' c' w', w'.ownsRow base e size (.slice A' (n + m) c') (n + m) (xs ++ news) → w.grownBy w' v.ownBlock → ((Value.slice A' (n + m) c').ownBlock = v.ownBlock ∨ (Value.slice A' (n + m) c').ownBlock = some w.heap.size) → K (a.put o.dst (.slice A' (n + m) c')) w') :
    if Region.wanted o (yielded ops a.tmps) = true then Oper.wp P o a w K Q else E := by
  have hw : Region.wanted o (yielded ops a.tmps) = true := by simp [Region.wanted, hgd]
  rw [if_pos hw]
  obtain ⟨v', w', hrun, h2, h3, h4⟩ := run_append_rd (P := P) w base t o.type e i z size bytes ht hi hz hsize hby hzs hsz v n xs hown B A m c news hr h1 h63 hbytes hbase
  obtain ⟨A', c', rfl⟩ := own_slice h2
  unfold Oper.wp execOp
  simp only [ho, resolve, invoke, builtin, Sem.run_bind, Sem.run_pure, Result.andThen_ok, List.map_toArray, List.map_cons, List.map_nil, hs, hx, hrun]
  exact h A' c' w' h2 h3 h4
end
theorem cell_grown {w w' : World} {row : Option Nat} (h : w.grownBy w' row) (b i : Nat) (hb : b < w.heap.size) (hne : some b ≠ row) : w'.cell? ⟨b, i, none⟩ = w.cell? ⟨b, i, none⟩ := World.cell?_of_block (h.block b hb hne)
theorem Ref.setregE {w0 w : World} {g en : Nat} {B T M : Value} {s : Mc} (h : Ref w0 w g s en B T M) (hr : s.regs.length = 8) (k : Nat) (hk : k ≤ 7) {E : Int} {v : Nat} (hE : E = (v : Int)) : Ref w0 (w.setCell ⟨g, 1 + k, none⟩ (.int .i64 E)) g { s with regs := s.regs.set k v } en B T M := by
  subst hE
  exact h.setreg hr k hk v
def setL : Array Value → Nat → List Value → Array Value
  | cs, _, [] => cs
  | cs, k, u :: r => setL (cs.setIfInBounds k u) (k + 1) r
theorem setL_spec : ∀ (us : List Value) (cs : Array Value) (k : Nat), k + us.length ≤ cs.size → (setL cs k us).toList = cs.toList.take k ++ us ++ cs.toList.drop (k + us.length)
  | [], cs, k, _ => by simp [setL]
  | u :: r, cs, k, h => by
    have hk : k < cs.toList.length := by simp at h ⊢; omega
    rw [setL, setL_spec r _ _ (by simp at h ⊢; omega), Array.toList_setIfInBounds]
    have e1 : (cs.toList.set k u).take (k + 1) = cs.toList.take k ++ [u] := by
      rw [List.take_succ_eq_append_getElem (by simpa using hk), List.getElem_set_self]
      congr 1
      rw [List.take_set_of_le (Nat.le_refl _)]
    have e2 : (cs.toList.set k u).drop (k + 1 + r.length) = cs.toList.drop (k + 1 + r.length) := by
      rw [List.drop_set, if_pos (by omega)]
    rw [e1, e2, List.length_cons]
    simp only [List.append_assoc, List.singleton_append]
    rw [show k + 1 + r.length = k + (r.length + 1) by omega]
theorem Blk.layL {t : TypeId} {b : Nat} : ∀ (us : List Value) (k : Nat) (w : World) (cs : Array Value), Blk w b t cs → Blk (layL b w k us) b t (setL cs k us)
  | [], _, _, _, h => h
  | u :: r, k, _, _, h => Blk.layL r (k + 1) _ _ (h.set_ k u)
theorem Blk.layAll {t : TypeId} {b : Nat} {w : World} {cs : Array Value} (h : Blk w b t cs) (us : List Value) (hs : cs.size = us.length) : Blk (YtdjamdbamkhblabDoor.layL b w 0 us) b t us.toArray := by
  have h1 := Blk.layL us 0 w cs h
  have e : setL cs 0 us = us.toArray := by
    apply Array.ext'
    rw [setL_spec us cs 0 (by omega)]
    simp [hs]
  rw [e] at h1
  exact h1
theorem oc_start {M : Value} {r0 r1 r2 r3 r4 r5 r6 r7 : Int} (h : ∀ x ∈ [r0, r1, r2, r3, r4, r5, r6, r7], 0 ≤ x) :
    ocCells 0 ([r0, r1, r2, r3, r4, r5, r6, r7].map Int.toNat) (.slice none 0 0) M = #[.int .i64 0, .int .i64 r0, .int .i64 r1, .int .i64 r2, .int .i64 r3, .int .i64 r4, .int .i64 r5, .int .i64 r6, .int .i64 r7, .slice none 0 0, M] := by
  simp only [List.mem_cons, List.not_mem_nil, or_false, forall_eq_or_imp, forall_eq] at h
  obtain ⟨h0, h1, h2, h3, h4, h5, h6, h7⟩ := h
  simp [ocCells, natV]
  omega
theorem Ref.startA {w1 w' : World} {r0 r1 r2 r3 r4 r5 r6 r7 : Int} {mem : List Int} {A : Option Addr} {c : Nat} (h : ∀ x ∈ [r0, r1, r2, r3, r4, r5, r6, r7], 0 ≤ x) (hb : Below w1.heap.size w1 w') (hown : w'.ownsRow w1.heap.size 3 1 (.slice A mem.length c) mem.length (natsV (mem.map Int.toNat))) :
    Ref w1 (w'.alloc (.cells #[.int .i64 0, .int .i64 r0, .int .i64 r1, .int .i64 r2, .int .i64 r3, .int .i64 r4, .int .i64 r5, .int .i64 r6, .int .i64 r7, .slice none 0 0, .slice A mem.length c] 35)) w'.heap.size (toMc [r0, r1, r2, r3, r4, r5, r6, r7] mem) 0 (.slice none 0 0) (.slice none 0 0) (.slice A mem.length c) := by
  refine ⟨hb.alloc hb.size _, hb.size, ?_, World.ownsRow_nil _ _ _ _, World.ownsRow_nil _ _ _ _, ?_, .inl rfl, .inl rfl, .inl rfl⟩
  · have := Blk.new w' 35 (ocCells 0 ([r0, r1, r2, r3, r4, r5, r6, r7].map Int.toNat) (.slice none 0 0) (.slice A mem.length c))
    rw [oc_start h] at this
    show Blk _ _ _ (ocCells 0 ([r0, r1, r2, r3, r4, r5, r6, r7].map Int.toNat) (.slice none 0 0) (.slice A mem.length c))
    rw [oc_start h]
    exact this
  · show World.ownsRow _ _ _ 1 _ (mem.map Int.toNat).length _
    rw [List.length_map]
    exact hown.alloc _
theorem Ref.startB {w1 w' : World} {r0 r1 r2 r3 r4 r5 r6 r7 : Int} {mem : List Int} {A : Option Addr} {c : Nat} (h : ∀ x ∈ [r0, r1, r2, r3, r4, r5, r6, r7], 0 ≤ x) (hb : Below w1.heap.size w1 w') (hk : Blk w' w1.heap.size 35 #[.int .i64 0, .int .i64 0, .int .i64 0, .int .i64 0, .int .i64 0, .int .i64 0, .int .i64 0, .int .i64 0, .int .i64 0, .slice none 0 0, .slice none 0 0])
    (hown : w'.ownsRow w1.heap.size 3 1 (.slice A mem.length c) mem.length (natsV (mem.map Int.toNat))) :
    Ref w1 (layL w1.heap.size w' 0 [.int .i64 0, .int .i64 r0, .int .i64 r1, .int .i64 r2, .int .i64 r3, .int .i64 r4, .int .i64 r5, .int .i64 r6, .int .i64 r7, .slice none 0 0, .slice A mem.length c]) w1.heap.size (toMc [r0, r1, r2, r3, r4, r5, r6, r7] mem) 0 (.slice none 0 0) (.slice none 0 0) (.slice A mem.length c) := by
  have hg := layL_grown w1.heap.size [.int .i64 0, .int .i64 r0, .int .i64 r1, .int .i64 r2, .int .i64 r3, .int .i64 r4, .int .i64 r5, .int .i64 r6, .int .i64 r7, .slice none 0 0, .slice A mem.length c] 0 w'
  refine ⟨layL_below (Nat.le_refl _) _ _ _ hb, Nat.le_refl _, ?_, World.ownsRow_nil _ _ _ _, World.ownsRow_nil _ _ _ _, ?_, .inl rfl, .inl rfl, .inl rfl⟩
  · show Blk _ _ _ (ocCells 0 ([r0, r1, r2, r3, r4, r5, r6, r7].map Int.toNat) (.slice none 0 0) (.slice A mem.length c))
    rw [oc_start h]
    exact hk.layAll _ rfl
  · show World.ownsRow _ _ _ 1 _ (mem.map Int.toNat).length _
    rw [List.length_map]
    exact hown.kept hg (.inr (own_blk_ne hown hk (by decide)))
theorem Ref.startB' {w1 w' : World} {r0 r1 r2 r3 r4 r5 r6 r7 : Int} {mem : List Int} {A : Option Addr} {c : Nat} (h : ∀ x ∈ [r0, r1, r2, r3, r4, r5, r6, r7], 0 ≤ x) (hb : Below w1.heap.size w1 w') (hk : Blk w' w1.heap.size 35 #[.int .i64 0, .int .i64 0, .int .i64 0, .int .i64 0, .int .i64 0, .int .i64 0, .int .i64 0, .int .i64 0, .int .i64 0, .slice none 0 0, .slice none 0 0])
    (hown : w'.ownsRow w1.heap.size 3 1 (.slice A mem.length c) mem.length (natsV (mem.map Int.toNat))) :
    Ref w1 (((((((((((w'.setCell ⟨w1.heap.size, 0, none⟩ (.int .i64 0)).setCell ⟨w1.heap.size, 1, none⟩ (.int .i64 r0)).setCell ⟨w1.heap.size, 2, none⟩ (.int .i64 r1)).setCell ⟨w1.heap.size, 3, none⟩ (.int .i64 r2)).setCell ⟨w1.heap.size, 4, none⟩ (.int .i64 r3)).setCell ⟨w1.heap.size, 5, none⟩ (.int .i64 r4)).setCell ⟨w1.heap.size, 6, none⟩ (.int .i64 r5)).setCell ⟨w1.heap.size, 7, none⟩ (.int .i64 r6)).setCell ⟨w1.heap.size, 8, none⟩ (.int .i64 r7)).setCell ⟨w1.heap.size, 9, none⟩ (.slice none 0 0)).setCell ⟨w1.heap.size, 10, none⟩ (.slice A mem.length c)) w1.heap.size (toMc [r0, r1, r2, r3, r4, r5, r6, r7] mem) 0 (.slice none 0 0) (.slice none 0 0) (.slice A mem.length c) :=
  Ref.startB h hb hk hown
/-- Where the loop stands. -/
def RLoop (w0 wr : World) (g : Nat) (l : List Ins) (n : Nat) (s0 : Mc) (k : Nat) (B a : Value) : Prop :=
  ∃ s T M, a = natV s.pos ∧ Ref w0 wr g s 0 B T M ∧ McOk s ∧ s.mem.length = s0.mem.length ∧ runs l k s = runs l n s0
theorem RLoop.next {w0 w' : World} {g n k : Nat} {l : List Ins} {s0 s s' : Mc} {B' T' M' : Value} {p : Int} (hst : step l s = (s', 0)) (hc : CodeOk l) (hs : McOk s) (hm : s.mem.length = s0.mem.length) (hrn : runs l (k + 1) s = runs l n s0) (hp : p = (s'.pos : Int)) (h : Ref w0 w' g s' 0 B' T' M') :
    RLoop w0 w' g l n s0 k B' (.int .i64 p) := by
  refine ⟨s', T', M', by rw [hp]; rfl, h, ?_, ?_, ?_⟩
  · have := step_ok hc hs; rw [hst] at this; exact this
  · have := step_mem (l := l) (s := s); rw [hst] at this; exact this.trans hm
  · rw [← hrn, runs_go (by rw [hst]), hst]
theorem stop_res {n k en : Nat} {l : List Ins} {regs mem : List Int} {s s' : Mc} (he : runErr l regs mem (n : Int) = 0) (hst : step l s = (s', en)) (hen : en ≠ 0) (hrn : runs l (k + 1) s = runs l n (toMc regs mem)) : runRes l regs mem (n : Int) = (s', en) := by
  unfold runRes
  rw [he, if_pos rfl, Int.toNat_natCast, ← hrn, runs_stop (by rw [hst]; exact hen), hst]

end Go.Proofs.YtdjamdbamkhblabDoor
