/- The walk of K.Plain: plain code of raw things. No condition. -/
import Derived.Test.YtdjamdbamkhblacDoorG03
import Derived.Test.YtdjamdbamkhblacDoorG01
namespace Go.Proofs.YtdjamdbamkhblacDoor
open Go.RowKit
set_option linter.unusedVariables false
set_option linter.unusedSimpArgs false
def firstLoopP : Code → Option Code
 | .loop c => some c
 | .seq a b => match firstLoopP a with
   | some c => some c
   | none => firstLoopP b
 | .block _ c => firstLoopP c
 | .scope c => firstLoopP c
 | .cond _ a b => match firstLoopP a with
   | some c => some c
   | none => firstLoopP b
 | _ => none
noncomputable def pbody : Code := ((Tryd.f71.body.bind firstLoopP).getD .skip)
def pkOf (l : List Ins) (k : Nat) : Nat := pick (l.getD k default).op 14
theorem pkOf_lt (l : List Ins) (k : Nat) : pkOf l k < 14 := pick_lt _ (by omega)
def PWI (w0 : World) (c n : Nat) (A : Option Addr) (l : List Ins) (a : Act) (w' : World) : Prop :=
 a.defers = [] ∧ a.tmps.size = 119 ∧ a.tmps[0]? = some (.slice A l.length c) ∧ a.tmps[3]? = some (.int .i64 (n : Int)) ∧ a.tmps[11]? = some (.int .i64 (n : Int)) ∧
  ∃ (k : Nat) (V : Value), a.tmps[12]? = some (.int .i64 (k : Int)) ∧ a.tmps[4]? = some V ∧ k ≤ n ∧ w'.ownsRow w0.heap.size 65 4 V k (insCells (plainTo l n k)) ∧ Below w0.heap.size w0 w'
def pmu (n : Nat) (a : Act) (_ : World) : Nat := match a.tmps[12]? with
 | some (Value.int _ k) => n - k.toNat
 | _ => 0
def PWX (w0 : World) (c n : Nat) (A : Option Addr) (l : List Ins) (a : Act) (w' : World) : Prop :=
 a.defers = [] ∧ a.tmps.size = 119 ∧ a.tmps[0]? = some (.slice A l.length c) ∧ ∃ V : Value, a.tmps[4]? = some V ∧ w'.ownsRow w0.heap.size 65 4 V n (insCells (plainTo l n n)) ∧ Below w0.heap.size w0 w'
set_option maxRecDepth 100000 in
theorem arr_litP (t : Array Value) (h : t.size = 119) : ∃ u : Nat → Value, t = #[u 0, u 1, u 2, u 3, u 4, u 5, u 6, u 7, u 8, u 9, u 10, u 11, u 12, u 13, u 14, u 15, u 16, u 17, u 18, u 19, u 20, u 21, u 22, u 23, u 24, u 25, u 26, u 27, u 28, u 29, u 30, u 31, u 32, u 33, u 34, u 35, u 36, u 37, u 38, u 39, u 40, u 41, u 42, u 43, u 44, u 45, u 46, u 47, u 48, u 49, u 50, u 51, u 52, u 53, u 54, u 55, u 56, u 57, u 58, u 59, u 60, u 61, u 62, u 63, u 64, u 65, u 66, u 67, u 68, u 69, u 70, u 71, u 72, u 73, u 74, u 75, u 76, u 77, u 78, u 79, u 80, u 81, u 82, u 83, u 84, u 85, u 86, u 87, u 88, u 89, u 90, u 91, u 92, u 93, u 94, u 95, u 96, u 97, u 98, u 99, u 100, u 101, u 102, u 103, u 104, u 105, u 106, u 107, u 108, u 109, u 110, u 111, u 112, u 113, u 114, u 115, u 116, u 117, u 118] := by
 refine ⟨fun i => t.getD i undef, ?_⟩
 have e : t = ((List.range 119).map fun i => t.getD i undef).toArray := by
  apply Array.ext
  ·simp [h]
  ·intro i h1 h2
   simp [Array.getD_eq_getD_getElem?, h1]
 exact e
def plainV (n k pk pa pb pc q80 q9 q12 q3 qn qm : Nat) : Ins :=
 if pk = 0 then ⟨1, (pa : Nat), 0, (q80 : Nat)⟩
 else if pk = 7 ∨ pk = 8 then ⟨1 + (pk : Nat), (pa : Nat), (pb : Nat), 0⟩
 else if pk = 9 ∨ pk = 11 then (if q9 = 0 then ⟨12, 0, 0, ((k + qn : Nat) : Int)⟩ else ⟨11, (pa : Nat), 0, ((k + qn : Nat) : Int)⟩)
 else if pk = 10 then ⟨11, (pa : Nat), 0, if q12 = 0 then (qm : Nat) else ((k + qn : Nat) : Int)⟩
 else if pk = 12 then (if 0 < q3 then ⟨2, 1, 2, 3⟩ else ⟨13, 0, 0, 0⟩)
 else if pk = 13 then ⟨14, (pa : Nat), 0, 0⟩
 else ⟨1 + (pk : Nat), (pa : Nat), (pb : Nat), (pc : Nat)⟩
theorem plainI_eq (n k : Nat) (rk ra rb rc : Int) : plainI n k ⟨rk, ra, rb, rc⟩ = plainV n k (pick rk 14) (pick ra 4) (pick rb 4) (pick rc 4) (pick rc 80) (pick rb 9) (pick rb 12) (pick rc 3) (pick rc (n + 1 - k)) (pick rc (n + 1)) := rfl
structure PS (w0 wx : World) (l : List Ins) (n k : Nat) (V : Value) (g6 : Nat) (cr : Array Value) : Prop where
 own : wx.ownsRow w0.heap.size 65 4 V k (insCells (plainTo l n k))
 below : Below w0.heap.size w0 wx
 raw : Blk wx g6 23 cr
structure PI (w0 wx : World) (V : Value) (g : Nat) (ci : Array Value) : Prop where
 ins : Blk wx g 65 ci
 ne : some g ≠ V.ownBlock
 lo : w0.heap.size ≤ g
def pt (g i : Nat) : Value := .pointer (some ⟨g, i, none⟩)
theorem waitsP {l : Array Bool} {j : Nat} (h : l[j]?.getD false = true) : l.getD j true = true := by
 rw [Array.getD_eq_getD_getElem?]
 cases hj : l[j]? with
 | none => rfl
 | some b => rw [hj] at h; exact h
theorem upeq {l : Array Bool} {i j : Nat} (h : i ≠ j) : (l.setIfInBounds i true).getD j true = l.getD j true := by rw [listed_set]; simp [h]
theorem upne {l : Array Bool} {i j : Nat} (h : i ≠ j) (x : (l.setIfInBounds i true).getD j true = true) : l.getD j true = true := by rw [upeq h] at x; exact x
theorem upself {l : Array Bool} {i : Nat} : (l.setIfInBounds i true).getD i true = true := by rw [listed_set]; simp
structure PJ (w0 : World) (V : Value) (g6 : Nat) (rk ra rb rc : Int) (pk pa pb pc : Nat) (listed : Array Bool) (W : World) (u7 y19 y20 y21 y22 y23 y24 y25 y26 y27 y28 y29 y30 y31 y32 : Value) : Prop where
 f0 : listed.getD 0 true = true → y19 = pt g6 0
 f1 : listed.getD 1 true = true → y20 = .int .i64 rk
 f2 : listed.getD 2 true = true → y21 = .int .i64 (pk : Int)
 f3 : listed.getD 3 true = true → y22 = .int .i64 (1 + (pk : Int))
 f4 : listed.getD 4 true = true → y23 = pt g6 1
 f5 : listed.getD 5 true = true → y24 = .int .i64 ra
 f6 : listed.getD 6 true = true → y25 = .int .i64 (pa : Int)
 f7 : listed.getD 7 true = true → y26 = pt g6 2
 f8 : listed.getD 8 true = true → y27 = .int .i64 rb
 f9 : listed.getD 9 true = true → y28 = .int .i64 (pb : Int)
 f10 : listed.getD 10 true = true → y29 = pt g6 3
 f11 : listed.getD 11 true = true → y30 = .int .i64 rc
 f12 : listed.getD 12 true = true → y31 = .int .i64 (pc : Int)
 f13 : listed.getD 13 true = true → y32 = .agg #[.int .i64 (1 + (pk : Int)), .int .i64 (pa : Int), .int .i64 (pb : Int), .int .i64 (pc : Int)]
 f14 : listed.getD 14 true = true → ∃ g, u7 = pt g 0 ∧ PI w0 W V g (if listed.getD 15 true = true then #[.int .i64 (1 + (pk : Int)), .int .i64 (pa : Int), .int .i64 (pb : Int), .int .i64 (pc : Int)] else #[.int .i64 0, .int .i64 0, .int .i64 0, .int .i64 0])
 f15 : listed.getD 15 true = true → listed.getD 14 true = true
theorem PS.set {w0 wx : World} {l : List Ins} {n k : Nat} {V : Value} {g6 : Nat} {cr ci : Array Value} {g : Nat} (h : PS w0 wx l n k V g6 cr) (hp : PI w0 wx V g ci) (i : Nat) (u : Value) : PS w0 (wx.setCell ⟨g, i, none⟩ u) l n k V g6 cr :=
 ⟨h.own.kept (set_grown wx ⟨g, i, none⟩ u) (.inr fun e => hp.ne e.symm), h.below.setCell (p := ⟨g, i, none⟩) hp.lo u, h.raw.far (p := ⟨g, i, none⟩) (h.raw.ne_ hp.ins (by decide)) u⟩
theorem PI.set {w0 wx : World} {V : Value} {g : Nat} {ci : Array Value} (h : PI w0 wx V g ci) (i : Nat) (u : Value) : PI w0 (wx.setCell ⟨g, i, none⟩ u) V g (ci.setIfInBounds i u) := ⟨h.ins.set_ i u, h.ne, h.lo⟩
theorem PS.new {w0 wx : World} {l : List Ins} {n k : Nat} {V : Value} {g6 : Nat} {cr : Array Value} (h : PS w0 wx l n k V g6 cr) (o : Obj) : PS w0 (wx.alloc o) l n k V g6 cr := ⟨h.own.alloc o, h.below.alloc h.below.size o, h.raw.alloc o⟩
theorem PI.new {w0 wx : World} {l : List Ins} {n k : Nat} {V : Value} {g6 : Nat} {cr : Array Value} (h : PS w0 wx l n k V g6 cr) (ci : Array Value) : PI w0 (wx.alloc (.cells ci 65)) V wx.heap.size ci := ⟨Blk.new wx _ _, fun e => by have := (h.own.lt wx.heap.size e.symm).2; omega, h.below.size⟩
theorem info_InstrP : (Tryd.prog.info? 65).map (fun i => (i.zero, i.size, i.bytes)) = some (some (.agg #[.int .i64 0, .int .i64 0, .int .i64 0, .int .i64 0]), 4, 32) := by kernel_rfl
theorem insCells_appP (a b : List Ins) : insCells (a ++ b) = insCells a ++ insCells b := by simp [insCells]
structure PX (w0 wx : World) (l : List Ins) (n k : Nat) (V : Value) (g6 : Nat) (cr : Array Value) (g : Nat) (ci : Array Value) : Prop where
 ps : PS w0 wx l n k V g6 cr
 pi : PI w0 wx V g ci
theorem PX.set {w0 wx : World} {l : List Ins} {n k : Nat} {V : Value} {g6 : Nat} {cr ci : Array Value} {g : Nat} (h : PX w0 wx l n k V g6 cr g ci) (i : Nat) (u : Value) : PX w0 (wx.setCell ⟨g, i, none⟩ u) l n k V g6 cr g (ci.setIfInBounds i u) := ⟨h.ps.set h.pi i u, h.pi.set i u⟩
theorem PX.drew {w0 wx : World} {l : List Ins} {n k : Nat} {V : Value} {g6 : Nat} {cr ci : Array Value} {g : Nat} (h : PX w0 wx l n k V g6 cr g ci) : PX w0 wx.drew l n k V g6 cr g ci := ⟨⟨h.ps.own, h.ps.below.drew, Blk.drew h.ps.raw⟩, ⟨Blk.drew h.pi.ins, h.pi.ne, h.pi.lo⟩⟩
theorem PX.alloc {w0 wx : World} {l : List Ins} {n k : Nat} {V : Value} {g6 : Nat} {cr ci : Array Value} {g : Nat} (h : PX w0 wx l n k V g6 cr g ci) (o : Obj) : PX w0 (wx.alloc o) l n k V g6 cr g ci := ⟨h.ps.new o, ⟨h.pi.ins.alloc o, h.pi.ne, h.pi.lo⟩⟩
def PXE (w0 wx : World) (l : List Ins) (n k : Nat) (V : Value) (g6 : Nat) (cr : Array Value) (g : Nat) : Prop := ∃ ci, PX w0 wx l n k V g6 cr g ci
theorem PXE.set {w0 wx : World} {l : List Ins} {n k : Nat} {V : Value} {g6 : Nat} {cr : Array Value} {g : Nat} (h : PXE w0 wx l n k V g6 cr g) (i : Nat) (u : Value) : PXE w0 (wx.setCell ⟨g, i, none⟩ u) l n k V g6 cr g := h.elim fun _ h => ⟨_, h.set i u⟩
theorem PXE.drew {w0 wx : World} {l : List Ins} {n k : Nat} {V : Value} {g6 : Nat} {cr : Array Value} {g : Nat} (h : PXE w0 wx l n k V g6 cr g) : PXE w0 wx.drew l n k V g6 cr g := h.elim fun _ h => ⟨_, h.drew⟩
theorem PXE.alloc {w0 wx : World} {l : List Ins} {n k : Nat} {V : Value} {g6 : Nat} {cr : Array Value} {g : Nat} (h : PXE w0 wx l n k V g6 cr g) (o : Obj) : PXE w0 (wx.alloc o) l n k V g6 cr g := h.elim fun _ h => ⟨_, h.alloc o⟩
theorem PXE.own {w0 wx : World} {l : List Ins} {n k : Nat} {V : Value} {g6 : Nat} {cr : Array Value} {g : Nat} (h : PXE w0 wx l n k V g6 cr g) : wx.ownsRow w0.heap.size 65 4 V k (insCells (plainTo l n k)) := h.elim fun _ h => h.ps.own
structure PJ2 (w0 : World) (l : List Ins) (n k : Nat) (V : Value) (g6 g : Nat) (rk ra rb rc : Int) (pa qn : Nat) (ci : Array Value) (listed : Array Bool) (W : World) (y49 y50 y51 y52 y53 y54 y55 y56 y57 y58 y59 y60 : Value) : Prop where
 f0 : listed.getD 0 true = true → y49 = pt g 1
 f1 : listed.getD 1 true = true → y50 = .int .i64 (pa : Int)
 f2 : listed.getD 2 true = true → y51 = .int .i64 (k : Int)
 f3 : listed.getD 3 true = true → y52 = pt g6 3
 f4 : listed.getD 4 true = true → y53 = .int .i64 rc
 f5 : listed.getD 5 true = true → y54 = .int .i64 (n : Int)
 f6 : listed.getD 6 true = true → y55 = .int .i64 ((n : Int) + 1)
 f7 : listed.getD 7 true = true → y56 = .int .i64 (k : Int)
 f8 : listed.getD 8 true = true → y57 = .int .i64 ((n : Int) + 1 - (k : Int))
 f9 : listed.getD 9 true = true → y58 = .int .i64 (qn : Int)
 f10 : listed.getD 10 true = true → y59 = .int .i64 ((k : Int) + (qn : Int))
 f11 : listed.getD 11 true = true → y60 = .agg #[.int .i64 11, .int .i64 (pa : Int), .int .i64 0, .int .i64 ((k : Int) + (qn : Int))]
 px : PX w0 W l n k V g6 #[.int .i64 rk, .int .i64 ra, .int .i64 rb, .int .i64 rc] g (if listed.getD 12 true = true then #[.int .i64 11, .int .i64 (pa : Int), .int .i64 0, .int .i64 ((k : Int) + (qn : Int))] else ci)
theorem PWI.mk {w0 W w' : World} {c n k : Nat} {A : Option Addr} {l : List Ins} {a : Act} {V v1 : Value} {g6 g : Nat} {cr : Array Value} {x r : Ins} (hX' : PXE w0 W l n k V g6 cr g) (hv : w'.ownsRow w0.heap.size 65 4 v1 (k + 1) (insCells (plainTo l n k) ++ insCells [x])) (hg : W.grownBy w' V.ownBlock)
  (hG : l.getD k default = r) (hx : plainI n k r = x) (hk : k < n)
  (h0 : a.defers = []) (h1 : a.tmps.size = 119) (h2 : a.tmps[0]? = some (.slice A l.length c)) (h3 : a.tmps[3]? = some (.int .i64 (n : Int))) (h4 : a.tmps[11]? = some (.int .i64 (n : Int))) (h5 : a.tmps[12]? = some (.int .i64 ((k : Int) + 1))) (h6 : a.tmps[4]? = some v1) :
  PWI w0 c n A l a w' ∧ pmu n a w' < n - k := by
 obtain ⟨_, hX⟩ := hX'
 refine ⟨⟨h0, h1, h2, h3, h4, k + 1, v1, h5, h6, hk, ?_, hX.ps.below.grown hg hX.ps.below.size (fun q hq => (hX.ps.own.lt q hq).1)⟩, ?_⟩
 ·rw [plainTo_succ, hG, hx, insCells_appP]
  exact hv
 ·unfold pmu
  rw [h5]
  simp
  omega
set_option maxRecDepth 1000000 in
set_option maxHeartbeats 4000000 in
theorem pc_end (w0 wr : World) (c n k : Nat) (A : Option Addr) (l : List Ins) (V : Value) (u : Nat → Value) (Q0 : Exit → Act → World → Prop) (hk : k = n) (hB : Below w0.heap.size w0 wr) (hV : wr.ownsRow w0.heap.size 65 4 V k (insCells (plainTo l n k))) (hQ : ∀ a w', PWX w0 c n A l a w' → Q0 (.exit 0) a w') :
  Code.wp Tryd.prog pbody (Exit.then (fun a' w'' => PWI w0 c n A l a' w'' ∧ pmu n a' w'' < n - k) Q0) ⟨#[.slice A l.length c, u 1, u 2, .int .i64 (n : Int), V, u 5, u 6, u 7, u 8, u 9, u 10, .int .i64 (n : Int), .int .i64 (k : Int), u 13, u 14, u 15, u 16, u 17, u 18, u 19, u 20, u 21, u 22, u 23, u 24, u 25, u 26, u 27, u 28, u 29, u 30, u 31, u 32, u 33, u 34, u 35, u 36, u 37, u 38, u 39, u 40, u 41, u 42, u 43, u 44, u 45, u 46, u 47, u 48, u 49, u 50, u 51, u 52, u 53, u 54, u 55, u 56, u 57, u 58, u 59, u 60, u 61, u 62, u 63, u 64, u 65, u 66, u 67, u 68, u 69, u 70, u 71, u 72, u 73, u 74, u 75, u 76, u 77, u 78, u 79, u 80, u 81, u 82, u 83, u 84, u 85, u 86, u 87, u 88, u 89, u 90, u 91, u 92, u 93, u 94, u 95, u 96, u 97, u 98, u 99, u 100, u 101, u 102, u 103, u 104, u 105, u 106, u 107, u 108, u 109, u 110, u 111, u 112, u 113, u 114, u 115, u 116, u 117, u 118], []⟩ wr := by
 subst hk
 have HQ := Lib.hid hQ
 have HB := Lib.hid hB
 have HV := Lib.hid hV
 clear hQ hB hV
 conv => arg 2; whnf
 go_wp2
 exact HQ.out _ _ ⟨rfl, rfl, rfl, V, rfl, HV.out, HB.out⟩
end Go.Proofs.YtdjamdbamkhblacDoor
