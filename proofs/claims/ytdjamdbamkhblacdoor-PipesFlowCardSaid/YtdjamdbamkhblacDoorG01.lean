/- Small words for memory and plain data that the walks of this seat use: no condition. a slice that reads as cells; append onto a row of the call's own from it. Lists of instructions and of integers as rows of cells; rows of the call's own read as lists: no condition. -/
import Derived.Test.YtdjamdbamkhblacDoorRows
import Derived.WalkKit
import Derived.WalkSpells
import Derived.WalkLawsBesides
import Derived.Lib.Hide
import Derived.Deep.LoopGhost
import Derived.LoopN
import Derived.Handy
import Derived.PlainAid
import Derived.Deep.RegionHeld3
import Derived.BigQuiet
import Derived.Deep.QuietTactic
import Derived.Deep.DeepCutAuto
import Derived.Deep.Slices
import Derived.Deep.Fields
import Derived.Deep.Draws
import Derived.Deep.AppendLies
import Derived.Maps.AppendAt
import Derived.Laws.OwnMore
import Derived.Laws.BitsAllLaws
import Derived.Laws.BitsLemmas
import Derived.ChangeSame
import Derived.ProofKit
import Derived.OpenShut
import Derived.Lib.SmallJoins
namespace Go.Proofs.YtdjamdbamkhblacDoor
open Go.RowKit

theorem bcell {W w1 : World} (hb : Below W.heap.size W w1) : (∀ b o, b < W.heap.size → w1.cell? ⟨b, o, none⟩ = W.cell? ⟨b, o, none⟩) ∧ (∀ b o, b < W.heap.size → w1.frozen? ⟨b, o, none⟩ = W.frozen? ⟨b, o, none⟩) :=
  ⟨fun b o h => hb.cell (p := ⟨b, o, none⟩) h, fun b o h => hb.frozen (p := ⟨b, o, none⟩) h⟩
theorem Below.drewN' {B : Nat} {a w : World} (h : Below B a w) (n : Nat) : Below B a (w.drewN n) := ⟨h.os, h.tape, h.output, h.size, h.block⟩
theorem ret_int {k : IntKind} {a b : Int} (h : a = b) : Ending.returned (.int k a) = .returned (.int k b) := by rw [h]
theorem ret_bool {a b : Bool} (h : a = b) : Ending.returned (.bool a) = .returned (.bool b) := by rw [h]

/-- A loop's counter, and what holds at it. -/
def Cnt (n : Nat) (i : Value) (p : Nat → Prop) : Prop := ∃ k : Nat, k ≤ n ∧ i = .int .i64 k ∧ p k

/-- An instruction as it lies in four cells. -/
structure Ins where
  op : Int
  a : Int
  b : Int
  c : Int

theorem Ins.ext' {i j : Ins} (h0 : i.op = j.op) (h1 : i.a = j.a) (h2 : i.b = j.b) (h3 : i.c = j.c) : i = j := by
  cases i; cases j; simp_all
instance : DecidableEq Ins := fun i j =>
  if h : i.op = j.op ∧ i.a = j.a ∧ i.b = j.b ∧ i.c = j.c then .isTrue (Ins.ext' h.1 h.2.1 h.2.2.1 h.2.2.2)
  else .isFalse (fun e => h (by subst e; exact ⟨rfl, rfl, rfl, rfl⟩))
instance : Inhabited Ins := ⟨⟨0, 0, 0, 0⟩⟩
def Ins.val (i : Ins) : Value := .agg #[.int .i64 i.op, .int .i64 i.a, .int .i64 i.b, .int .i64 i.c]

/-- A slice of instructions that reads as a list. -/
def RdI (w : World) (B : Nat) (A : Option Addr) (l : List Ins) : Prop :=
  0 < l.length → ∃ b o, A = some ⟨b, o, none⟩ ∧ b < B ∧ ∀ k (h : k < l.length),
    w.cell? ⟨b, o + k * 4, none⟩ = some (.int .i64 l[k].op) ∧ w.cell? ⟨b, o + k * 4 + 1, none⟩ = some (.int .i64 l[k].a) ∧
    w.cell? ⟨b, o + k * 4 + 2, none⟩ = some (.int .i64 l[k].b) ∧ w.cell? ⟨b, o + k * 4 + 3, none⟩ = some (.int .i64 l[k].c)
/-- A slice of integers that reads as a list. -/
def RdN (w : World) (B : Nat) (A : Option Addr) (l : List Int) : Prop :=
  0 < l.length → ∃ b o, A = some ⟨b, o, none⟩ ∧ b < B ∧ ∀ k (h : k < l.length), w.cell? ⟨b, o + k, none⟩ = some (.int .i64 l[k])

theorem RdI.keep {w w' : World} {B : Nat} {A : Option Addr} {l : List Ins} (h : RdI w B A l) (hk : ∀ p : Addr, p.block < B → w'.cell? p = w.cell? p) : RdI w' B A l := fun hl => by
  obtain ⟨b, o, e, hb, hc⟩ := h hl
  refine ⟨b, o, e, hb, fun k hk' => ?_⟩
  obtain ⟨h0, h1, h2, h3⟩ := hc k hk'
  exact ⟨(hk _ hb).trans h0, (hk _ hb).trans h1, (hk _ hb).trans h2, (hk _ hb).trans h3⟩
theorem RdI.below {w w' : World} {B : Nat} {A : Option Addr} {l : List Ins} (h : RdI w B A l) (hb : Below B w w') : RdI w' B A l := h.keep fun _ hp => hb.cell hp
theorem RdI.more {w : World} {B B' : Nat} {A : Option Addr} {l : List Ins} (h : RdI w B A l) (hB : B ≤ B') : RdI w B' A l := fun hl => by
  obtain ⟨b, o, e, hb, hc⟩ := h hl
  exact ⟨b, o, e, by omega, hc⟩
theorem RdN.keep {w w' : World} {B : Nat} {A : Option Addr} {l : List Int} (h : RdN w B A l) (hk : ∀ p : Addr, p.block < B → w'.cell? p = w.cell? p) : RdN w' B A l := fun hl => by
  obtain ⟨b, o, e, hb, hc⟩ := h hl
  exact ⟨b, o, e, hb, fun k hk' => (hk _ hb).trans (hc k hk')⟩
theorem RdN.below {w w' : World} {B : Nat} {A : Option Addr} {l : List Int} (h : RdN w B A l) (hb : Below B w w') : RdN w' B A l := h.keep fun _ hp => hb.cell hp
theorem RdN.more {w : World} {B B' : Nat} {A : Option Addr} {l : List Int} (h : RdN w B A l) (hB : B ≤ B') : RdN w B' A l := fun hl => by
  obtain ⟨b, o, e, hb, hc⟩ := h hl
  exact ⟨b, o, e, by omega, hc⟩
end Go.Proofs.YtdjamdbamkhblacDoor
namespace Go.Proofs.YtdjamdbamkhblacDoor
open Go.RowKit

/-- A slice (address A, n elements of size cells each) reads as the cells xs, below block B. -/
def Rd (w : World) (B size : Nat) (A : Option Addr) (n : Nat) (xs : List Value) : Prop :=
  xs.length = n * size ∧ (0 < n → ∃ b o, A = some ⟨b, o, none⟩ ∧ b < B ∧ ∀ j u, xs[j]? = some u → w.cell? ⟨b, o + j, none⟩ = some u)
theorem Rd.keep {w w' : World} {B size n : Nat} {A : Option Addr} {xs : List Value} (h : Rd w B size A n xs) (hk : ∀ p : Addr, p.block < B → w'.cell? p = w.cell? p) : Rd w' B size A n xs :=
  ⟨h.1, fun hn => by
    obtain ⟨b, o, e, hb, hc⟩ := h.2 hn
    exact ⟨b, o, e, hb, fun j u hu => (hk _ hb).trans (hc j u hu)⟩⟩
theorem Rd.below {w w' : World} {B size n : Nat} {A : Option Addr} {xs : List Value} (h : Rd w B size A n xs) (hb : Below B w w') : Rd w' B size A n xs := h.keep fun _ hp => hb.cell hp
theorem Rd.more {w : World} {B B' size n : Nat} {A : Option Addr} {xs : List Value} (h : Rd w B size A n xs) (hB : B ≤ B') : Rd w B' size A n xs :=
  ⟨h.1, fun hn => by
    obtain ⟨b, o, e, hb, hc⟩ := h.2 hn
    exact ⟨b, o, e, by omega, hc⟩⟩
theorem add_plain (b o j : Nat) : (⟨b, o, none⟩ : Addr).add j = ⟨b, o + j, none⟩ := by unfold Addr.add; split <;> simp_all

section
variable {P : Program} (w : World)
/-- append onto an owned row, from a slice of whatever make. -/
theorem run_append_rd (base : Nat) (t ty e : TypeId) (i : TypeInfo) (z : Value) (size bytes : Nat) (ht : P.underlying t = some (.slice e)) (hi : P.info? e = some i) (hz : i.zero = some z)
    (hsize : i.size = size) (hby : i.bytes = bytes) (hzs : z.cells.size = size) (hsz : 0 < size)
    (v : Value) (n : Nat) (xs : List Value) (hown : w.ownsRow base e size v n xs)
    (B : Nat) (A : Option Addr) (m c : Nat) (news : List Value) (hr : Rd w B size A m news) (h1 : ∀ u ∈ news, u.oneCell' = true)
    (h63 : n + m ≤ maxLen) (hbytes : (n + m) * bytes ≤ 140737488355328) (hbase : base ≤ w.heap.size) :
    ∃ v' w', (Builtin.append_ #[t, t] ty #[v, .slice A m c]).run P w = .ok v' w' ∧ w'.ownsRow base e size v' (n + m) (xs ++ news) ∧ w.grownBy w' v.ownBlock ∧
      (v'.ownBlock = v.ownBlock ∨ v'.ownBlock = some w.heap.size) := by
  rcases Nat.eq_zero_or_pos m with h0 | h0
  · subst h0
    have hn : news = [] := List.eq_nil_of_length_eq_zero (by simpa using hr.1)
    subst hn
    cases A with
    | none =>
      refine ⟨v, w, ?_, by simpa using hown, World.grownBy.refl w _, .inl rfl⟩
      rcases hown.2 with ⟨rfl, rfl⟩ | ⟨g, cap, cur, rfl, _, _, hnc, _⟩
      · simp [Builtin.append_, run_underlying ht, sizeOf, typeInfo, hi, Builtin.lenOf, Builtin.firstCells]
      · simp [Builtin.append_, run_underlying ht, sizeOf, typeInfo, hi, Builtin.lenOf, Builtin.firstCells, hnc, storeCells]
    | some ad =>
      obtain ⟨v', w', hrun, h2, h3, _, h5⟩ := run_append_own_at (P := P) w base t ty e i z size bytes ht hi hz hsize hby hzs hsz v n xs hown ad 0 c [] (by simp) (by simp) (by simp) h63 hbytes hbase
      exact ⟨v', w', hrun, h2, h3, h5⟩
  · obtain ⟨b, o, rfl, _, hc⟩ := hr.2 h0
    obtain ⟨v', w', hrun, h2, h3, _, h5⟩ := run_append_own_at (P := P) w base t ty e i z size bytes ht hi hz hsize hby hzs hsz v n xs hown ⟨b, o, none⟩ m c news hr.1 (fun j u hj => by rw [add_plain]; exact hc j u hj) h1 h63 hbytes hbase
    exact ⟨v', w', hrun, h2, h3, h5⟩
theorem wpList_append_rd {ops : Array Oper} {rest : List Oper} {o : Oper} {a : Act} {Q : Exit → Act → World → Prop} (hgd : o.guard = none) (s x : Operand) (t : TypeId)
    (ho : o.op = .call { callee := .builtin .append, args := #[s, x], argTypes := #[t, t] })
    (base : Nat) (e : TypeId) (i : TypeInfo) (z : Value) (size bytes : Nat) (ht : P.underlying t = some (.slice e)) (hi : P.info? e = some i) (hz : i.zero = some z)
    (hsize : i.size = size) (hby : i.bytes = bytes) (hzs : z.cells.size = size) (hsz : 0 < size)
    (v : Value) (n : Nat) (xs : List Value) (hs : a.eval s = v) (hown : w.ownsRow base e size v n xs)
    (B : Nat) (A : Option Addr) (m c : Nat) (news : List Value) (hx : a.eval x = .slice A m c) (hr : Rd w B size A m news) (h1 : ∀ u ∈ news, u.oneCell' = true)
    (h63 : n + m ≤ maxLen) (hbytes : (n + m) * bytes ≤ 140737488355328) (hbase : base ≤ w.heap.size)
    (h : ∀ v' w', w'.ownsRow base e size v' (n + m) (xs ++ news) → w.grownBy w' v.ownBlock → (v'.ownBlock = v.ownBlock ∨ v'.ownBlock = some w.heap.size) → wpList P ops Q rest (a.put o.dst v') w') : wpList P ops Q (o :: rest) a w :=
  wpList_plain hgd fun K hK => by
    obtain ⟨v', w', hrun, h2, h3, h4⟩ := run_append_rd (P := P) w base t o.type e i z size bytes ht hi hz hsize hby hzs hsz v n xs hown B A m c news hr h1 h63 hbytes hbase
    unfold Oper.wp execOp
    simp only [ho, resolve, invoke, builtin, Sem.run_bind, Sem.run_pure, Result.andThen_ok, List.map_toArray, List.map_cons, List.map_nil, hs, hx, hrun]
    exact hK _ _ (h v' w' h2 h3 h4)
end

theorem own_slice {w : World} {base : Nat} {e : TypeId} {size : Nat} {v : Value} {n : Nat} {xs : List Value} (h : w.ownsRow base e size v n xs) : ∃ A c, v = .slice A n c := by
  rcases h.2 with ⟨rfl, rfl⟩ | ⟨g, cap, cur, rfl, _⟩
  · exact ⟨none, 0, rfl⟩
  · exact ⟨_, _, rfl⟩
theorem own_base {w : World} {base B : Nat} {e : TypeId} {size : Nat} {v : Value} {n : Nat} {xs : List Value} (h : w.ownsRow base e size v n xs) (hB : B ≤ base) : w.ownsRow B e size v n xs := by
  refine ⟨h.1, ?_⟩
  rcases h.2 with h2 | ⟨g, cap, cur, hv, hg, r⟩
  · exact .inl h2
  · exact .inr ⟨g, cap, cur, hv, Nat.le_trans hB hg, r⟩
theorem own_below {w w' : World} {base : Nat} {e : TypeId} {size : Nat} {v : Value} {n : Nat} {xs : List Value} (h : w.ownsRow base e size v n xs) (hb : Below w.heap.size w w') : w'.ownsRow base e size v n xs :=
  h.kept (row := none) ⟨hb.os, hb.tape, hb.output, hb.size, fun k hk _ => hb.block k hk⟩ (by cases hv : v.ownBlock <;> simp)
end Go.Proofs.YtdjamdbamkhblacDoor
namespace Go.Proofs.YtdjamdbamkhblacDoor
open Go.RowKit

def insCells (l : List Ins) : List Value := l.flatMap fun i => [.int .i64 i.op, .int .i64 i.a, .int .i64 i.b, .int .i64 i.c]
def intCells (l : List Int) : List Value := l.map (Value.int .i64)

theorem insCells_length (l : List Ins) : (insCells l).length = l.length * 4 := by
  induction l with
  | nil => rfl
  | cons i r ih => simp [insCells] at ih ⊢; omega
theorem insCells_at (l : List Ins) : ∀ (k : Nat) (h : k < l.length), (insCells l)[k * 4]? = some (.int .i64 l[k].op) ∧ (insCells l)[k * 4 + 1]? = some (.int .i64 l[k].a) ∧ (insCells l)[k * 4 + 2]? = some (.int .i64 l[k].b) ∧ (insCells l)[k * 4 + 3]? = some (.int .i64 l[k].c) := by
  induction l with
  | nil => intro k h; cases h
  | cons i r ih =>
    intro k h
    have hc : insCells (i :: r) = [.int .i64 i.op, .int .i64 i.a, .int .i64 i.b, .int .i64 i.c] ++ insCells r := by simp [insCells]
    rw [hc]
    cases k with
    | zero => exact ⟨rfl, rfl, rfl, rfl⟩
    | succ k =>
      have h4 : ∀ j, ([.int .i64 i.op, .int .i64 i.a, .int .i64 i.b, .int .i64 i.c] ++ insCells r : List Value)[(k + 1) * 4 + j]? = (insCells r)[k * 4 + j]? := fun j => by
        rw [List.getElem?_append_right (by simp; omega)]
        congr 1
        simp; omega
      have := ih k (by simpa using h)
      exact ⟨(h4 0).trans this.1, (h4 1).trans this.2.1, (h4 2).trans this.2.2.1, (h4 3).trans this.2.2.2⟩
theorem RdI.rd {w : World} {B : Nat} {A : Option Addr} {l : List Ins} (h : RdI w B A l) : Rd w B 4 A l.length (insCells l) :=
  ⟨insCells_length l, fun hn => by
    obtain ⟨b, o, e, hb, hc⟩ := h hn
    refine ⟨b, o, e, hb, fun j u hu => ?_⟩
    have hj : j < l.length * 4 := by rw [← insCells_length]; exact (List.getElem?_eq_some_iff.1 hu).1
    have hm : ∃ q, q < l.length ∧ (j = q * 4 ∨ j = q * 4 + 1 ∨ j = q * 4 + 2 ∨ j = q * 4 + 3) := ⟨j / 4, by omega, by omega⟩
    obtain ⟨q, hq, hm⟩ := hm
    obtain ⟨x0, x1, x2, x3⟩ := insCells_at l q hq
    obtain ⟨c0, c1, c2, c3⟩ := hc q hq
    rcases hm with h | h | h | h <;> subst h
    · rw [x0] at hu; cases hu; exact c0
    · rw [x1] at hu; cases hu; exact c1
    · rw [x2] at hu; cases hu; exact c2
    · rw [x3] at hu; cases hu; exact c3⟩
theorem intCells_at (l : List Int) (k : Nat) (h : k < l.length) : (intCells l)[k]? = some (.int .i64 l[k]) := by simp [intCells, h]
theorem RdN.rd {w : World} {B : Nat} {A : Option Addr} {l : List Int} (h : RdN w B A l) : Rd w B 1 A l.length (intCells l) :=
  ⟨by simp [intCells], fun hn => by
    obtain ⟨b, o, e, hb, hc⟩ := h hn
    refine ⟨b, o, e, hb, fun j u hu => ?_⟩
    have hj : j < l.length := by simpa [intCells] using (List.getElem?_eq_some_iff.1 hu).1
    rw [intCells_at l j hj] at hu; cases hu; exact hc j hj⟩
theorem ins_one (l : List Ins) : ∀ u ∈ insCells l, u.oneCell' = true := by
  intro u hu
  simp only [insCells, List.mem_flatMap] at hu
  obtain ⟨i, _, hu⟩ := hu
  simp at hu
  rcases hu with h | h | h | h <;> subst h <;> rfl
theorem int_one (l : List Int) : ∀ u ∈ intCells l, u.oneCell' = true := by
  intro u hu
  simp only [intCells, List.mem_map] at hu
  obtain ⟨i, _, rfl⟩ := hu
  rfl

theorem Rd.of_own {w : World} {base : Nat} {e : TypeId} {size n c : Nat} {A : Option Addr} {xs : List Value} (h : w.ownsRow base e size (.slice A n c) n xs) : Rd w w.heap.size size A n xs := by
  refine ⟨h.1, fun hn => ?_⟩
  obtain ⟨g, cap, hv, _, hlt⟩ := h.form hn
  have hA : A = some ⟨g, 0, none⟩ := by injection hv
  subst hA
  refine ⟨g, 0, rfl, hlt, fun j u hu => ?_⟩
  have := h.cells (g := g) rfl j u hu
  rwa [add_plain] at this
theorem RdI.of {w : World} {B : Nat} {A : Option Addr} {l : List Ins} (h : Rd w B 4 A l.length (insCells l)) : RdI w B A l := fun hl => by
  obtain ⟨b, o, e, hb, hc⟩ := h.2 hl
  refine ⟨b, o, e, hb, fun k hk => ?_⟩
  obtain ⟨x0, x1, x2, x3⟩ := insCells_at l k hk
  exact ⟨hc _ _ x0, hc _ _ x1, hc _ _ x2, hc _ _ x3⟩
theorem RdN.of {w : World} {B : Nat} {A : Option Addr} {l : List Int} (h : Rd w B 1 A l.length (intCells l)) : RdN w B A l := fun hl => by
  obtain ⟨b, o, e, hb, hc⟩ := h.2 hl
  exact ⟨b, o, e, hb, fun k hk => hc _ _ (intCells_at l k hk)⟩
end Go.Proofs.YtdjamdbamkhblacDoor
