/- The machine under way in memory: its block and its three rows, and how each step keeps them: no condition. What a run of the machine returns, in memory: the words that cpu.Run's and the reference's walks speak. No condition. -/
import Derived.Test.YtdjamdbamkhblacDoorG17
import Derived.Test.YtdjamdbamkhblacDoorG02
namespace Go.Proofs.YtdjamdbamkhblacDoor
open Go.RowKit
def natsV (l : List Nat) : List Value := l.map natV
theorem natsV_app (a b : List Nat) : natsV (a ++ b) = natsV a ++ natsV b := by simp [natsV]
theorem natsV_at {l : List Nat} {k : Nat} (h : k < l.length) : (natsV l)[k]? = some (natV (l.getD k 0)) := by
 simp [natsV, h]
theorem natsV_set (l : List Nat) (k v : Nat) : natsV (l.set k v) = (natsV l).set k (natV v) := by simp [natsV, List.map_set]
theorem own_set {w : World} {base n : Nat} {e : TypeId} {V : Value} {xs : List Value} {g : Nat} (h : w.ownsRow base e 1 V n xs) (hg : V.ownBlock = some g) (k : Nat) (u : Value) :
  (w.setCell ⟨g, k, none⟩ u).ownsRow base e 1 V n (xs.set k u) := by
 refine ⟨by rw [List.length_set]; exact h.1, ?_⟩
 rcases h.2 with ⟨rfl, _⟩ | ⟨g', cap, cur, rfl, hb, hh, hc, hz, hs, hx⟩
 ·simp [Value.ownBlock] at hg
 ·have e' : g' = g := by simpa [Value.ownBlock] using hg
  subst e'
  have hl := h.1
  refine .inr ⟨g', cap, cur.setIfInBounds k u, rfl, hb, ?_, hc, hz, by simpa using hs, ?_⟩
  ·exact Blk.set_ (cs := cur) hh k u
  ·rw [← hx, Array.toList_setIfInBounds, List.take_set]
theorem own_take {w : World} {base n cap g : Nat} {e : TypeId} {xs : List Value} (h : w.ownsRow base e 1 (.slice (some ⟨g, 0, none⟩) n cap) n xs) (k : Nat) (hk : k ≤ n) :
  w.ownsRow base e 1 (.slice (some ⟨g, 0, none⟩) k cap) k (xs.take k) := by
 have hl := h.1
 refine ⟨by rw [List.length_take]; omega, ?_⟩
 rcases h.2 with ⟨h0, _⟩ | ⟨g', cap', cur, hv, hb, hh, hc, hz, hs, hx⟩
 ·cases h0
 ·injection hv with e1 e2 e3
  injection e1 with e1
  injection e1 with e1
  subst e1 e3
  refine .inr ⟨g, cap, cur, rfl, hb, hh, by omega, hz, hs, ?_⟩
  rw [← hx, List.take_take, Nat.min_eq_left (by omega), Nat.mul_one]
theorem set_grown' {w : World} {g : Nat} (k : Nat) (u : Value) : w.grownBy (w.setCell ⟨g, k, none⟩ u) (some g) := set_grown w ⟨g, k, none⟩ u
theorem below_al (w : World) (o : Obj) : Below w.heap.size w (w.alloc o) := (Below.refl _ _).alloc (Nat.le_refl _) o
structure Mach (w0 w : World) (g : Nat) (C : Value) (s : Mc) (en : Nat) (B T M : Value) : Prop where
 below : Below w0.heap.size w0 w
 lo : w0.heap.size ≤ g
 blk : Blk w g 226 (mcCells C s.pos B en s.regs T M)
 ob : w.ownsRow w0.heap.size 3 1 B s.back.length (natsV s.back)
 ot : w.ownsRow w0.heap.size 3 1 T s.told.length (natsV s.told)
 om : w.ownsRow w0.heap.size 3 1 M s.mem.length (natsV s.mem)
 bt : B.ownBlock = none ∨ B.ownBlock ≠ T.ownBlock
 bm : B.ownBlock = none ∨ B.ownBlock ≠ M.ownBlock
 tm : T.ownBlock = none ∨ T.ownBlock ≠ M.ownBlock
section
variable {w0 w : World} {g en : Nat} {C B T M : Value} {s : Mc}
theorem Mach.later (h : Mach w0 w g C s en B T M) {w' : World} (hb : Below w.heap.size w w') : Mach w0 w' g C s en B T M :=
 ⟨h.below.trans (hb.mono h.below.size), h.lo, h.blk.below hb h.blk.lt, own_below h.ob hb, own_below h.ot hb, own_below h.om hb, h.bt, h.bm, h.tm⟩
theorem Mach.cellset (h : Mach w0 w g C s en B T M) (i : Nat) (u : Value) {s' : Mc} {en' : Nat} (hcs : (mcCells C s.pos B en s.regs T M).setIfInBounds i u = mcCells C s'.pos B en' s'.regs T M)
  (hb : s'.back = s.back) (ht : s'.told = s.told) (hm : s'.mem = s.mem) : Mach w0 (w.setCell ⟨g, i, none⟩ u) g C s' en' B T M := by
 have kp : ∀ {V : Value} {n : Nat} {xs : List Value}, w.ownsRow w0.heap.size 3 1 V n xs → (w.setCell ⟨g, i, none⟩ u).ownsRow w0.heap.size 3 1 V n xs := fun ho => ho.kept (set_grown' i u) (.inr (own_blk_ne ho h.blk (by decide)))
 refine ⟨h.below.setCell (p := ⟨g, i, none⟩) h.lo u, h.lo, ?_, ?_, ?_, ?_, h.bt, h.bm, h.tm⟩
 ·have := h.blk.set_ i u
  rw [hcs] at this
  exact this
 ·rw [hb]; exact kp h.ob
 ·rw [ht]; exact kp h.ot
 ·rw [hm]; exact kp h.om
theorem Mach.setpos (h : Mach w0 w g C s en B T M) (p : Nat) : Mach w0 (w.setCell ⟨g, 1, none⟩ (natV p)) g C { s with pos := p } en B T M :=
 h.cellset 1 _ rfl rfl rfl rfl
theorem Mach.setend (h : Mach w0 w g C s en B T M) (p : Nat) : Mach w0 (w.setCell ⟨g, 3, none⟩ (natV p)) g C s p B T M :=
 h.cellset 3 _ rfl rfl rfl rfl
theorem Mach.setreg (h : Mach w0 w g C s en B T M) (hr : s.regs.length = 8) (k : Nat) (hk : k ≤ 7) (v : Nat) : Mach w0 (w.setCell ⟨g, 4 + k, none⟩ (natV v)) g C { s with regs := s.regs.set k v } en B T M :=
 h.cellset (4 + k) _ (mc_set hr k hk v) rfl rfl rfl
theorem Mach.setmem (h : Mach w0 w g C s en B T M) {q : Nat} (hq : M.ownBlock = some q) (k : Nat) (v : Nat) : Mach w0 (w.setCell ⟨q, k, none⟩ (natV v)) g C { s with mem := s.mem.set k v } en B T M := by
 have kp : ∀ {V : Value} {n : Nat} {xs : List Value}, w.ownsRow w0.heap.size 3 1 V n xs → V.ownBlock = none ∨ V.ownBlock ≠ M.ownBlock → (w.setCell ⟨q, k, none⟩ (natV v)).ownsRow w0.heap.size 3 1 V n xs := fun ho hne => ho.kept (set_grown' k _) (by rw [← hq]; exact hne)
 refine ⟨h.below.setCell (p := ⟨q, k, none⟩) (h.om.lt q hq).1 _, h.lo, ?_, kp h.ob h.bm, kp h.ot h.tm, ?_, h.bt, h.bm, h.tm⟩
 ·exact h.blk.far (p := ⟨q, k, none⟩) (fun e => own_blk_ne h.om h.blk (by decide) (by rw [hq, e])) _
 ·show (w.setCell ⟨q, k, none⟩ (natV v)).ownsRow w0.heap.size 3 1 M (s.mem.set k v).length (natsV (s.mem.set k v))
  rw [List.length_set, natsV_set]
  exact own_set h.om hq k _
theorem lt_ne {w1 : World} {base n : Nat} {e : TypeId} {V : Value} {xs : List Value} (h : w1.ownsRow base e 1 V n xs) {H : Nat} (hH : w1.heap.size ≤ H) : V.ownBlock = none ∨ V.ownBlock ≠ some H := by
 cases hv : V.ownBlock with
 | none => exact .inl rfl
 | some k =>
   right
   intro e
   cases e
   have := (h.lt _ hv).2
   omega
theorem ne_comm' {a b : Option Nat} (h : a = none ∨ a ≠ b) : b = none ∨ b ≠ a := by
 rcases h with h | h
 ·cases b with
  | none => exact .inl rfl
  | some k => right; rw [h]; intro e; cases e
 ·exact .inr (Ne.symm h)
theorem Mach.pushtold (h : Mach w0 w g C s en B T M) {W w1 : World} (hW : Below w.heap.size w W) {g' cap : Nat} {x : Nat} {n' : Nat} (hown : w1.ownsRow w0.heap.size 3 1 (.slice (some ⟨g', 0, none⟩) n' cap) n' (natsV s.told ++ [natV x])) (hn : n' = s.told.length + 1)
  (hgrow : W.grownBy w1 T.ownBlock) (hat : T.ownBlock = some g' ∨ g' = W.heap.size) :
  Mach w0 (w1.setCell ⟨g, 12, none⟩ (.slice (some ⟨g', 0, none⟩) n' cap)) g C { s with told := s.told ++ [x] } en B (.slice (some ⟨g', 0, none⟩) n' cap) M := by
 have h1 := h.later hW
 have hgw : W.heap.size ≤ w1.heap.size := hgrow.size
 have kb := h1.ob.kept hgrow h1.bt
 have km := h1.om.kept hgrow (ne_comm' h1.tm)
 have kk := h1.blk.grown hgrow (fun e => own_blk_ne h1.ot h1.blk (by decide) e.symm)
 have hnew : (Value.slice (some ⟨g', 0, none⟩) n' cap).ownBlock = T.ownBlock ∨ (Value.slice (some ⟨g', 0, none⟩) n' cap).ownBlock = some W.heap.size := by
  rcases hat with e | e
  ·exact .inl (by rw [e]; rfl)
  ·exact .inr (by rw [← e]; rfl)
 generalize hv : Value.slice (some ⟨g', 0, none⟩) n' cap = T' at *
 have kp : ∀ {V : Value} {n : Nat} {xs : List Value}, w1.ownsRow w0.heap.size 3 1 V n xs → (w1.setCell ⟨g, 12, none⟩ T').ownsRow w0.heap.size 3 1 V n xs := fun ho => ho.kept (set_grown' 12 T') (.inr (own_blk_ne ho kk (by decide)))
 refine ⟨?_, h.lo, ?_, kp kb, ?_, kp km, ?_, h.bm, ?_⟩
 ·exact (h1.below.grown hgrow h1.below.size (fun q hq => (h1.ot.lt q hq).1)).setCell (p := ⟨g, 12, none⟩) h.lo _
 ·exact kk.set_ 12 T'
 ·show (w1.setCell ⟨g, 12, none⟩ T').ownsRow w0.heap.size 3 1 T' (s.told ++ [x]).length (natsV (s.told ++ [x]))
  rw [List.length_append, natsV_app]
  rw [hn] at hown
  exact kp hown
 ·rcases hnew with e | e
  ·rw [e]; exact h.bt
  ·rw [e]; exact lt_ne h1.ob (Nat.le_refl _)
 ·rcases hnew with e | e
  ·rw [e]; exact h.tm
  ·rw [e]; exact ne_comm' (lt_ne h1.om (Nat.le_refl _))
theorem Mach.pushback (h : Mach w0 w g C s en B T M) {W w1 : World} (hW : Below w.heap.size w W) {g' cap : Nat} {x : Nat} {n' : Nat} (hown : w1.ownsRow w0.heap.size 3 1 (.slice (some ⟨g', 0, none⟩) n' cap) n' (natsV s.back ++ [natV x])) (hn : n' = s.back.length + 1)
  (hgrow : W.grownBy w1 B.ownBlock) (hat : B.ownBlock = some g' ∨ g' = W.heap.size) :
  Mach w0 (w1.setCell ⟨g, 2, none⟩ (.slice (some ⟨g', 0, none⟩) n' cap)) g C { s with back := s.back ++ [x] } en (.slice (some ⟨g', 0, none⟩) n' cap) T M := by
 have h1 := h.later hW
 have hgw : W.heap.size ≤ w1.heap.size := hgrow.size
 have kt := h1.ot.kept hgrow (ne_comm' h1.bt)
 have km := h1.om.kept hgrow (ne_comm' h1.bm)
 have kk := h1.blk.grown hgrow (fun e => own_blk_ne h1.ob h1.blk (by decide) e.symm)
 have hnew : (Value.slice (some ⟨g', 0, none⟩) n' cap).ownBlock = B.ownBlock ∨ (Value.slice (some ⟨g', 0, none⟩) n' cap).ownBlock = some W.heap.size := by
  rcases hat with e | e
  ·exact .inl (by rw [e]; rfl)
  ·exact .inr (by rw [← e]; rfl)
 generalize hv : Value.slice (some ⟨g', 0, none⟩) n' cap = B' at *
 have kp : ∀ {V : Value} {n : Nat} {xs : List Value}, w1.ownsRow w0.heap.size 3 1 V n xs → (w1.setCell ⟨g, 2, none⟩ B').ownsRow w0.heap.size 3 1 V n xs := fun ho => ho.kept (set_grown' 2 B') (.inr (own_blk_ne ho kk (by decide)))
 refine ⟨?_, h.lo, ?_, ?_, kp kt, kp km, ?_, ?_, h.tm⟩
 ·exact (h1.below.grown hgrow h1.below.size (fun q hq => (h1.ob.lt q hq).1)).setCell (p := ⟨g, 2, none⟩) h.lo _
 ·exact kk.set_ 2 B'
 ·show (w1.setCell ⟨g, 2, none⟩ B').ownsRow w0.heap.size 3 1 B' (s.back ++ [x]).length (natsV (s.back ++ [x]))
  rw [List.length_append, natsV_app]
  rw [hn] at hown
  exact kp hown
 ·rcases hnew with e | e
  ·rw [e]; exact h.bt
  ·rw [e]; exact ne_comm' (lt_ne h1.ot (Nat.le_refl _))
 ·rcases hnew with e | e
  ·rw [e]; exact h.bm
  ·rw [e]; exact ne_comm' (lt_ne h1.om (Nat.le_refl _))
theorem Mach.popback {g' cap : Nat} (h : Mach w0 w g C s en (.slice (some ⟨g', 0, none⟩) s.back.length cap) T M) (k : Nat) (hk : k ≤ s.back.length) :
  Mach w0 (w.setCell ⟨g, 2, none⟩ (.slice (some ⟨g', 0, none⟩) k cap)) g C { s with back := s.back.take k } en (.slice (some ⟨g', 0, none⟩) k cap) T M := by
 have kp : ∀ {V : Value} {n : Nat} {xs : List Value}, w.ownsRow w0.heap.size 3 1 V n xs → (w.setCell ⟨g, 2, none⟩ (.slice (some ⟨g', 0, none⟩) k cap)).ownsRow w0.heap.size 3 1 V n xs := fun ho => ho.kept (set_grown' 2 _) (.inr (own_blk_ne ho h.blk (by decide)))
 refine ⟨h.below.setCell (p := ⟨g, 2, none⟩) h.lo _, h.lo, h.blk.set_ 2 _, ?_, kp h.ot, kp h.om, h.bt, h.bm, h.tm⟩
 have := kp (own_take h.ob k hk)
 rw [show (s.back.take k).length = k by rw [List.length_take]; omega, natsV, ← List.map_take] at *
 exact this
end
end Go.Proofs.YtdjamdbamkhblacDoor
namespace Go.Proofs.YtdjamdbamkhblacDoor
open Go.RowKit
def runErr (l : List Ins) (regs mem : List Int) (fuel : Int) : Int :=
 if check l = 0 then (if 1024 < mem.length then 1 else if fuel < 0 ∨ 20000 < fuel ∨ (regs ++ mem).any oddW = true then 2 else 0) else check l
def toMc (regs mem : List Int) : Mc := ⟨0, [], regs.map Int.toNat, [], mem.map Int.toNat⟩
def runRes (l : List Ins) (regs mem : List Int) (fuel : Int) : Mc × Nat :=
 if runErr l regs mem fuel = 0 then runs l fuel.toNat (toMc regs mem) else (⟨0, [], [0, 0, 0, 0, 0, 0, 0, 0], [], []⟩, 0)
def outV (en : Nat) (r : List Nat) (T M : Value) : Value :=
 .agg #[natV en, natV (r.getD 0 0), natV (r.getD 1 0), natV (r.getD 2 0), natV (r.getD 3 0), natV (r.getD 4 0), natV (r.getD 5 0), natV (r.getD 6 0), natV (r.getD 7 0), T, M]
def layL (b : Nat) : World → Nat → List Value → World
 | w, _, [] => w
 | w, k, u :: r => layL b (w.setCell ⟨b, k, none⟩ u) (k + 1) r
theorem layL_below {B b : Nat} {a : World} (hb : B ≤ b) : ∀ (us : List Value) (k : Nat) (w : World), Below B a w → Below B a (layL b w k us)
 | [], _, _, h => h
 | u :: r, k, _, h => layL_below hb r (k + 1) _ (h.setCell (p := ⟨b, k, none⟩) hb u)
theorem layL_grown (b : Nat) : ∀ (us : List Value) (k : Nat) (w : World), w.grownBy (layL b w k us) (some b)
 | [], _, w => World.grownBy.refl w _
 | u :: r, k, _ => (set_grown' k u).trans (layL_grown b r (k + 1) _)
def RunPost (w : World) (r : Mc × Nat) (err : Int) (e : Ending) (w' : World) : Prop :=
 ∃ T M, e = .returned (.tuple #[outV r.2 r.1.regs T M, .int .i64 err]) ∧ w'.ownsRow w.heap.size 3 1 T r.1.told.length (natsV r.1.told) ∧ w'.ownsRow w.heap.size 3 1 M r.1.mem.length (natsV r.1.mem) ∧ Below w.heap.size w w'
theorem RunPost.no {w w' : World} {l : List Ins} {regs mem : List Int} {fuel n : Int} {e : Ending} (hn : runErr l regs mem fuel = n) (h0 : n ≠ 0)
  (he : e = .returned (.tuple #[.agg #[.int .i64 0, .int .i64 0, .int .i64 0, .int .i64 0, .int .i64 0, .int .i64 0, .int .i64 0, .int .i64 0, .int .i64 0, .slice none 0 0, .slice none 0 0], .int .i64 n])) (hb : Below w.heap.size w w') :
  RunPost w (runRes l regs mem fuel) (runErr l regs mem fuel) e w' := by
 unfold runRes
 rw [hn, if_neg h0]
 exact ⟨_, _, he, World.ownsRow_nil _ _ _ _, World.ownsRow_nil _ _ _ _, hb⟩
theorem run_box (w : World) (r0 r1 r2 r3 r4 r5 r6 r7 : Int) : ∃ V, (w.alloc (.cells #[.int .i64 r0, .int .i64 r1, .int .i64 r2, .int .i64 r3, .int .i64 r4, .int .i64 r5, .int .i64 r6, .int .i64 r7] 204)).alloc (.cells #[.int .i64 0, .int .i64 0, .int .i64 0, .int .i64 0, .int .i64 0, .int .i64 0, .int .i64 0, .int .i64 0, .int .i64 0, .slice none 0 0, .slice none 0 0] 208) = V ∧ Below w.heap.size w V ∧ Blk V w.heap.size 204 #[.int .i64 r0, .int .i64 r1, .int .i64 r2, .int .i64 r3, .int .i64 r4, .int .i64 r5, .int .i64 r6, .int .i64 r7] ∧ Blk V (w.heap.size + 1) 208 #[.int .i64 0, .int .i64 0, .int .i64 0, .int .i64 0, .int .i64 0, .int .i64 0, .int .i64 0, .int .i64 0, .int .i64 0, .slice none 0 0, .slice none 0 0] :=
 ⟨_, rfl, ((Below.refl _ _).alloc (Nat.le_refl _) _).alloc (by simp) _, (Blk.new w _ _).alloc _, Blk.new' (by simp)⟩
end Go.Proofs.YtdjamdbamkhblacDoor
