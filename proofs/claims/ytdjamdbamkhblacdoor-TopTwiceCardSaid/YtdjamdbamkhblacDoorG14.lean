/- The walk of kern.Check: what it answers, for every kernel. Condition: the listed tables. A region that draws its order, whose operations only read old memory and whose callees leave old memory as it was: one walk, in the order of the text. No condition. The walk of the reference's HasEnd. The walks of the kernel's small searches: find, place, make's and by's; the reference's nodeAt, freeEnd. No condition. -/
import Derived.Test.YtdjamdbamkhblacDoorG13
import Derived.Test.YtdjamdbamkhblacDoorG07
import Derived.Test.YtdjamdbamkhblacDoorG01
import Derived.Test.YtdjamdbamkhblacDoorG10
namespace Go.Proofs.YtdjamdbamkhblacDoor
open Go.RowKit
set_option linter.unusedVariables false
set_option linter.unusedSimpArgs false
theorem bs_l (a b : ByteArray) : (a.toList == b.toList) = (a == b) := by
 obtain ⟨⟨x⟩⟩ := a
 obtain ⟨⟨y⟩⟩ := b
 rw [show (⟨⟨x⟩⟩ : ByteArray).toList = x from ByteArray.toList_mk x, show (⟨⟨y⟩⟩ : ByteArray).toList = y from ByteArray.toList_mk y]
 show (x == y) = ((⟨x⟩ : Array UInt8) == ⟨y⟩)
 simp
theorem RdM.take {w : World} {B : Nat} {A : Option Addr} {l : List Mod} (h : RdM w B A l) (n : Nat) : RdM w B A (l.take n) := fun hl => by
 obtain ⟨b, o, e, hb, hc⟩ := h (by rw [List.length_take] at hl; omega)
 refine ⟨b, o, e, hb, fun k hk => ?_⟩
 have := hc k (by rw [List.length_take] at hk; omega)
 rw [List.getElem_take]
 exact this
theorem RdD.take {w : World} {B : Nat} {A : Option Addr} {l : List Nod} (h : RdD w B A l) (n : Nat) : RdD w B A (l.take n) := fun hl => by
 obtain ⟨b, o, e, hb, hc⟩ := h (by rw [List.length_take] at hl; omega)
 refine ⟨b, o, e, hb, fun k hk => ?_⟩
 have := hc k (by rw [List.length_take] at hk; omega)
 rw [List.getElem_take]
 exact this
structure Krn.small (k : Krn) : Prop where
 nodes : ∀ x ∈ k.nodes, x.name.size ≤ maxLen ∧ x.data.size ≤ maxLen
 pipes : ∀ s ∈ k.pipes, s.size ≤ maxLen
theorem Blk.c5 {w : World} {g : Nat} {t : TypeId} {u0 u1 u2 u3 u4 : Value} (h : Blk w g t #[u0, u1, u2, u3, u4]) : w.cell? ⟨g, 0, none⟩ = some u0 ∧ w.cell? ⟨g, 1, none⟩ = some u1 ∧ w.cell? ⟨g, 2, none⟩ = some u2 ∧ w.cell? ⟨g, 3, none⟩ = some u3 ∧ w.cell? ⟨g, 4, none⟩ = some u4 := ⟨h.cell 0, h.cell 1, h.cell 2, h.cell 3, h.cell 4⟩
theorem Blk.c4 {w : World} {g : Nat} {t : TypeId} {u0 u1 u2 u3 : Value} (h : Blk w g t #[u0, u1, u2, u3]) : w.cell? ⟨g, 0, none⟩ = some u0 ∧ w.cell? ⟨g, 1, none⟩ = some u1 ∧ w.cell? ⟨g, 2, none⟩ = some u2 ∧ w.cell? ⟨g, 3, none⟩ = some u3 := ⟨h.cell 0, h.cell 1, h.cell 2, h.cell 3⟩
theorem nodBad_of {k : Krn} {i : Nat} {x : Nod} (h1 : nodOk k.mods.length x = false) : nodBad k i x = true := by unfold nodBad; rw [h1]; rfl
theorem nodBad_named {k : Krn} {i : Nat} {x : Nod} (h1 : nodOk k.mods.length x = true) (h2 : empS x.name = false) : nodBad k i x = (!nameOk x.name || (x.kind == 0) || dupN (k.nodes.take i) x.name) := by unfold nodBad; rw [h1, h2]; simp
theorem nodBad_bare {k : Krn} {i : Nat} {x : Nod} (h1 : nodOk k.mods.length x = true) (h2 : empS x.name = true) : nodBad k i x = ((x.kind != 0) && !hasE k.procs 1 i) := by unfold nodBad; rw [h1, h2]; simp
theorem modsE_drop {l : List Mod} {n : Nat} (h : n < l.length) : modsE (l.take n) (l.drop n) = if modCheck l[n] = 0 then (if (l.take n).any (fun x => x.name == l[n].name) then 7 else modsE (l.take (n + 1)) (l.drop (n + 1))) else modCheck l[n] := by
 rw [List.drop_eq_getElem_cons h, modsE, List.take_succ_eq_append_getElem h]
theorem anyI_drop {α : Type} {p : Nat → α → Bool} {l : List α} {n : Nat} (h : n < l.length) : anyI p (l.drop n) n = (p n l[n] || anyI p (l.drop (n + 1)) (n + 1)) := by
 rw [List.drop_eq_getElem_cons h, anyI]
theorem KCheck1_enter : ∀ args w, (callFunc 43 args).run Tryd.prog w = .ok (.enter 43 args) w := fun args w => by
 simp only [callFunc, run_program, Sem.run_bind, Result.andThen_ok, Tryd.func43]
 rfl
theorem KCheck2_enter : ∀ args w, (callFunc 45 args).run Tryd.prog w = .ok (.enter 45 args) w := fun args w => by
 simp only [callFunc, run_program, Sem.run_bind, Result.andThen_ok, Tryd.func45]
 rfl
theorem KCheck3_enter : ∀ args w, (callFunc 49 args).run Tryd.prog w = .ok (.enter 49 args) w := fun args w => by
 simp only [callFunc, run_program, Sem.run_bind, Result.andThen_ok, Tryd.func49]
 rfl
theorem KCheck4_enter : ∀ args w, (callFunc 52 args).run Tryd.prog w = .ok (.enter 52 args) w := fun args w => by
 simp only [callFunc, run_program, Sem.run_bind, Result.andThen_ok, Tryd.func52]
 rfl
set_option maxHeartbeats 400000 in
theorem KCheck1_any (n : ByteArray) (V1 V2 : Value) (b : Nat) (s : ByteArray) (w : World) (h1 : b < w.heap.size) (c1 : w.cell? ⟨b, 0, none⟩ = some (.string s)) :
  Calls Tryd.prog 43 #[.agg #[.string n, V1, V2], .pointer (some ⟨b, 0, none⟩)] w fun e w' => e = .returned (.bool (n == s)) ∧ Below w.heap.size w w' := by
 go_enter Tryd.func43, Tryd.ntmps43
 go_wp2
 go_ret
 exact ⟨ret_bool (bs_l _ _), below_box w _⟩
set_option maxHeartbeats 400000 in
theorem KCheck2_any (n : Int) (w : World) :
  Calls Tryd.prog 45 #[.int .i64 n] w fun e w' => e = .returned (.bool (oddW n)) ∧ w = w' := by
 go_enter Tryd.func45, Tryd.ntmps45
 go_wp2
 all_goals go_ret
 all_goals refine ⟨ret_bool ?_, rfl⟩
 all_goals (rw [Bool.eq_iff_iff]; simp [oddW]; try omega)
set_option maxHeartbeats 400000 in
theorem KCheck3_any (n : ByteArray) (V1 V2 V3 : Value) (b : Nat) (s : ByteArray) (w : World) (h1 : b < w.heap.size) (c1 : w.cell? ⟨b, 0, none⟩ = some (.string s)) :
  Calls Tryd.prog 49 #[.agg #[.string n, V1, V2, V3], .pointer (some ⟨b, 0, none⟩)] w fun e w' => e = .returned (.bool (n == s)) ∧ Below w.heap.size w w' := by
 go_enter Tryd.func49, Tryd.ntmps49
 go_wp2
 go_ret
 exact ⟨ret_bool (bs_l _ _), below_box w _⟩
set_option maxHeartbeats 400000 in
theorem KCheck4_any (k : Krn) (x : Opn) (V0 V1 V3 V4 VE : Value) (A : Option Addr) (c : Nat) (b1 b2 : Nat) (lv : Bool) (w : World) (h1 : b1 < w.heap.size) (h2 : b2 < w.heap.size)
  (c0 : w.cell? ⟨b1, 0, none⟩ = some V0) (c1 : w.cell? ⟨b1, 1, none⟩ = some V1) (c2 : w.cell? ⟨b1, 2, none⟩ = some (.slice A k.nodes.length c)) (c3 : w.cell? ⟨b1, 3, none⟩ = some V3) (c4 : w.cell? ⟨b1, 4, none⟩ = some V4)
  (d0 : w.cell? ⟨b2, 0, none⟩ = some (.bool lv)) (hr : RdD w w.heap.size A k.nodes) (hl : k.nodes.length = 8) :
  Calls Tryd.prog 52 #[.agg #[.int .i64 x.kind, .int .i64 x.node, .int .i64 x.pos], .pointer (some ⟨b1, 0, none⟩), .pointer (some ⟨b2, 0, none⟩)] w fun e w' => e = .returned (.bool (!endOk k x || (!lv && (x.kind != 0)))) ∧ Below w.heap.size w w' := by
 have hb := below_box w (.cells #[.int .i64 x.kind, .int .i64 x.node, .int .i64 x.pos] 82)
 have HE := Lib.hid (end_any V0 V1 V3 V4 A c k x (w.alloc (.cells #[.int .i64 x.kind, .int .i64 x.node, .int .i64 x.pos] 82)) ((hr.below hb).more hb.size) hl)
 clear hr hl
 cases he : endOk k x with
 | false =>
   rw [he] at HE
   have H := Lib.hid he
   clear he
   go_enter Tryd.func52, Tryd.ntmps52
   go_wp2_with fail
   refine HE.out.mono ?_
   rintro e w1 ⟨rfl, hb1⟩
   go_wp2
   go_ret
   exact ⟨ret_bool (by simp), hb.trans (hb1.mono hb.size)⟩
 | true =>
   rw [he] at HE
   have H := Lib.hid he
   clear he
   cases lv
   all_goals
    go_enter Tryd.func52, Tryd.ntmps52
    go_wp2_with fail
    refine HE.out.mono ?_
    rintro e w1 ⟨rfl, hb1⟩
    obtain ⟨hc1, hf1⟩ := bcell hb1
    have hbw := hb.trans (hb1.mono hb.size)
    have hz1 : w.heap.size < w1.heap.size := Nat.lt_of_lt_of_le (by simp) hb1.size
    have e0 := (hbw.cell (p := ⟨b2, 0, none⟩) h2).trans d0
    go_wp2
    all_goals go_ret
    all_goals exact ⟨ret_bool (by simp), hbw⟩
end Go.Proofs.YtdjamdbamkhblacDoor
namespace Go.Proofs.YtdjamdbamkhblacDoor
open Go.RowKit
structure After (w : World) where
 w' : World
 h : Below w.heap.size w w'
instance (w : World) : Nonempty (After w) := ⟨⟨w, Below.refl _ w⟩⟩
theorem After.cell {w : World} (x : After w) (b o : Nat) (h : b < w.heap.size) : x.w'.cell? ⟨b, o, none⟩ = w.cell? ⟨b, o, none⟩ := x.h.cell (p := ⟨b, o, none⟩) h
theorem wp_region_calm {P : Program} {id : Nat} {Q : Exit → Act → World → Prop} {a : Act} {w : World} {l : List Oper} (hm : P.follows .mixedOrders = true) (hB : Region.lexB .any l.toArray = true)
  (h : wpQuiet P l.toArray (fun w' => ∃ x : After w, w' = x.w') (fun a' => ∀ w', (∃ x : After w, w' = x.w') → Q .normal a' w') l a) : (Code.region id l.toArray true).wp P Q a w :=
 wp_region_quiet (C := fun w' => ∃ x : After w, w' = x.w') hm hB ⟨⟨_, Below.drewN' (Below.refl _ w) 1⟩, rfl⟩ (by simpa using h)
theorem Calls.calm {P : Program} {f : FuncId} {args : Array Value} {w : World} {x : After w} {v : Value}
  (h : Calls P f args x.w' fun e w' => e = .returned v ∧ Below x.w'.heap.size x.w' w') : Calls P f args x.w' fun e w'' => e = .returned v ∧ ∃ y : After w, w'' = y.w' :=
 h.mono fun _ _ ⟨he, hb⟩ => ⟨he, ⟨⟨_, x.h.trans (hb.mono x.h.size)⟩, rfl⟩⟩
end Go.Proofs.YtdjamdbamkhblacDoor
namespace Go.Proofs.YtdjamdbamkhblacDoor
open Go.RowKit
set_option linter.unusedVariables false
set_option linter.unusedSimpArgs false
end Go.Proofs.YtdjamdbamkhblacDoor
namespace Go.Proofs.YtdjamdbamkhblacDoor
open Go.RowKit
set_option linter.unusedVariables false
set_option linter.unusedSimpArgs false
attribute [local go_sem] After.cell
theorem find1_enter : ∀ args w, (callFunc 117 args).run Tryd.prog w = .ok (.enter 117 args) w := fun args w => by
 simp only [callFunc, run_program, Sem.run_bind, Result.andThen_ok, Tryd.func117]
 rfl
theorem place1_enter : ∀ args w, (callFunc 139 args).run Tryd.prog w = .ok (.enter 139 args) w := fun args w => by
 simp only [callFunc, run_program, Sem.run_bind, Result.andThen_ok, Tryd.func139]
 rfl
theorem make1_enter : ∀ args w, (callFunc 116 args).run Tryd.prog w = .ok (.enter 116 args) w := fun args w => by
 simp only [callFunc, run_program, Sem.run_bind, Result.andThen_ok, Tryd.func116]
 rfl
theorem by1_enter : ∀ args w, (callFunc 120 args).run Tryd.prog w = .ok (.enter 120 args) w := fun args w => by
 simp only [callFunc, run_program, Sem.run_bind, Result.andThen_ok, Tryd.func120]
 rfl
set_option maxHeartbeats 400000 in
theorem find1_any (x : Nod) (b : Nat) (s : ByteArray) (w : World) (h1 : b < w.heap.size) (c1 : w.cell? ⟨b, 0, none⟩ = some (.string s)) :
  Calls Tryd.prog 117 #[.agg #[.string x.name, .int .i64 x.kind, .string x.data, .int .i64 x.unit], .pointer (some ⟨b, 0, none⟩)] w fun e w' => e = .returned (.bool ((x.kind != 0) && (x.name == s))) ∧ Below w.heap.size w w' := by
 cases hk : (x.kind != 0)
 all_goals
  go_enter Tryd.func117, Tryd.ntmps117
  go_wp2
  go_ret
  exact ⟨ret_bool (by first | rfl | exact bs_l _ _), below_box w _⟩
set_option maxHeartbeats 400000 in
theorem place1_any (x : Opn) (w : World) :
  Calls Tryd.prog 139 #[.agg #[.int .i64 x.kind, .int .i64 x.node, .int .i64 x.pos]] w fun e w' => e = .returned (.bool (x.kind == 0)) ∧ Below w.heap.size w w' := by
 go_enter Tryd.func139, Tryd.ntmps139
 go_wp2
 go_ret
 exact ⟨rfl, below_box w _⟩
set_option maxHeartbeats 400000 in
theorem make1_any (x : Nod) (w : World) :
  Calls Tryd.prog 116 #[.agg #[.string x.name, .int .i64 x.kind, .string x.data, .int .i64 x.unit]] w fun e w' => e = .returned (.bool (x.kind == 0)) ∧ Below w.heap.size w w' := by
 go_enter Tryd.func116, Tryd.ntmps116
 go_wp2
 go_ret
 exact ⟨rfl, below_box w _⟩
set_option maxHeartbeats 400000 in
theorem by1_any (x : Prc) (A : Option Addr) (c : Nat) (w : World) :
  Calls Tryd.prog 120 #[.agg #[.bool x.live, .slice A x.ends.length c]] w fun e w' => e = .returned (.bool (!x.live)) ∧ Below w.heap.size w w' := by
 go_enter Tryd.func120, Tryd.ntmps120
 go_wp2
 go_ret
 exact ⟨rfl, below_box w _⟩
section
variable {B g : Nat} {a : KA} {k : Krn} {ms : List (Value × Value)} {es : List Value}
set_option maxHeartbeats 1000000 in
theorem find_any (s : ByteArray) (w : World) (h : KS B w g a k ms es) (hl : k.nodes.length = 8) :
  Calls Tryd.prog 79 #[.agg #[.pointer (some ⟨g, 0, none⟩)], .string s] w fun e w' => e = .returned (.int .i64 (findK k s)) ∧ Below w.heap.size w w' := by
 have hb1 := below_box w (.cells #[.pointer (some ⟨g, 0, none⟩)] 138)
 have hb2 := hb1.alloc hb1.size (.cells #[.string s] 9)
 have HR := Lib.hid ((h.krn.nodes.below hb2).more hb2.size)
 have HB := Lib.hid hb2
 obtain ⟨_, _, c2, _, _⟩ := h.c5
 have hg := h.blk.lt
 have C1 := Lib.hid (show ∀ w2, Below ((w.alloc (.cells #[.pointer (some ⟨g, 0, none⟩)] 138)).alloc (.cells #[.string s] 9)).heap.size ((w.alloc (.cells #[.pointer (some ⟨g, 0, none⟩)] 138)).alloc (.cells #[.string s] 9)) w2 → w.heap.size + 1 < w2.heap.size ∧ w2.cell? ⟨w.heap.size + 1, 0, none⟩ = some (.string s) from fun w2 h2 => by
  have N : Blk ((w.alloc (.cells #[.pointer (some ⟨g, 0, none⟩)] 138)).alloc (.cells #[.string s] 9)) (w.heap.size + 1) 9 #[.string s] := Blk.new' (by simp)
  exact ⟨Nat.lt_of_lt_of_le N.lt h2.size, (N.below h2 N.lt).cell 0⟩)
 rw [hl] at c2
 clear hb1 hb2 h
 go_enter Tryd.func79, Tryd.ntmps79
 go_wp2_with fail
 have hi := IndexFunc_nod 117 #[.pointer (some ⟨w.heap.size + 1, 0, none⟩)] (fun x : Nod => (x.kind != 0) && (x.name == s)) a.a2 a.c2 k.nodes _ HR.out (by rw [hl]; unfold maxLen; omega) find1_enter (fun y _ w2 hw2 => by
  obtain ⟨q1, q2⟩ := C1.out w2 hw2
  exact find1_any y _ s w2 q1 q2)
 rw [hl] at hi
 refine hi.mono ?_
 rintro e w1 ⟨rfl, hb1⟩
 go_wp2
 go_ret
 exact ⟨rfl, HB.out.trans (hb1.mono HB.out.size)⟩
set_option maxHeartbeats 1000000 in
theorem place_any (b o : Nat) (A : Option Addr) (c : Nat) (l : List Opn) (w : World) (hb : b < w.heap.size) (hc : w.cell? ⟨b, o + 1, none⟩ = some (.slice A l.length c)) (hr : RdE w w.heap.size A l) (hl : l.length = 6) :
  Calls Tryd.prog 118 #[.pointer (some ⟨b, o, none⟩)] w fun e w' => e = .returned (.int .i64 (freeE l)) ∧ Below w.heap.size w w' := by
 have HR := Lib.hid hr
 rw [hl] at hc
 clear hr
 go_enter Tryd.func118, Tryd.ntmps118
 go_wp2_with fail
 have hi := IndexFunc_opn 139 #[] (fun x : Opn => x.kind == 0) A c l w HR.out (by rw [hl]; unfold maxLen; omega) place1_enter (fun y _ w2 _ => place1_any y w2)
 rw [hl] at hi
 refine hi.mono ?_
 rintro e w1 ⟨rfl, hb1⟩
 go_wp2
 go_ret
 exact ⟨rfl, hb1⟩
end
end Go.Proofs.YtdjamdbamkhblacDoor
