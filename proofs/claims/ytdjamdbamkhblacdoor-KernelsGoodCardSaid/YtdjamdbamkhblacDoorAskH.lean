/- The walks of the kernel's ask and of the reference's answered: what a module says to a word. Condition: the run's contract (RunC). By an AI agent (mkask.py). -/
import Derived.Test.YtdjamdbamkhblacDoorG17
import Derived.Test.YtdjamdbamkhblacDoorG10
import Derived.Test.YtdjamdbamkhblacDoorG08
namespace Go.Proofs.YtdjamdbamkhblacDoor
open Go.RowKit
set_option linter.unusedVariables false
set_option linter.unusedSimpArgs false
theorem ModRows.data_lt {w : World} {B : Nat} : ∀ {l : List Mod} {ms : List (Value × Value)}, ModRows w B l ms → ∀ x ∈ ms, ∀ q, x.2.ownBlock = some q → q < w.heap.size
 | [], [], _, x, hx, _, _ => by cases hx
 | _ :: _, y :: s, h, x, hx, q, hq => by
   rcases List.mem_cons.1 hx with rfl | hx
   ·exact (h.1.2.lt q hq).2
   ·exact ModRows.data_lt h.2 x hx q hq
 | [], _ :: _, h, _, _, _, _ => h.elim
 | _ :: _, [], h, _, _, _, _ => h.elim
theorem KS.mem {B g : Nat} {w0 w : World} {a : KA} {k : Krn} {ms : List (Value × Value)} {es : List Value} {A : Option Addr} {c : Nat} {m : List Int} (h0 : KS B w0 g a k ms es) (hb : Below w0.heap.size w0 w)
  (ho : w.ownsRow w0.heap.size 3 1 (.slice A m.length c) m.length (intCells m)) (hl : m.length = k.mem.length) :
  KS B (w.setCell ⟨g, 1, none⟩ (.slice A m.length c)) g { a with a1 := A, c1 := c } { k with mem := m } ms es := by
 have h := h0.below hb
 have ht := Tch.of_set (p := ⟨g, 1, none⟩) h.blk (.slice A m.length c)
 have hc := h.cp.tch ht (by decide) (by decide) (by decide) (by decide) (by decide) (by decide) (by decide)
 refine ⟨h.lo, h.blk.set_ 1 _, ⟨hc.mods, hc.rows, own_tch (own_base ho (Nat.le_of_lt h0.lt)) ht (by decide), hc.nodes, hc.pipes, hc.procs, hc.ends, fun x hx => ?_, hc.each⟩, fits_of h.fits rfl h.fits.p hl rfl rfl rfl⟩
 cases hq : x.2.ownBlock with
 | none => exact .inl rfl
 | some q =>
   refine .inr fun e => ?_
   have h1 := h0.cp.rows.data_lt x hx q hq
   have h2 := (ho.lt q e.symm).1
   omega
theorem ask_err {k : Krn} (hk : KOk k) {u n : Nat} (hn : n ≤ 65535) (hu : u < k.mods.length) : runErr k.mods[u].code [(n : Int), 0, 0, 0, (u : Int) * 64, (u : Int) * 64, 63, 0] k.mem 2000 = 0 := by
 have hc := ((verify_zero_iff _).1 (mod_code (hk.mods _ (List.getElem_mem hu)))).1
 have h0 := hk.l0
 unfold runErr
 rw [if_pos hc, if_neg (by rw [hk.l1]; decide), if_neg]
 rintro (h | h | h)
 ·omega
 ·omega
 ·rw [List.any_append, hk.mem, Bool.or_false] at h
  simp [oddW] at h
  omega
theorem ask_res {k : Krn} (hk : KOk k) {u n : Nat} (hn : n ≤ 65535) (hu : u < k.mods.length) : runRes k.mods[u].code [(n : Int), 0, 0, 0, (u : Int) * 64, (u : Int) * 64, 63, 0] k.mem 2000 = runs k.mods[u].code 2000 ⟨0, [], [n, 0, 0, 0, 64 * u, 64 * u, 63, 0], [], k.mem.map Int.toNat⟩ := by
 have h : ((u : Int) * 64).toNat = 64 * u := by omega
 unfold runRes
 rw [if_pos (ask_err hk hn hu)]
 have e : toMc [(n : Int), 0, 0, 0, (u : Int) * 64, (u : Int) * 64, 63, 0] k.mem = ⟨0, [], [n, 0, 0, 0, 64 * u, 64 * u, 63, 0], [], k.mem.map Int.toNat⟩ := by
  simp [toMc, h]
 rw [e]
 rfl
theorem askK_of {k : Krn} {u n : Nat} (hu : u < k.mods.length) {r : Mc × Nat} (hr : runs k.mods[u].code 2000 ⟨0, [], [n, 0, 0, 0, 64 * u, 64 * u, 63, 0], [], k.mem.map Int.toNat⟩ = r) :
  askK k u n = if r.2 = 1 then some (r.1.regs.getD 0 0, { k with mem := r.1.mem.map fun (x : Nat) => (x : Int) }) else none := by
 unfold askK
 rw [getD_eq hu, hr]
theorem ints_nats (l : List Nat) : intCells (l.map fun (x : Nat) => (x : Int)) = natsV l := by
 unfold intCells natsV
 rw [List.map_map]
 rfl
def RunC (f : FuncId) : Prop := ∀ (A Am : Option Addr) (c cm : Nat) (l : List Ins) (n e : Int) (mem : List Int) (W : World), RdI W W.heap.size A l → Tab W → l.length ≤ maxLen → RdN W W.heap.size Am mem → mem.length ≤ maxLen → (Am = none → mem.length = 0 ∧ cm = 0) →
 Calls Tryd.prog f #[.slice A l.length c, .agg #[.int .i64 n, .int .i64 0, .int .i64 0, .int .i64 0, .int .i64 e, .int .i64 e, .int .i64 63, .int .i64 0], .slice Am mem.length cm, .int .i64 2000] W
  (RunPost W (runRes l [n, 0, 0, 0, e, e, 63, 0] mem 2000) (runErr l [n, 0, 0, 0, e, e, 63, 0] mem 2000))
theorem Calls.run_eq {P : Program} {f : FuncId} {args : Array Value} {W : World} {r r' : Mc × Nat} {e e' : Int} (h : Calls P f args W (RunPost W r e)) (h1 : r = r') (h2 : e = e') : Calls P f args W (RunPost W r' e') := by
 subst h1 h2; exact h
theorem ask_fr {B : Nat} {w W : World} {g : Nat} {a : KA} {k : Krn} {ms : List (Value × Value)} {es : List Value} (hb : Below w.heap.size w W) (hK : KS B W g a k ms es) (hB : B < w.heap.size) (i : Nat) (u : Value) :
  Fr B w (W.setCell ⟨g, i, none⟩ u) ∧ Tch 36 w (W.setCell ⟨g, i, none⟩ u) := by
 have ht := (Tch.of_below (t := 36) hb).trans (Tch.of_set (p := ⟨g, i, none⟩) hK.blk u)
 exact ⟨(Fr.low hb (Nat.le_of_lt hB)).trans (.kset hK.lo hK.blk i u), ht⟩
def AskPost (B : Nat) (w : World) (g : Nat) (ms : List (Value × Value)) (es : List Value) (a : KA) (k : Krn) (r : Option (Nat × Krn)) (e : Ending) (w' : World) : Prop :=
 Fr B w w' ∧ Tch 36 w w' ∧ ((r = none ∧ e = .returned (.tuple #[.int .i64 0, .bool false]) ∧ KS B w' g a k ms es) ∨
  ∃ v k' a', r = some (v, k') ∧ e = .returned (.tuple #[.int .i64 ((v : Nat) : Int), .bool true]) ∧ KS B w' g a' k' ms es ∧ a'.a0 = a.a0 ∧ a'.c0 = a.c0 ∧ a'.a2 = a.a2 ∧ a'.c2 = a.c2 ∧ a'.a3 = a.a3 ∧ a'.c3 = a.c3 ∧ a'.a4 = a.a4 ∧ a'.c4 = a.c4)
theorem entV_ok {u n : Nat} (hu : u < 8) (hn : n ≤ 65535) : entV (u : Int) (n : Int) = .tuple #[.agg #[.int .i64 n, .int .i64 0, .int .i64 0, .int .i64 0, .int .i64 ((u : Int) * 64), .int .i64 ((u : Int) * 64), .int .i64 63, .int .i64 0], .int .i64 0] := by
 have : entBad (u : Int) (n : Int) = false := by
  unfold entBad
  simp
  omega
 unfold entV
 rw [this]
 rfl
section
variable {B g : Nat} {a : KA} {k : Krn} {ms : List (Value × Value)} {es : List Value}
theorem KS.mod {w : World} {u : Nat} (h : KS B w g a k ms es) (hu : u < k.mods.length) : ∃ b0 Ac cc Ad cd, a.a0 = some ⟨b0, 0, none⟩ ∧ b0 < w.heap.size ∧ w.cell? ⟨b0, u * 3 + 1, none⟩ = some (.slice Ac k.mods[u].code.length cc) ∧ ModAt w w.heap.size Ac cc Ad cd k.mods[u] := by
 obtain ⟨b0, ha, _, hlt⟩ := own_addr h.cp.mods (by omega)
 obtain ⟨b, o, e, hb, hc⟩ := h.krn.mods (by omega)
 rw [ha] at e
 cases e
 obtain ⟨A1, c1, A2, c2, _, h1, _, h3⟩ := hc u hu
 rw [Nat.zero_add] at h1
 exact ⟨_, _, _, _, _, ha, hlt, h1, h3⟩
end
section
variable {B g : Nat} {a : KA} {k : Krn} {ms : List (Value × Value)} {es : List Value}
set_option maxRecDepth 100000 in
set_option maxHeartbeats 4000000 in
theorem ask_anyH (HR : RunC 156) (u n : Nat) (w : World) (h : KS B w g a k ms es) (hk : KOk k) (ht : Tab w) (hu : u < k.mods.length) (hn : n ≤ 65535) :
  Calls Tryd.prog 140 #[.agg #[.pointer (some ⟨g, 0, none⟩)], .int .i64 (u : Int), .int .i64 (n : Int)] w (AskPost B w g ms es a k (askK k u n)) := by
 have hu8 : u < 8 := Nat.lt_of_lt_of_le hu hk.l0
 have HV := Lib.hid (entV_ok hu8 hn)
 have HR' := Lib.hid HR
 have HE := Lib.hid (ask_err hk hn hu)
 have HRS := Lib.hid (ask_res hk hn hu)
 have HK := Lib.hid hk
 have HU := Lib.hid hu
 have hb0 := below_box w (.cells #[.pointer (some ⟨g, 0, none⟩)] 138)
 have H0 := Lib.hid h
 have HB0 := Lib.hid hb0
 have HT := Lib.hid ht
 have HX := Lib.hid (Blk.new w 138 #[.pointer (some ⟨g, 0, none⟩)])
 clear hb0 h ht hk hn HR
 have HEN := Lib.hid (fun W => Enter_any (u : Int) (n : Int) W)
 generalize hW0 : w.alloc (.cells #[.pointer (some ⟨g, 0, none⟩)] 138) = W0 at *
 have HW0 := Lib.hid hW0
 clear hW0
 go_enter Tryd.func140, Tryd.ntmps140
 go_wp2_with fail
 rw [HW0.out]
 refine (HEN.out _).mono ?_
 rintro e w1 ⟨rfl, hb1⟩
 rw [HV.out]
 have hb2 := HB0.out.trans (hb1.mono HB0.out.size)
 have HB2 := Lib.hid hb2
 have HX1 := Lib.hid (HX.out.below hb1 HX.out.lt)
 clear hb1 hb2
 go_wp2
 have hbA := HB2.out.alloc HB2.out.size (.cells #[.int .i64 (n : Int), .int .i64 0, .int .i64 0, .int .i64 0, .int .i64 ((u : Int) * 64), .int .i64 ((u : Int) * 64), .int .i64 63, .int .i64 0] 204)
 have hA := Blk.new w1 204 #[.int .i64 (n : Int), .int .i64 0, .int .i64 0, .int .i64 0, .int .i64 ((u : Int) * 64), .int .i64 ((u : Int) * 64), .int .i64 63, .int .i64 0]
 have hX := HX1.out.alloc (.cells #[.int .i64 (n : Int), .int .i64 0, .int .i64 0, .int .i64 0, .int .i64 ((u : Int) * 64), .int .i64 ((u : Int) * 64), .int .i64 63, .int .i64 0] 204)
 generalize w1.alloc (.cells #[.int .i64 (n : Int), .int .i64 0, .int .i64 0, .int .i64 0, .int .i64 ((u : Int) * 64), .int .i64 ((u : Int) * 64), .int .i64 63, .int .i64 0] 204) = Wr at *
 have hK := H0.out.below hbA
 obtain ⟨b0, Ac, cc, Ad, cd, ha0, hlb, hm1, hma⟩ := hK.mod HU.out
 obtain ⟨c0, c1, _, _, _⟩ := hK.c5
 rw [ha0] at c0
 obtain ⟨b1, ha1, _, hlt1⟩ := own_addr hK.cp.mem (by rw [HK.out.l1]; decide)
 have hgl := hK.blk.lt
 obtain ⟨r, hr⟩ : ∃ r, r = runs k.mods[u].code 2000 ⟨0, [], [n, 0, 0, 0, 64 * u, 64 * u, 63, 0], [], k.mem.map Int.toNat⟩ := ⟨_, rfl⟩
 have HASK := Lib.hid (askK_of HU.out hr.symm)
 have HM : Hid (r.1.mem.length = k.mem.length) := by
  have := runs_mem (l := k.mods[u].code) 2000 ⟨0, [], [n, 0, 0, 0, 64 * u, 64 * u, 63, 0], [], k.mem.map Int.toNat⟩
  rw [← hr] at this
  show _ = _
  simpa using this
 have hm9 := HK.out.l1
 have hcl := hma.cl
 have hcall : ∀ W : World, Below Wr.heap.size Wr W → Calls Tryd.prog 156 #[.slice Ac k.mods[u].code.length cc, .agg #[.int .i64 (n : Int), .int .i64 0, .int .i64 0, .int .i64 0, .int .i64 ((u : Int) * 64), .int .i64 ((u : Int) * 64), .int .i64 63, .int .i64 0], .slice a.a1 k.mem.length a.c1, .int .i64 2000] W (RunPost W r 0) := fun W hW => by
  have := HR'.out Ac a.a1 cc a.c1 k.mods[u].code (n : Int) ((u : Int) * 64) k.mem W ((hma.code.below hW).more hW.size) ((HT.out.below hbA).below hW) (by unfold maxLen; omega) ((hK.krn.mem.below hW).more hW.size) (by rw [hm9]; decide) (fun e => by rw [ha1] at e; cases e)
  exact Calls.run_eq this (HRS.out.trans hr.symm) HE.out
 have hreg : ∀ W : World, Below Wr.heap.size Wr W → W.cell? ⟨w1.heap.size, 0, none⟩ = some (.int .i64 (n : Int)) ∧ W.cell? ⟨w1.heap.size, 1, none⟩ = some (.int .i64 0) ∧ W.cell? ⟨w1.heap.size, 2, none⟩ = some (.int .i64 0) ∧ W.cell? ⟨w1.heap.size, 3, none⟩ = some (.int .i64 0) ∧ W.cell? ⟨w1.heap.size, 4, none⟩ = some (.int .i64 ((u : Int) * 64)) ∧ W.cell? ⟨w1.heap.size, 5, none⟩ = some (.int .i64 ((u : Int) * 64)) ∧ W.cell? ⟨w1.heap.size, 6, none⟩ = some (.int .i64 63) ∧ W.cell? ⟨w1.heap.size, 7, none⟩ = some (.int .i64 0) := fun W hW => by
  have hA' := hA.below hW hA.lt
  exact ⟨hA'.cell 0, hA'.cell 1, hA'.cell 2, hA'.cell 3, hA'.cell 4, hA'.cell 5, hA'.cell 6, hA'.cell 7⟩
 have HBA := Lib.hid hbA
 clear hr hm9 hcl
 refine askReg Wr w.heap.size g b0 a.c0 u k.mods.length w1.heap.size (n : Int) ((u : Int) * 64) k.mods[u].code k.mem Ac a.a1 cc a.c1 r 0 Wr _ (below_drew1 _) hX.lt (hX.cell 0) hgl c0 c1 hlb hm1 HU.out hreg hcall ?_
 intro listed W y10 y11 y18 y19 y20 y21 y22 y23 y24 y25 y26 y27 y28 y29 y30 y31 y32 y33 y34 y35 y36 hall hJ
 obtain ⟨s, T, M, rfl, hge, hbl, hro⟩ := hJ.f20 (hall 20 (by decide))
 obtain rfl := hJ.f21 (hall 21 (by decide))
 have hw := hJ.w
 clear hJ hcall hreg hma c0 c1 ha1 hlt1 hm1
 have hro2 : W.ownsRow Wr.heap.size 3 1 M r.1.mem.length (natsV r.1.mem) := hro.2
 clear hro
 obtain ⟨AM, cM, rfl⟩ := own_slice hro2
 have hbw := HBA.out.trans (hw.mono HBA.out.size)
 have hK2 := H0.out.below hbw
 have m0 : W.cell? ⟨s, 0, none⟩ = some (.int .i64 (r.2 : Int)) := hbl.cell 0
 have m1 : W.cell? ⟨s, 1, none⟩ = some (.int .i64 ((r.1.regs.getD 0 0 : Nat) : Int)) := hbl.cell 1
 have m10 : W.cell? ⟨s, 10, none⟩ = some (.slice AM r.1.mem.length cM) := hbl.cell 10
 have sl := hbl.lt
 have gl2 := hK2.blk.lt
 have gf := hK2.blk.frozen 1
 have gc1 := hK2.c5.2.1
 have hne1 : ¬ s = g := by omega
 have hne2 : ¬ g = s := by omega
 have x0 := (hX.below hw hX.lt).cell 0
 have xl := (hX.below hw hX.lt).lt
 simp at x0
 clear hX
 have HRO := Lib.hid (own_base hro2 HBA.out.size)
 have HBW := Lib.hid hbw
 have HK2 := Lib.hid hK2
 obtain ⟨v, hv⟩ : ∃ v, v = r.1.regs.getD 0 0 := ⟨_, rfl⟩
 rw [← hv] at m1 HASK
 clear hro2 hbw hK2 hw hbl hA hK hv
 by_cases h1 : r.2 = 1
 ·have HA : Hid (askK k u n = some (v, { k with mem := r.1.mem.map fun (x : Nat) => (x : Int) })) := by
   show _ = _
   rw [HASK.out, if_pos h1]
  have hlen : (r.1.mem.map fun (x : Nat) => (x : Int)).length = r.1.mem.length := List.length_map _
  have HKM : Hid (KS B (W.setCell ⟨g, 1, none⟩ (.slice AM r.1.mem.length cM)) g { a with a1 := AM, c1 := cM } { k with mem := r.1.mem.map fun (x : Nat) => (x : Int) } ms es) := by
   have := KS.mem (A := AM) (c := cM) (m := r.1.mem.map fun (x : Nat) => (x : Int)) H0.out HBW.out (by rw [hlen, ints_nats]; exact HRO.out) (by rw [hlen]; exact HM.out)
   rw [hlen] at this
   exact this
  have HBF := Lib.hid (ask_fr HBW.out HK2.out H0.out.lt 1 (.slice AM r.1.mem.length cM))
  rw [h1] at m0
  clear HASK hlen h1
  go_wp2
  go_ret2
  exact ⟨HBF.out.1, HBF.out.2, .inr ⟨_, _, _, HA.out, rfl, HKM.out, rfl, rfl, rfl, rfl, rfl, rfl, rfl, rfl⟩⟩
 ·have HA : Hid (askK k u n = none) := by
   show _ = _
   rw [HASK.out, if_neg h1]
  have h2 : ¬ (r.2 : Int) = 1 := by omega
  have h3 : ((r.2 : Int) == 1) = false := by simpa using h2
  have HBF := Lib.hid (And.intro (Fr.low HBW.out (Nat.le_of_lt H0.out.lt)) (Tch.of_below (t := 36) HBW.out))
  clear HASK h1
  go_wp2
  go_ret2
  exact ⟨HBF.out.1, HBF.out.2, .inl ⟨HA.out, rfl, HK2.out⟩⟩
end
end Go.Proofs.YtdjamdbamkhblacDoor
