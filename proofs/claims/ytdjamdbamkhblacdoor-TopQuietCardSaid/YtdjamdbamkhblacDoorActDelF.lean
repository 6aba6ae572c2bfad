/- slices.DeleteFunc at acts. No condition. By an AI agent (xactdel.py). -/
import Derived.Test.YtdjamdbamkhblacDoorActDel
namespace Go.Proofs.YtdjamdbamkhblacDoor
open Go.RowKit
set_option linter.unusedVariables false
set_option linter.unusedSimpArgs false
theorem idxF_split {α : Type} (p : α → Bool) : ∀ (l : List α) (k : Nat), (idxF p l k = -1 ∧ l.filter (fun x => !p x) = l) ∨ ∃ (j : Nat) (h : j < l.length), idxF p l k = ((k + j : Nat) : Int) ∧ (l.take j).filter (fun x => !p x) = l.take j ∧ p l[j] = true
  | [], k => .inl ⟨rfl, rfl⟩
  | x :: r, k => by
    cases hp : p x with
    | true => exact .inr ⟨0, by simp, by rw [idxF, hp]; rfl, rfl, hp⟩
    | false =>
      rcases idxF_split p r (k + 1) with ⟨h1, h2⟩ | ⟨j, hj, h1, h2, h3⟩
      · exact .inl ⟨by rw [idxF, hp]; exact h1, by rw [List.filter_cons, hp, h2]; rfl⟩
      · exact .inr ⟨j + 1, by simpa using hj, by rw [idxF, hp]; simp only [Bool.false_eq_true, if_false]; rw [h1]; congr 1; omega, by rw [List.take_succ_cons, List.filter_cons, hp, h2]; rfl, h3⟩
theorem akt_set (l : List Akt) (i : Nat) (h : i < l.length) (j : Nat) (hj : j < 6) (u : Value) (y : Akt) (hy : [Value.int .i64 y.kind, .int .i64 y.p, .int .i64 y.n, .int .i64 y.m, .string y.name, .string y.data] = [Value.int .i64 l[i].kind, .int .i64 l[i].p, .int .i64 l[i].n, .int .i64 l[i].m, .string l[i].name, .string l[i].data].set j u) : Azr (l.set i y) = (Azr l).set (i * 6 + j) u :=
  Hz4 (fun x : Akt => [Value.int .i64 x.kind, .int .i64 x.p, .int .i64 x.n, .int .i64 x.m, .string x.name, .string x.data]) 6 (fun _ => rfl) l i h j hj u y hy
theorem own_akt {w : World} {base n c b : Nat} {l : List Akt} (h : w.ownsRow base 26 6 (.slice (some ⟨b, 0, none⟩) n c) n (Azr      l)) (hb : base ≤ b) (i : Nat) (hi : i < l.length) (y : Akt) :
    ((((((w.setCell ⟨b, i * 6, none⟩ (.int .i64 y.kind)).setCell ⟨b, i * 6 + 1, none⟩ (.int .i64 y.p)).setCell ⟨b, i * 6 + 2, none⟩ (.int .i64 y.n)).setCell ⟨b, i * 6 + 3, none⟩ (.int .i64 y.m)).setCell ⟨b, i * 6 + 4, none⟩ (.string y.name)).setCell ⟨b, i * 6 + 5, none⟩ (.string y.data)).ownsRow base 26 6 (.slice (some ⟨b, 0, none⟩) n c) n (Azr (l.set i y)) ∧ Below base w ((((((w.setCell ⟨b, i * 6, none⟩ (.int .i64 y.kind)).setCell ⟨b, i * 6 + 1, none⟩ (.int .i64 y.p)).setCell ⟨b, i * 6 + 2, none⟩ (.int .i64 y.n)).setCell ⟨b, i * 6 + 3, none⟩ (.int .i64 y.m)).setCell ⟨b, i * 6 + 4, none⟩ (.string y.name)).setCell ⟨b, i * 6 + 5, none⟩ (.string y.data)) := by
  have B := fun {W W' : World} (h : Below base W W') (o : Nat) (u : Value) => h.setCell (p := ⟨b, o, none⟩) hb u
  refine ⟨?_, B (B (B (B (B (B (Below.refl base w) _ _) _ _) _ _) _ _) _ _) _ _⟩
  have s0 := (Eza h (i * 6) (.int .i64 y.kind)).1
  have s1 := (Eza s0 (i * 6 + 1) (.int .i64 y.p)).1
  have s2 := (Eza s1 (i * 6 + 2) (.int .i64 y.n)).1
  have s3 := (Eza s2 (i * 6 + 3) (.int .i64 y.m)).1
  have s4 := (Eza s3 (i * 6 + 4) (.string y.name)).1
  have s5 := (Eza s4 (i * 6 + 5) (.string y.data)).1
  have e0 := akt_set l i hi 0 (by omega) (.int .i64 y.kind) ⟨y.kind, l[i].p, l[i].n, l[i].m, l[i].name, l[i].data⟩ rfl
  have e1 := akt_set (l.set i ⟨y.kind, l[i].p, l[i].n, l[i].m, l[i].name, l[i].data⟩) i (by simpa using hi) 1 (by omega) (.int .i64 y.p) ⟨y.kind, y.p, l[i].n, l[i].m, l[i].name, l[i].data⟩ (by simp)
  have e2 := akt_set (l.set i ⟨y.kind, y.p, l[i].n, l[i].m, l[i].name, l[i].data⟩) i (by simpa using hi) 2 (by omega) (.int .i64 y.n) ⟨y.kind, y.p, y.n, l[i].m, l[i].name, l[i].data⟩ (by simp)
  have e3 := akt_set (l.set i ⟨y.kind, y.p, y.n, l[i].m, l[i].name, l[i].data⟩) i (by simpa using hi) 3 (by omega) (.int .i64 y.m) ⟨y.kind, y.p, y.n, y.m, l[i].name, l[i].data⟩ (by simp)
  have e4 := akt_set (l.set i ⟨y.kind, y.p, y.n, y.m, l[i].name, l[i].data⟩) i (by simpa using hi) 4 (by omega) (.string y.name) ⟨y.kind, y.p, y.n, y.m, y.name, l[i].data⟩ (by simp)
  have e5 := akt_set (l.set i ⟨y.kind, y.p, y.n, y.m, y.name, l[i].data⟩) i (by simpa using hi) 5 (by omega) (.string y.data) y (by simp)
  rw [List.set_set] at e1 e2 e3 e4 e5
  rw [e5, e4, e3, e2, e1, e0]
  exact s5
theorem below_cells {B : Nat} {a : World} (b : Nat) (hb : B ≤ b) : ∀ (vs : List Value) (o : Nat) {w : World}, Below B a w → Below B a (w.setCells b o vs)
  | [], _, _, h => h
  | v :: r, o, w, h => below_cells b hb r (o + 1) (h.setCell (p := ⟨b, o, none⟩) hb v)
theorem zero_akt (w : World) : (zeroValue 26).run Tryd.prog w = .ok (.agg #[.int .i64 0, .int .i64 0, .int .i64 0, .int .i64 0, .string ⟨#[]⟩, .string ⟨#[]⟩]) w := by kernel_rfl
theorem run_clear_akt (w : World) (ty : TypeId) (b o n c : Nat) (hn : 0 < n) (hc : ∀ j, j < n * 6 → (w.cell? ⟨b, o + j, none⟩).isSome = true) (hf : ∀ j, j < n * 6 → w.frozen? ⟨b, o + j, none⟩ = false) :
    ∃ zs : List Value, zs.length = n * 6 ∧ (Builtin.clear_ #[27] ty #[.slice (some ⟨b, o, none⟩) n c]).run Tryd.prog w = .ok (.tuple #[]) (w.setCells b o zs) := by
  have hsz : (Builtin.zeroCells (Value.agg #[.int .i64 0, .int .i64 0, .int .i64 0, .int .i64 0, .string ⟨#[]⟩, .string ⟨#[]⟩]).cells n).size = n * 6 := by rw [size_zeroCells]; rfl
  obtain ⟨zs, hzs⟩ : ∃ zs, zs = (Builtin.zeroCells (Value.agg #[.int .i64 0, .int .i64 0, .int .i64 0, .int .i64 0, .string ⟨#[]⟩, .string ⟨#[]⟩]).cells n).toList := ⟨_, rfl⟩
  have hl : zs.length = n * 6 := by rw [hzs, Array.length_toList, hsz]
  have h1 : ∀ v ∈ zs, v.oneCell' = true := by
    intro v hv
    rw [hzs] at hv
    simp only [Builtin.zeroCells, Array.toList_map, Array.toList_range, List.mem_map, List.mem_range, Value.cells] at hv
    obtain ⟨q, _, rfl⟩ := hv
    have : q % 6 = 0 ∨ q % 6 = 1 ∨ q % 6 = 2 ∨ q % 6 = 3 ∨ q % 6 = 4 ∨ q % 6 = 5 := by omega
    show ((#[Value.int .i64 0, .int .i64 0, .int .i64 0, .int .i64 0, .string ⟨#[]⟩, .string ⟨#[]⟩] : Array Value)[q % 6]!).oneCell' = true
    rcases this with h | h | h | h | h | h <;> rw [h] <;> rfl
  have hst := run_storeCells_cells (P := Tryd.prog) b o zs 0 w (by simpa [hl] using hc) (by simpa [hl] using hf) h1
  simp only [Nat.add_zero] at hst
  obtain ⟨m, rfl⟩ : ∃ m, n = m + 1 := ⟨n - 1, by omega⟩
  refine ⟨zs, hl, ?_⟩
  simp [Builtin.clear_, run_underlying Tryd.underlying27, zero_akt, ← hzs, hst]
/-- A row of acts of its own, as memory. -/
theorem own_rows {w : World} {base n c b : Nat} {l : List Akt} (h : w.ownsRow base 26 6 (.slice (some ⟨b, 0, none⟩) n c) n (Azr l)) (hn : 0 < n) : base ≤ b ∧ b < w.heap.size ∧ (∀ j, j < n * 6 → (w.cell? ⟨b, j, none⟩).isSome = true) ∧ (∀ j, w.frozen? ⟨b, j, none⟩ = false) := by
  obtain ⟨hl, h⟩ := h
  rcases h with ⟨h, _⟩ | ⟨g, cap, cur, hv, hb, hh, hc, hz, hs, hx⟩
  · cases h
  · cases hv
    have hB : Blk w b 26 cur := hh
    refine ⟨hb, hB.lt, fun j hj => ?_, fun j => hB.frozen j⟩
    rw [hB.cell]
    have : j < cur.size := by
      have e := congrArg List.length hx
      rw [List.length_take, Array.length_toList, hl] at e
      omega
    simp [this]
set_option maxRecDepth 100000 in
set_option maxHeartbeats 4000000 in
theorem DeleteFunc_akt (F : FuncId) (cp : Array Value) (p : Akt → Bool) (A : Option Addr) (c base : Nat) (l : List Akt) (w : World) (ho : w.ownsRow base 26 6 (.slice A l.length c) l.length (Azr      l)) (hl : l.length ≤ 100000) (hB : base ≤ w.heap.size)
    (eg : ∀ args w, (callFunc F args).run Tryd.prog w = .ok (.enter F args) w)
    (hp : ∀ x ∈ l, ∀ w1 : World, Below base w w1 → Calls Tryd.prog F (#[.agg #[.int .i64 x.kind, .int .i64 x.p, .int .i64 x.n, .int .i64 x.m, .string x.name, .string x.data]] ++ cp) w1 fun e w' => e = .returned (.bool (p x)) ∧ Below w1.heap.size w1 w') :
    Calls Tryd.prog 34 #[.slice A l.length c, .func (.func F) #[] cp] w fun e w' => ∃ c', e = .returned (.slice A (l.filter fun x => !p x).length c') ∧ RdA w' w'.heap.size A (l.filter fun x => !p x) ∧ Below base w w' := by
  have HO := Lib.hid ho
  have HL := Lib.hid hl
  have HB := Lib.hid hB
  have HP := Lib.hid hp
  have HI := Lib.hid (IndexFunc_akt F cp p A c l w (RdA.of (Rd.of_own ho)) (by unfold maxLen; omega) eg fun x hx w1 hb => hp x hx w1 (hb.mono hB))
  clear ho hB hp
  go_enter Tryd.func34, Tryd.ntmps34
  go_wp2_with fail
  refine HI.out.mono ?_
  clear HI
  rcases idxF_split p l 0 with ⟨h1, h2⟩ | ⟨k0, hk0, h1, h2, h3⟩
  · rw [h1]
    rintro e w1 ⟨rfl, hb1⟩
    have HB1 := Lib.hid hb1
    have H2 := Lib.hid h2
    clear hb1 h1 h2
    go_wp2
    go_ret
    rw [H2.out]
    exact ⟨c, rfl, RdA.of (Rd.of_own (own_below HO.out HB1.out)), HB1.out.mono HB.out⟩
  · rw [h1, Nat.zero_add]
    rintro e w1 ⟨rfl, hb1⟩
    have hO1 := own_below HO.out hb1
    obtain ⟨b, rfl, _, _⟩ := Azx HO.out (by omega)
    have HO1 := Lib.hid hO1
    have HB1 := Lib.hid hb1
    have H2 := Lib.hid h2
    have H3 := Lib.hid h3
    have q1 : ((k0 : Int) == -1) = false := by rw [beq_eq_false_iff_ne]; omega
    clear hO1 hb1 h1 h2 h3
    have HS : Hid ((l.take (k0 + 1)).filter (fun x => !p x) = l.take k0) := by
      show _ = _
      rw [List.take_succ_eq_append_getElem hk0, List.filter_append, H2.out, List.filter_cons, H3.out]
      simp
    go_wp2_with fail
    go_loopw [5, 6] (fun V i wr => Cnt l.length i fun j => ∃ (q : Nat) (R : List Akt), V = .int .i64 (q : Int) ∧ q < j ∧ R.length = l.length ∧ wr.ownsRow base 26 6 (.slice (some ⟨b, 0, none⟩) l.length c) l.length (Azr R) ∧ R.take q = (l.take j).filter (fun x => !p x) ∧ R.drop j = l.drop j ∧ Below base w wr) (fun _ i _ => l.length - (intOf i).toNat)
    case atStart => exact ⟨k0 + 1, hk0, by go_num, k0, l, rfl, Nat.lt_succ_self _, rfl, HO1.out, HS.out.symm, rfl, HB1.out.mono HB.out⟩
    case round =>
      obtain ⟨j, hj, rfl, q, R, rfl, hqj, hRl, hO, hRq, hRj, hbw⟩ := hrel
      obtain ⟨hbb, hbs, hcs, hfz⟩ := own_rows hO (by omega)
      by_cases hlt : j < l.length
      · have hRx : R[j]'(by omega) = l[j] := by
          have e := congrArg (fun z : List Akt => z[0]?) hRj
          simp only [List.getElem?_drop, Nat.add_zero] at e
          rw [List.getElem?_eq_getElem (by omega), List.getElem?_eq_getElem hlt] at e
          exact Option.some.inj e
        obtain ⟨b', o', e', hb', hc'⟩ := (RdA.of (l := R) (by rw [hRl]; exact Rd.of_own hO)) (by omega)
        cases e'
        obtain ⟨c0, c1, c2, c3, c4, c5⟩ := hc' j (by omega)
        rw [hRx] at c0 c1 c2 c3 c4 c5
        rw [Nat.zero_add] at c0 c1 c2 c3 c4 c5
        have hm := List.getElem_mem hlt
        have htk : (l.take (j + 1)).filter (fun x => !p x) = (l.take j).filter (fun x => !p x) ++ (if p l[j] then [] else [l[j]]) := by
          rw [List.take_succ_eq_append_getElem hlt, List.filter_append, List.filter_cons]
          cases p l[j] <;> rfl
        have hdr : R.drop (j + 1) = l.drop (j + 1) := by
          have e := congrArg (List.drop 1) hRj
          rw [List.drop_drop, List.drop_drop] at e
          exact e
        obtain ⟨x, hx⟩ : ∃ x, x = l[j] := ⟨_, rfl⟩
        rw [← hx] at c0 c1 c2 c3 c4 c5 htk hm
        have hX := Blk.new wr 26 #[.int .i64 x.kind, .int .i64 x.p, .int .i64 x.n, .int .i64 x.m, .string x.name, .string x.data]
        have hba := Azc wr (.cells #[.int .i64 x.kind, .int .i64 x.p, .int .i64 x.n, .int .i64 x.m, .string x.name, .string x.data] 26)
        have HBW := Lib.hid (hbw.trans (hba.mono (Nat.le_trans HB.out hbw.size)))
        have HOW := Lib.hid (own_below hO hba)
        have HX := Lib.hid hX
        have HTK := Lib.hid htk
        have HDR := Lib.hid hdr
        have HRQ := Lib.hid hRq
        have HRL := Lib.hid hRl
        have HM := Lib.hid hm
        clear hX hba hRq hRj hRx hO hbw hx htk hdr hm hc' hRl hcs hfz
        go_upto_region 8 with fail
        refine (show ∀ W : World, Below base w W → W.ownsRow base 26 6 (.slice (some ⟨b, 0, none⟩) l.length c) l.length (Azr R) → Blk W wr.heap.size 26 #[.int .i64 x.kind, .int .i64 x.p, .int .i64 x.n, .int .i64 x.m, .string x.name, .string x.data] → Code.wp _ _ _ _ W from ?_) _ HBW.out HOW.out HX.out
        clear HBW HOW HX c0 c1 c2 c3 c4 c5 hb' hbs
        intro W hbW hO hX
        have HBW := Lib.hid hbW
        have HOW := Lib.hid hO
        have HX := Lib.hid hX
        have HC := Lib.hid (HP.out x HM.out W hbW)
        have x0 := hX.cell 0
        have x1 := hX.cell 1
        have x2 := hX.cell 2
        have x3 := hX.cell 3
        have x4 := hX.cell 4
        have x5 := hX.cell 5
        have xl := hX.lt
        simp at x0 x1 x2 x3 x4 x5
        clear hbW hO hX
        cases hpx : p x
        case true =>
          rw [hpx] at HTK
          go_wp2_with fail
          refine HC.out.mono ?_
          rw [hpx]
          rintro e w2 ⟨rfl, hb2⟩
          have HB2 := Lib.hid (HBW.out.trans (hb2.mono (Nat.le_trans HB.out HBW.out.size)))
          have HO2 := Lib.hid (own_below HOW.out hb2)
          clear HC HBW HOW HX hb2 x0 x1 x2 x3 x4 x5 xl
          go_wp2
          go_roundw
          case rel => exact ⟨j + 1, hlt, by go_num, q, R, rfl, by omega, HRL.out, HO2.out, by rw [HRQ.out, HTK.out]; simp, HDR.out, HB2.out⟩
          case measure => simp [intOf]; omega
        case false =>
          rw [hpx] at HTK
          go_wp2_with fail
          refine HC.out.mono ?_
          rw [hpx]
          rintro e w2 ⟨rfl, hb2⟩
          have hB2 := HBW.out.trans (hb2.mono (Nat.le_trans HB.out HBW.out.size))
          have hO2 := own_below HOW.out hb2
          have hX2 := HX.out.below hb2 HX.out.lt
          obtain ⟨hbb2, hbs2, hcs2, hfz2⟩ := own_rows hO2 (by omega)
          clear HC HBW HOW HX hb2 x0 x1 x2 x3 x4 x5 xl
          have x0 := hX2.cell 0
          have x1 := hX2.cell 1
          have x2 := hX2.cell 2
          have x3 := hX2.cell 3
          have x4 := hX2.cell 4
          have x5 := hX2.cell 5
          have xl := hX2.lt
          simp at x0 x1 x2 x3 x4 x5
          obtain ⟨u0, d0⟩ := Option.isSome_iff_exists.1 (hcs2 (q * 6) (by omega))
          obtain ⟨u1, d1⟩ := Option.isSome_iff_exists.1 (hcs2 (q * 6 + 1) (by omega))
          obtain ⟨u2, d2⟩ := Option.isSome_iff_exists.1 (hcs2 (q * 6 + 2) (by omega))
          obtain ⟨u3, d3⟩ := Option.isSome_iff_exists.1 (hcs2 (q * 6 + 3) (by omega))
          obtain ⟨u4, d4⟩ := Option.isSome_iff_exists.1 (hcs2 (q * 6 + 4) (by omega))
          obtain ⟨u5, d5⟩ := Option.isSome_iff_exists.1 (hcs2 (q * 6 + 5) (by omega))
          have f0 := hfz2 (q * 6)
          have f1 := hfz2 (q * 6 + 1)
          have f2 := hfz2 (q * 6 + 2)
          have f3 := hfz2 (q * 6 + 3)
          have f4 := hfz2 (q * 6 + 4)
          have f5 := hfz2 (q * 6 + 5)
          have hqn : (q : Int) < (l.length : Int) := by omega
          have HN := Lib.hid (own_akt hO2 hbb2 q (by rw [HRL.out]; omega) x)
          have HB2 := Lib.hid hB2
          clear hO2 hB2 hX2 hcs2 hfz2
          go_wp2
          go_roundw
          case rel => exact ⟨j + 1, hlt, by go_num, q + 1, R.set q x, by go_num, by omega, by rw [List.length_set]; exact HRL.out, HN.out.1, by
            rw [HTK.out, List.take_set, List.take_succ_eq_append_getElem (by rw [HRL.out]; omega), HRQ.out]
            rw [List.set_append_right _ _ (by rw [← HRQ.out, List.length_take]; omega)]
            have : q - ((l.take j).filter fun x => !p x).length = 0 := by have := HRL.out; rw [← HRQ.out, List.length_take]; omega
            rw [this]
            rfl, by rw [List.drop_set_of_lt (by omega)]; exact HDR.out, HB2.out.trans HN.out.2⟩
          case measure => simp [intOf]; omega
      · obtain rfl : j = l.length := by omega
        have hq2 : (q : Int) ≤ (l.length : Int) := by omega
        have hqc : l.length ≤ c := (Dz8 hO).2
        have hq3 : (q : Int) ≤ (c : Int) := by omega
        obtain ⟨zs, hzl, hcl⟩ := run_clear_akt wr 0 b (q * 6) (l.length - q) (c - q) (by omega) (fun i hi => hcs _ (by omega)) (fun i hi => hfz _)
        rw [List.take_length] at hRq
        have HN : Hid (RdA (wr.setCells b (q * 6) zs) (wr.setCells b (q * 6) zs).heap.size (some ⟨b, 0, none⟩) (l.filter fun x => !p x) ∧ Below base w (wr.setCells b (q * 6) zs) ∧ (l.filter fun x => !p x).length = q) := by
          have hr := RdA.of (l := R) (by rw [hRl]; exact Rd.of_own hO)
          have hb' : Below base w (wr.setCells b (q * 6) zs) := below_cells b hbb zs (q * 6) hbw
          have hlq : (l.filter fun x => !p x).length = q := by rw [← hRq, List.length_take]; omega
          refine ⟨fun hn => ?_, hb', hlq⟩
          obtain ⟨b', o', e', hb2, hc'⟩ := hr (by omega)
          cases e'
          refine ⟨b, 0, rfl, Nat.lt_of_lt_of_le hbs (Below.size (below_cells b (Nat.le_refl b) zs (q * 6) (Below.refl b wr))), fun k hk => ?_⟩
          have hkR : k < R.length := by omega
          have hk' := hc' k hkR
          have e : (l.filter fun x => !p x)[k] = R[k] := by
            have := List.getElem_take (xs := R) (i := k) (j := q) (h := by rw [List.length_take]; omega)
            rw [← this]
            simp only [hRq]
          rw [e]
          obtain ⟨y0, y1, y2, y3, y4, y5⟩ := hk'
          have out := fun (o : Nat) (ho : o < q * 6) => World.cell?_setCells_out b zs (q * 6) wr ⟨b, o, none⟩ (fun _ _ => .inl ho)
          exact ⟨(out _ (by omega)).trans y0, (out _ (by omega)).trans y1, (out _ (by omega)).trans y2, (out _ (by omega)).trans y3, (out _ (by omega)).trans y4, (out _ (by omega)).trans y5⟩
        clear hRq hRj hO hbw hRl hcs hfz hlt
        go_wp2_with (simp only [hcl])
        go_ret
        rw [HN.out.2.2]
        exact ⟨_, rfl, HN.out.1, HN.out.2.1⟩
end Go.Proofs.YtdjamdbamkhblacDoor
