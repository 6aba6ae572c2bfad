/- The walk of code.line: a line that is read. Condition: the library's variables and the tables (EnvT). By an AI agent (xline.py). -/
import Derived.Test.YtdjamdbamkhblacDoorPart
import Derived.Test.YtdjamdbamkhblacDoorShow
import Derived.Test.YtdjamdbamkhblacDoorCalm
import Derived.StillTailTactics
namespace Go.Proofs.YtdjamdbamkhblacDoor
open Go.RowKit
set_option linter.unusedVariables false
set_option linter.unusedSimpArgs false
attribute [local go_sem] After.cell
/-- What line answers. -/
def LinePost (s : List UInt8) (w : World) (e : Ending) (w' : World) : Prop :=
  (∃ (i : Ins) (b : Bool), e = .returned (.tuple #[.agg #[.int .i64 i.op, .int .i64 i.a, .int .i64 i.b, .int .i64 i.c], .bool b]) ∧ (∀ j, lineL s = some j → b = true ∧ i = j) ∧ (lineL s = none → b = false)) ∧ Below w.heap.size w w'
theorem LinePost.no {s : List UInt8} {w w' : World} {i : Ins} {e : Ending} (h : lineL s = none) (he : e = .returned (.tuple #[.agg #[.int .i64 i.op, .int .i64 i.a, .int .i64 i.b, .int .i64 i.c], .bool false])) (hb : Below w.heap.size w w') : LinePost s w e w' :=
  ⟨⟨i, false, he, (fun n hn => by rw [h] at hn; cases hn), fun _ => rfl⟩, hb⟩
theorem LinePost.yes {s : List UInt8} {w w' : World} {i : Ins} {e : Ending} (h : lineL s = some i) (he : e = .returned (.tuple #[.agg #[.int .i64 i.op, .int .i64 i.a, .int .i64 i.b, .int .i64 i.c], .bool true])) (hb : Below w.heap.size w w') : LinePost s w e w' :=
  ⟨⟨i, true, he, (fun m hm => by rw [h] at hm; cases hm; exact ⟨rfl, rfl⟩), fun hn => by rw [h] at hn; cases hn⟩, hb⟩
theorem words_len (s : List UInt8) : ∀ x ∈ wordsL s, x.length ≤ s.length := by
  induction s with
  | nil => intro x hx; simp [wordsL] at hx; subst hx; exact Nat.le_refl _
  | cons c r ih =>
    intro x hx
    rw [wordsL] at hx
    split at hx
    · rcases List.mem_cons.1 hx with rfl | hx
      · simp
      · have := ih x hx; simp; omega
    · cases hw : wordsL r with
      | nil => exact absurd hw (wordsL_ne r)
      | cons y ys =>
        rw [hw] at hx ih
        rcases List.mem_cons.1 hx with rfl | hx
        · have := ih y (by simp); simp; omega
        · have := ih x (by simp [hx]); simp; omega
/-- Words that are left: a row of strings in block b. -/
def RdW (b : Nat) (w : World) (A : Option Addr) (ws : List ByteArray) : Prop :=
  0 < ws.length → ∃ u, A = some ⟨b, u, none⟩ ∧ ∀ k (h : k < ws.length), w.cell? ⟨b, u + k, none⟩ = some (.string ws[k])
theorem RdW.below {b : Nat} {w w' : World} {A : Option Addr} {ws : List ByteArray} (h : RdW b w A ws) (hb : Below w.heap.size w w') (hlt : b < w.heap.size) : RdW b w' A ws := fun hl => by
  obtain ⟨u, e, hc⟩ := h hl
  exact ⟨u, e, fun k hk => (hb.cell (p := ⟨b, u + k, none⟩) hlt).trans (hc k hk)⟩
theorem lineL_eq {s w0 : List UInt8} {r : List (List UInt8)} (h : wordsL s = w0 :: r) : lineL s = if opOf w0 = 0 then none else match partsL (shL (opOf w0)) r with
    | some ([a, b, c], []) => some ⟨opOf w0, a, b, c⟩
    | _ => none := by
  unfold lineL
  rw [h]
  rfl
theorem parts45 (cs : List UInt8) (ws : List (List UInt8)) (ns : List Nat) : (partsL (45 :: cs) ws).map (fun x => (ns ++ x.1, x.2)) = (partsL cs ws).map fun x => ((ns ++ [0]) ++ x.1, x.2) := by
  rw [partsL.eq_def]
  simp only [if_true]
  cases partsL cs ws with
  | none => rfl
  | some x => simp
theorem partsC {c : UInt8} (hc : c ≠ 45) {t : List UInt8} {n : Nat} (h : partL c t = some n) (cs : List UInt8) (r : List (List UInt8)) (ns : List Nat) : (partsL (c :: cs) (t :: r)).map (fun x => (ns ++ x.1, x.2)) = (partsL cs r).map fun x => ((ns ++ [n]) ++ x.1, x.2) := by
  rw [partsL.eq_def]
  simp only
  rw [if_neg hc, h]
  simp only [Option.bind_some]
  cases partsL cs r with
  | none => rfl
  | some x => simp
theorem partsN {c : UInt8} (hc : c ≠ 45) {t : List UInt8} (h : partL c t = none) (cs : List UInt8) (r : List (List UInt8)) : partsL (c :: cs) (t :: r) = none := by
  rw [partsL.eq_def]
  simp only
  rw [if_neg hc, h]
  rfl
theorem partsE {c : UInt8} (hc : c ≠ 45) (cs : List UInt8) : partsL (c :: cs) [] = none := by
  rw [partsL.eq_def]
  simp only
  rw [if_neg hc]
theorem dl_len (x : ByteArray) : x.data.toList.length = x.size := Array.length_toList
def lls (ws : List ByteArray) : List (List UInt8) := ws.map fun x => x.data.toList
theorem split_lls (s : ByteArray) : lls (Lib.splitB ⟨#[32]⟩ 0 (Lib.countB s ⟨#[32]⟩) s) = wordsL s.data.toList := by
  unfold lls
  rw [Lib.splitB_data]
  exact split_words _ _ (Nat.le_refl _)
theorem split_len (s : ByteArray) : (Lib.splitB ⟨#[32]⟩ 0 (Lib.countB s ⟨#[32]⟩) s).length = Lib.countB s ⟨#[32]⟩ + 1 := Lib.splitB_all ⟨#[32]⟩ (by decide) 0 _ s rfl
theorem namesB_cell {w : World} (h : TabN w) (j : Nat) (hj : j < namesB.length) : w.cell? ⟨0, 1 + j, none⟩ = some (.string (namesB.getD j ByteArray.empty)) := by
  have hl : namesB.length = 15 := by simp [namesB]
  rw [namesB_at (by omega), h.2 (1 + j) (by omega), Nat.add_comm]
set_option maxRecDepth 100000 in
set_option maxHeartbeats 4000000 in
theorem line_any (s : ByteArray) (hs : s.size ≤ 4000) (w : World) (he : EnvT w) :
    Calls Tryd.prog 60 #[.string s] w (LinePost s.data.toList w) := by
  have HE := Lib.hid he
  obtain ⟨ws, hws⟩ : ∃ ws, ws = Lib.splitB ⟨#[32]⟩ 0 (Lib.countB s ⟨#[32]⟩) s := ⟨_, rfl⟩
  have hll : lls ws = wordsL s.data.toList := by rw [hws]; exact split_lls s
  have hln : Lib.countB s ⟨#[32]⟩ + 1 = ws.length := by rw [hws]; exact (split_len s).symm
  have HSP : Hid (∀ W : World, EnvT W → Calls Tryd.prog 95 #[.string s, .string ⟨#[32]⟩] W fun e w' => e = .returned (.slice (some ⟨W.heap.size, 0, none⟩) ws.length ws.length) ∧ w' = W.alloc (.cells (ws.map Value.string).toArray 9)) := fun W hW => by
    obtain ⟨m, hm⟩ := hW.mx.2
    have := Tryd.strings_Split s ⟨#[32]⟩ m W (by omega) hm (by decide)
    rw [hln, ← hws] at this
    exact this
  have h0 : 0 < ws.length := by omega
  have hwl : ∀ x ∈ ws, x.size ≤ 4000 := fun x hx => by
    have h1 : x.data.toList ∈ lls ws := List.mem_map_of_mem hx
    rw [hll] at h1
    have h2 := words_len _ _ h1
    have e1 := dl_len x
    have e2 := dl_len s
    omega
  have h63 : ws.length ≤ 4001 := by
    have e2 := dl_len s
    have := Lib.countB_le ⟨#[32]⟩ (by decide) s.size s (Nat.le_refl _)
    omega
  obtain ⟨x0, xs, rfl⟩ : ∃ x0 xs, ws = x0 :: xs := by
    cases ws with
    | nil => simp at h0
    | cons a b => exact ⟨a, b, rfl⟩
  have HL := Lib.hid (lineL_eq (s := s.data.toList) (w0 := x0.data.toList) (r := lls xs) (by rw [← hll]; rfl))
  have HWL := Lib.hid hwl
  have hxl : xs.length ≤ 4000 := by simp at h63; omega
  clear he hws hln hll hwl h63 h0
  go_enter Tryd.func60, Tryd.ntmps60
  go_upto_region 1 with fail
  refine (show ∀ W : World, W = w.alloc (.cells #[.int .i64 0, .int .i64 0, .int .i64 0, .int .i64 0] 65) → Code.wp _ _ _ _ W from ?_) _ rfl
  intro W1 hW1
  have hb1 : Below w.heap.size w W1 := by rw [hW1]; exact (Below.refl w.heap.size w).alloc (Nat.le_refl _) _
  have hr1 : Blk W1 w.heap.size 65 #[.int .i64 0, .int .i64 0, .int .i64 0, .int .i64 0] := by rw [hW1]; exact Blk.new w _ _
  clear hW1
  have HB1 := Lib.hid hb1
  have HR1 := Lib.hid hr1
  have HE1 := Lib.hid (HE.out.below hb1)
  clear hb1 hr1
  go_wp2_with fail
  refine (HSP.out W1 HE1.out).mono ?_
  rintro e W2 ⟨rfl, hW2⟩
  have hb2 : Below W1.heap.size W1 W2 := by rw [hW2]; exact (Below.refl W1.heap.size W1).alloc (Nat.le_refl _) _
  have hq2 : Blk W2 W1.heap.size 9 ((x0 :: xs).map Value.string).toArray := by rw [hW2]; exact Blk.new W1 _ _
  clear hW2 HSP
  have HB2 := Lib.hid (HB1.out.trans (hb2.mono HB1.out.size))
  have HR2 := Lib.hid (HR1.out.below hb2 HR1.out.lt)
  have HE2 := Lib.hid (HE1.out.below hb2)
  have hws0 : W2.cell? ⟨W1.heap.size, 0, none⟩ = some (.string x0) := by rw [hq2.cell]; simp
  have hwl2 := hq2.lt
  have HRW : Hid (RdW W1.heap.size W2 (some ⟨W1.heap.size, 0, none⟩) (x0 :: xs)) := fun _ => ⟨0, rfl, fun k hk => by rw [Nat.zero_add, hq2.cell, List.getElem?_toArray, List.getElem?_map, List.getElem?_eq_getElem hk]; rfl⟩
  have hlw1 : w.heap.size < W1.heap.size := HR1.out.lt
  clear hb2 hq2 HB1 HR1 HE1
  obtain ⟨q, hq⟩ : ∃ q, q = opOf x0.data.toList := ⟨_, rfl⟩
  have hIX : Hid (∀ X : After W2, Calls Tryd.prog 96 #[.slice (some ⟨0, 1, none⟩) 15 15, .string x0] X.w' fun e w' => e = .returned (.int .i64 ((q : Int) - 1)) ∧ X.w' = w') := fun X => by
    refine (Tryd.slices_Index_string 0 1 15 15 namesB x0 X.w' (by simp [namesB]) (by omega) (fun j hj => namesB_cell ((HE2.out.below X.h).tab.2.1) j hj)).mono ?_
    rintro e w' ⟨rfl, rfl⟩
    have e1 : namesB.take 15 = namesB := List.take_of_length_le (by simp [namesB])
    have e2 := names_idx x0.data.toList
    rw [ba_of_list rfl, ← hq] at e2
    rw [e1, e2]
    exact ⟨rfl, rfl⟩
  rw [← hq] at HL
  have hq15 : q ≤ 15 := by
    by_cases h : q = 0
    · omega
    · rw [hq]; exact (opOf_some (by rw [← hq]; exact h)).2.1
  clear hq
  go_upto_region 2 with fail
  refine wp_region_calm (by kernel_rfl) (by kernel_rfl) ?_
  repeat (go_big_quiet_step ((rename_i X; exact Calls.calm_same (hIX.out X))))
  refine wpQuiet_nil ?_
  rintro W3 ⟨⟨_, hb3⟩, rfl⟩
  rename_i W3
  clear hIX
  have HB3 := Lib.hid (HB2.out.trans (hb3.mono HB2.out.size))
  have HR3 := Lib.hid (HR2.out.below hb3 HR2.out.lt)
  have HRW3 := Lib.hid (HRW.out.below hb3 hwl2)
  have hw3 : W1.heap.size < W3.heap.size := Nat.lt_of_lt_of_le hwl2 hb3.size
  have hw3' : W1.heap.size < W3.heap.size := hw3
  clear hws0 hwl2 HRW HR2 HB2 HE2 hb3
  by_cases hq0 : q = 0
  · subst hq0
    have HV := Lib.hid (HL.out.trans (if_pos rfl))
    have r0 := HR3.out.cell 0
    have r1 := HR3.out.cell 1
    have r2 := HR3.out.cell 2
    have r3 := HR3.out.cell 3
    have f0 := HR3.out.frozen 0
    have f1 := HR3.out.frozen 1
    have f2 := HR3.out.frozen 2
    have f3 := HR3.out.frozen 3
    have rl := HR3.out.lt
    simp at r0 r1 r2 r3
    have HBE := Lib.hid ((((HB3.out.setCell (p := ⟨w.heap.size, 0, none⟩) (Nat.le_refl _) (.int .i64 0)).setCell (p := ⟨w.heap.size, 1, none⟩) (Nat.le_refl _) (.int .i64 0)).setCell (p := ⟨w.heap.size, 2, none⟩) (Nat.le_refl _) (.int .i64 0)).setCell (p := ⟨w.heap.size, 3, none⟩) (Nat.le_refl _) (.int .i64 0))
    go_wp2
    refine bodyPost_ret (v := .tuple #[.agg #[.int .i64 0, .int .i64 0, .int .i64 0, .int .i64 0], .bool false]) (by simp [results, Tryd.results60, go_sem, r0, r1, r2, r3]) rfl ?_
    exact LinePost.no (i := ⟨0, 0, 0, 0⟩) HV.out rfl HBE.out
  have HV := Lib.hid (HL.out.trans (if_neg hq0))
  have hq1 : 1 ≤ q := by omega
  have hqi : ((q : Int) == 0) = false := by rw [beq_eq_false_iff_ne]; omega
  have hs3 : (shp q).size = 3 := shp_size hq1 hq15
  obtain ⟨s0, s1, s2, hsl, hb0, hb1', hb2', k0, k1, k2⟩ := shl_parts hq1 hq15 hs3
  rw [hsl] at HV
  clear HL hq0 hsl
  have hi4 := Blk.new W3 65 #[.int .i64 q, .int .i64 0, .int .i64 0, .int .i64 0]
  have hn4 := (Below.refl W3.heap.size W3).alloc (Nat.le_refl _) (.cells #[.int .i64 q, .int .i64 0, .int .i64 0, .int .i64 0] 65)
  go_upto_region 7 with fail
  have hA4' : RdW W1.heap.size W3 (if xs = [] then some ⟨W1.heap.size, 0, none⟩ else some ⟨W1.heap.size, 1, none⟩) xs := fun hl => by
    obtain ⟨u, e, hc⟩ := HRW3.out (by simp)
    cases e
    rw [if_neg (by intro h; rw [h] at hl; simp at hl)]
    refine ⟨1, rfl, fun k hk => ?_⟩
    have := hc (k + 1) (by simp; omega)
    rw [Nat.zero_add] at this
    rw [Nat.add_comm 1 k]
    exact this
  generalize hA4 : (if xs = [] then (some ⟨W1.heap.size, 0, none⟩ : Option Addr) else some ⟨W1.heap.size, 1, none⟩) = A4 at *
  refine (show ∀ W : World, Below w.heap.size w W → Blk W w.heap.size 65 #[.int .i64 0, .int .i64 0, .int .i64 0, .int .i64 0] → Blk W W3.heap.size 65 #[.int .i64 q, .int .i64 0, .int .i64 0, .int .i64 0] → RdW W1.heap.size W A4 xs → Code.wp _ _ _ _ W from ?_) _ (HB3.out.trans (hn4.mono HB3.out.size)) (HR3.out.alloc _) hi4 (hA4'.below hn4 hw3)
  clear hi4 hn4 HB3 HR3 HRW3 hA4 hA4'
  intro W4 hb4 hr4 hi4 hrw4
  have hbn := (Below.refl W4.heap.size W4).alloc (Nat.le_refl _) (.cells #[.pointer (some ⟨W3.heap.size, 1, none⟩), .pointer (some ⟨W3.heap.size, 2, none⟩), .pointer (some ⟨W3.heap.size, 3, none⟩)] 156)
  have HP5 := Lib.hid (Blk.new W4 156 #[.pointer (some ⟨W3.heap.size, 1, none⟩), .pointer (some ⟨W3.heap.size, 2, none⟩), .pointer (some ⟨W3.heap.size, 3, none⟩)])
  have HB5 := Lib.hid (hb4.trans (hbn.mono hb4.size))
  have HR5 := Lib.hid (hr4.below hbn hr4.lt)
  have HI5 := Lib.hid (hi4.below hbn hi4.lt)
  have hw4 : W3.heap.size < W4.heap.size := hi4.lt
  have hb14 : W1.heap.size < W4.heap.size := by omega
  have HRW5 := Lib.hid (hrw4.below hbn hb14)
  clear hbn hb4 hr4 hi4 hrw4
  go_wp2_with fail
  have HXS := Lib.hid (show ∀ x ∈ xs, x.size ≤ 4000 from fun x hx => HWL.out x (List.mem_cons_of_mem _ hx))
  go_loopw [32, 4] (fun i V wq => Cnt 3 i fun k => ∃ (A : Option Addr) (c : Nat) (rem : List ByteArray) (ns : List Nat), V = .slice A rem.length c ∧ rem.length ≤ c ∧ rem.length ≤ 4000 ∧ c ≤ 4001 ∧ ns.length = k ∧ Hid (RdW W1.heap.size wq A rem) ∧ Hid (partsL [s0, s1, s2] (lls xs) = (partsL ([s0, s1, s2].drop k) (lls rem)).map fun x => (ns ++ x.1, x.2)) ∧ Hid (∀ x ∈ rem, x.size ≤ 4000) ∧ Hid (Blk wq W3.heap.size 65 #[.int .i64 q, .int .i64 (ns.getD 0 0 : Nat), .int .i64 (ns.getD 1 0 : Nat), .int .i64 (ns.getD 2 0 : Nat)]) ∧ Hid (Blk wq W4.heap.size 156 #[.pointer (some ⟨W3.heap.size, 1, none⟩), .pointer (some ⟨W3.heap.size, 2, none⟩), .pointer (some ⟨W3.heap.size, 3, none⟩)]) ∧ Hid (Blk wq w.heap.size 65 #[.int .i64 0, .int .i64 0, .int .i64 0, .int .i64 0]) ∧ Hid (Below w.heap.size w wq)) (fun i _ _ => 3 - (intOf i).toNat)
  case atStart =>
    refine ⟨0, by omega, rfl, _, _, xs, [], rfl, Nat.le_refl _, hxl, by omega, rfl, HRW5, ?_, HXS, HI5, HP5, HR5, HB5⟩
    show _ = _
    simp only [List.drop_zero, List.nil_append]
    cases partsL [s0, s1, s2] (lls xs) with
    | none => rfl
    | some x => rfl
  case round =>
    clear HRW5 HXS HI5 HP5 HR5 HB5
    obtain ⟨k, hk, rfl, A, c, rem, ns, rfl, hrc, hr4, hc4, hns, HRW, HPA, HXS, HI, HP, HR, HB⟩ := hrel
    by_cases hk3 : k < 3
    · have p0 := HP.out.cell 0
      have p1 := HP.out.cell 1
      have p2 := HP.out.cell 2
      have pl := HP.out.lt
      simp at p0 p1 p2
      have ht := (HE.out.below HB.out).tab.1
      have tq := ht.2 q (by omega)
      have tg := ht.1
      clear ht hk
      have hk' : k = 0 ∨ k = 1 ∨ k = 2 := by omega
      clear hk3
      rcases hk' with rfl | rfl | rfl
      · obtain rfl := List.eq_nil_of_length_eq_zero hns
        by_cases h45 : s0 = 45
        · subst h45
          clear hb1' hb2'
          have HPA2 := Lib.hid (HPA.out.trans (parts45 [s1, s2] (lls rem) []))
          clear HPA
          go_wp2_with fail
          exact ⟨⟨1, by omega, by go_num, A, c, rem, [] ++ [0], rfl, hrc, hr4, hc4, rfl, HRW, HPA2, HXS, HI, HP, HR, HB⟩, by simp [intOf]⟩
        have hcc : s0 = 114 ∨ s0 = 119 ∨ s0 = 112 := by
          rcases k0 with h | h | h | h
          · exact .inl h
          · exact absurd h h45
          · exact .inr (.inl h)
          · exact .inr (.inr h)
        have hcb : (((s0.toNat : Nat) : Int) == 45) = false := by rcases hcc with rfl | rfl | rfl <;> rfl
        clear k0 k1 k2 hb1' hb2'
        cases rem with
        | nil =>
          have HVN : Hid (lineL s.data.toList = none) := by
            show _ = _
            have e := HPA.out.trans (congrArg _ (partsE h45 [s1, s2]))
            rw [HV.out, e]
            rfl
          clear HPA HRW HXS HI HP HV
          have r0 := HR.out.cell 0
          have r1 := HR.out.cell 1
          have r2 := HR.out.cell 2
          have r3 := HR.out.cell 3
          have f0 := HR.out.frozen 0
          have f1 := HR.out.frozen 1
          have f2 := HR.out.frozen 2
          have f3 := HR.out.frozen 3
          have rl := HR.out.lt
          simp at r0 r1 r2 r3
          have HBE := Lib.hid ((((HB.out.setCell (p := ⟨w.heap.size, 0, none⟩) (Nat.le_refl _) (.int .i64 0)).setCell (p := ⟨w.heap.size, 1, none⟩) (Nat.le_refl _) (.int .i64 0)).setCell (p := ⟨w.heap.size, 2, none⟩) (Nat.le_refl _) (.int .i64 0)).setCell (p := ⟨w.heap.size, 3, none⟩) (Nat.le_refl _) (.int .i64 0))
          go_wp2
          refine bodyPost_ret (v := .tuple #[.agg #[.int .i64 0, .int .i64 0, .int .i64 0, .int .i64 0], .bool false]) (by simp [results, Tryd.results60, go_sem, r0, r1, r2, r3]) rfl ?_
          exact LinePost.no (i := ⟨0, 0, 0, 0⟩) HVN.out rfl HBE.out
        | cons y rem =>
          obtain ⟨u, rfl, hyc⟩ := HRW.out (by simp)
          have hy0 := hyc 0 (by simp)
          rw [Nat.add_zero] at hy0
          simp at hy0
          have hylt : W1.heap.size < wr.heap.size := World.block_lt_of_cell? _ _ hy0
          have HYC := Lib.hid hyc
          have hlr : (1 : Int) ≤ ((y :: rem).length : Int) := by simp; omega
          have HPT := Lib.hid (part_any y s0 hcc (by have := HXS.out y (by simp); omega) wr (HE.out.below HB.out))
          clear hyc HRW
          go_wp2_with fail
          refine HPT.out.mono ?_
          rintro e W7 ⟨⟨v, b, rfl, hsome, hnone⟩, hb7⟩
          clear HPT hy0 tq tg p0 p1 p2 pl
          have HB7 := Lib.hid (HB.out.trans (hb7.mono HB.out.size))
          have HR7 := Lib.hid (HR.out.below hb7 HR.out.lt)
          cases hp : partL s0 y.data.toList with
          | none =>
            obtain rfl := hnone hp
            have HVN : Hid (lineL s.data.toList = none) := by
              show _ = _
              have e := HPA.out.trans (congrArg _ (partsN h45 hp [s1, s2] (lls rem)))
              rw [HV.out, e]
              rfl
            clear HPA HXS HI HP HV hsome hnone hp HYC HR HB hb7
            have r0 := HR7.out.cell 0
            have r1 := HR7.out.cell 1
            have r2 := HR7.out.cell 2
            have r3 := HR7.out.cell 3
            have f0 := HR7.out.frozen 0
            have f1 := HR7.out.frozen 1
            have f2 := HR7.out.frozen 2
            have f3 := HR7.out.frozen 3
            have rl := HR7.out.lt
            simp at r0 r1 r2 r3
            have HBE := Lib.hid ((((HB7.out.setCell (p := ⟨w.heap.size, 0, none⟩) (Nat.le_refl _) (.int .i64 0)).setCell (p := ⟨w.heap.size, 1, none⟩) (Nat.le_refl _) (.int .i64 0)).setCell (p := ⟨w.heap.size, 2, none⟩) (Nat.le_refl _) (.int .i64 0)).setCell (p := ⟨w.heap.size, 3, none⟩) (Nat.le_refl _) (.int .i64 0))
            go_wp2
            refine bodyPost_ret (v := .tuple #[.agg #[.int .i64 0, .int .i64 0, .int .i64 0, .int .i64 0], .bool false]) (by simp [results, Tryd.results60, go_sem, r0, r1, r2, r3]) rfl ?_
            exact LinePost.no (i := ⟨0, 0, 0, 0⟩) HVN.out rfl HBE.out
          | some n =>
            obtain ⟨rfl, rfl⟩ := hsome n hp
            have HPA2 := Lib.hid (HPA.out.trans (partsC h45 hp [s1, s2] (lls rem) []))
            have HI7 : Hid (Blk W7 W3.heap.size 65 #[.int .i64 q, .int .i64 (0 : Nat), .int .i64 (0 : Nat), .int .i64 (0 : Nat)]) := HI.out.below hb7 HI.out.lt
            have HP7 := Lib.hid (HP.out.below hb7 HP.out.lt)
            have HRW7 : Hid (RdW W1.heap.size W7 (if c = 1 then some ⟨W1.heap.size, u, none⟩ else some ⟨W1.heap.size, u + 1, none⟩) rem) := fun hl => by
              rw [if_neg (by simp at hrc; omega)]
              refine ⟨u + 1, rfl, fun k hk => ?_⟩
              have := (hb7.cell (p := ⟨W1.heap.size, u + (k + 1), none⟩) hylt).trans (HYC.out (k + 1) (by simp; omega))
              rw [show u + 1 + k = u + (k + 1) by omega]
              exact this
            have HXS7 := Lib.hid (show ∀ x ∈ rem, x.size ≤ 4000 from fun x hx => HXS.out x (List.mem_cons_of_mem _ hx))
            clear HPA HXS HI HP hsome hnone hp HYC HR HB
            have w71 : W1.heap.size < W7.heap.size := Nat.lt_of_lt_of_le hylt hb7.size
            have i0 := HI7.out.cell 1
            have if0 := HI7.out.frozen 1
            have il := HI7.out.lt
            simp at i0
            have hrl : rem.length + 1 ≤ c := by simpa using hrc
            have hr5 : rem.length + 1 ≤ 4000 := by simpa using hr4
            clear hb7 hrc hr4
            have hne4 : W4.heap.size ≠ W3.heap.size := by omega
            have hne0 : w.heap.size ≠ W3.heap.size := by omega
            have HI8 : Hid (Blk (W7.drew.setCell ⟨W3.heap.size, 1, none⟩ (.int .i64 (n : Int))) W3.heap.size 65 #[.int .i64 q, .int .i64 (n : Nat), .int .i64 (0 : Nat), .int .i64 (0 : Nat)]) := HI7.out.drew.set_ 1 (.int .i64 (n : Int))
            have HP8 := Lib.hid (HP7.out.drew.far (p := ⟨W3.heap.size, 1, none⟩) hne4 (.int .i64 (n : Int)))
            have HR8 := Lib.hid (HR7.out.drew.far (p := ⟨W3.heap.size, 1, none⟩) hne0 (.int .i64 (n : Int)))
            have HB8 := Lib.hid ((HB7.out.trans ((Below.drewN' (Below.refl W7.heap.size W7) 1).mono HB7.out.size)).setCell (p := ⟨W3.heap.size, 1, none⟩) (by show w.heap.size ≤ W3.heap.size; omega) (.int .i64 (n : Int)))
            have HRW8 : Hid (∀ A : Option Addr, (0 < rem.length → A = some ⟨W1.heap.size, u + 1, none⟩) → RdW W1.heap.size (W7.drew.setCell ⟨W3.heap.size, 1, none⟩ (.int .i64 (n : Int))) A rem) := fun A hA hl => by
              have hc1 : c ≠ 1 := by omega
              obtain ⟨u', e, hc⟩ := HRW7.out hl
              rw [if_neg hc1] at e
              cases e
              refine ⟨u + 1, hA hl, fun k hk => ?_⟩
              rw [← hc k hk]
              exact ((Below.refl W3.heap.size W7.drew).setCell (p := ⟨W3.heap.size, 1, none⟩) (Nat.le_refl _) _).cell (p := ⟨W1.heap.size, u + 1 + k, none⟩) hw3'
            clear HRW7 HI7 HP7 HR7 HB7
            by_cases hc1 : c = 1
            · obtain rfl : rem = [] := List.eq_nil_of_length_eq_zero (by omega)
              subst hc1
              go_upto_region 17 with fail
              go_region
              all_goals
                go_wp2_with fail
                exact ⟨⟨1, by omega, by go_num, _, 0, [], [] ++ [n], rfl, by omega, by omega, by omega, rfl, HRW8.out _ (fun h => absurd h (by simp)), HPA2, HXS7, HI8, HP8, HR8, HB8⟩, by simp [intOf]⟩
            · go_upto_region 17 with fail
              go_region
              all_goals
                go_wp2_with fail
                exact ⟨⟨1, by omega, by go_num, _, _, rem, [] ++ [n], rfl, by omega, by omega, by omega, rfl, HRW8.out _ (fun _ => rfl), HPA2, HXS7, HI8, HP8, HR8, HB8⟩, by simp [intOf]⟩
      · obtain ⟨n0, rfl⟩ := List.length_eq_one_iff.1 hns
        by_cases h45 : s1 = 45
        · subst h45
          clear hb0 hb2'
          have HPA2 := Lib.hid (HPA.out.trans (parts45 [s2] (lls rem) [n0]))
          clear HPA
          go_wp2_with fail
          exact ⟨⟨2, by omega, by go_num, A, c, rem, [n0] ++ [0], rfl, hrc, hr4, hc4, rfl, HRW, HPA2, HXS, HI, HP, HR, HB⟩, by simp [intOf]⟩
        have hcc : s1 = 114 ∨ s1 = 119 ∨ s1 = 112 := by
          rcases k1 with h | h | h | h
          · exact .inl h
          · exact absurd h h45
          · exact .inr (.inl h)
          · exact .inr (.inr h)
        have hcb : (((s1.toNat : Nat) : Int) == 45) = false := by rcases hcc with rfl | rfl | rfl <;> rfl
        clear k0 k1 k2 hb0 hb2'
        cases rem with
        | nil =>
          have HVN : Hid (lineL s.data.toList = none) := by
            show _ = _
            have e := HPA.out.trans (congrArg _ (partsE h45 [s2]))
            rw [HV.out, e]
            rfl
          clear HPA HRW HXS HI HP HV
          have r0 := HR.out.cell 0
          have r1 := HR.out.cell 1
          have r2 := HR.out.cell 2
          have r3 := HR.out.cell 3
          have f0 := HR.out.frozen 0
          have f1 := HR.out.frozen 1
          have f2 := HR.out.frozen 2
          have f3 := HR.out.frozen 3
          have rl := HR.out.lt
          simp at r0 r1 r2 r3
          have HBE := Lib.hid ((((HB.out.setCell (p := ⟨w.heap.size, 0, none⟩) (Nat.le_refl _) (.int .i64 0)).setCell (p := ⟨w.heap.size, 1, none⟩) (Nat.le_refl _) (.int .i64 0)).setCell (p := ⟨w.heap.size, 2, none⟩) (Nat.le_refl _) (.int .i64 0)).setCell (p := ⟨w.heap.size, 3, none⟩) (Nat.le_refl _) (.int .i64 0))
          go_wp2
          refine bodyPost_ret (v := .tuple #[.agg #[.int .i64 0, .int .i64 0, .int .i64 0, .int .i64 0], .bool false]) (by simp [results, Tryd.results60, go_sem, r0, r1, r2, r3]) rfl ?_
          exact LinePost.no (i := ⟨0, 0, 0, 0⟩) HVN.out rfl HBE.out
        | cons y rem =>
          obtain ⟨u, rfl, hyc⟩ := HRW.out (by simp)
          have hy0 := hyc 0 (by simp)
          rw [Nat.add_zero] at hy0
          simp at hy0
          have hylt : W1.heap.size < wr.heap.size := World.block_lt_of_cell? _ _ hy0
          have HYC := Lib.hid hyc
          have hlr : (1 : Int) ≤ ((y :: rem).length : Int) := by simp; omega
          have HPT := Lib.hid (part_any y s1 hcc (by have := HXS.out y (by simp); omega) wr (HE.out.below HB.out))
          clear hyc HRW
          go_wp2_with fail
          refine HPT.out.mono ?_
          rintro e W7 ⟨⟨v, b, rfl, hsome, hnone⟩, hb7⟩
          clear HPT hy0 tq tg p0 p1 p2 pl
          have HB7 := Lib.hid (HB.out.trans (hb7.mono HB.out.size))
          have HR7 := Lib.hid (HR.out.below hb7 HR.out.lt)
          cases hp : partL s1 y.data.toList with
          | none =>
            obtain rfl := hnone hp
            have HVN : Hid (lineL s.data.toList = none) := by
              show _ = _
              have e := HPA.out.trans (congrArg _ (partsN h45 hp [s2] (lls rem)))
              rw [HV.out, e]
              rfl
            clear HPA HXS HI HP HV hsome hnone hp HYC HR HB hb7
            have r0 := HR7.out.cell 0
            have r1 := HR7.out.cell 1
            have r2 := HR7.out.cell 2
            have r3 := HR7.out.cell 3
            have f0 := HR7.out.frozen 0
            have f1 := HR7.out.frozen 1
            have f2 := HR7.out.frozen 2
            have f3 := HR7.out.frozen 3
            have rl := HR7.out.lt
            simp at r0 r1 r2 r3
            have HBE := Lib.hid ((((HB7.out.setCell (p := ⟨w.heap.size, 0, none⟩) (Nat.le_refl _) (.int .i64 0)).setCell (p := ⟨w.heap.size, 1, none⟩) (Nat.le_refl _) (.int .i64 0)).setCell (p := ⟨w.heap.size, 2, none⟩) (Nat.le_refl _) (.int .i64 0)).setCell (p := ⟨w.heap.size, 3, none⟩) (Nat.le_refl _) (.int .i64 0))
            go_wp2
            refine bodyPost_ret (v := .tuple #[.agg #[.int .i64 0, .int .i64 0, .int .i64 0, .int .i64 0], .bool false]) (by simp [results, Tryd.results60, go_sem, r0, r1, r2, r3]) rfl ?_
            exact LinePost.no (i := ⟨0, 0, 0, 0⟩) HVN.out rfl HBE.out
          | some n =>
            obtain ⟨rfl, rfl⟩ := hsome n hp
            have HPA2 := Lib.hid (HPA.out.trans (partsC h45 hp [s2] (lls rem) [n0]))
            have HI7 : Hid (Blk W7 W3.heap.size 65 #[.int .i64 q, .int .i64 (n0 : Nat), .int .i64 (0 : Nat), .int .i64 (0 : Nat)]) := HI.out.below hb7 HI.out.lt
            have HP7 := Lib.hid (HP.out.below hb7 HP.out.lt)
            have HRW7 : Hid (RdW W1.heap.size W7 (if c = 1 then some ⟨W1.heap.size, u, none⟩ else some ⟨W1.heap.size, u + 1, none⟩) rem) := fun hl => by
              rw [if_neg (by simp at hrc; omega)]
              refine ⟨u + 1, rfl, fun k hk => ?_⟩
              have := (hb7.cell (p := ⟨W1.heap.size, u + (k + 1), none⟩) hylt).trans (HYC.out (k + 1) (by simp; omega))
              rw [show u + 1 + k = u + (k + 1) by omega]
              exact this
            have HXS7 := Lib.hid (show ∀ x ∈ rem, x.size ≤ 4000 from fun x hx => HXS.out x (List.mem_cons_of_mem _ hx))
            clear HPA HXS HI HP hsome hnone hp HYC HR HB
            have w71 : W1.heap.size < W7.heap.size := Nat.lt_of_lt_of_le hylt hb7.size
            have i0 := HI7.out.cell 2
            have if0 := HI7.out.frozen 2
            have il := HI7.out.lt
            simp at i0
            have hrl : rem.length + 1 ≤ c := by simpa using hrc
            have hr5 : rem.length + 1 ≤ 4000 := by simpa using hr4
            clear hb7 hrc hr4
            have hne4 : W4.heap.size ≠ W3.heap.size := by omega
            have hne0 : w.heap.size ≠ W3.heap.size := by omega
            have HI8 : Hid (Blk (W7.drew.setCell ⟨W3.heap.size, 2, none⟩ (.int .i64 (n : Int))) W3.heap.size 65 #[.int .i64 q, .int .i64 (n0 : Nat), .int .i64 (n : Nat), .int .i64 (0 : Nat)]) := HI7.out.drew.set_ 2 (.int .i64 (n : Int))
            have HP8 := Lib.hid (HP7.out.drew.far (p := ⟨W3.heap.size, 2, none⟩) hne4 (.int .i64 (n : Int)))
            have HR8 := Lib.hid (HR7.out.drew.far (p := ⟨W3.heap.size, 2, none⟩) hne0 (.int .i64 (n : Int)))
            have HB8 := Lib.hid ((HB7.out.trans ((Below.drewN' (Below.refl W7.heap.size W7) 1).mono HB7.out.size)).setCell (p := ⟨W3.heap.size, 2, none⟩) (by show w.heap.size ≤ W3.heap.size; omega) (.int .i64 (n : Int)))
            have HRW8 : Hid (∀ A : Option Addr, (0 < rem.length → A = some ⟨W1.heap.size, u + 1, none⟩) → RdW W1.heap.size (W7.drew.setCell ⟨W3.heap.size, 2, none⟩ (.int .i64 (n : Int))) A rem) := fun A hA hl => by
              have hc1 : c ≠ 1 := by omega
              obtain ⟨u', e, hc⟩ := HRW7.out hl
              rw [if_neg hc1] at e
              cases e
              refine ⟨u + 1, hA hl, fun k hk => ?_⟩
              rw [← hc k hk]
              exact ((Below.refl W3.heap.size W7.drew).setCell (p := ⟨W3.heap.size, 2, none⟩) (Nat.le_refl _) _).cell (p := ⟨W1.heap.size, u + 1 + k, none⟩) hw3'
            clear HRW7 HI7 HP7 HR7 HB7
            by_cases hc1 : c = 1
            · obtain rfl : rem = [] := List.eq_nil_of_length_eq_zero (by omega)
              subst hc1
              go_upto_region 17 with fail
              go_region
              all_goals
                go_wp2_with fail
                exact ⟨⟨2, by omega, by go_num, _, 0, [], [n0] ++ [n], rfl, by omega, by omega, by omega, rfl, HRW8.out _ (fun h => absurd h (by simp)), HPA2, HXS7, HI8, HP8, HR8, HB8⟩, by simp [intOf]⟩
            · go_upto_region 17 with fail
              go_region
              all_goals
                go_wp2_with fail
                exact ⟨⟨2, by omega, by go_num, _, _, rem, [n0] ++ [n], rfl, by omega, by omega, by omega, rfl, HRW8.out _ (fun _ => rfl), HPA2, HXS7, HI8, HP8, HR8, HB8⟩, by simp [intOf]⟩
      · obtain ⟨n0, n1, rfl⟩ : ∃ a b, ns = [a, b] := by
          match ns, hns with
          | [a, b], _ => exact ⟨a, b, rfl⟩
        by_cases h45 : s2 = 45
        · subst h45
          clear hb0 hb1'
          have HPA2 := Lib.hid (HPA.out.trans (parts45 [] (lls rem) [n0, n1]))
          clear HPA
          go_wp2_with fail
          exact ⟨⟨3, by omega, by go_num, A, c, rem, [n0, n1] ++ [0], rfl, hrc, hr4, hc4, rfl, HRW, HPA2, HXS, HI, HP, HR, HB⟩, by simp [intOf]⟩
        have hcc : s2 = 114 ∨ s2 = 119 ∨ s2 = 112 := by
          rcases k2 with h | h | h | h
          · exact .inl h
          · exact absurd h h45
          · exact .inr (.inl h)
          · exact .inr (.inr h)
        have hcb : (((s2.toNat : Nat) : Int) == 45) = false := by rcases hcc with rfl | rfl | rfl <;> rfl
        clear k0 k1 k2 hb0 hb1'
        cases rem with
        | nil =>
          have HVN : Hid (lineL s.data.toList = none) := by
            show _ = _
            have e := HPA.out.trans (congrArg _ (partsE h45 []))
            rw [HV.out, e]
            rfl
          clear HPA HRW HXS HI HP HV
          have r0 := HR.out.cell 0
          have r1 := HR.out.cell 1
          have r2 := HR.out.cell 2
          have r3 := HR.out.cell 3
          have f0 := HR.out.frozen 0
          have f1 := HR.out.frozen 1
          have f2 := HR.out.frozen 2
          have f3 := HR.out.frozen 3
          have rl := HR.out.lt
          simp at r0 r1 r2 r3
          have HBE := Lib.hid ((((HB.out.setCell (p := ⟨w.heap.size, 0, none⟩) (Nat.le_refl _) (.int .i64 0)).setCell (p := ⟨w.heap.size, 1, none⟩) (Nat.le_refl _) (.int .i64 0)).setCell (p := ⟨w.heap.size, 2, none⟩) (Nat.le_refl _) (.int .i64 0)).setCell (p := ⟨w.heap.size, 3, none⟩) (Nat.le_refl _) (.int .i64 0))
          go_wp2
          refine bodyPost_ret (v := .tuple #[.agg #[.int .i64 0, .int .i64 0, .int .i64 0, .int .i64 0], .bool false]) (by simp [results, Tryd.results60, go_sem, r0, r1, r2, r3]) rfl ?_
          exact LinePost.no (i := ⟨0, 0, 0, 0⟩) HVN.out rfl HBE.out
        | cons y rem =>
          obtain ⟨u, rfl, hyc⟩ := HRW.out (by simp)
          have hy0 := hyc 0 (by simp)
          rw [Nat.add_zero] at hy0
          simp at hy0
          have hylt : W1.heap.size < wr.heap.size := World.block_lt_of_cell? _ _ hy0
          have HYC := Lib.hid hyc
          have hlr : (1 : Int) ≤ ((y :: rem).length : Int) := by simp; omega
          have HPT := Lib.hid (part_any y s2 hcc (by have := HXS.out y (by simp); omega) wr (HE.out.below HB.out))
          clear hyc HRW
          go_wp2_with fail
          refine HPT.out.mono ?_
          rintro e W7 ⟨⟨v, b, rfl, hsome, hnone⟩, hb7⟩
          clear HPT hy0 tq tg p0 p1 p2 pl
          have HB7 := Lib.hid (HB.out.trans (hb7.mono HB.out.size))
          have HR7 := Lib.hid (HR.out.below hb7 HR.out.lt)
          cases hp : partL s2 y.data.toList with
          | none =>
            obtain rfl := hnone hp
            have HVN : Hid (lineL s.data.toList = none) := by
              show _ = _
              have e := HPA.out.trans (congrArg _ (partsN h45 hp [] (lls rem)))
              rw [HV.out, e]
              rfl
            clear HPA HXS HI HP HV hsome hnone hp HYC HR HB hb7
            have r0 := HR7.out.cell 0
            have r1 := HR7.out.cell 1
            have r2 := HR7.out.cell 2
            have r3 := HR7.out.cell 3
            have f0 := HR7.out.frozen 0
            have f1 := HR7.out.frozen 1
            have f2 := HR7.out.frozen 2
            have f3 := HR7.out.frozen 3
            have rl := HR7.out.lt
            simp at r0 r1 r2 r3
            have HBE := Lib.hid ((((HB7.out.setCell (p := ⟨w.heap.size, 0, none⟩) (Nat.le_refl _) (.int .i64 0)).setCell (p := ⟨w.heap.size, 1, none⟩) (Nat.le_refl _) (.int .i64 0)).setCell (p := ⟨w.heap.size, 2, none⟩) (Nat.le_refl _) (.int .i64 0)).setCell (p := ⟨w.heap.size, 3, none⟩) (Nat.le_refl _) (.int .i64 0))
            go_wp2
            refine bodyPost_ret (v := .tuple #[.agg #[.int .i64 0, .int .i64 0, .int .i64 0, .int .i64 0], .bool false]) (by simp [results, Tryd.results60, go_sem, r0, r1, r2, r3]) rfl ?_
            exact LinePost.no (i := ⟨0, 0, 0, 0⟩) HVN.out rfl HBE.out
          | some n =>
            obtain ⟨rfl, rfl⟩ := hsome n hp
            have HPA2 := Lib.hid (HPA.out.trans (partsC h45 hp [] (lls rem) [n0, n1]))
            have HI7 : Hid (Blk W7 W3.heap.size 65 #[.int .i64 q, .int .i64 (n0 : Nat), .int .i64 (n1 : Nat), .int .i64 (0 : Nat)]) := HI.out.below hb7 HI.out.lt
            have HP7 := Lib.hid (HP.out.below hb7 HP.out.lt)
            have HRW7 : Hid (RdW W1.heap.size W7 (if c = 1 then some ⟨W1.heap.size, u, none⟩ else some ⟨W1.heap.size, u + 1, none⟩) rem) := fun hl => by
              rw [if_neg (by simp at hrc; omega)]
              refine ⟨u + 1, rfl, fun k hk => ?_⟩
              have := (hb7.cell (p := ⟨W1.heap.size, u + (k + 1), none⟩) hylt).trans (HYC.out (k + 1) (by simp; omega))
              rw [show u + 1 + k = u + (k + 1) by omega]
              exact this
            have HXS7 := Lib.hid (show ∀ x ∈ rem, x.size ≤ 4000 from fun x hx => HXS.out x (List.mem_cons_of_mem _ hx))
            clear HPA HXS HI HP hsome hnone hp HYC HR HB
            have w71 : W1.heap.size < W7.heap.size := Nat.lt_of_lt_of_le hylt hb7.size
            have i0 := HI7.out.cell 3
            have if0 := HI7.out.frozen 3
            have il := HI7.out.lt
            simp at i0
            have hrl : rem.length + 1 ≤ c := by simpa using hrc
            have hr5 : rem.length + 1 ≤ 4000 := by simpa using hr4
            clear hb7 hrc hr4
            have hne4 : W4.heap.size ≠ W3.heap.size := by omega
            have hne0 : w.heap.size ≠ W3.heap.size := by omega
            have HI8 : Hid (Blk (W7.drew.setCell ⟨W3.heap.size, 3, none⟩ (.int .i64 (n : Int))) W3.heap.size 65 #[.int .i64 q, .int .i64 (n0 : Nat), .int .i64 (n1 : Nat), .int .i64 (n : Nat)]) := HI7.out.drew.set_ 3 (.int .i64 (n : Int))
            have HP8 := Lib.hid (HP7.out.drew.far (p := ⟨W3.heap.size, 3, none⟩) hne4 (.int .i64 (n : Int)))
            have HR8 := Lib.hid (HR7.out.drew.far (p := ⟨W3.heap.size, 3, none⟩) hne0 (.int .i64 (n : Int)))
            have HB8 := Lib.hid ((HB7.out.trans ((Below.drewN' (Below.refl W7.heap.size W7) 1).mono HB7.out.size)).setCell (p := ⟨W3.heap.size, 3, none⟩) (by show w.heap.size ≤ W3.heap.size; omega) (.int .i64 (n : Int)))
            have HRW8 : Hid (∀ A : Option Addr, (0 < rem.length → A = some ⟨W1.heap.size, u + 1, none⟩) → RdW W1.heap.size (W7.drew.setCell ⟨W3.heap.size, 3, none⟩ (.int .i64 (n : Int))) A rem) := fun A hA hl => by
              have hc1 : c ≠ 1 := by omega
              obtain ⟨u', e, hc⟩ := HRW7.out hl
              rw [if_neg hc1] at e
              cases e
              refine ⟨u + 1, hA hl, fun k hk => ?_⟩
              rw [← hc k hk]
              exact ((Below.refl W3.heap.size W7.drew).setCell (p := ⟨W3.heap.size, 3, none⟩) (Nat.le_refl _) _).cell (p := ⟨W1.heap.size, u + 1 + k, none⟩) hw3'
            clear HRW7 HI7 HP7 HR7 HB7
            by_cases hc1 : c = 1
            · obtain rfl : rem = [] := List.eq_nil_of_length_eq_zero (by omega)
              subst hc1
              go_upto_region 17 with fail
              go_region
              all_goals
                go_wp2_with fail
                exact ⟨⟨3, by omega, by go_num, _, 0, [], [n0, n1] ++ [n], rfl, by omega, by omega, by omega, rfl, HRW8.out _ (fun h => absurd h (by simp)), HPA2, HXS7, HI8, HP8, HR8, HB8⟩, by simp [intOf]⟩
            · go_upto_region 17 with fail
              go_region
              all_goals
                go_wp2_with fail
                exact ⟨⟨3, by omega, by go_num, _, _, rem, [n0, n1] ++ [n], rfl, by omega, by omega, by omega, rfl, HRW8.out _ (fun _ => rfl), HPA2, HXS7, HI8, HP8, HR8, HB8⟩, by simp [intOf]⟩

    · obtain rfl : k = 3 := by omega
      obtain ⟨n0, n1, n2, rfl⟩ : ∃ a b c, ns = [a, b, c] := by
        match ns, hns with
        | [a, b, c], _ => exact ⟨a, b, c, rfl⟩
      have HPE : Hid (partsL [s0, s1, s2] (lls xs) = some ([n0, n1, n2], lls rem)) := by
        refine HPA.out.trans ?_
        show (partsL [] (lls rem)).map _ = _
        rw [partsL.eq_def]
        simp
      have HI' : Hid (Blk wr W3.heap.size 65 #[.int .i64 q, .int .i64 (n0 : Nat), .int .i64 (n1 : Nat), .int .i64 (n2 : Nat)]) := HI
      have i0 := HI'.out.cell 0
      have i1 := HI'.out.cell 1
      have i2 := HI'.out.cell 2
      have i3 := HI'.out.cell 3
      have il := HI'.out.lt
      have r0 := HR.out.cell 0
      have r1 := HR.out.cell 1
      have r2 := HR.out.cell 2
      have r3 := HR.out.cell 3
      have f0 := HR.out.frozen 0
      have f1 := HR.out.frozen 1
      have f2 := HR.out.frozen 2
      have f3 := HR.out.frozen 3
      have rl := HR.out.lt
      simp at i0 i1 i2 i3 r0 r1 r2 r3
      have HBE := Lib.hid ((((HB.out.setCell (p := ⟨w.heap.size, 0, none⟩) (Nat.le_refl _) (.int .i64 q)).setCell (p := ⟨w.heap.size, 1, none⟩) (Nat.le_refl _) (.int .i64 n0)).setCell (p := ⟨w.heap.size, 2, none⟩) (Nat.le_refl _) (.int .i64 n1)).setCell (p := ⟨w.heap.size, 3, none⟩) (Nat.le_refl _) (.int .i64 n2))
      have hne0 : w.heap.size ≠ W3.heap.size := by omega
      clear HPA HRW HXS HI HI' HP hk3 hk hns
      cases rem with
      | nil =>
        have HVY : Hid (lineL s.data.toList = some ⟨q, n0, n1, n2⟩) := by
          show _ = _
          rw [HV.out, HPE.out]
          rfl
        clear HPE HV HB HR
        go_wp2
        refine bodyPost_ret (v := .tuple #[.agg #[.int .i64 q, .int .i64 n0, .int .i64 n1, .int .i64 n2], .bool true]) (by simp [results, Tryd.results60, go_sem, r0, r1, r2, r3]) rfl ?_
        exact LinePost.yes HVY.out rfl HBE.out
      | cons y rem =>
        have HVN : Hid (lineL s.data.toList = none) := by
          show _ = _
          rw [HV.out, HPE.out]
          rfl
        have hlb : (((y :: rem).length : Int) == 0) = false := by rw [beq_eq_false_iff_ne]; simp; omega
        have hlb' : (((rem.length : Int) + 1) == 0) = false := by rw [beq_eq_false_iff_ne]; omega
        clear HPE HV HB HR
        go_wp2
        refine bodyPost_ret (v := .tuple #[.agg #[.int .i64 q, .int .i64 n0, .int .i64 n1, .int .i64 n2], .bool false]) (by simp [results, Tryd.results60, go_sem, r0, r1, r2, r3]) rfl ?_
        exact LinePost.no (i := ⟨q, n0, n1, n2⟩) HVN.out rfl HBE.out
end Go.Proofs.YtdjamdbamkhblacDoor
