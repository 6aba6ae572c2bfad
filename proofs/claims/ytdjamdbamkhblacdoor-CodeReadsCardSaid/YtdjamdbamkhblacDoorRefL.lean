/- The walk of the reference's lineOf: what it returns, for every line. No condition. By an AI agent (xrefl.py). -/
import Derived.Test.YtdjamdbamkhblacDoorRefW
namespace Go.Proofs.YtdjamdbamkhblacDoor
open Go.RowKit
set_option linter.unusedVariables false
set_option linter.unusedSimpArgs false
attribute [local go_sem] After.cell
set_option maxRecDepth 100000 in
set_option maxHeartbeats 1000000 in
theorem nameOfR_any (q : Nat) (h1 : 1 ≤ q) (h2 : q ≤ 15) (w : World) :
    Calls Tryd.prog 99 #[.int .i64 q] w fun e w' => e = .returned (.string ⟨(nmL q).toArray⟩) ∧ Below w.heap.size w w' := by
  obtain ⟨cs, hcs⟩ : ∃ cs : Array Value, cs = #[.string ⟨#[]⟩, .string ⟨#[108, 105]⟩, .string ⟨#[97, 100, 100]⟩, .string ⟨#[115, 117, 98]⟩, .string ⟨#[97, 110, 100]⟩, .string ⟨#[111, 114]⟩, .string ⟨#[120, 111, 114]⟩, .string ⟨#[108, 116]⟩, .string ⟨#[108, 100]⟩, .string ⟨#[115, 116]⟩, .string ⟨#[106, 109, 112]⟩, .string ⟨#[106, 122]⟩, .string ⟨#[99, 97, 108, 108]⟩, .string ⟨#[114, 101, 116]⟩, .string ⟨#[116, 101, 108, 108]⟩, .string ⟨#[104, 97, 108, 116]⟩] := ⟨_, rfl⟩
  have hb := Lib.hid ((Below.refl w.heap.size w).alloc (Nat.le_refl _) (.cells cs 9))
  have hB := Blk.new w 9 cs
  have hc : (w.alloc (.cells cs 9)).cell? ⟨w.heap.size, q, none⟩ = some (.string ⟨(nmL q).toArray⟩) := by
    rw [hB.cell, hcs]
    rcases q_cases h1 h2 with h | h | h | h | h | h | h | h | h | h | h | h | h | h | h <;> subst h <;> rfl
  have h16 : (q : Int) < 16 := by omega
  have h0 : 0 ≤ (q : Int) := by omega
  rw [hcs] at hc hb
  clear hcs hB h1 h2
  go_enter Tryd.func99, Tryd.ntmps99
  go_wp2
  go_ret
  exact ⟨rfl, hb.out⟩
set_option maxHeartbeats 400000 in
theorem mostOfR_any (c : Int) (w : World) :
    Calls Tryd.prog 103 #[.int .u8 c] w fun e w' => e = .returned (.int .i64 (grt c)) ∧ w = w' := by
  go_enter Tryd.func103, Tryd.ntmps103
  go_wp2
  all_goals go_ret
  all_goals simp [grt, *]
set_option maxHeartbeats 400000 in
theorem shapeOfR_any (q : Nat) (h1 : 1 ≤ q) (h2 : q ≤ 15) (w : World) :
    Calls Tryd.prog 100 #[.int .i64 q] w fun e w' => e = .returned (.string (shp q)) ∧ w = w' := by
  rcases q_cases h1 h2 with h | h | h | h | h | h | h | h | h | h | h | h | h | h | h <;> subst h
  all_goals
    go_enter Tryd.func100, Tryd.ntmps100
    go_wp2
    go_ret
    exact ⟨rfl, rfl⟩
theorem Calls.calmR {P : Program} {f : FuncId} {args : Array Value} {w : World} {x : After w} {v : Value}
    (h : Calls P f args x.w' fun e w' => e = .returned v ∧ Below x.w'.heap.size x.w' w') : Calls P f args x.w' fun e w'' => e = .returned v ∧ ∃ y : After w, w'' = y.w' :=
  h.mono fun _ _ ⟨he, hb⟩ => ⟨he, ⟨⟨_, x.h.trans (hb.mono x.h.size)⟩, rfl⟩⟩
theorem Calls.calm_sameR {P : Program} {f : FuncId} {args : Array Value} {w : World} {x : After w} {v : Value}
    (h : Calls P f args x.w' fun e w' => e = .returned v ∧ x.w' = w') : Calls P f args x.w' fun e w'' => e = .returned v ∧ ∃ y : After w, w'' = y.w' :=
  h.mono fun _ _ ⟨he, hb⟩ => ⟨he, ⟨x, hb.symm⟩⟩
theorem words_count (s : List UInt8) : (wordsL s).length ≤ s.length + 1 := by
  induction s with
  | nil => exact Nat.le_refl _
  | cons c r ih =>
    rw [wordsL]
    split
    · simp only [List.length_cons]; omega
    · cases hw : wordsL r with
      | nil => simp
      | cons y ys => rw [hw] at ih; simp only [List.length_cons] at ih ⊢; omega
def padN (ns : List Nat) : Array Value := #[.int .i64 (ns.getD 0 0 : Nat), .int .i64 (ns.getD 1 0 : Nat), .int .i64 (ns.getD 2 0 : Nat)]
theorem pad_cases {ns : List Nat} {k : Nat} (hn : ns.length = k) (hk : k < 3) : ns = [] ∧ k = 0 ∨ (∃ a, ns = [a] ∧ k = 1) ∨ ∃ a b, ns = [a, b] ∧ k = 2 := by
  match ns, hn with
  | [], h => exact .inl ⟨rfl, h.symm⟩
  | [a], h => exact .inr (.inl ⟨a, rfl, h.symm⟩)
  | [a, b], h => exact .inr (.inr ⟨a, b, rfl, h.symm⟩)
  | _ :: _ :: _ :: _, h => simp at h; omega
theorem pad_cell {ns : List Nat} {k : Nat} (hn : ns.length = k) (hk : k < 3) : (padN ns)[k]? = some (.int .i64 0) := by
  rcases pad_cases hn hk with ⟨rfl, rfl⟩ | ⟨a, rfl, rfl⟩ | ⟨a, b, rfl, rfl⟩ <;> rfl
theorem pad_set {ns : List Nat} {k : Nat} (hn : ns.length = k) (hk : k < 3) (n : Nat) : (padN ns).setIfInBounds k (.int .i64 (n : Int)) = padN (ns ++ [n]) := by
  rcases pad_cases hn hk with ⟨rfl, rfl⟩ | ⟨a, rfl, rfl⟩ | ⟨a, b, rfl, rfl⟩ <;> rfl
theorem pad_zero {ns : List Nat} {k : Nat} (hn : ns.length = k) (hk : k < 3) : padN ns = padN (ns ++ [0]) := by
  rcases pad_cases hn hk with ⟨rfl, rfl⟩ | ⟨a, rfl, rfl⟩ | ⟨a, b, rfl, rfl⟩ <;> rfl
theorem pad_setc {ns : List Nat} {k : Nat} (hk : k < 3) (u : Value) : ((padN ns).setIfInBounds k u)[k]? = some u := by
  rw [Array.getElem?_setIfInBounds_self, if_pos (show k < (padN ns).size from hk)]
theorem opOf_of {q : Nat} {w : List UInt8} (h1 : 1 ≤ q) (h2 : q ≤ 15) (h : nmL q = w) : opOf w = q := by rw [← h]; exact opOf_nm h1 h2
theorem opOf_no {w : List UInt8} (h : ∀ q, 1 ≤ q → q ≤ 15 → nmL q ≠ w) : opOf w = 0 := by
  by_cases h0 : opOf w = 0
  · exact h0
  · obtain ⟨h1, h2, h3⟩ := opOf_some h0
    exact absurd h3 (h _ h1 h2)
set_option maxRecDepth 100000 in
set_option maxHeartbeats 16000000 in
theorem lineOf_any (s : ByteArray) (hs : s.size ≤ 4000) (w : World) :
    Calls Tryd.prog 61 #[.string s] w (LinePost s.data.toList w) := by
  have hb1 := (Below.refl w.heap.size w).alloc (Nat.le_refl _) (.cells #[.int .i64 0, .int .i64 0, .int .i64 0, .int .i64 0] 65)
  have hr1 := Blk.new w 65 #[.int .i64 0, .int .i64 0, .int .i64 0, .int .i64 0]
  go_enter Tryd.func61, Tryd.ntmps61
  go_upto_region 1 with fail
  refine (show ∀ W : World, Below w.heap.size w W → Blk W w.heap.size 65 #[.int .i64 0, .int .i64 0, .int .i64 0, .int .i64 0] → Code.wp _ _ _ _ W from ?_) _ hb1 hr1
  clear hb1 hr1
  intro W1 hb1 hr1
  have HB1 := Lib.hid hb1
  have HR1 := Lib.hid hr1
  clear hb1 hr1
  go_wp2_with fail
  refine (wordsOf_any s hs W1).mono ?_
  rintro e W2 ⟨A, c, ws, rfl, hll, how, hb2⟩
  have h0 : 0 < ws.length := by
    cases ws with
    | nil => exact absurd hll.symm (wordsL_ne _)
    | cons a b => simp
  obtain ⟨bw, rfl, hbw, hlw⟩ : ∃ g, A = some ⟨g, 0, none⟩ ∧ W1.heap.size ≤ g ∧ g < W2.heap.size := by
    obtain ⟨g, cap, hv, hb, hlt⟩ := how.form h0
    cases hv
    exact ⟨g, rfl, hb, hlt⟩
  obtain ⟨x0, xs, rfl⟩ : ∃ x0 xs, ws = x0 :: xs := by
    cases ws with
    | nil => simp at h0
    | cons a b => exact ⟨a, b, rfl⟩
  have HWC : Hid (∀ W : World, Below W2.heap.size W2 W → ∀ k (h : k < (x0 :: xs).length), W.cell? ⟨bw, k, none⟩ = some (.string (x0 :: xs)[k])) := fun W hW k hk => by
    rw [hW.cell (p := ⟨bw, k, none⟩) hlw]
    have := how.cells (g := bw) rfl k (.string (x0 :: xs)[k]) (by rw [List.getElem?_map, List.getElem?_eq_getElem hk]; rfl)
    rw [add_plain, Nat.zero_add] at this
    exact this
  have hwl : ∀ x ∈ (x0 :: xs), x.size ≤ 4000 := fun x hx => by
    have h1 : x.data.toList ∈ lls (x0 :: xs) := List.mem_map_of_mem hx
    rw [hll] at h1
    have h2 := words_len _ _ h1
    have e1 := dl_len x
    have e2 := dl_len s
    omega
  have HWL := Lib.hid hwl
  have h63 : xs.length ≤ 4000 := by
    have h1 := words_count s.data.toList
    rw [← hll] at h1
    have e2 := dl_len s
    simp only [lls, List.map_cons, List.length_cons, List.length_map] at h1
    omega
  have HL := Lib.hid (lineL_eq (s := s.data.toList) (w0 := x0.data.toList) (r := lls xs) (by rw [← hll]; rfl))
  have HB2 := Lib.hid (HB1.out.trans (hb2.mono HB1.out.size))
  have HR2 := Lib.hid (HR1.out.below hb2 HR1.out.lt)
  have hw2 : w.heap.size < W2.heap.size := HR2.out.lt
  clear hll how hb2 hwl HB1 HR1 h0 hbw
  go_wp2_with fail
  go_loopw [5] (fun i wr => ∃ p : Nat, i = .int .i64 (p : Int) ∧ 1 ≤ p ∧ p ≤ 16 ∧ Hid (∀ r, 1 ≤ r → r < p → nmL r ≠ x0.data.toList) ∧ Hid (Below W2.heap.size W2 wr)) (fun i _ => 16 - (intOf i).toNat)
  case atStart => exact ⟨1, rfl, by omega, by omega, fun r h1 h2 => by omega, Below.refl _ _⟩
  case round =>
    obtain ⟨p, rfl, hp1, hp16, HNM, HB⟩ := hrel
    have HBW := Lib.hid (HB2.out.trans (HB.out.mono HB2.out.size))
    have HR := Lib.hid (HR2.out.below HB.out HR2.out.lt)
    by_cases hp : p ≤ 15
    · have hpi : (p : Int) ≤ 15 := by omega
      have x0c := HWC.out wr HB.out 0 (by simp)
      simp at x0c
      have bwl := Nat.lt_of_lt_of_le hlw HB.out.size
      have HNO : Hid (∀ X : After wr, Calls Tryd.prog 99 #[.int .i64 (p : Int)] X.w' fun e w' => e = .returned (.string ⟨(nmL p).toArray⟩) ∧ Below X.w'.heap.size X.w' w') := fun X => nameOfR_any p hp1 hp X.w'
      go_upto_region 5 with fail
      refine wp_region_calm (by kernel_rfl) (by kernel_rfl) ?_
      repeat (go_big_quiet_step ((rename_i X; exact Calls.calmR (HNO.out X))))
      refine wpQuiet_nil ?_
      rintro W3 ⟨⟨_, hb3⟩, rfl⟩
      rename_i W3
      have HB3 := Lib.hid (HB.out.trans (hb3.mono HB.out.size))
      have HBW3 := Lib.hid (HBW.out.trans (hb3.mono HBW.out.size))
      have HR3 := Lib.hid (HR.out.below hb3 HR.out.lt)
      have hw3 : W2.heap.size ≤ W3.heap.size := HB3.out.size
      clear hb3 HNO x0c bwl HB HBW HR
      by_cases hnm : nmL p = x0.data.toList
      · have hq : opOf x0.data.toList = p := opOf_of hp1 hp hnm
        have heqx : x0.toList = nmL p := by rw [ByteArray.toList_eq, hnm]
        have HV := Lib.hid (HL.out.trans (if_neg (by rw [hq]; omega)))
        rw [hq] at HV
        have hs3 : (shp p).size = 3 := shp_size hp1 hp
        obtain ⟨s0, s1, s2, hsl, hb0, hb1', hb2', k0, k1, k2⟩ := shl_parts hp1 hp hs3
        rw [hsl] at HV
        clear HL hnm hq hsl HNM
        have HEQ := Lib.hid heqx
        clear heqx
        go_wp2_with fail
        · exfalso
          rename_i hh
          simp [HEQ.out] at hh
        refine (shapeOfR_any p hp1 hp W3).mono ?_
        rintro e w' ⟨rfl, rfl⟩
        have hn4 := Blk.new W3 161 #[.int .i64 0, .int .i64 0, .int .i64 0]
        have hbn := (Below.refl W3.heap.size W3).alloc (Nat.le_refl _) (.cells #[.int .i64 0, .int .i64 0, .int .i64 0] 161)
        have HN4 := Lib.hid hn4
        have HB4 := Lib.hid (HB3.out.trans (hbn.mono HB3.out.size))
        have HBW4 := Lib.hid (HBW3.out.trans (hbn.mono HBW3.out.size))
        have HR4 := Lib.hid (HR3.out.below hbn HR3.out.lt)
        clear hn4 hbn HB3 HBW3 HR3
        go_wp2_with fail
        go_loopw [8, 9] (fun a i wr => Cnt 3 i fun k => ∃ (at_ : Nat) (ns : List Nat), a = .int .i64 (at_ : Int) ∧ 1 ≤ at_ ∧ at_ ≤ xs.length + 1 ∧ ns.length = k ∧ Hid (partsL [s0, s1, s2] (lls xs) = (partsL ([s0, s1, s2].drop k) (lls ((x0 :: xs).drop at_))).map fun x => (ns ++ x.1, x.2)) ∧ Hid (Blk wr W3.heap.size 161 (padN ns)) ∧ Hid (Blk wr w.heap.size 65 #[.int .i64 0, .int .i64 0, .int .i64 0, .int .i64 0]) ∧ Hid (Below W2.heap.size W2 wr)) (fun _ i _ => 3 - (intOf i).toNat)
        case atStart =>
          refine ⟨0, by omega, rfl, 1, [], rfl, Nat.le_refl _, by omega, rfl, ?_, HN4, HR4, HB4⟩
          show _ = _
          simp only [List.drop_zero, List.nil_append, List.drop_succ_cons]
          cases partsL [s0, s1, s2] (lls xs) with
          | none => rfl
          | some x => rfl
        case round =>
          clear HN4 HR4 HB4 HBW4
          obtain ⟨k, hk, rfl, at_, ns, rfl, ha1, ha2, hns, HPA, HN, HR, HB⟩ := hrel
          have HBW := Lib.hid (HB2.out.trans (HB.out.mono HB2.out.size))
          have hnl := HN.out.lt
          have hwn : w.heap.size ≠ W3.heap.size := by omega
          by_cases hk3 : k < 3
          · clear hk
            have hk' : k = 0 ∨ k = 1 ∨ k = 2 := by omega

            obtain ⟨c, cs, hcs, hd, hsk, hk4⟩ : ∃ c cs, cs = [s0, s1, s2].drop (k + 1) ∧ [s0, s1, s2].drop k = c :: cs ∧ (shp p)[k]'(by omega) = c ∧ (c = 114 ∨ c = 45 ∨ c = 119 ∨ c = 112) := by
              rcases hk' with rfl | rfl | rfl
              · exact ⟨s0, _, rfl, rfl, hb0, k0⟩
              · exact ⟨s1, _, rfl, rfl, hb1', k1⟩
              · exact ⟨s2, _, rfl, rfl, hb2', k2⟩
            rw [hd] at HPA
            have HCS := Lib.hid hcs
            have hki3 : (k : Int) < 3 := by omega
            clear hd hcs hk' hb0 hb1' hb2' k0 k1 k2
            rcases hk4 with h | h | h | h
            · subst h
              by_cases hat : at_ = xs.length + 1
              · have hai : (xs.length : Int) + 1 ≤ (at_ : Int) := by omega
                have HVN : Hid (lineL s.data.toList = none) := by
                  have e2 : lls ((x0 :: xs).drop at_) = [] := by rw [List.drop_of_length_le (show (x0 :: xs).length ≤ at_ by simp only [List.length_cons]; omega)]; rfl
                  have e := HPA.out
                  rw [e2] at e
                  have e := e.trans (congrArg _ (partsE (by decide) cs))
                  show _ = _
                  rw [HV.out, e]
                  rfl
                clear HPA HN hat
                have r0 := HR.out.cell 0
                have r1 := HR.out.cell 1
                have r2 := HR.out.cell 2
                have r3 := HR.out.cell 3
                have f0 := HR.out.frozen 0
                have f1 := HR.out.frozen 1
                have f2 := HR.out.frozen 2
                have f3 := HR.out.frozen 3
                have rl := HR.out.lt
                simp at r0 r1 r2 r3
                have HBE := Lib.hid ((((HBW.out.setCell (p := ⟨w.heap.size, 0, none⟩) (Nat.le_refl _) (.int .i64 0)).setCell (p := ⟨w.heap.size, 1, none⟩) (Nat.le_refl _) (.int .i64 0)).setCell (p := ⟨w.heap.size, 2, none⟩) (Nat.le_refl _) (.int .i64 0)).setCell (p := ⟨w.heap.size, 3, none⟩) (Nat.le_refl _) (.int .i64 0))
                go_wp2
                refine bodyPost_ret (v := .tuple #[.agg #[.int .i64 0, .int .i64 0, .int .i64 0, .int .i64 0], .bool false]) (by simp [results, Tryd.results61, go_sem, r0, r1, r2, r3]) rfl ?_
                exact LinePost.no (i := ⟨0, 0, 0, 0⟩) HVN.out rfl HBE.out
              have hai : ¬ (xs.length : Int) + 1 ≤ (at_ : Int) := by omega
              have hal : at_ < (x0 :: xs).length := by simp only [List.length_cons]; omega
              have hali : (at_ : Int) < (xs.length : Int) + 1 := by omega
              obtain ⟨y, hy⟩ : ∃ y, y = (x0 :: xs)[at_] := ⟨_, rfl⟩
              have y0 := HWC.out wr HB.out at_ hal
              rw [← hy] at y0
              have bwl := Nat.lt_of_lt_of_le hlw HB.out.size
              have HYZ := Lib.hid (show y.size ≤ 4000 from HWL.out y (by rw [hy]; exact List.getElem_mem hal))
              have hdr : lls ((x0 :: xs).drop at_) = y.data.toList :: lls ((x0 :: xs).drop (at_ + 1)) := by rw [List.drop_eq_getElem_cons hal, ← hy]; rfl
              rw [hdr] at HPA
              clear hdr hy hat hal
              by_cases hyr : ∃ r, y.data.toList = 114 :: r
              · obtain ⟨r, hr⟩ := hyr
                have hysz : y.size = r.length + 1 := by rw [← dl_len, hr]; rfl
                have hy0 : 0 < y.size := by omega
                have hyb : ((y.size : Int) == 0) = false := by rw [beq_eq_false_iff_ne]; omega
                have hyi : (1 : Int) ≤ (y.size : Int) := by omega
                have hb00 : y[0]'hy0 = 114 := by
                  have e : y[0]'hy0 = y.data.toList[0]'(by rw [hr]; simp) := rfl
                  rw [e]
                  simp [hr]
                obtain ⟨z, hz⟩ : ∃ z : ByteArray, z = ⟨r.toArray⟩ := ⟨_, rfl⟩
                have hzd : z.data.toList = r := by rw [hz]
                have hcut : y.extract 1 y.size = z := by
                  apply ByteArray.ext
                  apply Array.toList_inj.1
                  rw [hzd]
                  have e : (y.extract 1 y.size).data.toList = y.data.toList.drop 1 := by
                    simp only [ByteArray.data_extract, Array.toList_extract, List.extract_eq_take_drop]
                    rw [List.take_of_length_le (by simp)]
                  rw [e, hr]; rfl
                have HTZ := Lib.hid (show z.size ≤ 4000 by have := HYZ.out; have e : z.size = r.length := (by rw [← dl_len, hzd]); omega)
                have HPP : Hid (partL 114 y.data.toList = numL 7 z.data.toList) := by show _ = _; rw [hr, hzd]; rfl
                clear hr hz hzd hysz
                go_wp2_with fail
                refine (numberOf_any z HTZ.out _).mono ?_
                rintro e w' ⟨⟨v, rfl, hv⟩, rfl⟩
                have HNV := Lib.hid hv
                clear hv
                have n0' := (HN.out.cell k).trans (pad_cell hns hk3)
                have nf := HN.out.frozen k
                have HN7 := Lib.hid (HN.out.set_ k (.int .i64 v))
                have HR7 := Lib.hid (HR.out.far (p := ⟨W3.heap.size, k, none⟩) hwn (.int .i64 v))
                have HB7 := Lib.hid (HB.out.setCell (p := ⟨W3.heap.size, k, none⟩) hw3 (.int .i64 v))
                go_upto_region 22 with fail
                refine (show ∀ W : World, Blk W W3.heap.size 161 ((padN ns).setIfInBounds k (.int .i64 v)) → Blk W w.heap.size 65 #[.int .i64 0, .int .i64 0, .int .i64 0, .int .i64 0] → Below W2.heap.size W2 W → Code.wp _ _ _ _ W from ?_) _ HN7.out HR7.out HB7.out
                clear HN7 HR7 HB7 HN HR HB HBW n0' nf y0 bwl
                intro W7 hN7 hR7 hB7
                have nv := (hN7.cell k).trans (pad_setc hk3 _)
                have nl := hN7.lt
                have HN7 := Lib.hid hN7
                have HR7 := Lib.hid hR7
                have HB7 := Lib.hid hB7
                clear hN7 hR7 hB7
                have HMO := Lib.hid (fun (X : After W7) => mostOfR_any 114 X.w')
                rw [show grt 114 = 7 from rfl] at HMO
                have HIN := Lib.hid (fun (X : After W7) => InR_any v 0 7 X.w')
                cases hnum : numL 7 z.data.toList with
                | none =>
                  have hin : inR v 0 7 = false := by
                    have := (HNV.out 7 (by omega)).2 hnum
                    exact inR_false (by omega)
                  rw [hin] at HIN
                  have HVN : Hid (lineL s.data.toList = none) := by
                    have e := HPA.out.trans (congrArg _ (partsN (by decide) (HPP.out.trans hnum) cs (lls ((x0 :: xs).drop (at_ + 1)))))
                    show _ = _
                    rw [HV.out, e]
                    rfl
                  clear hnum HPA HNV hin
                  refine wp_region_calm (by kernel_rfl) (by kernel_rfl) ?_
                  repeat (go_big_quiet_step ((rename_i X; first | exact Calls.calm_sameR (HMO.out X) | exact Calls.calm_sameR (HIN.out X))))
                  refine wpQuiet_nil ?_
                  rintro W8 ⟨⟨_, hb8⟩, rfl⟩
                  rename_i W8
                  have HB8 := Lib.hid ((HB2.out.trans (HB7.out.mono HB2.out.size)).trans (hb8.mono (by have := HB2.out.size; have := HB7.out.size; omega)))
                  have HR8 := Lib.hid (HR7.out.below hb8 HR7.out.lt)
                  clear HMO HIN hb8 HN7 HR7 HB7 nv nl
                  have r0 := HR8.out.cell 0
                  have r1 := HR8.out.cell 1
                  have r2 := HR8.out.cell 2
                  have r3 := HR8.out.cell 3
                  have f0 := HR8.out.frozen 0
                  have f1 := HR8.out.frozen 1
                  have f2 := HR8.out.frozen 2
                  have f3 := HR8.out.frozen 3
                  have rl := HR8.out.lt
                  simp at r0 r1 r2 r3
                  have HBE := Lib.hid ((((HB8.out.setCell (p := ⟨w.heap.size, 0, none⟩) (Nat.le_refl _) (.int .i64 0)).setCell (p := ⟨w.heap.size, 1, none⟩) (Nat.le_refl _) (.int .i64 0)).setCell (p := ⟨w.heap.size, 2, none⟩) (Nat.le_refl _) (.int .i64 0)).setCell (p := ⟨w.heap.size, 3, none⟩) (Nat.le_refl _) (.int .i64 0))
                  go_wp2
                  refine bodyPost_ret (v := .tuple #[.agg #[.int .i64 0, .int .i64 0, .int .i64 0, .int .i64 0], .bool false]) (by simp [results, Tryd.results61, go_sem, r0, r1, r2, r3]) rfl ?_
                  exact LinePost.no (i := ⟨0, 0, 0, 0⟩) HVN.out rfl HBE.out
                | some n =>
                  obtain ⟨rfl, hng⟩ := (HNV.out 7 (by omega)).1 n hnum
                  have hin : inR (n : Int) 0 7 = true := inR_true (by omega) (by omega)
                  rw [hin] at HIN
                  rw [pad_set hns hk3] at HN7
                  have HPA2 := Lib.hid (HPA.out.trans (partsC (by decide) (HPP.out.trans hnum) cs (lls ((x0 :: xs).drop (at_ + 1))) ns))
                  rw [HCS.out] at HPA2
                  clear hnum HPA HNV hin HPP
                  refine wp_region_calm (by kernel_rfl) (by kernel_rfl) ?_
                  repeat (go_big_quiet_step ((rename_i X; first | exact Calls.calm_sameR (HMO.out X) | exact Calls.calm_sameR (HIN.out X))))
                  refine wpQuiet_nil ?_
                  rintro W8 ⟨⟨_, hb8⟩, rfl⟩
                  rename_i W8
                  have HB8 := Lib.hid (HB7.out.trans (hb8.mono HB7.out.size))
                  have HR8 := Lib.hid (HR7.out.below hb8 HR7.out.lt)
                  have HN8 := Lib.hid (HN7.out.below hb8 HN7.out.lt)
                  clear HMO HIN hb8 HN7 HR7 HB7 nv nl
                  go_wp2_with fail
                  exact ⟨⟨k + 1, by omega, by go_num, at_ + 1, ns ++ [n], by go_num, by omega, by omega, by simp [hns], HPA2, HN8, HR8, HB8⟩, by simp [intOf]; omega⟩
              have HVN : Hid (lineL s.data.toList = none) := by
                have hpn : partL 114 y.data.toList = none := by
                  cases hl : y.data.toList with
                  | nil => rfl
                  | cons d r =>
                    by_cases hd : d = 114
                    · exact absurd ⟨r, by rw [hl, hd]⟩ hyr
                    · show (if d = 114 then numL 7 r else none) = none
                      rw [if_neg hd]
                have e := HPA.out.trans (congrArg _ (partsN (by decide) hpn cs (lls ((x0 :: xs).drop (at_ + 1)))))
                show _ = _
                rw [HV.out, e]
                rfl
              clear HPA HN
              cases hl : y.data.toList with
              | nil =>
                have hysz : y.size = 0 := by rw [← dl_len, hl]; rfl
                clear hl hyr
                have r0 := HR.out.cell 0
                have r1 := HR.out.cell 1
                have r2 := HR.out.cell 2
                have r3 := HR.out.cell 3
                have f0 := HR.out.frozen 0
                have f1 := HR.out.frozen 1
                have f2 := HR.out.frozen 2
                have f3 := HR.out.frozen 3
                have rl := HR.out.lt
                simp at r0 r1 r2 r3
                have HBE := Lib.hid ((((HBW.out.setCell (p := ⟨w.heap.size, 0, none⟩) (Nat.le_refl _) (.int .i64 0)).setCell (p := ⟨w.heap.size, 1, none⟩) (Nat.le_refl _) (.int .i64 0)).setCell (p := ⟨w.heap.size, 2, none⟩) (Nat.le_refl _) (.int .i64 0)).setCell (p := ⟨w.heap.size, 3, none⟩) (Nat.le_refl _) (.int .i64 0))
                go_wp2
                refine bodyPost_ret (v := .tuple #[.agg #[.int .i64 0, .int .i64 0, .int .i64 0, .int .i64 0], .bool false]) (by simp [results, Tryd.results61, go_sem, r0, r1, r2, r3]) rfl ?_
                exact LinePost.no (i := ⟨0, 0, 0, 0⟩) HVN.out rfl HBE.out
              | cons d r =>
                have hysz : y.size = r.length + 1 := by rw [← dl_len, hl]; rfl
                have hy0 : 0 < y.size := by omega
                have hyb : ((y.size : Int) == 0) = false := by rw [beq_eq_false_iff_ne]; omega
                have hb00 : y[0]'hy0 = d := by
                  have e : y[0]'hy0 = y.data.toList[0]'(by rw [hl]; simp) := rfl
                  rw [e]
                  simp [hl]
                have hdn : d ≠ 114 := fun e => hyr ⟨r, by rw [hl, e]⟩
                have hdb : (((d.toNat : Nat) : Int) == 114) = false := by
                  rw [beq_eq_false_iff_ne]
                  intro e
                  apply hdn
                  apply UInt8.toNat_inj.1
                  show d.toNat = 114
                  omega
                have hdb2 : (((d.toNat : Nat) : Int) != 114) = true := by simp only [bne, hdb]; rfl
                clear hl hyr hdn hysz
                have r0 := HR.out.cell 0
                have r1 := HR.out.cell 1
                have r2 := HR.out.cell 2
                have r3 := HR.out.cell 3
                have f0 := HR.out.frozen 0
                have f1 := HR.out.frozen 1
                have f2 := HR.out.frozen 2
                have f3 := HR.out.frozen 3
                have rl := HR.out.lt
                simp at r0 r1 r2 r3
                have HBE := Lib.hid ((((HBW.out.setCell (p := ⟨w.heap.size, 0, none⟩) (Nat.le_refl _) (.int .i64 0)).setCell (p := ⟨w.heap.size, 1, none⟩) (Nat.le_refl _) (.int .i64 0)).setCell (p := ⟨w.heap.size, 2, none⟩) (Nat.le_refl _) (.int .i64 0)).setCell (p := ⟨w.heap.size, 3, none⟩) (Nat.le_refl _) (.int .i64 0))
                go_wp2
                refine bodyPost_ret (v := .tuple #[.agg #[.int .i64 0, .int .i64 0, .int .i64 0, .int .i64 0], .bool false]) (by simp [results, Tryd.results61, go_sem, r0, r1, r2, r3]) rfl ?_
                exact LinePost.no (i := ⟨0, 0, 0, 0⟩) HVN.out rfl HBE.out
            · subst h
              have HPA2 := Lib.hid (HPA.out.trans (parts45 cs (lls ((x0 :: xs).drop at_)) ns))
              rw [HCS.out] at HPA2
              rw [pad_zero hns hk3] at HN
              clear HPA
              go_wp2_with fail
              exact ⟨⟨k + 1, by omega, by go_num, at_, ns ++ [0], rfl, ha1, ha2, by simp [hns], HPA2, HN, HR, HB⟩, by simp [intOf]; omega⟩
            · subst h
              by_cases hat : at_ = xs.length + 1
              · have hai : (xs.length : Int) + 1 ≤ (at_ : Int) := by omega
                have HVN : Hid (lineL s.data.toList = none) := by
                  have e2 : lls ((x0 :: xs).drop at_) = [] := by rw [List.drop_of_length_le (show (x0 :: xs).length ≤ at_ by simp only [List.length_cons]; omega)]; rfl
                  have e := HPA.out
                  rw [e2] at e
                  have e := e.trans (congrArg _ (partsE (by decide) cs))
                  show _ = _
                  rw [HV.out, e]
                  rfl
                clear HPA HN hat
                have r0 := HR.out.cell 0
                have r1 := HR.out.cell 1
                have r2 := HR.out.cell 2
                have r3 := HR.out.cell 3
                have f0 := HR.out.frozen 0
                have f1 := HR.out.frozen 1
                have f2 := HR.out.frozen 2
                have f3 := HR.out.frozen 3
                have rl := HR.out.lt
                simp at r0 r1 r2 r3
                have HBE := Lib.hid ((((HBW.out.setCell (p := ⟨w.heap.size, 0, none⟩) (Nat.le_refl _) (.int .i64 0)).setCell (p := ⟨w.heap.size, 1, none⟩) (Nat.le_refl _) (.int .i64 0)).setCell (p := ⟨w.heap.size, 2, none⟩) (Nat.le_refl _) (.int .i64 0)).setCell (p := ⟨w.heap.size, 3, none⟩) (Nat.le_refl _) (.int .i64 0))
                go_wp2
                refine bodyPost_ret (v := .tuple #[.agg #[.int .i64 0, .int .i64 0, .int .i64 0, .int .i64 0], .bool false]) (by simp [results, Tryd.results61, go_sem, r0, r1, r2, r3]) rfl ?_
                exact LinePost.no (i := ⟨0, 0, 0, 0⟩) HVN.out rfl HBE.out
              have hai : ¬ (xs.length : Int) + 1 ≤ (at_ : Int) := by omega
              have hal : at_ < (x0 :: xs).length := by simp only [List.length_cons]; omega
              have hali : (at_ : Int) < (xs.length : Int) + 1 := by omega
              obtain ⟨y, hy⟩ : ∃ y, y = (x0 :: xs)[at_] := ⟨_, rfl⟩
              have y0 := HWC.out wr HB.out at_ hal
              rw [← hy] at y0
              have bwl := Nat.lt_of_lt_of_le hlw HB.out.size
              have HYZ := Lib.hid (show y.size ≤ 4000 from HWL.out y (by rw [hy]; exact List.getElem_mem hal))
              have hdr : lls ((x0 :: xs).drop at_) = y.data.toList :: lls ((x0 :: xs).drop (at_ + 1)) := by rw [List.drop_eq_getElem_cons hal, ← hy]; rfl
              rw [hdr] at HPA
              clear hdr hy hat hal
              have HTZ := HYZ
              have HPP : Hid (partL 119 y.data.toList = numL 65535 y.data.toList) := rfl
              go_wp2_with fail
              refine (numberOf_any y HTZ.out _).mono ?_
              rintro e w' ⟨⟨v, rfl, hv⟩, rfl⟩
              have HNV := Lib.hid hv
              clear hv
              have n0' := (HN.out.cell k).trans (pad_cell hns hk3)
              have nf := HN.out.frozen k
              have HN7 := Lib.hid (HN.out.set_ k (.int .i64 v))
              have HR7 := Lib.hid (HR.out.far (p := ⟨W3.heap.size, k, none⟩) hwn (.int .i64 v))
              have HB7 := Lib.hid (HB.out.setCell (p := ⟨W3.heap.size, k, none⟩) hw3 (.int .i64 v))
              go_upto_region 22 with fail
              refine (show ∀ W : World, Blk W W3.heap.size 161 ((padN ns).setIfInBounds k (.int .i64 v)) → Blk W w.heap.size 65 #[.int .i64 0, .int .i64 0, .int .i64 0, .int .i64 0] → Below W2.heap.size W2 W → Code.wp _ _ _ _ W from ?_) _ HN7.out HR7.out HB7.out
              clear HN7 HR7 HB7 HN HR HB HBW n0' nf y0 bwl
              intro W7 hN7 hR7 hB7
              have nv := (hN7.cell k).trans (pad_setc hk3 _)
              have nl := hN7.lt
              have HN7 := Lib.hid hN7
              have HR7 := Lib.hid hR7
              have HB7 := Lib.hid hB7
              clear hN7 hR7 hB7
              have HMO := Lib.hid (fun (X : After W7) => mostOfR_any 119 X.w')
              rw [show grt 119 = 65535 from rfl] at HMO
              have HIN := Lib.hid (fun (X : After W7) => InR_any v 0 65535 X.w')
              cases hnum : numL 65535 y.data.toList with
              | none =>
                have hin : inR v 0 65535 = false := by
                  have := (HNV.out 65535 (by omega)).2 hnum
                  exact inR_false (by omega)
                rw [hin] at HIN
                have HVN : Hid (lineL s.data.toList = none) := by
                  have e := HPA.out.trans (congrArg _ (partsN (by decide) (HPP.out.trans hnum) cs (lls ((x0 :: xs).drop (at_ + 1)))))
                  show _ = _
                  rw [HV.out, e]
                  rfl
                clear hnum HPA HNV hin
                refine wp_region_calm (by kernel_rfl) (by kernel_rfl) ?_
                repeat (go_big_quiet_step ((rename_i X; first | exact Calls.calm_sameR (HMO.out X) | exact Calls.calm_sameR (HIN.out X))))
                refine wpQuiet_nil ?_
                rintro W8 ⟨⟨_, hb8⟩, rfl⟩
                rename_i W8
                have HB8 := Lib.hid ((HB2.out.trans (HB7.out.mono HB2.out.size)).trans (hb8.mono (by have := HB2.out.size; have := HB7.out.size; omega)))
                have HR8 := Lib.hid (HR7.out.below hb8 HR7.out.lt)
                clear HMO HIN hb8 HN7 HR7 HB7 nv nl
                have r0 := HR8.out.cell 0
                have r1 := HR8.out.cell 1
                have r2 := HR8.out.cell 2
                have r3 := HR8.out.cell 3
                have f0 := HR8.out.frozen 0
                have f1 := HR8.out.frozen 1
                have f2 := HR8.out.frozen 2
                have f3 := HR8.out.frozen 3
                have rl := HR8.out.lt
                simp at r0 r1 r2 r3
                have HBE := Lib.hid ((((HB8.out.setCell (p := ⟨w.heap.size, 0, none⟩) (Nat.le_refl _) (.int .i64 0)).setCell (p := ⟨w.heap.size, 1, none⟩) (Nat.le_refl _) (.int .i64 0)).setCell (p := ⟨w.heap.size, 2, none⟩) (Nat.le_refl _) (.int .i64 0)).setCell (p := ⟨w.heap.size, 3, none⟩) (Nat.le_refl _) (.int .i64 0))
                go_wp2
                refine bodyPost_ret (v := .tuple #[.agg #[.int .i64 0, .int .i64 0, .int .i64 0, .int .i64 0], .bool false]) (by simp [results, Tryd.results61, go_sem, r0, r1, r2, r3]) rfl ?_
                exact LinePost.no (i := ⟨0, 0, 0, 0⟩) HVN.out rfl HBE.out
              | some n =>
                obtain ⟨rfl, hng⟩ := (HNV.out 65535 (by omega)).1 n hnum
                have hin : inR (n : Int) 0 65535 = true := inR_true (by omega) (by omega)
                rw [hin] at HIN
                rw [pad_set hns hk3] at HN7
                have HPA2 := Lib.hid (HPA.out.trans (partsC (by decide) (HPP.out.trans hnum) cs (lls ((x0 :: xs).drop (at_ + 1))) ns))
                rw [HCS.out] at HPA2
                clear hnum HPA HNV hin HPP
                refine wp_region_calm (by kernel_rfl) (by kernel_rfl) ?_
                repeat (go_big_quiet_step ((rename_i X; first | exact Calls.calm_sameR (HMO.out X) | exact Calls.calm_sameR (HIN.out X))))
                refine wpQuiet_nil ?_
                rintro W8 ⟨⟨_, hb8⟩, rfl⟩
                rename_i W8
                have HB8 := Lib.hid (HB7.out.trans (hb8.mono HB7.out.size))
                have HR8 := Lib.hid (HR7.out.below hb8 HR7.out.lt)
                have HN8 := Lib.hid (HN7.out.below hb8 HN7.out.lt)
                clear HMO HIN hb8 HN7 HR7 HB7 nv nl
                go_wp2_with fail
                exact ⟨⟨k + 1, by omega, by go_num, at_ + 1, ns ++ [n], by go_num, by omega, by omega, by simp [hns], HPA2, HN8, HR8, HB8⟩, by simp [intOf]; omega⟩
            · subst h
              by_cases hat : at_ = xs.length + 1
              · have hai : (xs.length : Int) + 1 ≤ (at_ : Int) := by omega
                have HVN : Hid (lineL s.data.toList = none) := by
                  have e2 : lls ((x0 :: xs).drop at_) = [] := by rw [List.drop_of_length_le (show (x0 :: xs).length ≤ at_ by simp only [List.length_cons]; omega)]; rfl
                  have e := HPA.out
                  rw [e2] at e
                  have e := e.trans (congrArg _ (partsE (by decide) cs))
                  show _ = _
                  rw [HV.out, e]
                  rfl
                clear HPA HN hat
                have r0 := HR.out.cell 0
                have r1 := HR.out.cell 1
                have r2 := HR.out.cell 2
                have r3 := HR.out.cell 3
                have f0 := HR.out.frozen 0
                have f1 := HR.out.frozen 1
                have f2 := HR.out.frozen 2
                have f3 := HR.out.frozen 3
                have rl := HR.out.lt
                simp at r0 r1 r2 r3
                have HBE := Lib.hid ((((HBW.out.setCell (p := ⟨w.heap.size, 0, none⟩) (Nat.le_refl _) (.int .i64 0)).setCell (p := ⟨w.heap.size, 1, none⟩) (Nat.le_refl _) (.int .i64 0)).setCell (p := ⟨w.heap.size, 2, none⟩) (Nat.le_refl _) (.int .i64 0)).setCell (p := ⟨w.heap.size, 3, none⟩) (Nat.le_refl _) (.int .i64 0))
                go_wp2
                refine bodyPost_ret (v := .tuple #[.agg #[.int .i64 0, .int .i64 0, .int .i64 0, .int .i64 0], .bool false]) (by simp [results, Tryd.results61, go_sem, r0, r1, r2, r3]) rfl ?_
                exact LinePost.no (i := ⟨0, 0, 0, 0⟩) HVN.out rfl HBE.out
              have hai : ¬ (xs.length : Int) + 1 ≤ (at_ : Int) := by omega
              have hal : at_ < (x0 :: xs).length := by simp only [List.length_cons]; omega
              have hali : (at_ : Int) < (xs.length : Int) + 1 := by omega
              obtain ⟨y, hy⟩ : ∃ y, y = (x0 :: xs)[at_] := ⟨_, rfl⟩
              have y0 := HWC.out wr HB.out at_ hal
              rw [← hy] at y0
              have bwl := Nat.lt_of_lt_of_le hlw HB.out.size
              have HYZ := Lib.hid (show y.size ≤ 4000 from HWL.out y (by rw [hy]; exact List.getElem_mem hal))
              have hdr : lls ((x0 :: xs).drop at_) = y.data.toList :: lls ((x0 :: xs).drop (at_ + 1)) := by rw [List.drop_eq_getElem_cons hal, ← hy]; rfl
              rw [hdr] at HPA
              clear hdr hy hat hal
              have HTZ := HYZ
              have HPP : Hid (partL 112 y.data.toList = numL 199 y.data.toList) := rfl
              go_wp2_with fail
              refine (numberOf_any y HTZ.out _).mono ?_
              rintro e w' ⟨⟨v, rfl, hv⟩, rfl⟩
              have HNV := Lib.hid hv
              clear hv
              have n0' := (HN.out.cell k).trans (pad_cell hns hk3)
              have nf := HN.out.frozen k
              have HN7 := Lib.hid (HN.out.set_ k (.int .i64 v))
              have HR7 := Lib.hid (HR.out.far (p := ⟨W3.heap.size, k, none⟩) hwn (.int .i64 v))
              have HB7 := Lib.hid (HB.out.setCell (p := ⟨W3.heap.size, k, none⟩) hw3 (.int .i64 v))
              go_upto_region 22 with fail
              refine (show ∀ W : World, Blk W W3.heap.size 161 ((padN ns).setIfInBounds k (.int .i64 v)) → Blk W w.heap.size 65 #[.int .i64 0, .int .i64 0, .int .i64 0, .int .i64 0] → Below W2.heap.size W2 W → Code.wp _ _ _ _ W from ?_) _ HN7.out HR7.out HB7.out
              clear HN7 HR7 HB7 HN HR HB HBW n0' nf y0 bwl
              intro W7 hN7 hR7 hB7
              have nv := (hN7.cell k).trans (pad_setc hk3 _)
              have nl := hN7.lt
              have HN7 := Lib.hid hN7
              have HR7 := Lib.hid hR7
              have HB7 := Lib.hid hB7
              clear hN7 hR7 hB7
              have HMO := Lib.hid (fun (X : After W7) => mostOfR_any 112 X.w')
              rw [show grt 112 = 199 from rfl] at HMO
              have HIN := Lib.hid (fun (X : After W7) => InR_any v 0 199 X.w')
              cases hnum : numL 199 y.data.toList with
              | none =>
                have hin : inR v 0 199 = false := by
                  have := (HNV.out 199 (by omega)).2 hnum
                  exact inR_false (by omega)
                rw [hin] at HIN
                have HVN : Hid (lineL s.data.toList = none) := by
                  have e := HPA.out.trans (congrArg _ (partsN (by decide) (HPP.out.trans hnum) cs (lls ((x0 :: xs).drop (at_ + 1)))))
                  show _ = _
                  rw [HV.out, e]
                  rfl
                clear hnum HPA HNV hin
                refine wp_region_calm (by kernel_rfl) (by kernel_rfl) ?_
                repeat (go_big_quiet_step ((rename_i X; first | exact Calls.calm_sameR (HMO.out X) | exact Calls.calm_sameR (HIN.out X))))
                refine wpQuiet_nil ?_
                rintro W8 ⟨⟨_, hb8⟩, rfl⟩
                rename_i W8
                have HB8 := Lib.hid ((HB2.out.trans (HB7.out.mono HB2.out.size)).trans (hb8.mono (by have := HB2.out.size; have := HB7.out.size; omega)))
                have HR8 := Lib.hid (HR7.out.below hb8 HR7.out.lt)
                clear HMO HIN hb8 HN7 HR7 HB7 nv nl
                have r0 := HR8.out.cell 0
                have r1 := HR8.out.cell 1
                have r2 := HR8.out.cell 2
                have r3 := HR8.out.cell 3
                have f0 := HR8.out.frozen 0
                have f1 := HR8.out.frozen 1
                have f2 := HR8.out.frozen 2
                have f3 := HR8.out.frozen 3
                have rl := HR8.out.lt
                simp at r0 r1 r2 r3
                have HBE := Lib.hid ((((HB8.out.setCell (p := ⟨w.heap.size, 0, none⟩) (Nat.le_refl _) (.int .i64 0)).setCell (p := ⟨w.heap.size, 1, none⟩) (Nat.le_refl _) (.int .i64 0)).setCell (p := ⟨w.heap.size, 2, none⟩) (Nat.le_refl _) (.int .i64 0)).setCell (p := ⟨w.heap.size, 3, none⟩) (Nat.le_refl _) (.int .i64 0))
                go_wp2
                refine bodyPost_ret (v := .tuple #[.agg #[.int .i64 0, .int .i64 0, .int .i64 0, .int .i64 0], .bool false]) (by simp [results, Tryd.results61, go_sem, r0, r1, r2, r3]) rfl ?_
                exact LinePost.no (i := ⟨0, 0, 0, 0⟩) HVN.out rfl HBE.out
              | some n =>
                obtain ⟨rfl, hng⟩ := (HNV.out 199 (by omega)).1 n hnum
                have hin : inR (n : Int) 0 199 = true := inR_true (by omega) (by omega)
                rw [hin] at HIN
                rw [pad_set hns hk3] at HN7
                have HPA2 := Lib.hid (HPA.out.trans (partsC (by decide) (HPP.out.trans hnum) cs (lls ((x0 :: xs).drop (at_ + 1))) ns))
                rw [HCS.out] at HPA2
                clear hnum HPA HNV hin HPP
                refine wp_region_calm (by kernel_rfl) (by kernel_rfl) ?_
                repeat (go_big_quiet_step ((rename_i X; first | exact Calls.calm_sameR (HMO.out X) | exact Calls.calm_sameR (HIN.out X))))
                refine wpQuiet_nil ?_
                rintro W8 ⟨⟨_, hb8⟩, rfl⟩
                rename_i W8
                have HB8 := Lib.hid (HB7.out.trans (hb8.mono HB7.out.size))
                have HR8 := Lib.hid (HR7.out.below hb8 HR7.out.lt)
                have HN8 := Lib.hid (HN7.out.below hb8 HN7.out.lt)
                clear HMO HIN hb8 HN7 HR7 HB7 nv nl
                go_wp2_with fail
                exact ⟨⟨k + 1, by omega, by go_num, at_ + 1, ns ++ [n], by go_num, by omega, by omega, by simp [hns], HPA2, HN8, HR8, HB8⟩, by simp [intOf]; omega⟩
          · obtain rfl : k = 3 := by omega
            obtain ⟨n0, n1, n2, rfl⟩ : ∃ a b c, ns = [a, b, c] := by
              match ns, hns with
              | [a, b, c], _ => exact ⟨a, b, c, rfl⟩
            have HPE : Hid (partsL [s0, s1, s2] (lls xs) = some ([n0, n1, n2], lls ((x0 :: xs).drop at_))) := by
              refine HPA.out.trans ?_
              show (partsL [] (lls ((x0 :: xs).drop at_))).map _ = _
              rw [partsL.eq_def]
              simp
            have HN' : Hid (Blk wr W3.heap.size 161 #[.int .i64 (n0 : Nat), .int .i64 (n1 : Nat), .int .i64 (n2 : Nat)]) := HN
            have i0 := HN'.out.cell 0
            have i1 := HN'.out.cell 1
            have i2 := HN'.out.cell 2
            have r0 := HR.out.cell 0
            have r1 := HR.out.cell 1
            have r2 := HR.out.cell 2
            have r3 := HR.out.cell 3
            have f0 := HR.out.frozen 0
            have f1 := HR.out.frozen 1
            have f2 := HR.out.frozen 2
            have f3 := HR.out.frozen 3
            have rl := HR.out.lt
            simp at i0 i1 i2 r0 r1 r2 r3
            have HBE := Lib.hid ((((HBW.out.setCell (p := ⟨w.heap.size, 0, none⟩) (Nat.le_refl _) (.int .i64 p)).setCell (p := ⟨w.heap.size, 1, none⟩) (Nat.le_refl _) (.int .i64 n0)).setCell (p := ⟨w.heap.size, 2, none⟩) (Nat.le_refl _) (.int .i64 n1)).setCell (p := ⟨w.heap.size, 3, none⟩) (Nat.le_refl _) (.int .i64 n2))
            clear HPA HN HN' hk3 hk hns
            by_cases hat : at_ = xs.length + 1
            · have hai : ((at_ : Int) == (xs.length : Int) + 1) = true := by rw [hat]; simp
              have hai2 : (at_ : Int) = (xs.length : Int) + 1 := by omega
              have HVY : Hid (lineL s.data.toList = some ⟨p, n0, n1, n2⟩) := by
                show _ = _
                rw [HV.out, HPE.out, List.drop_of_length_le (by simp; omega)]
                rfl
              clear HPE HV HB HR hat
              go_wp2
              refine bodyPost_ret (v := .tuple #[.agg #[.int .i64 p, .int .i64 n0, .int .i64 n1, .int .i64 n2], .bool true]) (by simp [results, Tryd.results61, go_sem, r0, r1, r2, r3]) rfl ?_
              exact LinePost.yes HVY.out rfl HBE.out
            · have hai : ((at_ : Int) == (xs.length : Int) + 1) = false := by rw [beq_eq_false_iff_ne]; omega
              have HVN : Hid (lineL s.data.toList = none) := by
                show _ = _
                rw [HV.out, HPE.out, List.drop_eq_getElem_cons (by simp; omega)]
                rfl
              clear HPE HV HB HR hat
              go_wp2
              refine bodyPost_ret (v := .tuple #[.agg #[.int .i64 p, .int .i64 n0, .int .i64 n1, .int .i64 n2], .bool false]) (by simp [results, Tryd.results61, go_sem, r0, r1, r2, r3]) rfl ?_
              exact LinePost.no (i := ⟨p, n0, n1, n2⟩) HVN.out rfl HBE.out
      · have hneq : ¬ x0.toList = nmL p := by
          rw [ByteArray.toList_eq]
          exact fun e => hnm e.symm
        have HNM2 : Hid (∀ r, 1 ≤ r → r < p + 1 → nmL r ≠ x0.data.toList) := fun r h1 h2 => by
          rcases Nat.lt_or_ge r p with h | h
          · exact HNM.out r h1 h
          · obtain rfl : r = p := by omega
            exact hnm
        clear hnm HNM
        have HNQ := Lib.hid hneq
        clear hneq
        go_wp2_with fail
        · exact ⟨⟨p + 1, by go_num, by omega, by omega, HNM2, HB3⟩, by simp [intOf]; omega⟩
        · exfalso
          have h2 := HNQ.out
          clear HNQ
          simp_all
    · obtain rfl : p = 16 := by omega
      have HVN : Hid (lineL s.data.toList = none) := HL.out.trans (if_pos (opOf_no fun q h1 h2 => HNM.out q h1 (by omega)))
      clear hp HL HNM
      have r0 := HR.out.cell 0
      have r1 := HR.out.cell 1
      have r2 := HR.out.cell 2
      have r3 := HR.out.cell 3
      have f0 := HR.out.frozen 0
      have f1 := HR.out.frozen 1
      have f2 := HR.out.frozen 2
      have f3 := HR.out.frozen 3
      have rl := HR.out.lt
      simp at r0 r1 r2 r3
      have HBE := Lib.hid ((((HBW.out.setCell (p := ⟨w.heap.size, 0, none⟩) (Nat.le_refl _) (.int .i64 0)).setCell (p := ⟨w.heap.size, 1, none⟩) (Nat.le_refl _) (.int .i64 0)).setCell (p := ⟨w.heap.size, 2, none⟩) (Nat.le_refl _) (.int .i64 0)).setCell (p := ⟨w.heap.size, 3, none⟩) (Nat.le_refl _) (.int .i64 0))
      go_wp2
      refine bodyPost_ret (v := .tuple #[.agg #[.int .i64 0, .int .i64 0, .int .i64 0, .int .i64 0], .bool false]) (by simp [results, Tryd.results61, go_sem, r0, r1, r2, r3]) rfl ?_
      exact LinePost.no (i := ⟨0, 0, 0, 0⟩) HVN.out rfl HBE.out
end Go.Proofs.YtdjamdbamkhblacDoor
