/- The walk of code.Read: what it returns, for every text. Condition: the library's variables and the tables (EnvT). -/
import Derived.Test.YtdjamdbamkhblacDoorLine
import Derived.Test.YtdjamdbamkhblacDoorCells
namespace Go.Proofs.YtdjamdbamkhblacDoor
open Go.RowKit
set_option linter.unusedVariables false
set_option linter.unusedSimpArgs false
/-- What code.Read answers. -/
def ReadPost (s : List UInt8) (w : World) (e : Ending) (w' : World) : Prop :=
  ∃ V, e = .returned (.tuple #[V, .int .i64 ((readT s).2.1 : Nat), .int .i64 (readT s).2.2]) ∧ w'.ownsRow w.heap.size 65 4 V (readT s).1.length (insCells (readT s).1) ∧ Below w.heap.size w w'
theorem ReadPost.bad {s : List UInt8} {w w' : World} {k : Nat} {n : Int} {e : Ending} (h : readT s = ([], k, n)) (he : e = .returned (.tuple #[.slice none 0 0, .int .i64 (k : Nat), .int .i64 n])) (hb : Below w.heap.size w w') : ReadPost s w e w' := by
  refine ⟨.slice none 0 0, ?_, ?_, hb⟩
  · rw [he, h]
  · rw [h]; exact World.ownsRow_nil _ _ _ _
theorem info_InsR : (Tryd.prog.info? 65).map (fun i => (i.zero, i.size, i.bytes)) = some (some (.agg #[.int .i64 0, .int .i64 0, .int .i64 0, .int .i64 0]), 4, 32) := by kernel_rfl
theorem insCells_appR (a b : List Ins) : insCells (a ++ b) = insCells a ++ insCells b := by simp [insCells]
def strSz : Value → Nat
  | .string b => b.size
  | _ => 0
theorem emp_l (s : ByteArray) : s.toList.isEmpty = s.data.toList.isEmpty := by rw [ByteArray.toList_eq]
set_option maxRecDepth 100000 in
set_option maxHeartbeats 4000000 in
theorem Read_any (s : ByteArray) (hz : s.size ≤ maxLen) (w : World) (he : EnvT w) :
    Calls Tryd.prog 22 #[.string s] w (ReadPost s.data.toList w) := by
  have HE := Lib.hid he
  have hmx : (s.size : Int) ≤ 9223372036854775807 := by unfold maxLen at hz; omega
  by_cases hbig : 4000 < s.size
  · have h1 : (4000 : Int) < (s.size : Int) := by omega
    have HV : Hid (readT s.data.toList = ([], 0, 1)) := by
      show _ = _
      unfold readT
      rw [if_pos (by rw [dl_len]; exact hbig)]
    clear hz he hbig
    go_enter Tryd.func22, Tryd.ntmps22
    go_wp2
    go_ret3
    exact ReadPost.bad HV.out rfl (Below.refl _ _)
  have h1 : ¬ (4000 : Int) < (s.size : Int) := by omega
  have HV : Hid (readT s.data.toList = readL s.data.toList []) := by
    show _ = _
    unfold readT
    rw [if_neg (by rw [dl_len]; exact hbig)]
  have HZ := Lib.hid (show s.size ≤ 4000 by omega)
  clear hz he hbig
  go_enter Tryd.func22, Tryd.ntmps22
  go_wp2_with fail
  go_loopw [0, 5, 6] (fun S V i wr => ∃ (t : ByteArray) (out : List Ins), S = .string t ∧ i = .int .i64 ((out.length + 1 : Nat) : Int) ∧ t.size ≤ 4000 ∧ out.length ≤ 200 ∧ Hid (wr.ownsRow w.heap.size 65 4 V out.length (insCells out)) ∧ Hid (readT s.data.toList = readL t.data.toList out) ∧ Hid (Below w.heap.size w wr)) (fun S _ _ _ => strSz S)
  case atStart => exact ⟨s, [], rfl, rfl, HZ.out, by simp, World.ownsRow_nil _ _ _ _, HV, Below.refl _ _⟩
  case round =>
    clear HV HZ
    obtain ⟨t, out, rfl, rfl, htz, ho, HO, HV, HB⟩ := hrel
    obtain ⟨A, c, rfl⟩ := own_slice HO.out
    by_cases ht0 : t.data.toList = []
    · have e1 : t.toList.isEmpty = true := by rw [emp_l, ht0]; rfl
      have e2 : t.toList = [] := by rw [ByteArray.toList_eq]; exact ht0
      have HV2 : Hid (readT s.data.toList = (out, 0, 0)) := HV.out.trans ((congrArg (fun x => readL x out) ht0).trans (readL_nil out))
      clear ht0 HV
      go_wp2
      go_ret3
      refine ⟨.slice A out.length c, ?_, ?_, HB.out⟩
      · rw [HV2.out]; rfl
      · rw [HV2.out]; exact HO.out
    · have e1 : t.toList.isEmpty = false := by rw [emp_l, List.isEmpty_eq_false_iff]; exact ht0
      have e2 : ¬ t.toList = [] := by rw [ByteArray.toList_eq]; exact ht0
      have HEW := Lib.hid (HE.out.below HB.out)
      obtain ⟨m, hm⟩ := HEW.out.mx.2
      have hC := Tryd.strings_Cut t ⟨#[10]⟩ m wr (by omega) hm
      rw [show (⟨#[10]⟩ : ByteArray).data.toList = [10] from rfl, cut_cutN] at hC
      have HAT : Hid (((out.length + 1 : Nat) : Int) = (out.length : Int) + 1) := by show _ = _; push_cast; rfl
      clear hm
      cases hc : cutN t.data.toList with
      | none =>
        rw [hc] at hC
        have HC := Lib.hid hC
        have HV2 := Lib.hid (HV.out.trans (readL_none ht0 hc))
        clear hC hc ht0 HV
        go_wp2_with fail
        refine HC.out.mono ?_
        rintro e w1 ⟨rfl, n, rfl⟩
        have HB1 := Lib.hid (HB.out.trans ((Below.drewN' (Below.refl wr.heap.size wr) n).mono HB.out.size))
        clear HC
        go_wp2
        go_ret3
        exact ReadPost.bad HV2.out rfl HB1.out
      | some ab =>
        obtain ⟨a, b⟩ := ab
        rw [hc] at hC
        have HV2 := Lib.hid (HV.out.trans (readL_cut hc))
        have hlen := congrArg List.length (cutN_some hc)
        rw [dl_len] at hlen
        simp at hlen
        obtain ⟨la, hla⟩ : ∃ la : ByteArray, la = ⟨a.toArray⟩ := ⟨_, rfl⟩
        obtain ⟨lb, hlb⟩ : ∃ lb : ByteArray, lb = ⟨b.toArray⟩ := ⟨_, rfl⟩
        simp only at hC
        rw [← hla, ← hlb] at hC
        have da : la.data.toList = a := by rw [hla]
        have db : lb.data.toList = b := by rw [hlb]
        have sa : la.size = a.length := by rw [← dl_len, da]
        have sb : lb.size = b.length := by rw [← dl_len, db]
        have HC := Lib.hid hC
        have HLN := Lib.hid (fun (W : World) (h : EnvT W) => line_any la (by omega) W h)
        have HSB := Lib.hid (show lb.size < t.size ∧ lb.size ≤ 4000 by omega)
        rw [← da, ← db] at HV2
        clear hC hc ht0 HV hlen hla hlb da db sa sb
        go_wp2_with fail
        refine HC.out.mono ?_
        rintro e w1 ⟨rfl, n, hw1⟩
        have hb1 : Below wr.heap.size wr w1 := by rw [hw1]; exact Below.drewN' (Below.refl wr.heap.size wr) n
        clear HC hw1
        have HB1 := Lib.hid (HB.out.trans (hb1.mono HB.out.size))
        have HO1 := Lib.hid (own_below HO.out hb1)
        have HE1 := Lib.hid (HEW.out.below hb1)
        clear hb1 HB HO HEW
        by_cases h200 : out.length = 200
        · have h200b : ((out.length : Int) == 200) = true := by rw [h200]; rfl
          have h200i : (out.length : Int) = 200 := by omega
          rw [if_pos h200] at HV2
          have HV3 : Hid (readT s.data.toList = ([], 201, 1)) := by show _ = _; rw [HV2.out, h200]
          clear h200
          go_wp2
          go_ret3
          exact ReadPost.bad HV3.out rfl HB1.out
        · have h200b : ((out.length : Int) == 200) = false := by rw [beq_eq_false_iff_ne]; omega
          have h200i : ¬ (out.length : Int) = 200 := by omega
          rw [if_neg h200] at HV2
          go_wp2_with fail
          refine (HLN.out w1 HE1.out).mono ?_
          rintro e w2 ⟨⟨i, ok, rfl, hy, hn⟩, hb2⟩
          have HB2 := Lib.hid (HB1.out.trans (hb2.mono HB1.out.size))
          have HO2 := Lib.hid (own_below HO1.out hb2)
          clear HLN HO1 HE1 hb2
          cases hl : lineL la.data.toList with
          | none =>
            obtain rfl := hn hl
            rw [hl] at HV2
            have HV3 : Hid (readT s.data.toList = ([], out.length + 1, 4)) := HV2.out
            have HB3 := Lib.hid (HB2.out.alloc HB2.out.size (.cells #[.int .i64 i.op, .int .i64 i.a, .int .i64 i.b, .int .i64 i.c] 65))
            clear hl hy hn
            go_wp2
            go_ret3
            exact ReadPost.bad HV3.out rfl HB3.out
          | some j =>
            obtain ⟨rfl, rfl⟩ := hy j hl
            rw [hl] at HV2
            clear hl hy hn
            have hbn := (Below.refl w2.heap.size w2).alloc (Nat.le_refl _) (.cells #[.int .i64 i.op, .int .i64 i.a, .int .i64 i.b, .int .i64 i.c] 65)
            have hI3 := Blk.new w2 65 #[.int .i64 i.op, .int .i64 i.a, .int .i64 i.b, .int .i64 i.c]
            have hB3 := HB2.out.alloc HB2.out.size (.cells #[.int .i64 i.op, .int .i64 i.a, .int .i64 i.b, .int .i64 i.c] 65)
            go_upto_region 15 with fail
            refine (show ∀ W : World, Below w.heap.size w W → Blk W w2.heap.size 65 #[.int .i64 i.op, .int .i64 i.a, .int .i64 i.b, .int .i64 i.c] → W.ownsRow w.heap.size 65 4 (.slice A out.length c) out.length (insCells out) → Code.wp _ _ _ _ W from ?_) _ hB3 hI3 (own_below HO2.out hbn)
            clear hbn hI3 hB3 HB1 HB2 HO2
            intro W3 hb3 hi3 ho3
            have i0 := hi3.cell 0
            have i1 := hi3.cell 1
            have i2 := hi3.cell 2
            have i3 := hi3.cell 3
            have il := hi3.lt
            simp at i0 i1 i2 i3
            have hU := Tryd.underlying56
            obtain ⟨j0, hi0, hz0, hz1, hz2⟩ := info_parts info_InsR
            have hb4 := hb3.alloc hb3.size (.cells #[.int .i64 i.op, .int .i64 i.a, .int .i64 i.b, .int .i64 i.c] 65)
            have ho4 := own_below ho3 ((Below.refl W3.heap.size W3).alloc (Nat.le_refl _) (.cells #[.int .i64 i.op, .int .i64 i.a, .int .i64 i.b, .int .i64 i.c] 65))
            go_wp2_with (at_builtin; (refine wpList_append_rd _ rfl (.tmp 39) (.tmp 41) _ rfl w.heap.size 65 j0 _ 4 32 hU hi0 hz0 hz1 hz2 rfl (by omega) (.slice A out.length c) out.length (insCells out) rfl ho4 _ (some ⟨W3.heap.size, 0, none⟩) 1 1 (insCells [i]) rfl ((Blk.new W3 _ _).rd 1 4 (by simp)) (ins_one _) ?len ?byt ?bas ?_); (case len => (unfold maxLen; omega)); (case byt => omega); (case bas => exact hb4.size); intro v5 w5 hv5 hg5 _; rw [← insCells_appR] at hv5; have hb5 := hb4.grown hg5 hb4.size (fun q hq => (ho4.lt q hq).1))
            have HV3 : Hid (readT s.data.toList = readL lb.data.toList (out ++ [i])) := HV2.out
            exact ⟨⟨lb, out ++ [i], rfl, by simp, HSB.out.2, by simp; omega, by rw [List.length_append]; exact hv5, HV3, hb5⟩, HSB.out.1⟩
end Go.Proofs.YtdjamdbamkhblacDoor
