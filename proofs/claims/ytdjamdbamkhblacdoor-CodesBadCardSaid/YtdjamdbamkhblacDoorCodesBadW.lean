/- The walk of the law CodesBad: it answers true. Condition: the library's variables and the tables (EnvT). -/
import Derived.Test.YtdjamdbamkhblacDoorCodesBW
namespace Go.Proofs.YtdjamdbamkhblacDoor
open Go.RowKit
set_option linter.unusedVariables false
set_option linter.unusedSimpArgs false
def oddCs : Array Value := #[.string ⟨#[108, 105, 32, 114, 49]⟩, .string ⟨#[108, 105, 32, 114, 49, 32, 54, 53, 53, 51, 54]⟩, .string ⟨#[108, 105, 32, 49, 32, 49]⟩, .string ⟨#[97, 100, 100, 32, 114, 49, 32, 114, 50]⟩, .string ⟨#[97, 100, 100, 32, 114, 49, 32, 114, 50, 32, 114, 56]⟩, .string ⟨#[97, 100, 100, 32, 32, 114, 49, 32, 114, 50, 32, 114, 51]⟩, .string ⟨#[108, 100, 32, 114, 49, 32, 114, 50, 32, 114, 51]⟩, .string ⟨#[106, 109, 112]⟩, .string ⟨#[106, 109, 112, 32, 114, 49]⟩, .string ⟨#[106, 109, 112, 32, 50, 48, 48]⟩, .string ⟨#[114, 101, 116, 32, 49]⟩, .string ⟨#[116, 101, 108, 108]⟩, .string ⟨#[104, 97, 108, 116, 32]⟩, .string ⟨#[76, 73, 32, 114, 49, 32, 49]⟩, .string ⟨#[108, 105, 32, 114, 49, 32, 48, 49]⟩, .string ⟨#[]⟩, .string ⟨#[110, 111]⟩]
theorem oddCs_at {k : Nat} (h : k < 17) : oddCs[k]? = some (.string ⟨(oddT k).toArray⟩) := by
  have hc : k = 0 ∨ k = 1 ∨ k = 2 ∨ k = 3 ∨ k = 4 ∨ k = 5 ∨ k = 6 ∨ k = 7 ∨ k = 8 ∨ k = 9 ∨ k = 10 ∨ k = 11 ∨ k = 12 ∨ k = 13 ∨ k = 14 ∨ k = 15 ∨ k = 16 := by omega
  rcases hc with h | h | h | h | h | h | h | h | h | h | h | h | h | h | h | h | h <;> subst h <;> rfl
theorem cat_runB (W : World) (a b : List UInt8) (h : a.length + b.length ≤ 1000000) : (Op.stringOp .add ⟨a.toArray⟩ ⟨b.toArray⟩).run Tryd.prog W = .ok (.string ⟨(a ++ b).toArray⟩) W := by
  rw [run_string_add_sum W _ _ (by show a.toArray.size + b.toArray.size ≤ _; simp; omega)]
  have : (⟨a.toArray⟩ : ByteArray) ++ ⟨b.toArray⟩ = ⟨(a ++ b).toArray⟩ := by
    apply ByteArray.ext
    simp
  rw [this]
theorem rep_ret (n : Nat) : Lib.repeatL [114, 101, 116, 10] n = showT (List.replicate n retI) := by
  induction n with
  | zero => rfl
  | succ n ih =>
    rw [List.replicate_succ, showT, List.flatMap_cons]
    show _ = insT retI ++ showT (List.replicate n retI)
    rw [← ih]
    rfl
theorem sz_list (l : List UInt8) : (⟨l.toArray⟩ : ByteArray).size = l.length := by show l.toArray.size = _; simp
set_option maxRecDepth 100000 in
set_option maxHeartbeats 4000000 in
theorem CodesBad_any (A : Option Addr) (c : Nat) (l : List Ins) (x : Int) (w : World) (hr : RdI w w.heap.size A l) (hwf : ∀ i ∈ l, i.wf) (hl : l.length ≤ maxLen) (wx : (Lit.int .i64 x).wf = true) (he : EnvT w) :
    Calls Tryd.prog 8 #[.slice A l.length c, .int .i64 x] w fun e w' => e = .returned (.bool true) ∧ Below w.heap.size w w' := by
  obtain ⟨x1, x2⟩ := wf64_of wx
  have hb0 := (Below.refl w.heap.size w).alloc (Nat.le_refl _) (.cells oddCs 9)
  have HX0 := Lib.hid (Blk.new w 9 oddCs)
  have HK := Lib.hid (KCode_any A c l (w.alloc (.cells oddCs 9)) ((hr.below hb0).more hb0.size) hwf hl)
  have HE := Lib.hid he
  have HB0 := Lib.hid hb0
  obtain ⟨p, hp⟩ : ∃ p, pick x 17 = p := ⟨_, rfl⟩
  have hp17 : p < 17 := by rw [← hp]; exact pick_lt x (by omega)
  have HPK : Hid (∀ W : World, Calls Tryd.prog 13 #[.int .i64 x, .int .i64 17] W fun e w' => e = .returned (.int .i64 (p : Nat)) ∧ W = w') := fun W => by
    rw [← hp]; exact picked_any x 17 W x1 x2 (by omega) (by omega)
  obtain ⟨a, ha⟩ : ∃ a, a = codeL l := ⟨_, rfl⟩
  have HCK : Hid (check a = 0) := by rw [ha]; exact codeL_check l
  have hal : a.length ≤ 41 := by rw [ha]; exact codeL_length l
  have hch : chk a = 0 := by rw [ha]; exact codeL_chk l
  rw [← ha] at HK
  obtain ⟨o1, o2, o3⟩ := oddT_bad hp17
  obtain ⟨od, hod⟩ : ∃ od, od = oddT p := ⟨_, rfl⟩
  rw [← hod] at o1 o2 o3
  have HTL : Hid ((showT a).length ≤ 2800) := by
    have h1 := showT_len (chk_insK.1 hch)
    show _ ≤ _
    omega
  have HR1 := Lib.hid (read_odd hch (by omega) (r := [104, 97, 108, 116, 10]) o1 o2 (by simp; omega))
  have HR2 := Lib.hid (read_short hch (by omega) (o := [104, 97, 108, 116]) (by simp) (by decide) (by simp))
  have HSV : Hid (showV a = .tuple #[.string ⟨(showT a).toArray⟩, .int .i64 0]) := by show _ = _; unfold showV; rw [HCK.out, if_pos rfl]
  have HLA : Hid (((a.length + 1 : Nat) : Int) = (a.length : Int) + 1) := by show _ = _; push_cast; rfl
  obtain ⟨T, hT⟩ : ∃ T, T = showT a := ⟨_, rfl⟩
  rw [← hT] at HTL HR1 HR2 HSV
  have HOD := Lib.hid hod
  clear ha hr hwf hl he hb0 hp wx o1 o2 hch hT hod
  go_enter Tryd.func8, Tryd.ntmps8
  go_upto_region 2 with fail
  refine (show ∀ W : World, W = w.alloc (.cells oddCs 9) → Code.wp _ _ _ _ W from ?_) _ rfl
  intro W0 hW0
  rw [← hW0] at HK HX0 HB0
  clear hW0
  go_wp2_with fail
  refine HK.out.mono ?_
  rintro e w1 ⟨V, rfl, hV, hb1⟩
  obtain ⟨A1, c1, rfl⟩ := own_slice hV
  have HB1 := Lib.hid (HB0.out.trans (hb1.mono HB0.out.size))
  have HX1 := Lib.hid (HX0.out.below hb1 HX0.out.lt)
  have HV := Lib.hid hV
  clear hV hb1 HK HX0 HB0
  go_wp2_with fail
  refine (Show_any A1 c1 a w1 (RdI.of (Rd.of_own HV.out)) (HE.out.below HB1.out).tab (by unfold maxLen; omega)).mono ?_
  rintro e w2 ⟨he2, hb2⟩
  obtain rfl := he2.trans (congrArg _ HSV.out)
  have HB2 := Lib.hid (HB1.out.trans (hb2.mono HB1.out.size))
  have HX2 := HX1.out.below hb2 HX1.out.lt
  have c0 : w2.cell? ⟨w.heap.size, p, none⟩ = some (.string ⟨od.toArray⟩) := by rw [HX2.cell, oddCs_at hp17, HOD.out]
  have xl := HX2.lt
  have hp17i : (p : Int) < 17 := by omega
  obtain ⟨T0, hT0⟩ : ∃ T0 : ByteArray, T0 = ⟨T.toArray⟩ := ⟨_, rfl⟩
  obtain ⟨od0, hod0⟩ : ∃ od0 : ByteArray, od0 = ⟨od.toArray⟩ := ⟨_, rfl⟩
  obtain ⟨U1, hU1⟩ : ∃ U1 : ByteArray, U1 = ⟨(T ++ od).toArray⟩ := ⟨_, rfl⟩
  obtain ⟨R1, hR1⟩ : ∃ R1 : ByteArray, R1 = ⟨(T ++ od ++ [10, 104, 97, 108, 116, 10]).toArray⟩ := ⟨_, rfl⟩
  obtain ⟨R2, hR2⟩ : ∃ R2 : ByteArray, R2 = ⟨(T ++ [104, 97, 108, 116]).toArray⟩ := ⟨_, rfl⟩
  have hadd1 := cat_runB w2 T od (by have := HTL.out; omega)
  have hadd2 := cat_runB w2 (T ++ od) [10, 104, 97, 108, 116, 10] (by have := HTL.out; simp; omega)
  have HA3 := Lib.hid (fun (W : World) => cat_runB W T [104, 97, 108, 116] (by have := HTL.out; simp; omega))
  have HS1 := Lib.hid (show R1.size ≤ maxLen from by rw [hR1, sz_list]; have := HTL.out; unfold maxLen; simp; omega)
  have HS2 := Lib.hid (show R2.size ≤ maxLen from by rw [hR2, sz_list]; have := HTL.out; unfold maxLen; simp; omega)
  have HD1 := Lib.hid (show readT R1.data.toList = ([], a.length + 1, 4) from by rw [hR1]; show readT (T ++ od ++ [10, 104, 97, 108, 116, 10]) = _; rw [List.append_assoc]; exact HR1.out)
  have HD2 := Lib.hid (show readT R2.data.toList = ([], a.length + 1, 5) from by rw [hR2]; exact HR2.out)
  rw [← hT0, ← hod0, ← hU1] at hadd1
  rw [← hU1, ← hR1] at hadd2
  rw [← hod0] at c0
  rw [← hT0, ← hR2] at HA3
  rw [← hT0]
  clear hT0 hod0 hU1 hR1 hR2 HR1 HR2 HTL
  clear he2 hb2 HB1 HX1 HV HX2
  go_wp2_with fail
  refine (HPK.out _).mono ?_
  rintro e w' ⟨rfl, rfl⟩
  go_wp2_with fail
  refine (Read_any R1 HS1.out w2 (HE.out.below HB2.out)).mono ?_
  intro e w3 h3
  obtain ⟨A3, c3, rfl, -, hb3⟩ := h3.good HD1.out
  have HB3 := Lib.hid (HB2.out.trans (hb3.mono HB2.out.size))
  clear h3 hb3 HB2 c0 xl hadd1 hadd2 HPK HS1
  have hadd3 := HA3.out w3
  go_wp2_with fail
  refine (Read_any R2 HS2.out w3 (HE.out.below HB3.out)).mono ?_
  intro e w4 h4
  obtain ⟨A4, c4, rfl, -, hb4⟩ := h4.good HD2.out
  have HB4 := Lib.hid (HB3.out.trans (hb4.mono HB3.out.size))
  clear h4 hb4 HB3 hadd3 HS2
  obtain ⟨R, hR⟩ : ∃ R : ByteArray, R = ⟨(Lib.repeatL [114, 101, 116, 10] 201).toArray⟩ := ⟨_, rfl⟩
  have HRP : Hid (Calls Tryd.prog 28 #[.string ⟨#[114, 101, 116, 10]⟩, .int .i64 201] w4 fun e w' => e = .returned (.string R) ∧ Below w4.heap.size w4 w') := by
    rw [hR]
    exact Tryd.strings_Repeat ⟨#[114, 101, 116, 10]⟩ 201 w4 (by omega) (by decide)
  have HRM := Lib.hid (show readT R.data.toList = ([], 201, 1) from by rw [hR]; show readT (Lib.repeatL [114, 101, 116, 10] 201) = _; rw [rep_ret]; exact read_many)
  have HS3 := Lib.hid (show R.size ≤ maxLen from by rw [hR, sz_list, Lib.repeatL_length]; decide)
  clear hR
  go_wp2_with fail
  refine HRP.out.mono ?_
  rintro e w5 ⟨rfl, hb5⟩
  have HB5 := Lib.hid (HB4.out.trans (hb5.mono HB4.out.size))
  clear HB4 HRP hb5
  go_wp2_with fail
  refine (Read_any R HS3.out w5 (HE.out.below HB5.out)).mono ?_
  intro e w6 h6
  obtain ⟨A6, c6, rfl, -, hb6⟩ := h6.good HRM.out
  have HB6 := Lib.hid (HB5.out.trans (hb6.mono HB5.out.size))
  clear h6 hb6 HB5 HS3 HRM
  go_wp2
  go_ret
  exact ⟨rfl, HB6.out⟩
end Go.Proofs.YtdjamdbamkhblacDoor
