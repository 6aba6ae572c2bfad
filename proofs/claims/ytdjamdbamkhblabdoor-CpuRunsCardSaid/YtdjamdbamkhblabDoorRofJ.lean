/- A round of the reference's loop, a theorem for each way (joined): no condition. -/
import Derived.Test.YtdjamdbamkhblabDoorRofC1
import Derived.Test.YtdjamdbamkhblabDoorRofC2
import Derived.Test.YtdjamdbamkhblabDoorRofC3
import Derived.Test.YtdjamdbamkhblabDoorRofC4
import Derived.Test.YtdjamdbamkhblabDoorRofS
namespace Go.Proofs.YtdjamdbamkhblabDoor
open Go.RowKit
set_option linter.unusedVariables false
set_option linter.unusedSimpArgs false

set_option maxRecDepth 1000000 in
theorem rc_some (w1 wr : World) (gO g c n k : Nat) (A : Option Addr) (l : List Ins) (s0 s : Mc) (B T M : Value) (u : Nat → Value) (Q0 : Exit → Act → World → Prop) (hO : Blk w1 gO 35 #[.int .i64 0, .int .i64 0, .int .i64 0, .int .i64 0, .int .i64 0, .int .i64 0, .int .i64 0, .int .i64 0, .int .i64 0, .slice none 0 0, .slice none 0 0])
    (hr : RdI w1 w1.heap.size A l) (hck : check l = 0) (HX : Hid (RExit w1 gO l n s0 Q0)) (hRef : Ref w1 wr g s 0 B T M) (hs : McOk s) (hml : s.mem.length ≤ 1024) (hm : s.mem.length = s0.mem.length) (hk : k + 1 ≤ 20000) (hrn : runs l (k + 1) s = runs l n s0)
    (hp : s.pos < l.length) :
    Code.wp Tryd.prog rbody (Exit.then (fun a' w'' => RWI w1 gO g c A l n s0 a' w'' ∧ rmu a' w'' < k + 1) Q0) ⟨#[.slice A l.length c, u 1, u 2, .int .i64 ((k : Int) + 1), u 4, u 5, u 6, u 7, .pointer (some ⟨gO, 0, none⟩), u 9, u 10, .pointer (some ⟨g, 0, none⟩), B, .int .i64 (s.pos : Int), u 14, u 15, u 16, u 17, u 18, u 19, u 20, u 21, u 22, u 23, u 24, u 25, u 26, u 27, u 28, u 29, u 30, u 31, u 32, u 33, u 34, u 35, u 36, u 37, u 38, u 39, u 40, u 41, u 42, u 43, u 44, u 45, u 46, u 47, u 48, u 49, u 50, u 51, u 52, u 53, u 54, u 55, u 56, u 57, u 58, u 59, u 60, u 61, u 62, u 63, u 64, u 65, u 66, u 67, u 68, u 69, u 70, u 71, u 72, u 73, u 74, u 75, u 76, u 77, u 78, u 79, u 80, u 81, u 82, u 83, u 84, u 85, u 86, u 87, u 88, u 89, u 90, u 91, u 92, u 93, u 94, u 95, u 96, u 97, u 98, u 99, u 100, u 101, u 102, u 103, u 104, u 105, u 106, u 107, u 108, u 109, u 110, u 111, u 112, u 113, u 114, u 115, u 116, u 117, u 118, u 119, u 120, u 121, u 122, u 123, u 124, u 125, u 126, u 127, u 128, u 129, u 130, u 131, u 132, u 133, u 134, u 135, u 136, u 137, u 138, u 139, u 140, u 141, u 142, u 143, u 144, u 145, u 146, u 147, u 148, u 149, u 150, u 151, u 152, u 153, u 154, u 155, u 156, u 157, u 158, u 159, u 160, u 161, u 162, u 163, u 164, u 165, u 166, u 167, u 168, u 169, u 170, u 171, u 172, u 173, u 174, u 175, u 176, u 177, u 178, u 179, u 180, u 181, u 182, u 183, u 184, u 185, u 186, u 187, u 188, u 189, u 190, u 191, u 192, u 193, u 194, u 195, u 196, u 197, u 198, u 199, u 200, u 201, u 202, u 203, u 204, u 205, u 206, u 207, u 208, u 209, u 210, u 211, u 212, u 213, u 214, u 215, u 216, u 217, u 218, u 219, u 220, u 221, u 222, u 223, u 224, u 225, u 226, u 227, u 228, u 229, u 230, u 231, u 232, u 233, u 234, u 235, u 236, u 237, u 238, u 239, u 240, u 241, u 242, u 243, u 244, u 245, u 246, u 247, u 248, u 249, u 250, u 251, u 252, u 253], []⟩ wr := by
  have hl : l.length ≤ 200 := ((check_zero_iff l).1 hck).1
  have hi := codeOk_of_check hck _ (List.getElem_mem hp)
  have hok := ((chk_zero_iff l).1 ((check_zero_iff l).1 hck).2 _ (List.getElem_mem hp)).2
  have hc := ((okI_iff _).1 hok).2.2
  have o1 := hi.op1
  have o2 := hi.op2
  have c00 : l[s.pos].op = 8 ∨ l[s.pos].op = 9 ∨ l[s.pos].op = 13 ∨ l[s.pos].op = 14 ∨ l[s.pos].op = 15 → l[s.pos].c = 0 := fun h => by
    have h1 : gC l[s.pos].op = 0 := by unfold gC; rw [if_neg (by omega), if_neg (by omega), if_neg (by omega)]
    rw [h1] at hc
    omega
  have h15 : l[s.pos].op = 1 ∨ l[s.pos].op = 2 ∨ l[s.pos].op = 3 ∨ l[s.pos].op = 4 ∨ l[s.pos].op = 5 ∨ l[s.pos].op = 6 ∨ l[s.pos].op = 7 ∨ l[s.pos].op = 8 ∨ l[s.pos].op = 9 ∨ l[s.pos].op = 10 ∨ l[s.pos].op = 11 ∨ l[s.pos].op = 12 ∨ l[s.pos].op = 13 ∨ l[s.pos].op = 14 ∨ l[s.pos].op = 15 := by omega
  rcases h15 with h | h | h | h | h | h | h | h | h | h | h | h | h | h | h
  · exact rc_li w1 wr gO g c n k A l s0 s B T M u Q0 hO hr hl (codeOk_of_check hck) HX hRef hs hml hm hk hrn hp _ rfl hi h
  · exact rc_add w1 wr gO g c n k A l s0 s B T M u Q0 hO hr hl (codeOk_of_check hck) HX hRef hs hml hm hk hrn hp _ rfl hi h
  · exact rc_sub w1 wr gO g c n k A l s0 s B T M u Q0 hO hr hl (codeOk_of_check hck) HX hRef hs hml hm hk hrn hp _ rfl hi h
  · exact rc_and w1 wr gO g c n k A l s0 s B T M u Q0 hO hr hl (codeOk_of_check hck) HX hRef hs hml hm hk hrn hp _ rfl hi h
  · exact rc_or w1 wr gO g c n k A l s0 s B T M u Q0 hO hr hl (codeOk_of_check hck) HX hRef hs hml hm hk hrn hp _ rfl hi h
  · exact rc_xor w1 wr gO g c n k A l s0 s B T M u Q0 hO hr hl (codeOk_of_check hck) HX hRef hs hml hm hk hrn hp _ rfl hi h
  · by_cases hz : rg s l[s.pos].b < rg s l[s.pos].c
    · exact rc_lt1 w1 wr gO g c n k A l s0 s B T M u Q0 hO hr hl (codeOk_of_check hck) HX hRef hs hml hm hk hrn hp _ rfl hi ⟨h, hz⟩
    · exact rc_lt0 w1 wr gO g c n k A l s0 s B T M u Q0 hO hr hl (codeOk_of_check hck) HX hRef hs hml hm hk hrn hp _ rfl hi ⟨h, hz⟩
  · by_cases hz : rg s l[s.pos].b < s.mem.length
    · exact rc_ld0 w1 wr gO g c n k A l s0 s B T M u Q0 hO hr hl (codeOk_of_check hck) HX hRef hs hml hm hk hrn hp _ rfl hi ⟨h, c00 (by omega), hz⟩
    · exact rc_ldF w1 wr gO g c n k A l s0 s B T M u Q0 hO hr hl (codeOk_of_check hck) HX hRef hs hml hm hk hrn hp _ rfl hi ⟨h, c00 (by omega), by omega⟩
  · by_cases hz : rg s l[s.pos].b < s.mem.length
    · exact rc_st0 w1 wr gO g c n k A l s0 s B T M u Q0 hO hr hl (codeOk_of_check hck) HX hRef hs hml hm hk hrn hp _ rfl hi ⟨h, c00 (by omega), hz⟩
    · exact rc_stF w1 wr gO g c n k A l s0 s B T M u Q0 hO hr hl (codeOk_of_check hck) HX hRef hs hml hm hk hrn hp _ rfl hi ⟨h, c00 (by omega), by omega⟩
  · by_cases h8 : l[s.pos].c < 8
    · exact rc_jmpA w1 wr gO g c n k A l s0 s B T M u Q0 hO hr hl (codeOk_of_check hck) HX hRef hs hml hm hk hrn hp _ rfl hi ⟨h, h8⟩
    · exact rc_jmpB w1 wr gO g c n k A l s0 s B T M u Q0 hO hr hl (codeOk_of_check hck) HX hRef hs hml hm hk hrn hp _ rfl hi ⟨h, by omega⟩
  · by_cases h8 : l[s.pos].c < 8
    · by_cases hz : rg s l[s.pos].a = 0
      · exact rc_jzA0 w1 wr gO g c n k A l s0 s B T M u Q0 hO hr hl (codeOk_of_check hck) HX hRef hs hml hm hk hrn hp _ rfl hi ⟨h, h8, hz⟩
      · exact rc_jzA1 w1 wr gO g c n k A l s0 s B T M u Q0 hO hr hl (codeOk_of_check hck) HX hRef hs hml hm hk hrn hp _ rfl hi ⟨h, h8, hz⟩
    · by_cases hz : rg s l[s.pos].a = 0
      · exact rc_jzB0 w1 wr gO g c n k A l s0 s B T M u Q0 hO hr hl (codeOk_of_check hck) HX hRef hs hml hm hk hrn hp _ rfl hi ⟨h, by omega, hz⟩
      · exact rc_jzB1 w1 wr gO g c n k A l s0 s B T M u Q0 hO hr hl (codeOk_of_check hck) HX hRef hs hml hm hk hrn hp _ rfl hi ⟨h, by omega, hz⟩
  · by_cases h8 : l[s.pos].c < 8
    · by_cases hz : s.back.length = 16
      · exact rc_call4A w1 wr gO g c n k A l s0 s B T M u Q0 hO hr hl (codeOk_of_check hck) HX hRef hs hml hm hk hrn hp _ rfl hi ⟨h, h8, hz⟩
      · exact rc_call0A w1 wr gO g c n k A l s0 s B T M u Q0 hO hr hl (codeOk_of_check hck) HX hRef hs hml hm hk hrn hp _ rfl hi ⟨h, h8, hz⟩
    · by_cases hz : s.back.length = 16
      · exact rc_call4B w1 wr gO g c n k A l s0 s B T M u Q0 hO hr hl (codeOk_of_check hck) HX hRef hs hml hm hk hrn hp _ rfl hi ⟨h, by omega, hz⟩
      · exact rc_call0B w1 wr gO g c n k A l s0 s B T M u Q0 hO hr hl (codeOk_of_check hck) HX hRef hs hml hm hk hrn hp _ rfl hi ⟨h, by omega, hz⟩
  · by_cases hz : s.back.length = 0
    · exact rc_ret1 w1 wr gO g c n k A l s0 s B T M u Q0 hO hr hl (codeOk_of_check hck) HX hRef hs hml hm hk hrn hp _ rfl hi ⟨h, c00 (by omega), hz⟩
    · exact rc_ret0 w1 wr gO g c n k A l s0 s B T M u Q0 hO hr hl (codeOk_of_check hck) HX hRef hs hml hm hk hrn hp _ rfl hi ⟨h, c00 (by omega), hz⟩
  · by_cases hz : s.told.length = 100
    · exact rc_tell5 w1 wr gO g c n k A l s0 s B T M u Q0 hO hr hl (codeOk_of_check hck) HX hRef hs hml hm hk hrn hp _ rfl hi ⟨h, c00 (by omega), hz⟩
    · exact rc_tell0 w1 wr gO g c n k A l s0 s B T M u Q0 hO hr hl (codeOk_of_check hck) HX hRef hs hml hm hk hrn hp _ rfl hi ⟨h, c00 (by omega), hz⟩
  · exact rc_halt w1 wr gO g c n k A l s0 s B T M u Q0 hO hr hl (codeOk_of_check hck) HX hRef hs hml hm hk hrn hp _ rfl hi ⟨h, c00 (by omega)⟩
set_option maxRecDepth 1000000 in
theorem round_any (w1 : World) (gO g c n : Nat) (A : Option Addr) (l : List Ins) (s0 : Mc) (Q0 : Exit → Act → World → Prop) (hO : Blk w1 gO 35 #[.int .i64 0, .int .i64 0, .int .i64 0, .int .i64 0, .int .i64 0, .int .i64 0, .int .i64 0, .int .i64 0, .int .i64 0, .slice none 0 0, .slice none 0 0])
    (hr : RdI w1 w1.heap.size A l) (hck : check l = 0) (HX : Hid (RExit w1 gO l n s0 Q0)) (hm0 : s0.mem.length ≤ 1024) (a : Act) (wr : World) (hI : RWI w1 gO g c A l n s0 a wr) :
    Code.wp Tryd.prog rbody (Exit.then (fun a' w'' => RWI w1 gO g c A l n s0 a' w'' ∧ rmu a' w'' < rmu a wr) Q0) a wr := by
  obtain ⟨h0, h1, h2, h3, h4, k, B, p, h5, h6, h7, hk, s, T, M, rfl, hRef, hs, hm, hrn⟩ := hI
  obtain ⟨t, d⟩ := a
  simp only at h0 h1 h2 h3 h4 h5 h6 h7
  subst h0
  have hmu : rmu ⟨t, []⟩ wr = k := by
    unfold rmu
    simp only
    rw [h5]
    simp
  rw [hmu]
  obtain ⟨u, rfl⟩ := arr_lit t h1
  have e0 : u 0 = .slice A l.length c := Option.some.inj h2
  have e8 : u 8 = .pointer (some ⟨gO, 0, none⟩) := Option.some.inj h3
  have e11 : u 11 = .pointer (some ⟨g, 0, none⟩) := Option.some.inj h4
  have e3 : u 3 = .int .i64 (k : Int) := Option.some.inj h5
  have e12 : u 12 = B := Option.some.inj h6
  have e13 : u 13 = .int .i64 (s.pos : Int) := Option.some.inj h7
  rw [e0, e8, e11, e3, e12, e13]
  cases k with
  | zero => exact rc_fuel0 w1 wr gO g c n A l s0 s B T M u Q0 hO HX hRef hrn
  | succ k =>
    rw [show ((k + 1 : Nat) : Int) = (k : Int) + 1 from rfl]
    rcases Nat.lt_or_ge s.pos l.length with hp | hp
    · exact rc_some w1 wr gO g c n k A l s0 s B T M u Q0 hO hr hck HX hRef hs (by omega) hm hk hrn hp
    · exact rc_none w1 wr gO g c n k A l s0 s B T M u Q0 hO HX hRef hk hrn hp ((check_zero_iff l).1 hck).1
theorem rloop (w1 : World) (gO g c n : Nat) (A : Option Addr) (l : List Ins) (s0 : Mc) (Q0 : Exit → Act → World → Prop) (hO : Blk w1 gO 35 #[.int .i64 0, .int .i64 0, .int .i64 0, .int .i64 0, .int .i64 0, .int .i64 0, .int .i64 0, .int .i64 0, .int .i64 0, .slice none 0 0, .slice none 0 0])
    (hr : RdI w1 w1.heap.size A l) (hck : check l = 0) (HX : Hid (RExit w1 gO l n s0 Q0)) (hm0 : s0.mem.length ≤ 1024) (a : Act) (wr : World) (hI : RWI w1 gO g c A l n s0 a wr) : Code.wp Tryd.prog (Code.loop rbody) Q0 a wr :=
  wp_loop (RWI w1 gO g c A l n s0) rmu hI fun a' w' h => round_any w1 gO g c n A l s0 Q0 hO hr hck HX hm0 a' w' h
end Go.Proofs.YtdjamdbamkhblabDoor
