/- The walks of code.Check and of its reference: what they return, for every code. -/
import Derived.Test.YtdjamdbamkhblacDoorIn
namespace Go.Proofs.YtdjamdbamkhblacDoor
open Go.RowKit

def grt (c : Int) : Int := if c == 114 then 7 else if c == 119 then 65535 else if c == 112 then 199 else 0
/-- The shape of an instruction, by its kind. -/
def shp (q : Nat) : ByteArray :=
  match q with
  | 1 => ⟨#[114, 45, 119]⟩ | 2 => ⟨#[114, 114, 114]⟩ | 3 => ⟨#[114, 114, 114]⟩ | 4 => ⟨#[114, 114, 114]⟩ | 5 => ⟨#[114, 114, 114]⟩ | 6 => ⟨#[114, 114, 114]⟩ | 7 => ⟨#[114, 114, 114]⟩
  | 8 => ⟨#[114, 114, 45]⟩ | 9 => ⟨#[114, 114, 45]⟩ | 10 => ⟨#[45, 45, 112]⟩ | 11 => ⟨#[114, 45, 112]⟩ | 12 => ⟨#[45, 45, 112]⟩ | 13 => ⟨#[45, 45, 45]⟩ | 14 => ⟨#[114, 45, 45]⟩ | 15 => ⟨#[45, 45, 45]⟩
  | _ => ⟨#[]⟩
def gA (op : Int) : Int := if op = 10 ∨ op = 12 ∨ op = 13 ∨ op = 15 then 0 else 7
def gB (op : Int) : Int := if 2 ≤ op ∧ op ≤ 9 then 7 else 0
def gC (op : Int) : Int := if op = 1 then 65535 else if 2 ≤ op ∧ op ≤ 7 then 7 else if op = 10 ∨ op = 11 ∨ op = 12 then 199 else 0
theorem q_cases {q : Nat} (h1 : 1 ≤ q) (h2 : q ≤ 15) : q = 1 ∨ q = 2 ∨ q = 3 ∨ q = 4 ∨ q = 5 ∨ q = 6 ∨ q = 7 ∨ q = 8 ∨ q = 9 ∨ q = 10 ∨ q = 11 ∨ q = 12 ∨ q = 13 ∨ q = 14 ∨ q = 15 := by omega
theorem shp_size {q : Nat} (h1 : 1 ≤ q) (h2 : q ≤ 15) : (shp q).size = 3 := by
  rcases q_cases h1 h2 with h | h | h | h | h | h | h | h | h | h | h | h | h | h | h <;> subst h <;> rfl
theorem shp_parts {q : Nat} (h1 : 1 ≤ q) (h2 : q ≤ 15) (h : (shp q).size = 3) : grt ((shp q)[0]'(by omega)).toNat = gA q ∧ grt ((shp q)[1]'(by omega)).toNat = gB q ∧ grt ((shp q)[2]'(by omega)).toNat = gC q := by
  rcases q_cases h1 h2 with h | h | h | h | h | h | h | h | h | h | h | h | h | h | h <;> subst h <;> exact ⟨rfl, rfl, rfl⟩
/-- The table of shapes lies in its variable's block. -/
def Tab (w : World) : Prop := 1 < w.heap.size ∧ ∀ k : Nat, k < 16 → w.cell? ⟨1, k, none⟩ = some (.string (shp k))
theorem Tab.below {w w' : World} (h : Tab w) (hb : Below w.heap.size w w') : Tab w' :=
  ⟨Nat.lt_of_lt_of_le h.1 hb.size, fun k hk => (hb.cell (p := ⟨_, k, none⟩) h.1).trans (h.2 k hk)⟩

def okI (i : Ins) : Bool := decide (0 ≤ i.a ∧ i.a ≤ gA i.op) && decide (0 ≤ i.b ∧ i.b ≤ gB i.op) && decide (0 ≤ i.c ∧ i.c ≤ gC i.op)
def chk : List Ins → Int
  | [] => 0
  | i :: r => if i.op < 1 ∨ 15 < i.op then 3 else if okI i then chk r else 2
def check (l : List Ins) : Int := if 200 < l.length then 1 else chk l
theorem chk_drop {l : List Ins} {k : Nat} (h : k < l.length) : chk (l.drop k) = if l[k].op < 1 ∨ 15 < l[k].op then 3 else if okI l[k] then chk (l.drop (k + 1)) else 2 := by
  rw [List.drop_eq_getElem_cons h]; rfl

set_option maxHeartbeats 400000 in
theorem greatest_any (c : Int) (w : World) :
    Calls Tryd.prog 104 #[.int .u8 c] w fun e w' => e = .returned (.int .i64 (grt c)) ∧ w = w' := by
  go_enter Tryd.func104, Tryd.ntmps104
  go_wp2
  all_goals go_ret
  all_goals simp [grt, *]

set_option maxHeartbeats 1000000 in
theorem Check_any (A : Option Addr) (c : Nat) (l : List Ins) (w : World) (hr : RdI w w.heap.size A l) (ht : Tab w) (hl : l.length ≤ maxLen) :
    Calls Tryd.prog 62 #[.slice A l.length c] w fun e w' => e = .returned (.int .i64 (check l)) ∧ Below w.heap.size w w' := by
  unfold maxLen at hl
  by_cases h200 : 200 < l.length
  · go_enter Tryd.func62, Tryd.ntmps62
    go_wp2
    go_ret
    exact ⟨ret_int (by rw [check, if_pos h200]), Below.refl _ _⟩
  · have hck : check l = chk (l.drop 0) := by rw [check, if_neg h200]; rfl
    have HC := Lib.hid hck
    clear hck
    obtain ⟨h0, ht⟩ := ht
    go_enter Tryd.func62, Tryd.ntmps62
    go_wp2
    go_loopw [12] (fun i wr => ∃ k : Nat, k ≤ l.length ∧ i = .int .i64 k ∧ Below w.heap.size w wr ∧ Hid (check l = chk (l.drop k))) (fun i _ => l.length - (intOf i).toNat)
    case atStart => exact ⟨0, Nat.zero_le _, rfl, Below.refl _ _, HC⟩
    case round =>
      clear HC
      obtain ⟨k, hk, rfl, hb, HC⟩ := hrel
      by_cases hlt : k < l.length
      · obtain ⟨b, o, rfl, hbB, hcell⟩ := hr (by omega)
        obtain ⟨c0, c1, c2, c3⟩ := hcell k hlt
        rw [← hb.cell (p := ⟨b, _, none⟩) hbB] at c0 c1 c2 c3
        have HD := Lib.hid (chk_drop hlt)
        have hz0 : 1 < wr.heap.size := Nat.lt_of_lt_of_le h0 hb.size
        have hz1 : 1 < wr.heap.size + 1 := by omega
        have hz2 : 1 < wr.heap.size + 1 + 1 := by omega
        have hzb : b < wr.heap.size := Nat.lt_of_lt_of_le hbB hb.size
        have hzb1 : b < wr.heap.size + 1 := by omega
        have hbz := hb.size
        clear hr hcell
        by_cases hop : 1 ≤ l[k].op ∧ l[k].op ≤ 15
        · obtain ⟨hop1, hop2⟩ := hop
          obtain ⟨q, hq⟩ : ∃ q : Nat, l[k].op = q := ⟨l[k].op.toNat, by omega⟩
          rw [hq] at c0 hop1 hop2
          have tq := ht q (by omega)
          rw [← hb.cell (p := ⟨1, _, none⟩) h0] at tq
          have hs : (shp q).size = 3 := shp_size (by omega) (by omega)
          obtain ⟨hpa, hpb, hpc⟩ := shp_parts (q := q) (by omega) (by omega) hs
          have HE : Hid (okI l[k] = (decide (0 ≤ l[k].a ∧ l[k].a ≤ grt ((shp q)[0]'(by omega)).toNat) && decide (0 ≤ l[k].b ∧ l[k].b ≤ grt ((shp q)[1]'(by omega)).toNat) && decide (0 ≤ l[k].c ∧ l[k].c ≤ grt ((shp q)[2]'(by omega)).toNat))) := by
            rw [hpa, hpb, hpc]; unfold okI; rw [hq]; exact rfl
          have HF : Hid (¬ (l[k].op < 1 ∨ 15 < l[k].op)) := by show ¬ _; omega
          clear ht hq hpa hpb hpc
          generalize hx : l[k].a = x at *
          generalize hy : l[k].b = y at *
          generalize hz : l[k].c = z at *
          clear hx hy hz
          go_wp2
          refine wp_loop_rounds 4 ?_
          rw [rounds_succ]
          by_cases hxx : 0 ≤ x ∧ x ≤ grt ((shp q)[0]'(by omega)).toNat
          · obtain ⟨hx1, hx2⟩ := hxx
            go_wp2_with (go_at_call 104; refine (greatest_any _ _).mono ?_; rintro e w' ⟨rfl, rfl⟩)
            rw [rounds_succ]
            by_cases hxx : 0 ≤ y ∧ y ≤ grt ((shp q)[1]'(by omega)).toNat
            · obtain ⟨hy1, hy2⟩ := hxx
              go_wp2_with (go_at_call 104; refine (greatest_any _ _).mono ?_; rintro e w' ⟨rfl, rfl⟩)
              rw [rounds_succ]
              by_cases hxx : 0 ≤ z ∧ z ≤ grt ((shp q)[2]'(by omega)).toNat
              · obtain ⟨hz1, hz2⟩ := hxx
                go_wp2_with (go_at_call 104; refine (greatest_any _ _).mono ?_; rintro e w' ⟨rfl, rfl⟩)
                rw [rounds_succ]
                go_wp2
                go_roundw
                case rel =>
                  refine ⟨k + 1, by omega, by go_num, (hb.alloc hbz _).alloc (by simp; omega) _, ?_⟩
                  show _ = _
                  rw [HC.out, HD.out, if_neg HF.out, HE.out]
                  simp [hx1, hx2, hy1, hy2, hz1, hz2]
                case measure => simp [intOf]; omega
              · have HG : Hid (check l = 2) := by
                  show _ = _
                  rw [HC.out, HD.out, if_neg HF.out, HE.out]
                  simp [hxx]
                by_cases hz0 : z < 0
                · go_wp2_with (go_at_call 104; refine (greatest_any _ _).mono ?_; rintro e w' ⟨rfl, rfl⟩)
                  go_ret
                  exact ⟨ret_int HG.out.symm, (hb.alloc hbz _).alloc (by simp; omega) _⟩
                · have hz1 : grt ((shp q)[2]'(by omega)).toNat < z := by omega
                  go_wp2_with (go_at_call 104; refine (greatest_any _ _).mono ?_; rintro e w' ⟨rfl, rfl⟩)
                  go_ret
                  exact ⟨ret_int HG.out.symm, (hb.alloc hbz _).alloc (by simp; omega) _⟩
            · have HG : Hid (check l = 2) := by
                show _ = _
                rw [HC.out, HD.out, if_neg HF.out, HE.out]
                simp [hxx]
              by_cases hy0 : y < 0
              · go_wp2_with (go_at_call 104; refine (greatest_any _ _).mono ?_; rintro e w' ⟨rfl, rfl⟩)
                go_ret
                exact ⟨ret_int HG.out.symm, (hb.alloc hbz _).alloc (by simp; omega) _⟩
              · have hy1 : grt ((shp q)[1]'(by omega)).toNat < y := by omega
                go_wp2_with (go_at_call 104; refine (greatest_any _ _).mono ?_; rintro e w' ⟨rfl, rfl⟩)
                go_ret
                exact ⟨ret_int HG.out.symm, (hb.alloc hbz _).alloc (by simp; omega) _⟩
          · have HG : Hid (check l = 2) := by
              show _ = _
              rw [HC.out, HD.out, if_neg HF.out, HE.out]
              simp [hxx]
            by_cases hx0 : x < 0
            · go_wp2_with (go_at_call 104; refine (greatest_any _ _).mono ?_; rintro e w' ⟨rfl, rfl⟩)
              go_ret
              exact ⟨ret_int HG.out.symm, (hb.alloc hbz _).alloc (by simp; omega) _⟩
            · have hx1 : grt ((shp q)[0]'(by omega)).toNat < x := by omega
              go_wp2_with (go_at_call 104; refine (greatest_any _ _).mono ?_; rintro e w' ⟨rfl, rfl⟩)
              go_ret
              exact ⟨ret_int HG.out.symm, (hb.alloc hbz _).alloc (by simp; omega) _⟩
        · have HG : Hid (check l = 3) := by
            show _ = _
            rw [HC.out, HD.out, if_pos (by omega)]
          generalize l[k].op = q at *
          by_cases hop1 : q < 1
          · go_wp2
            go_ret
            exact ⟨ret_int HG.out.symm, hb.alloc hbz _⟩
          · have hop2 : 15 < q := by omega
            go_wp2
            go_ret
            exact ⟨ret_int HG.out.symm, hb.alloc hbz _⟩
      · go_wp2
        go_ret
        exact ⟨ret_int (by rw [HC.out, List.drop_of_length_le (by omega)]; rfl), hb⟩
end Go.Proofs.YtdjamdbamkhblacDoor
