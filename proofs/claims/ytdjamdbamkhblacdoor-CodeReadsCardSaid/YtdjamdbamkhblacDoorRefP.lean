/- The walks of the reference's wordsOf and numberOf: what they return, for every string. No condition. -/
import Derived.Test.YtdjamdbamkhblacDoorReadP
import Derived.Test.YtdjamdbamkhblacDoorRd
import Derived.Test.YtdjamdbamkhblacDoorBlk
namespace Go.Proofs.YtdjamdbamkhblacDoor
open Go.RowKit
set_option linter.unusedVariables false
set_option linter.unusedSimpArgs false
def inR (n lo hi : Int) : Bool := decide (lo ≤ n) && decide (n ≤ hi)
theorem inR_true {n lo hi : Int} (h1 : lo ≤ n) (h2 : n ≤ hi) : inR n lo hi = true := by simp [inR, h1, h2]
theorem inR_false {n lo hi : Int} (h : n < lo ∨ hi < n) : inR n lo hi = false := by
  rcases h with h | h
  · simp [inR]; omega
  · simp [inR]; omega
set_option maxHeartbeats 400000 in
theorem InR_any (n lo hi : Int) (w : World) :
    Calls Tryd.prog 102 #[.int .i64 n, .int .i64 lo, .int .i64 hi] w fun e w' => e = .returned (.bool (inR n lo hi)) ∧ w = w' := by
  by_cases h1 : lo ≤ n <;> by_cases h2 : n ≤ hi
  all_goals
    go_enter Tryd.func102, Tryd.ntmps102
    go_wp2
    go_ret
    simp [inR, h1, h2]
theorem dl_lenR (x : ByteArray) : x.data.toList.length = x.size := Array.length_toList
/-- A number of digits, as the reference reads it; -1: it is none. -/
def NumPost (t : List UInt8) (v : Int) : Prop := ∀ g : Nat, g ≤ 65535 → (∀ n, numL g t = some n → v = (n : Int) ∧ n ≤ g) ∧ (numL g t = none → ¬ (0 ≤ v ∧ v ≤ (g : Int)))
theorem foldl_le (l : List UInt8) : ∀ a : Nat, a ≤ l.foldl (fun n c => 10 * n + (c.toNat - 48)) a := by
  induction l with
  | nil => intro a; exact Nat.le_refl _
  | cons x y ih => intro a; exact Nat.le_trans (by omega) (ih (10 * a + (x.toNat - 48)))
theorem NumPost.bad {t : List UInt8} (h : ∀ g, g ≤ 65535 → numL g t = none) : NumPost t (-1) := fun g hg =>
  ⟨(fun n hn => by rw [h g hg] at hn; cases hn), fun _ => by omega⟩
theorem numL_nodig {t : List UInt8} (h : digL t = false) (g : Nat) : numL g t = none := by
  unfold numL
  rw [if_neg (by rw [h]; rintro ⟨h1, _⟩; cases h1)]
theorem numL_big {t : List UInt8} {g : Nat} (h : g < valL t) : numL g t = none := by
  unfold numL
  rw [if_neg (by rintro ⟨_, h2⟩; omega)]
theorem NumPost.val {t : List UInt8} (h : digL t = true) : NumPost t (valL t : Nat) := fun g hg => by
  unfold numL
  by_cases hv : valL t ≤ g
  · rw [if_pos ⟨h, hv⟩]
    exact ⟨(fun n hn => by cases hn; exact ⟨rfl, hv⟩), fun hn => by cases hn⟩
  · rw [if_neg (fun hh => hv hh.2)]
    exact ⟨(fun n hn => by cases hn), fun _ => by omega⟩
theorem val_take {t : List UInt8} (k : Nat) : valL (t.take k) ≤ valL t := by
  have e : valL t = (t.drop k).foldl (fun n c => 10 * n + (c.toNat - 48)) (valL (t.take k)) := by
    unfold valL
    rw [← List.foldl_append, List.take_append_drop]
  rw [e]
  exact foldl_le _ _
theorem val_snoc {t : List UInt8} {k : Nat} (h : k < t.length) : valL (t.take (k + 1)) = 10 * valL (t.take k) + (t[k].toNat - 48) := by
  rw [List.take_succ_eq_append_getElem h, valL_app]
set_option maxRecDepth 100000 in
set_option maxHeartbeats 4000000 in
theorem numberOf_any (t : ByteArray) (hz : t.size ≤ 4000) (w : World) :
    Calls Tryd.prog 101 #[.string t] w fun e w' => (∃ v : Int, e = .returned (.int .i64 v) ∧ NumPost t.data.toList v) ∧ w = w' := by
  obtain ⟨l, hl⟩ : ∃ l, l = t.data.toList := ⟨_, rfl⟩
  have hll : l.length = t.size := by rw [hl]; exact dl_lenR t
  have hts : (t.size : Int) ≤ 9223372036854775807 := by omega
  go_enter Tryd.func101, Tryd.ntmps101
  go_wp2_with fail
  go_loopw [3, 4] (fun n i wr => Cnt t.size i fun k => n = .int .i64 (valL (l.take k) : Nat) ∧ valL (l.take k) ≤ 1000100 ∧ (∀ c ∈ l.take k, isDig c = true) ∧ w = wr) (fun _ i _ => t.size - (intOf i).toNat)
  case atStart => exact ⟨0, Nat.zero_le _, rfl, rfl, by simp [valL], by simp, rfl⟩
  case round =>
    obtain ⟨k, hk, rfl, rfl, hv, hd, rfl⟩ := hrel
    by_cases hlt : k < t.size
    · have hkl : k < l.length := by omega
      have hlti : (k : Int) < (t.size : Int) := by omega
      have hbk : t[k]'hlt = l[k] := by subst hl; rfl
      obtain ⟨b, hb⟩ : ∃ b, b = l[k] := ⟨_, rfl⟩
      have hsn := val_snoc hkl
      have htk : l.take (k + 1) = l.take k ++ [l[k]] := List.take_succ_eq_append_getElem hkl
      rw [← hb] at hbk hsn htk
      have hmem : b ∈ l := by rw [hb]; exact List.getElem_mem hkl
      have hb255 : b.toNat ≤ 255 := by have := b.toNat_lt; omega
      obtain ⟨V, hV⟩ : ∃ V, V = valL (l.take k) := ⟨_, rfl⟩
      rw [← hV] at hv hsn
      have hvl : V ≤ valL l := by rw [hV]; exact val_take k
      rw [← hV]
      have HVV := Lib.hid hV
      clear hV
      have HL := Lib.hid hl
      have HD := Lib.hid hd
      have HSN := Lib.hid hsn
      have HTK := Lib.hid htk
      clear hd hsn htk hl hb
      by_cases h48 : 48 ≤ b.toNat ∧ b.toNat ≤ 57
      · have hin : inR (b.toNat : Int) 48 57 = true := inR_true (by omega) (by omega)
        by_cases hbig : 100000 < V
        · have hbi : (100000 : Int) < (V : Int) := by omega
          have HP : Hid (NumPost t.data.toList (-1)) := NumPost.bad fun g hg => numL_big (by rw [← HL.out]; omega)
          go_wp2_with fail
          refine (InR_any _ _ _ _).mono ?_
          rintro e w' ⟨rfl, rfl⟩
          rw [hin]
          go_wp2
          go_ret
          exact ⟨⟨_, rfl, HP.out⟩, rfl⟩
        · have hbi : ¬ (100000 : Int) < (V : Int) := by omega
          have hsub : IntKind.u8.wrap ((b.toNat : Int) - 48) = (b.toNat : Int) - 48 := by
            simp [IntKind.wrap, IntKind.bits, IntKind.signed]
            omega
          go_wp2_with fail
          refine (InR_any _ _ _ _).mono ?_
          rintro e w' ⟨rfl, rfl⟩
          rw [hin]
          go_wp2_with fail
          refine ⟨⟨k + 1, by omega, by go_num, ?_, ?_, ?_, trivial⟩, by simp [intOf]; omega⟩
          · rw [HSN.out]
            congr 1
            omega
          · rw [HSN.out]; omega
          · intro c hc
            rw [HTK.out, List.mem_append] at hc
            rcases hc with hc | hc
            · exact HD.out c hc
            · simp at hc
              subst hc
              simp [isDig]
              omega
      · have hin : inR (b.toNat : Int) 48 57 = false := inR_false (by omega)
        have HP : Hid (NumPost t.data.toList (-1)) := NumPost.bad fun g hg => numL_nodig (by
          rw [← HL.out]
          have : l.all isDig = false := by
            rw [Bool.eq_false_iff]
            intro h
            have := List.all_eq_true.1 h b hmem
            simp [isDig] at this
            omega
          unfold digL
          rw [this]
          simp) g
        go_wp2_with fail
        refine (InR_any _ _ _ _).mono ?_
        rintro e w' ⟨rfl, rfl⟩
        rw [hin]
        go_wp2
        go_ret
        exact ⟨⟨_, rfl, HP.out⟩, rfl⟩
    · obtain rfl : k = t.size := by omega
      have hlti : ¬ (t.size : Int) < (t.size : Int) := by omega
      have htl : l.take t.size = l := List.take_of_length_le (by omega)
      rw [htl] at hd hv
      rw [htl]
      have HL := Lib.hid hl
      have hal : l.all isDig = true := List.all_eq_true.2 hd
      obtain ⟨V, hV⟩ : ∃ V, V = valL l := ⟨_, rfl⟩
      rw [← hV]
      have HVV := Lib.hid hV
      cases l with
      | nil =>
        have h0 : t.size = 0 := by rw [← hll]; rfl
        have HP : Hid (NumPost t.data.toList (-1)) := NumPost.bad fun g hg => numL_nodig (by rw [← HL.out]; rfl) g
        clear hl hd hal hV htl hv hll
        go_wp2
        go_ret
        exact ⟨⟨_, rfl, HP.out⟩, rfl⟩
      | cons c r =>
        have h1 : t.size = r.length + 1 := by rw [← hll]; rfl
        have h0 : ((t.size : Int) == 0) = false := by rw [beq_eq_false_iff_ne]; omega
        have h0t : 0 < t.size := by omega
        have hb0 : t[0]'h0t = c := by
          have : t[0]'h0t = t.data.toList[0]'(by rw [← hl]; simp) := rfl
          rw [this]
          simp [← hl]
        have HD := Lib.hid hal
        by_cases hz1 : 1 < t.size
        · have hz1i : (1 : Int) < (t.size : Int) := by omega
          by_cases hc : c = 48
          · have HP : Hid (NumPost t.data.toList (-1)) := NumPost.bad fun g hg => numL_nodig (by
              rw [← HL.out, hc]
              have hr : r ≠ [] := by intro e; rw [e] at h1; simp at h1; omega
              unfold digL
              simp [hr]) g
            subst hc
            clear hl hd hal hV htl hv hll
            go_wp2
            go_ret
            exact ⟨⟨_, rfl, HP.out⟩, rfl⟩
          · have hcb : (((c.toNat : Nat) : Int) == 48) = false := by
              rw [beq_eq_false_iff_ne]
              intro e
              apply hc
              apply UInt8.toNat_inj.1
              show c.toNat = 48
              omega
            have HP : Hid (NumPost t.data.toList (V : Nat)) := by
              show NumPost _ _
              rw [HVV.out, ← HL.out]
              refine NumPost.val ?_
              unfold digL
              rw [HD.out]
              simp [hc]
            clear hl hd hal hV htl hv hll
            go_wp2
            go_ret
            exact ⟨⟨_, rfl, HP.out⟩, rfl⟩
        · have hz1i : ¬ (1 : Int) < (t.size : Int) := by omega
          have hr : r = [] := List.eq_nil_of_length_eq_zero (by omega)
          have HP : Hid (NumPost t.data.toList (V : Nat)) := by
            show NumPost _ _
            rw [HVV.out, ← HL.out]
            refine NumPost.val ?_
            unfold digL
            rw [HD.out, hr]
            simp
          clear hl hd hal hV htl hv hll
          go_wp2
          go_ret
          exact ⟨⟨_, rfl, HP.out⟩, rfl⟩
end Go.Proofs.YtdjamdbamkhblacDoor
