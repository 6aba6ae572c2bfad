/- slices.Clone, IndexFunc, Index, Contains and DeleteFunc at acts, and TopQuiet's closures. No condition. By an AI agent (xactdel.py). -/
import Derived.Test.YtdjamdbamkhblacDoorG36
import Derived.Test.YtdjamdbamkhblacDoorG35
import Derived.Test.YtdjamdbamkhblacDoorG06
import Derived.Lib.SliceRun
namespace Go.Proofs.YtdjamdbamkhblacDoor
open Go.RowKit
set_option linter.unusedVariables false
set_option linter.unusedSimpArgs false

set_option maxHeartbeats 1000000 in
theorem IndexFunc_akt (F : FuncId) (cp : Array Value) (p : Akt → Bool) (A : Option Addr) (c : Nat) (l : List Akt) (w : World) (hr : RdA w w.heap.size A l) (hl : l.length ≤ maxLen)
    (eg : ∀ args w, (callFunc F args).run Tryd.prog w = .ok (.enter F args) w)
    (hp : ∀ x ∈ l, ∀ (w1 : World), Below w.heap.size w w1 → Calls Tryd.prog F (#[.agg #[.int .i64 x.kind, .int .i64 x.p, .int .i64 x.n, .int .i64 x.m, .string x.name, .string x.data]] ++ cp) w1 fun e w' => e = .returned (.bool (p x)) ∧ Below w1.heap.size w1 w') :
    Calls Tryd.prog 75 #[.slice A l.length c, .func (.func F) #[] cp] w fun e w' => e = .returned (.int .i64 (idxF p l 0)) ∧ Below w.heap.size w w' := by
  unfold maxLen at hl
  have HP := Lib.hid hp
  clear hp
  go_enter Tryd.func75, Tryd.ntmps75
  go_wp2
  go_loopw [8] (fun i wr => Cnt l.length i fun k => Below w.heap.size w wr ∧ Hid (idxF p l 0 = idxF p (l.drop k) k)) (fun i _ => l.length - (intOf i).toNat)
  case atStart => exact ⟨0, Nat.zero_le _, rfl, Below.refl _ _, rfl⟩
  case round =>
    obtain ⟨k, hk, rfl, hb, HV⟩ := hrel
    by_cases hlt : k < l.length
    · obtain ⟨b, o, rfl, hbB, hcell⟩ := hr (by omega)
      obtain ⟨c0, c1, c2, c3, c4, c5⟩ := hcell k hlt
      rw [← hb.cell (p := ⟨b, _, none⟩) hbB] at c0 c1 c2 c3 c4 c5
      have HD := Lib.hid (Cz8 (p := p) hlt)
      have HM := Lib.hid (List.getElem_mem hlt)
      clear hr hcell
      cases hpk : p l[k] with
      | true =>
        have HK := Lib.hid hpk
        clear hpk
        go_wp2_with fail
        refine (HP.out _ HM.out _ hb).mono ?_
        rw [HK.out]
        rintro e w1 ⟨rfl, hb1⟩
        go_wp2
        go_ret
        exact ⟨Azb (by rw [HV.out, HD.out, if_pos HK.out]), hb.trans (hb1.mono hb.size)⟩
      | false =>
        have HK := Lib.hid hpk
        clear hpk
        go_wp2_with fail
        refine (HP.out _ HM.out _ hb).mono ?_
        rw [HK.out]
        rintro e w1 ⟨rfl, hb1⟩
        go_wp2
        go_roundw
        case rel => exact ⟨k + 1, by omega, by go_num, hb.trans (hb1.mono hb.size), by show _ = _; rw [HV.out, HD.out, if_neg (by rw [HK.out]; decide)]⟩
        case measure => simp [intOf]; omega
    · go_wp2
      go_ret
      exact ⟨Azb (by rw [HV.out, List.drop_of_length_le (by omega)]; rfl), hb⟩

theorem info_akt : (Tryd.prog.info? 26).map (fun i => (i.zero, i.size, i.bytes)) = some (some (.agg #[.int .i64 0, .int .i64 0, .int .i64 0, .int .i64 0, .string ⟨#[]⟩, .string ⟨#[]⟩]), 6, 64) := by kernel_rfl
set_option maxHeartbeats 1000000 in
theorem Clone_akt (A : Option Addr) (n c : Nat) (xs : List Value) (w : World) (hr : Rd w w.heap.size 6 A n xs) (hnil : A = none → n = 0 ∧ c = 0) (h1 : ∀ u ∈ xs, u.oneCell' = true) (hn : n * 64 ≤ 140737488351232) :
    Calls Tryd.prog 35 #[.slice A n c] w fun e w' => ∃ A' c', e = .returned (.slice A' n c') ∧ w'.ownsRow w.heap.size 26 6 (.slice A' n c') n xs ∧ Below w.heap.size w w' := by
  obtain ⟨i0, hi0, hz0, hz1, hz2⟩ := info_parts info_akt
  have hq := fun (W : World) (a : Option Addr) (l c n' c' : Nat) => Lib.run_eql_slice_nil (P := Tryd.prog) W 27 26 a l c n' c' Tryd.underlying27
  cases A with
  | none =>
    obtain ⟨rfl, rfl⟩ := hnil rfl
    have hx : xs = [] := List.eq_nil_of_length_eq_zero (by simpa using hr.1)
    have HX := Lib.hid hx
    clear hx
    go_enter Tryd.func35, Tryd.ntmps35
    go_wp2
    go_ret
    exact ⟨_, _, rfl, by rw [HX.out]; exact World.ownsRow_nil _ _ _ _, Below.refl _ _⟩
  | some ad =>
    have hU := Tryd.underlying27
    go_enter Tryd.func35, Tryd.ntmps35
    go_wp2_with (at_builtin; (refine Az4 _ rfl (.tmp 5) (.tmp 6) _ rfl w.heap.size 26 i0 _ 6 64 hU hi0 hz0 hz1 hz2 rfl (by omega) (.slice (some ⟨w.heap.size, 0, none⟩) 0 0) 0 [] rfl ?own w.heap.size (some ad) n c xs rfl ?rd h1 ?len ?byt ?bas ?_); (case own => exact World.ownsRow_made w #[] 0 (Nat.le_refl _) (by simp [maxLen]) rfl); (case rd => exact hr.keep fun p hp => World.cell?_alloc_lt w _ p hp); (case len => (simp [maxLen]; omega)); (case byt => omega); (case bas => simp); intro v1 w1 hv1 hg1 _)
    go_ret
    rw [Nat.zero_add] at hv1
    obtain ⟨a1, k1, e1⟩ := Az5 hv1
    rw [e1] at hv1
    exact ⟨a1, k1, congrArg Ending.returned e1, by simpa using hv1, ((Below.refl _ _).alloc (Nat.le_refl _) _).grown hg1 (by simp) (by simp [Value.ownBlock])⟩


theorem ne_act {x y : Akt} (h : x ≠ y) : x.kind ≠ y.kind ∨ (x.kind = y.kind ∧ x.p ≠ y.p) ∨ (x.kind = y.kind ∧ x.p = y.p ∧ x.n ≠ y.n) ∨ (x.kind = y.kind ∧ x.p = y.p ∧ x.n = y.n ∧ x.m ≠ y.m) ∨ (x.kind = y.kind ∧ x.p = y.p ∧ x.n = y.n ∧ x.m = y.m ∧ x.name ≠ y.name) ∨ (x.kind = y.kind ∧ x.p = y.p ∧ x.n = y.n ∧ x.m = y.m ∧ x.name = y.name ∧ x.data ≠ y.data) := by
  obtain ⟨a0, a1, a2, a3, a4, a5⟩ := x
  obtain ⟨b0, b1, b2, b3, b4, b5⟩ := y
  simp only [ne_eq, Akt.mk.injEq] at h ⊢
  by_cases h0 : a0 = b0
  · by_cases h1 : a1 = b1
    · by_cases h2 : a2 = b2
      · by_cases h3 : a3 = b3
        · by_cases h4 : a4 = b4
          · by_cases h5 : a5 = b5
            · exact absurd ⟨h0, h1, h2, h3, h4, h5⟩ h
            · exact .inr (.inr (.inr (.inr (.inr ⟨h0, h1, h2, h3, h4, h5⟩))))
          · exact .inr (.inr (.inr (.inr (.inl ⟨h0, h1, h2, h3, h4⟩))))
        · exact .inr (.inr (.inr (.inl ⟨h0, h1, h2, h3⟩)))
      · exact .inr (.inr (.inl ⟨h0, h1, h2⟩))
    · exact .inr (.inl ⟨h0, h1⟩)
  · exact .inl h0
theorem keep_enter : ∀ args w, (callFunc 33 args).run Tryd.prog w = .ok (.enter 33 args) w := fun args w => by
  simp only [callFunc, run_program, Sem.run_bind, Result.andThen_ok, Tryd.func33]
  rfl
theorem loud_enter : ∀ args w, (callFunc 36 args).run Tryd.prog w = .ok (.enter 36 args) w := fun args w => by
  simp only [callFunc, run_program, Sem.run_bind, Result.andThen_ok, Tryd.func36]
  rfl
set_option maxHeartbeats 1000000 in
theorem Keep1_any (x : Akt) (w : World) : Calls Tryd.prog 33 #[.agg #[.int .i64 x.kind, .int .i64 x.p, .int .i64 x.n, .int .i64 x.m, .string x.name, .string x.data]] w fun e w' => e = .returned (.bool (Lz4 x)) ∧ Below w.heap.size w w' := by
  obtain ⟨kd, xp, xn, xm, nm, dt⟩ := x
  have HB := Lib.hid (Azc w (.cells #[.int .i64 kd, .int .i64 xp, .int .i64 xn, .int .i64 xm, .string nm, .string dt] 26))
  cases h1 : (xp == 0)
  case false =>
    go_enter Tryd.func33, Tryd.ntmps33
    go_wp2
    go_ret
    exact ⟨Aza (by simp [Lz4, h1]), HB.out⟩
  case true =>
    cases h2 : (xn == 0)
    case false =>
      go_enter Tryd.func33, Tryd.ntmps33
      go_wp2
      go_ret
      exact ⟨Aza (by simp [Lz4, h1, h2]), HB.out⟩
    case true =>
      cases h3 : decide (6 ≤ kd)
      case false =>
        have h3' : ¬ 6 ≤ kd := of_decide_eq_false h3
        go_enter Tryd.func33, Tryd.ntmps33
        go_wp2
        go_ret
        exact ⟨Aza (by simp [Lz4, h1, h2]; intro h; omega), HB.out⟩
      case true =>
        have h3' : 6 ≤ kd := of_decide_eq_true h3
        cases h4 : decide (kd ≤ 8)
        all_goals
          go_enter Tryd.func33, Tryd.ntmps33
          go_wp2
          go_ret
          exact ⟨Aza (by simp [Lz4, h1, h2, h3', h4]), HB.out⟩
theorem bs_ne {a b : ByteArray} (h : a ≠ b) : (a.toList == b.toList) = false := by
  rw [beq_eq_false_iff_ne]
  intro e
  apply h
  obtain ⟨⟨x⟩⟩ := a
  obtain ⟨⟨y⟩⟩ := b
  rw [show (⟨⟨x⟩⟩ : ByteArray).toList = x from ByteArray.toList_mk x, show (⟨⟨y⟩⟩ : ByteArray).toList = y from ByteArray.toList_mk y] at e
  rw [e]
set_option maxHeartbeats 1000000 in
theorem Index_akt (x : Akt) (A : Option Addr) (c : Nat) (l : List Akt) (w : World) (hr : RdA w w.heap.size A l) (hl : l.length ≤ maxLen) :
    Calls Tryd.prog 76 #[.slice A l.length c, .agg #[.int .i64 x.kind, .int .i64 x.p, .int .i64 x.n, .int .i64 x.m, .string x.name, .string x.data]] w fun e w' => e = .returned (.int .i64 (idxF (fun y => decide (x = y)) l 0)) ∧ Below w.heap.size w w' := by
  unfold maxLen at hl
  have hb0 := Azc w (.cells #[.int .i64 x.kind, .int .i64 x.p, .int .i64 x.n, .int .i64 x.m, .string x.name, .string x.data] 26)
  have HB := Lib.hid hb0
  have hX := Blk.new w 26 #[.int .i64 x.kind, .int .i64 x.p, .int .i64 x.n, .int .i64 x.m, .string x.name, .string x.data]
  have HR := Lib.hid ((hr.below hb0).more hb0.size)
  clear hb0 hr
  go_enter Tryd.func76, Tryd.ntmps76
  go_upto_region 1 with fail
  refine (show ∀ W : World, Blk W w.heap.size 26 #[.int .i64 x.kind, .int .i64 x.p, .int .i64 x.n, .int .i64 x.m, .string x.name, .string x.data] → RdA W W.heap.size A l → Below w.heap.size w W → Code.wp _ _ _ _ W from ?_) _ hX HR.out HB.out
  clear hX HR HB
  intro W hX hr hb
  have HB := Lib.hid hb
  have x0 := hX.cell 0
  have x1 := hX.cell 1
  have x2 := hX.cell 2
  have x3 := hX.cell 3
  have x4 := hX.cell 4
  have x5 := hX.cell 5
  have xl := hX.lt
  simp at x0 x1 x2 x3 x4 x5
  clear hX hb
  go_wp2
  go_loopw [8] (fun i wr => Cnt l.length i fun k => (∃ n, wr = W.drewN n) ∧ Hid (idxF (fun y => decide (x = y)) l 0 = idxF (fun y => decide (x = y)) (l.drop k) k)) (fun i _ => l.length - (intOf i).toNat)
  case atStart => exact ⟨0, Nat.zero_le _, rfl, ⟨0, rfl⟩, rfl⟩
  case round =>
    obtain ⟨k, hk, rfl, ⟨n, rfl⟩, HV⟩ := hrel
    by_cases hlt : k < l.length
    · obtain ⟨b, o, rfl, hbB, hcell⟩ := hr (by omega)
      obtain ⟨c0, c1, c2, c3, c4, c5⟩ := hcell k hlt
      have HD := Lib.hid (Cz8 (p := fun y => decide (x = y)) hlt)
      clear hr hcell
      by_cases hxy : x = l[k]
      · have HK := Lib.hid hxy
        rw [← hxy] at c0 c1 c2 c3 c4 c5
        clear hxy
        go_wp2
        go_quiet (fail)
        go_wp2
        go_ret
        exact ⟨Azb (by rw [HV.out, HD.out, if_pos (by simpa using HK.out)]), by first | exact Below.drewN' HB.out _ | exact Below.drewN' (Below.drewN' HB.out _) _⟩
      · have HK := Lib.hid hxy
        have hne := ne_act hxy
        clear hxy
        generalize l[k] = y at *
        rcases hne with hne | ⟨e0, hne⟩ | ⟨e0, e1, hne⟩ | ⟨e0, e1, e2, hne⟩ | ⟨e0, e1, e2, e3, hne⟩ | ⟨e0, e1, e2, e3, e4, hne⟩
        all_goals
          first | have hq := bs_ne hne | have hq := beq_eq_false_iff_ne.2 hne
          go_wp2
          go_quiet (fail)
          go_wp2
          go_roundw
          case rel => exact ⟨k + 1, by omega, by go_num, ⟨_, rfl⟩, by show _ = _; rw [HV.out, HD.out, if_neg (by simpa using HK.out)]⟩
          case measure => simp [intOf]; omega
    · go_wp2
      go_ret
      exact ⟨Azb (by rw [HV.out, List.drop_of_length_le (by omega)]; rfl), Below.drewN' HB.out n⟩
theorem idxF_mem (x : Akt) (l : List Akt) : decide (0 ≤ idxF (fun y => decide (x = y)) l 0) = decide (x ∈ l) := by
  rw [Czg]
  cases h : l.any (fun y => decide (x = y))
  · rw [eq_comm, decide_eq_false_iff_not]
    intro hm
    rw [List.any_eq_false] at h
    exact h x hm (by simp)
  · rw [List.any_eq_true] at h
    obtain ⟨y, hy, e⟩ := h
    have e := of_decide_eq_true e
    subst e
    simp [hy]
set_option maxHeartbeats 1000000 in
theorem Contains_akt (x : Akt) (A : Option Addr) (c : Nat) (l : List Akt) (w : World) (hr : RdA w w.heap.size A l) (hl : l.length ≤ maxLen) :
    Calls Tryd.prog 37 #[.slice A l.length c, .agg #[.int .i64 x.kind, .int .i64 x.p, .int .i64 x.n, .int .i64 x.m, .string x.name, .string x.data]] w fun e w' => e = .returned (.bool (decide (x ∈ l))) ∧ Below w.heap.size w w' := by
  have hb0 := Azc w (.cells #[.int .i64 x.kind, .int .i64 x.p, .int .i64 x.n, .int .i64 x.m, .string x.name, .string x.data] 26)
  have HB := Lib.hid hb0
  have HC := Lib.hid (Index_akt x A c l (w.alloc (.cells #[.int .i64 x.kind, .int .i64 x.p, .int .i64 x.n, .int .i64 x.m, .string x.name, .string x.data] 26)) ((hr.below hb0).more hb0.size) hl)
  clear hr hl hb0
  go_enter Tryd.func37, Tryd.ntmps37
  go_wp2_with fail
  refine HC.out.mono ?_
  rintro e w1 ⟨rfl, hb1⟩
  have HB1 := Lib.hid (HB.out.trans (hb1.mono HB.out.size))
  clear HC HB hb1
  go_wp2
  all_goals go_ret
  all_goals refine ⟨Aza ?_, HB1.out⟩
  all_goals rw [← idxF_mem]
set_option maxHeartbeats 1000000 in
theorem Loud_any (x : Akt) (b1 b2 : Nat) (A : Option Addr) (c : Nat) (l : List Akt) (w : World) (h1 : b1 < w.heap.size) (h2 : b2 < w.heap.size) (c1 : w.cell? ⟨b1, 0, none⟩ = some (.func (.func 33) #[] #[])) (c2 : w.cell? ⟨b2, 0, none⟩ = some (.slice A l.length c)) (hr : RdA w w.heap.size A l) (hl : l.length ≤ maxLen) :
    Calls Tryd.prog 36 #[.agg #[.int .i64 x.kind, .int .i64 x.p, .int .i64 x.n, .int .i64 x.m, .string x.name, .string x.data], .pointer (some ⟨b1, 0, none⟩), .pointer (some ⟨b2, 0, none⟩)] w fun e w' => e = .returned (.bool (Lz4 x && decide (x ∈ l))) ∧ Below w.heap.size w w' := by
  have eg := keep_enter
  have hb0 := Azc w (.cells #[.int .i64 x.kind, .int .i64 x.p, .int .i64 x.n, .int .i64 x.m, .string x.name, .string x.data] 26)
  have hX := Blk.new w 26 #[.int .i64 x.kind, .int .i64 x.p, .int .i64 x.n, .int .i64 x.m, .string x.name, .string x.data]
  have hB2 : Blk (w.alloc (.cells #[.int .i64 x.kind, .int .i64 x.p, .int .i64 x.n, .int .i64 x.m, .string x.name, .string x.data] 26)) w.heap.size 26 #[.int .i64 x.kind, .int .i64 x.p, .int .i64 x.n, .int .i64 x.m, .string x.name, .string x.data] := hX
  have HB := Lib.hid hb0
  have HX := Lib.hid hX
  have HR := Lib.hid ((hr.below hb0).more hb0.size)
  have HL := Lib.hid hl
  have d2 := (hb0.cell (p := ⟨b2, 0, none⟩) h2).trans c2
  have D2 := Lib.hid d2
  have L2 := Lib.hid (Nat.lt_of_lt_of_le h2 hb0.size)
  have HC := Lib.hid (Keep1_any x (w.alloc (.cells #[.int .i64 x.kind, .int .i64 x.p, .int .i64 x.n, .int .i64 x.m, .string x.name, .string x.data] 26)))
  clear hr hl hb0 hX hB2 d2
  cases hk : Lz4 x
  case false =>
    go_enter Tryd.func36, Tryd.ntmps36
    go_wp2_with fail
    refine HC.out.mono ?_
    rw [hk]
    rintro e w1 ⟨rfl, hb1⟩
    have HB1 := Lib.hid (HB.out.trans (hb1.mono HB.out.size))
    clear HB hb1 HC HX HR
    go_wp2
    go_ret
    exact ⟨Aza (by simp), HB1.out⟩
  case true =>
    go_enter Tryd.func36, Tryd.ntmps36
    go_wp2_with fail
    refine HC.out.mono ?_
    rw [hk]
    rintro e w1 ⟨rfl, hb1⟩
    have HB1 := Lib.hid (HB.out.trans (hb1.mono HB.out.size))
    have hX := HX.out.below hb1 HX.out.lt
    have x0 := hX.cell 0
    have x1 := hX.cell 1
    have x2 := hX.cell 2
    have x3 := hX.cell 3
    have x4 := hX.cell 4
    have x5 := hX.cell 5
    have xl := hX.lt
    simp at x0 x1 x2 x3 x4 x5
    have d2 := (hb1.cell (p := ⟨b2, 0, none⟩) L2.out).trans D2.out
    have HC2 := Lib.hid (Contains_akt x A c l w1 ((HR.out.below hb1).more hb1.size) HL.out)
    clear HB hb1 HC HX HR hX
    go_wp2_with fail
    refine HC2.out.mono ?_
    rintro e w2 ⟨rfl, hb2⟩
    have HB2 := Lib.hid (HB1.out.trans (hb2.mono HB1.out.size))
    clear HB1 hb2 HC2 x0 x1 x2 x3 x4 x5 xl d2
    go_wp2
    go_ret
    exact ⟨Aza (by simp), HB2.out⟩
end Go.Proofs.YtdjamdbamkhblacDoor
