/- The walk of the law CpuRuns. -/
import Derived.Test.YtdjamdbamkhblabDoorOutcome
import Derived.Test.YtdjamdbamkhblabDoorRunOf
namespace Go.Proofs.YtdjamdbamkhblabDoor.cpuRuns
open Go.RowKit
set_option linter.unusedVariables false
set_option linter.unusedSimpArgs false
theorem own_le {w : World} {base : Nat} {e : TypeId} {size n : Nat} {v : Value} {xs : List Value} (h : w.ownsRow base e size v n xs) : n ≤ maxLen := by
  rcases h.2 with ⟨_, h0⟩ | ⟨g, cap, cur, _, _, _, h1, h2, _⟩
  · omega
  · omega
set_option maxRecDepth 100000 in
set_option maxHeartbeats 8000000 in
theorem walk (A Am : Option Addr) (c cm : Nat) (l : List Ins) (r0 r1 r2 r3 r4 r5 r6 r7 : Int) (mem : List Int) (fuel : Int) (w : World) (hr : RdI w w.heap.size A l) (ht : Tab w) (hl : l.length ≤ maxLen)
    (hm : RdN w w.heap.size Am mem) (hml : mem.length ≤ maxLen) (hnil : Am = none → mem.length = 0 ∧ cm = 0) (hby : mem.length * 8 ≤ 140737488351232) :
    Calls Tryd.prog 8 #[.slice A l.length c, .agg #[.int .i64 r0, .int .i64 r1, .int .i64 r2, .int .i64 r3, .int .i64 r4, .int .i64 r5, .int .i64 r6, .int .i64 r7], .slice Am mem.length cm, .int .i64 fuel] w fun e w' => e = .returned (.bool true) ∧ Below w.heap.size w w' := by
  clear hnil
  have HR1 : Hid (∀ (B : Option Addr) (d : Nat) (W : World), RdI W W.heap.size A l → Tab W → RdN W W.heap.size B mem → (B = none → mem.length = 0 ∧ d = 0) →
      Calls Tryd.prog 17 #[.slice A l.length c, .agg #[.int .i64 r0, .int .i64 r1, .int .i64 r2, .int .i64 r3, .int .i64 r4, .int .i64 r5, .int .i64 r6, .int .i64 r7], .slice B mem.length d, .int .i64 fuel] W
        (RunPost W (runRes l [r0, r1, r2, r3, r4, r5, r6, r7] mem fuel) (runErr l [r0, r1, r2, r3, r4, r5, r6, r7] mem fuel))) :=
    fun B d W h1 h2 h3 h4 => Run_any A B c d l r0 r1 r2 r3 r4 r5 r6 r7 mem fuel W h1 h2 hl h3 hml h4
  have HR2 : Hid (∀ (W : World), RdI W W.heap.size A l → RdN W W.heap.size Am mem →
      Calls Tryd.prog 30 #[.slice A l.length c, .agg #[.int .i64 r0, .int .i64 r1, .int .i64 r2, .int .i64 r3, .int .i64 r4, .int .i64 r5, .int .i64 r6, .int .i64 r7], .slice Am mem.length cm, .int .i64 fuel] W
        (RunPost W (runRes l [r0, r1, r2, r3, r4, r5, r6, r7] mem fuel) (runErr l [r0, r1, r2, r3, r4, r5, r6, r7] mem fuel))) :=
    fun W h1 h3 => RunOf_any A Am c cm l r0 r1 r2 r3 r4 r5 r6 r7 mem fuel W h1 hl h3 hml
  obtain ⟨⟨s, en⟩, hrs⟩ : ∃ rs, runRes l [r0, r1, r2, r3, r4, r5, r6, r7] mem fuel = rs := ⟨_, rfl⟩
  obtain ⟨er, her⟩ : ∃ er, runErr l [r0, r1, r2, r3, r4, r5, r6, r7] mem fuel = er := ⟨_, rfl⟩
  rw [hrs, her] at HR1 HR2
  clear hrs her
  obtain ⟨i0, hi0, hz0, hz1, hz2⟩ := info_parts info_int
  have hU := Tryd.underlying33
  have HM := Lib.hid hml
  have HRI := Lib.hid hr
  have HT := Lib.hid ht
  have HRM := Lib.hid hm
  have hml2 := hml
  unfold maxLen at hml2
  have hB0 : Below w.heap.size w (w.alloc (.cells #[.int .i64 r0, .int .i64 r1, .int .i64 r2, .int .i64 r3, .int .i64 r4, .int .i64 r5, .int .i64 r6, .int .i64 r7] 28)) := below_al w _
  have hRB : Blk (w.alloc (.cells #[.int .i64 r0, .int .i64 r1, .int .i64 r2, .int .i64 r3, .int .i64 r4, .int .i64 r5, .int .i64 r6, .int .i64 r7] 28)) w.heap.size 28 #[.int .i64 r0, .int .i64 r1, .int .i64 r2, .int .i64 r3, .int .i64 r4, .int .i64 r5, .int .i64 r6, .int .i64 r7] := Blk.new w _ _
  have hlt := hRB.lt
  clear hr ht hm hl hml
  go_enter Tryd.func8, Tryd.ntmps8
  go_wp2_with (at_builtin; (generalize w.alloc (.cells #[.int .i64 r0, .int .i64 r1, .int .i64 r2, .int .i64 r3, .int .i64 r4, .int .i64 r5, .int .i64 r6, .int .i64 r7] 28) = V at *; refine wpList_append_rd _ rfl (.const (.slice none 0 0)) (.tmp 14) _ rfl V.heap.size 3 i0 _ 1 8 hU hi0 hz0 hz1 hz2 rfl (by omega) (.slice none 0 0) 0 [] rfl (World.ownsRow_nil _ _ _ _) w.heap.size _ mem.length cm (intCells mem) rfl (HRM.out.below hB0).rd (int_one mem) (by simp [maxLen]; omega) (by omega) (Nat.le_refl _) ?_; intro v1 w1 hv1 hg1 _; rw [Nat.zero_add] at hv1; obtain ⟨a1, k1, rfl⟩ := own_slice hv1; simp only [List.nil_append] at hv1; have hb1 : Below V.heap.size V w1 := (Below.refl _ _).grown hg1 (Nat.le_refl _) (by simp [Value.ownBlock]); have hbw1 : Below w.heap.size w w1 := hB0.trans (hb1.mono hB0.size); have hR1 := hRB.below hb1 hlt; have hK1 : Hid (RdN w1 w1.heap.size a1 mem) := RdN.of (Rd.of_own hv1); have hn1 := own_nilN hv1; clear hv1 hg1 hRB; have p0 := hR1.cell 0; have p1 := hR1.cell 1; have p2 := hR1.cell 2; have p3 := hR1.cell 3; have p4 := hR1.cell 4; have p5 := hR1.cell 5; have p6 := hR1.cell 6; have p7 := hR1.cell 7; simp at p0 p1 p2 p3 p4 p5 p6 p7; have hlt1 := hR1.lt))
  refine (HR1.out a1 k1 w1 ((HRI.out.below hbw1).more hbw1.size) (HT.out.below hbw1) hK1.out hn1).mono ?_
  rintro e w2 ⟨T, M, rfl, hT, hM, hb2⟩
  clear p0 p1 p2 p3 p4 p5 p6 p7
  obtain ⟨v0, hv0⟩ : ∃ v, s.regs.getD 0 0 = v := ⟨_, rfl⟩
  obtain ⟨v1, hv1⟩ : ∃ v, s.regs.getD 1 0 = v := ⟨_, rfl⟩
  obtain ⟨v2, hv2⟩ : ∃ v, s.regs.getD 2 0 = v := ⟨_, rfl⟩
  obtain ⟨v3, hv3⟩ : ∃ v, s.regs.getD 3 0 = v := ⟨_, rfl⟩
  obtain ⟨v4, hv4⟩ : ∃ v, s.regs.getD 4 0 = v := ⟨_, rfl⟩
  obtain ⟨v5, hv5⟩ : ∃ v, s.regs.getD 5 0 = v := ⟨_, rfl⟩
  obtain ⟨v6, hv6⟩ : ∃ v, s.regs.getD 6 0 = v := ⟨_, rfl⟩
  obtain ⟨v7, hv7⟩ : ∃ v, s.regs.getD 7 0 = v := ⟨_, rfl⟩
  obtain ⟨AT, kT, rfl⟩ := own_slice hT
  obtain ⟨AM, kM, rfl⟩ := own_slice hM
  have hTl := own_le hT
  have hMl := own_le hM
  have hbw2 := hbw1.trans (hb2.mono hbw1.size)
  have HTr := Lib.hid (rdN_own hT rfl)
  have HMr := Lib.hid (rdN_own hM rfl)
  have HK2 := Lib.hid ((hK1.out.below hb2).more hb2.size)
  have hR2 := hR1.below hb2 hlt1
  clear hT hM hR1 hK1
  have p0 := hR2.cell 0
  have p1 := hR2.cell 1
  have p2 := hR2.cell 2
  have p3 := hR2.cell 3
  have p4 := hR2.cell 4
  have p5 := hR2.cell 5
  have p6 := hR2.cell 6
  have p7 := hR2.cell 7
  simp at p0 p1 p2 p3 p4 p5 p6 p7
  have hlt2 := hR2.lt
  simp only [outV, natV, hv0, hv1, hv2, hv3, hv4, hv5, hv6, hv7]
  have hOB : Blk (w2.alloc (.cells #[.int .i64 (en : Int), .int .i64 (v0 : Int), .int .i64 (v1 : Int), .int .i64 (v2 : Int), .int .i64 (v3 : Int), .int .i64 (v4 : Int), .int .i64 (v5 : Int), .int .i64 (v6 : Int), .int .i64 (v7 : Int), .slice AT s.told.length kT, .slice AM s.mem.length kM] 35)) w2.heap.size 35 #[.int .i64 (en : Int), .int .i64 (v0 : Int), .int .i64 (v1 : Int), .int .i64 (v2 : Int), .int .i64 (v3 : Int), .int .i64 (v4 : Int), .int .i64 (v5 : Int), .int .i64 (v6 : Int), .int .i64 (v7 : Int), .slice AT s.told.length kT, .slice AM s.mem.length kM] := Blk.new w2 _ _
  have hbO : Below w2.heap.size w2 (w2.alloc (.cells #[.int .i64 (en : Int), .int .i64 (v0 : Int), .int .i64 (v1 : Int), .int .i64 (v2 : Int), .int .i64 (v3 : Int), .int .i64 (v4 : Int), .int .i64 (v5 : Int), .int .i64 (v6 : Int), .int .i64 (v7 : Int), .slice AT s.told.length kT, .slice AM s.mem.length kM] 35)) := below_al w2 _
  go_wp2_with fail
  generalize w2.alloc (.cells #[.int .i64 (en : Int), .int .i64 (v0 : Int), .int .i64 (v1 : Int), .int .i64 (v2 : Int), .int .i64 (v3 : Int), .int .i64 (v4 : Int), .int .i64 (v5 : Int), .int .i64 (v6 : Int), .int .i64 (v7 : Int), .slice AT s.told.length kT, .slice AM s.mem.length kM] 35) = V2 at *
  obtain ⟨gO, hgo⟩ : ∃ gO, gO = w2.heap.size := ⟨_, rfl⟩
  rw [← hgo] at hOB ⊢
  have hbV := hbw2.trans (hbO.mono hbw2.size)
  refine (HR2.out V2 ((HRI.out.below hbV).more hbV.size) ((HRM.out.below hbV).more hbV.size)).mono ?_
  rintro e w3 ⟨T', M', rfl, hT', hM', hb3⟩
  clear p0 p1 p2 p3 p4 p5 p6 p7
  obtain ⟨AT', kT', rfl⟩ := own_slice hT'
  obtain ⟨AM', kM', rfl⟩ := own_slice hM'
  have hbw3 := hbV.trans (hb3.mono hbV.size)
  have hb23 : Below w2.heap.size w2 w3 := hbO.trans (hb3.mono hbO.size)
  have HTr3 := Lib.hid ((HTr.out.below hb23).more hb23.size)
  have HMr3 := Lib.hid ((HMr.out.below hb23).more hb23.size)
  have HK3 := Lib.hid ((HK2.out.below hb23).more hb23.size)
  have HTr' := Lib.hid (rdN_own hT' rfl)
  have HMr' := Lib.hid (rdN_own hM' rfl)
  have hO3 := hOB.below hb3 hOB.lt
  have hltO := hO3.lt
  clear hT' hM' hOB hb3 hb23 hbO HTr HMr HK2 hR2 hgo
  simp only [outV, natV, hv0, hv1, hv2, hv3, hv4, hv5, hv6, hv7]
  have p0 := hO3.cell 0
  have p1 := hO3.cell 1
  have p2 := hO3.cell 2
  have p3 := hO3.cell 3
  have p4 := hO3.cell 4
  have p5 := hO3.cell 5
  have p6 := hO3.cell 6
  have p7 := hO3.cell 7
  have p8 := hO3.cell 8
  have p9 := hO3.cell 9
  have p10 := hO3.cell 10
  simp at p0 p1 p2 p3 p4 p5 p6 p7 p8 p9 p10
  have hb34 : Below w3.heap.size w3 (w3.alloc (.cells #[.int .i64 (en : Int), .int .i64 (v0 : Int), .int .i64 (v1 : Int), .int .i64 (v2 : Int), .int .i64 (v3 : Int), .int .i64 (v4 : Int), .int .i64 (v5 : Int), .int .i64 (v6 : Int), .int .i64 (v7 : Int), .slice AT' s.told.length kT', .slice AM' s.mem.length kM'] 35)) := below_al w3 _
  go_wp2_with fail
  generalize w3.alloc (.cells #[.int .i64 (en : Int), .int .i64 (v0 : Int), .int .i64 (v1 : Int), .int .i64 (v2 : Int), .int .i64 (v3 : Int), .int .i64 (v4 : Int), .int .i64 (v5 : Int), .int .i64 (v6 : Int), .int .i64 (v7 : Int), .slice AT' s.told.length kT', .slice AM' s.mem.length kM'] 35) = V4 at *
  have C := sameOutcome_any en v0 v1 v2 v3 v4 v5 v6 v7 AT AT' AM AM' kT kT' kM kM' (intsOf s.told) (intsOf s.mem) V4 ((HTr3.out.below hb34).more hb34.size) ((HTr'.out.below hb34).more hb34.size) ((HMr3.out.below hb34).more hb34.size) ((HMr'.out.below hb34).more hb34.size) (by rw [intsOf_len]; exact hTl) (by rw [intsOf_len]; exact hMl)
  simp only [intsOf_len] at C
  refine C.mono ?_
  clear C
  rintro e w5 ⟨rfl, hb5⟩
  have hb35 : Below w3.heap.size w3 w5 := hb34.trans (hb5.mono hb34.size)
  have hbw5 := hbw3.trans (hb35.mono hbw3.size)
  have HK5 := Lib.hid ((HK3.out.below hb35).more hb35.size)
  have HRM5 := Lib.hid ((HRM.out.below hbw5).more hbw5.size)
  clear hb34 hb5 hb35
  go_wp2_with fail
  refine (sameInts_any a1 Am k1 cm mem w5 HK5.out HRM5.out HM.out).mono ?_
  rintro e w6 ⟨rfl, n, rfl⟩
  go_wp2
  go_ret
  exact ⟨rfl, Below.drewN' hbw5 _⟩
end Go.Proofs.YtdjamdbamkhblabDoor.cpuRuns
