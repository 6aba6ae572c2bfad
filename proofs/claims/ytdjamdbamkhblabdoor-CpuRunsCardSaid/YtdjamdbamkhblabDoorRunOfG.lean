/- The walk of the reference's RunOf where it runs. No condition. -/
import Derived.Test.YtdjamdbamkhblabDoorRofJ
import Derived.Test.YtdjamdbamkhblabDoorWords
namespace Go.Proofs.YtdjamdbamkhblabDoor
open Go.RowKit
set_option linter.unusedVariables false
set_option linter.unusedSimpArgs false

set_option maxRecDepth 100000 in
set_option maxHeartbeats 40000000 in
theorem RunOf_good (A Am : Option Addr) (c cm : Nat) (l : List Ins) (r0 r1 r2 r3 r4 r5 r6 r7 : Int) (mem : List Int) (fuel : Int) (w : World) (hr : RdI w w.heap.size A l) (hl : l.length ≤ maxLen)
    (hm : RdN w w.heap.size Am mem) (hml : mem.length ≤ maxLen) (hc0 : check l = 0) (hbig2 : (mem.length : Int) ≤ 1024) (hf1 : 0 ≤ fuel) (hf2 : fuel ≤ 20000) (har : [r0, r1, r2, r3, r4, r5, r6, r7].any oddW = false) (ham : mem.any oddW = false) :
    Calls Tryd.prog 30 #[.slice A l.length c, .agg #[.int .i64 r0, .int .i64 r1, .int .i64 r2, .int .i64 r3, .int .i64 r4, .int .i64 r5, .int .i64 r6, .int .i64 r7], .slice Am mem.length cm, .int .i64 fuel] w
      (RunPost w (runRes l [r0, r1, r2, r3, r4, r5, r6, r7] mem fuel) (runErr l [r0, r1, r2, r3, r4, r5, r6, r7] mem fuel)) := by
  obtain ⟨n, rfl⟩ : ∃ n : Nat, fuel = (n : Int) := ⟨fuel.toNat, by omega⟩
  have HL := Lib.hid hl
  have HML := Lib.hid hml
  unfold maxLen at hl hml
  have HC := Lib.hid hc0
  clear hc0
  have hin : inB (n : Int) 0 20000 = true := inB_true hf1 hf2
  have HE : Hid (runErr l [r0, r1, r2, r3, r4, r5, r6, r7] mem (n : Int) = 0) := by
    show _ = _
    rw [runErr, if_pos HC.out, if_neg (by omega), if_neg (by rw [List.any_append, har, ham]; intro h; rcases h with h | h | h; exact absurd h (by omega); exact absurd h (by omega); cases h)]
  have HWD : Hid (∀ x ∈ [r0, r1, r2, r3, r4, r5, r6, r7] ++ mem, 0 ≤ x ∧ x ≤ 65535) := words_ok (by rw [List.any_append, har, ham]; rfl)
  have HAR := Lib.hid har
  clear har
  have HAM := Lib.hid ham
  clear ham
  go_enter Tryd.func30, Tryd.ntmps30
  have hB0 : Below w.heap.size w ((w.alloc (.cells #[.int .i64 r0, .int .i64 r1, .int .i64 r2, .int .i64 r3, .int .i64 r4, .int .i64 r5, .int .i64 r6, .int .i64 r7] 28)).alloc (.cells #[.int .i64 0, .int .i64 0, .int .i64 0, .int .i64 0, .int .i64 0, .int .i64 0, .int .i64 0, .int .i64 0, .int .i64 0, .slice none 0 0, .slice none 0 0] 35)) := (below_al w _).alloc (by simp) _
  have hRB : Blk ((w.alloc (.cells #[.int .i64 r0, .int .i64 r1, .int .i64 r2, .int .i64 r3, .int .i64 r4, .int .i64 r5, .int .i64 r6, .int .i64 r7] 28)).alloc (.cells #[.int .i64 0, .int .i64 0, .int .i64 0, .int .i64 0, .int .i64 0, .int .i64 0, .int .i64 0, .int .i64 0, .int .i64 0, .slice none 0 0, .slice none 0 0] 35)) w.heap.size 28 #[.int .i64 r0, .int .i64 r1, .int .i64 r2, .int .i64 r3, .int .i64 r4, .int .i64 r5, .int .i64 r6, .int .i64 r7] := (Blk.new w _ _).alloc _
  have hOB : Blk ((w.alloc (.cells #[.int .i64 r0, .int .i64 r1, .int .i64 r2, .int .i64 r3, .int .i64 r4, .int .i64 r5, .int .i64 r6, .int .i64 r7] 28)).alloc (.cells #[.int .i64 0, .int .i64 0, .int .i64 0, .int .i64 0, .int .i64 0, .int .i64 0, .int .i64 0, .int .i64 0, .int .i64 0, .slice none 0 0, .slice none 0 0] 35)) (w.heap.size + 1) 35 #[.int .i64 0, .int .i64 0, .int .i64 0, .int .i64 0, .int .i64 0, .int .i64 0, .int .i64 0, .int .i64 0, .int .i64 0, .slice none 0 0, .slice none 0 0] := Blk.new' (by simp)
  go_wp2_with fail
  generalize (w.alloc (.cells #[.int .i64 r0, .int .i64 r1, .int .i64 r2, .int .i64 r3, .int .i64 r4, .int .i64 r5, .int .i64 r6, .int .i64 r7] 28)).alloc (.cells #[.int .i64 0, .int .i64 0, .int .i64 0, .int .i64 0, .int .i64 0, .int .i64 0, .int .i64 0, .int .i64 0, .int .i64 0, .slice none 0 0, .slice none 0 0] 35) = V at *
  refine (CodeFault_any A c l V ((hr.below hB0).more hB0.size) HL.out).mono ?_
  rw [HC.out]
  rintro e w1 ⟨rfl, hb1⟩
  have hbw := hB0.trans (hb1.mono hB0.size)
  have hR1 := hRB.below hb1 hRB.lt
  have hO1 := hOB.below hb1 hOB.lt
  obtain ⟨gr, hgr⟩ : ∃ gr, gr = w.heap.size := ⟨_, rfl⟩
  obtain ⟨gO, hgo⟩ : ∃ gO, gO = w.heap.size + 1 := ⟨_, rfl⟩
  have hgr0 : w.heap.size ≤ gr := by omega
  have hgo0 : w.heap.size ≤ gO := by omega
  have hgg : gr ≠ gO := by omega
  rw [← hgo] at hO1 ⊢
  rw [← hgr] at hR1 ⊢
  clear hgr hgo hRB hOB hB0 hb1 V
  have p0 := hR1.cell 0
  simp at p0
  have hgrl := hR1.lt
  have hrr : RdN w1 w1.heap.size (some ⟨gr, 0, none⟩) [r0, r1, r2, r3, r4, r5, r6, r7] := fun _ => ⟨gr, 0, rfl, hgrl, fun k hk => by
    rw [Nat.zero_add, hR1.cell]
    simp at hk
    have : k = 0 ∨ k = 1 ∨ k = 2 ∨ k = 3 ∨ k = 4 ∨ k = 5 ∨ k = 6 ∨ k = 7 := by omega
    rcases this with h | h | h | h | h | h | h | h <;> subst h <;> rfl⟩
  have HRR := Lib.hid hrr
  have HRM := Lib.hid ((hm.below hbw).more hbw.size)
  clear hrr
  have CR : Hid (Calls Tryd.prog 68 #[.slice (some ⟨gr, 0, none⟩) 8 8] w1 fun e w' => e = .returned (.bool true) ∧ w1 = w') := by
    have h := allWords_any (some ⟨gr, 0, none⟩) 8 [r0, r1, r2, r3, r4, r5, r6, r7] w1 HRR.out (by simp [maxLen])
    rw [HAR.out] at h
    exact h
  have CM : Hid (Calls Tryd.prog 68 #[.slice Am mem.length cm] w1 fun e w' => e = .returned (.bool true) ∧ w1 = w') := by
    have h := allWords_any Am cm mem w1 HRM.out HML.out
    rw [HAM.out] at h
    exact h
  have h0s : Hid (∀ x ∈ [r0, r1, r2, r3, r4, r5, r6, r7], 0 ≤ x) := fun x hx => (HWD.out x (List.mem_append_left _ hx)).1
  have hm0 : Hid (∀ x ∈ mem, 0 ≤ x) := fun x hx => (HWD.out x (List.mem_append_right _ hx)).1
  have HOB := Lib.hid hO1
  have c0 := hR1.cell 0
  have c1 := hR1.cell 1
  have c2 := hR1.cell 2
  have c3 := hR1.cell 3
  have c4 := hR1.cell 4
  have c5 := hR1.cell 5
  have c6 := hR1.cell 6
  have c7 := hR1.cell 7
  simp at c0 c1 c2 c3 c4 c5 c6 c7
  have hU := Tryd.underlying33
  obtain ⟨i0, hi0, hz0, hz1, hz2⟩ := info_parts info_int
  go_upto_region 8 with (first | (go_at_call 73; refine (In_any _ _ _ _).mono ?_; rintro e w' ⟨rfl, rfl⟩) | (go_at_call 68; (with_reducible refine CR.out.mono ?_); rintro e w' ⟨rfl, rfl⟩) | (go_at_call 68; (with_reducible refine CM.out.mono ?_); rintro e w' ⟨rfl, rfl⟩))
  have HM1 := Lib.hid ((hm.below hbw).more hbw.size).rd
  have HG := Lib.hid hgrl
  go_cut [11] (fun u wx => ∃ g M, u = .pointer (some ⟨g, 0, none⟩) ∧ Ref w1 wx g (toMc [r0, r1, r2, r3, r4, r5, r6, r7] mem) 0 (.slice none 0 0) (.slice none 0 0) M)
  case first =>
    go_region_law
      (first
        | (refine step_append_rd _ (by rfl) _ _ _ (by rfl) w1.heap.size 3 i0 _ 1 8 hU hi0 hz0 hz1 hz2 rfl (by omega) (.slice none 0 0) 0 [] (by rfl) (World.ownsRow_nil _ _ _ _) w1.heap.size Am mem.length cm (intCells mem) (by rfl) ?rd (int_one _) ?len ?byt ?bas ?_
           case rd => first | exact HM1.out.below (Below.drewN' (Below.refl _ _) 1) | exact HM1.out.below (Below.drewN' (below_al _ _) 1)
           case len => (simp [maxLen]; omega)
           case byt => omega
           case bas => simp
           intro A' c' w' hown hgrow hat
           have hgl2 : gr < w'.heap.size := Nat.lt_of_lt_of_le (by simp <;> omega) hgrow.size
           have s0 := (cell_grown hgrow gr 0 (by simp <;> omega) (by simp [Value.ownBlock])).trans (show _ = some (Value.int .i64 r0) by first | exact c0 | exact (World.cell?_alloc_lt w1 _ _ hgrl).trans c0)
           have s1 := (cell_grown hgrow gr 1 (by simp <;> omega) (by simp [Value.ownBlock])).trans (show _ = some (Value.int .i64 r1) by first | exact c1 | exact (World.cell?_alloc_lt w1 _ _ hgrl).trans c1)
           have s2 := (cell_grown hgrow gr 2 (by simp <;> omega) (by simp [Value.ownBlock])).trans (show _ = some (Value.int .i64 r2) by first | exact c2 | exact (World.cell?_alloc_lt w1 _ _ hgrl).trans c2)
           have s3 := (cell_grown hgrow gr 3 (by simp <;> omega) (by simp [Value.ownBlock])).trans (show _ = some (Value.int .i64 r3) by first | exact c3 | exact (World.cell?_alloc_lt w1 _ _ hgrl).trans c3)
           have s4 := (cell_grown hgrow gr 4 (by simp <;> omega) (by simp [Value.ownBlock])).trans (show _ = some (Value.int .i64 r4) by first | exact c4 | exact (World.cell?_alloc_lt w1 _ _ hgrl).trans c4)
           have s5 := (cell_grown hgrow gr 5 (by simp <;> omega) (by simp [Value.ownBlock])).trans (show _ = some (Value.int .i64 r5) by first | exact c5 | exact (World.cell?_alloc_lt w1 _ _ hgrl).trans c5)
           have s6 := (cell_grown hgrow gr 6 (by simp <;> omega) (by simp [Value.ownBlock])).trans (show _ = some (Value.int .i64 r6) by first | exact c6 | exact (World.cell?_alloc_lt w1 _ _ hgrl).trans c6)
           have s7 := (cell_grown hgrow gr 7 (by simp <;> omega) (by simp [Value.ownBlock])).trans (show _ = some (Value.int .i64 r7) by first | exact c7 | exact (World.cell?_alloc_lt w1 _ _ hgrl).trans c7)
           try (have kb : Blk w' w1.heap.size 35 #[.int .i64 0, .int .i64 0, .int .i64 0, .int .i64 0, .int .i64 0, .int .i64 0, .int .i64 0, .int .i64 0, .int .i64 0, .slice none 0 0, .slice none 0 0] := (Blk.drew (Blk.new w1 35 #[.int .i64 0, .int .i64 0, .int .i64 0, .int .i64 0, .int .i64 0, .int .i64 0, .int .i64 0, .int .i64 0, .int .i64 0, .slice none 0 0, .slice none 0 0])).grown hgrow (by simp [Value.ownBlock]); have q0 := kb.cell 0; have q1 := kb.cell 1; have q2 := kb.cell 2; have q3 := kb.cell 3; have q4 := kb.cell 4; have q5 := kb.cell 5; have q6 := kb.cell 6; have q7 := kb.cell 7; have q8 := kb.cell 8; have q9 := kb.cell 9; have q10 := kb.cell 10; have p0 := kb.frozen 0; have p1 := kb.frozen 1; have p2 := kb.frozen 2; have p3 := kb.frozen 3; have p4 := kb.frozen 4; have p5 := kb.frozen 5; have p6 := kb.frozen 6; have p7 := kb.frozen 7; have p8 := kb.frozen 8; have p9 := kb.frozen 9; have p10 := kb.frozen 10; simp at q0 q1 q2 q3 q4 q5 q6 q7 q8 q9 q10; clear kb)))
    all_goals
      go_wp2_with fail
      go_meet
      rw [Nat.zero_add, List.nil_append, natsV_ints hm0.out] at hown
      first
        | (with_reducible refine ⟨_, _, rfl, Ref.startA h0s.out ?_ hown⟩
           exact (Below.drewN' (Below.refl w1.heap.size w1) 1).grown hgrow (Nat.le_refl _) (by simp [Value.ownBlock]))
        | (with_reducible refine ⟨_, _, rfl, Ref.startB' h0s.out ?_ ?_ hown⟩
           · exact (Below.drewN' (below_al w1 (.cells #[.int .i64 0, .int .i64 0, .int .i64 0, .int .i64 0, .int .i64 0, .int .i64 0, .int .i64 0, .int .i64 0, .int .i64 0, .slice none 0 0, .slice none 0 0] 35)) 1).grown hgrow (by simp) (by simp [Value.ownBlock])
           · exact (Blk.drew (Blk.new w1 35 #[.int .i64 0, .int .i64 0, .int .i64 0, .int .i64 0, .int .i64 0, .int .i64 0, .int .i64 0, .int .i64 0, .int .i64 0, .slice none 0 0, .slice none 0 0])).grown hgrow (by simp [Value.ownBlock]))
  case rest =>
    obtain ⟨g, M, rfl, hR⟩ := hcut
    have HR := Lib.hid hR
    have HRI := Lib.hid ((hr.below hbw).more hbw.size)
    have HBW := Lib.hid hbw
    clear hR
    go_wp2
    show Code.wp Tryd.prog (Code.loop rbody) _ _ _
    refine rloop w1 gO g c n A l (toMc [r0, r1, r2, r3, r4, r5, r6, r7] mem) _ HOB.out HRI.out HC.out (Lib.hid ?exit) (by simp [toMc]; omega) _ _ ?start
    case start => exact ⟨rfl, rfl, rfl, rfl, rfl, n, .slice none 0 0, .int .i64 0, rfl, rfl, rfl, by omega, _, _, _, rfl, HR.out, toMc_ok rfl HWD.out, rfl, rfl⟩
    case exit =>
      intro a' w2 s' en T' M' hrun hF hd hsz h8 h9
      show bodyPost Tryd.prog Tryd.f30 _ .ret a' w2
      obtain ⟨t, d⟩ := a'
      simp only at hd hsz h8 h9
      subst hd
      obtain ⟨u, rfl⟩ := arr_lit t hsz
      have e8 : u 8 = .pointer (some ⟨gO, 0, none⟩) := Option.some.inj h8
      have e9 : u 9 = .int .i64 0 := Option.some.inj h9
      rw [e8, e9]
      have q0 := hF.blk.cell 0
      have q1 := hF.blk.cell 1
      have q2 := hF.blk.cell 2
      have q3 := hF.blk.cell 3
      have q4 := hF.blk.cell 4
      have q5 := hF.blk.cell 5
      have q6 := hF.blk.cell 6
      have q7 := hF.blk.cell 7
      have q8 := hF.blk.cell 8
      have q9 := hF.blk.cell 9
      have q10 := hF.blk.cell 10
      have hres : runRes l [r0, r1, r2, r3, r4, r5, r6, r7] mem (n : Int) = (s', en) := by
        unfold runRes
        rw [HE.out, if_pos rfl, Int.toNat_natCast]
        exact hrun
      simp [ocCells, natV] at q0 q1 q2 q3 q4 q5 q6 q7 q8 q9 q10
      refine bodyPost_ret (v := .tuple #[outV en s'.regs T' M', .int .i64 0]) (by simp [results, Tryd.results30, go_sem, q0, q1, q2, q3, q4, q5, q6, q7, q8, q9, q10, outV, natV]) rfl ?_
      rw [hres, HE.out]
      exact ⟨T', M', rfl, own_base hF.ot HBW.out.size, own_base hF.om HBW.out.size, HBW.out.grown hF.grown HBW.out.size (fun q hq => by injection hq with hq; omega)⟩
end Go.Proofs.YtdjamdbamkhblabDoor
