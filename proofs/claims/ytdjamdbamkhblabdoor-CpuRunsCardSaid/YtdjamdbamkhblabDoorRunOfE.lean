/- The walk of the reference's RunOf where it refuses. No condition. -/
import Derived.Test.YtdjamdbamkhblabDoorRunOfL
namespace Go.Proofs.YtdjamdbamkhblabDoor
open Go.RowKit
set_option linter.unusedVariables false
set_option linter.unusedSimpArgs false

set_option maxRecDepth 100000 in
set_option maxHeartbeats 40000000 in
theorem RunOf_bad (A Am : Option Addr) (c cm : Nat) (l : List Ins) (r0 r1 r2 r3 r4 r5 r6 r7 : Int) (mem : List Int) (fuel : Int) (w : World) (hr : RdI w w.heap.size A l) (hl : l.length ≤ maxLen)
    (hm : RdN w w.heap.size Am mem) (hml : mem.length ≤ maxLen) (hbad : runErr l [r0, r1, r2, r3, r4, r5, r6, r7] mem fuel ≠ 0) :
    Calls Tryd.prog 30 #[.slice A l.length c, .agg #[.int .i64 r0, .int .i64 r1, .int .i64 r2, .int .i64 r3, .int .i64 r4, .int .i64 r5, .int .i64 r6, .int .i64 r7], .slice Am mem.length cm, .int .i64 fuel] w
      (RunPost w (runRes l [r0, r1, r2, r3, r4, r5, r6, r7] mem fuel) (runErr l [r0, r1, r2, r3, r4, r5, r6, r7] mem fuel)) := by
  have HL := Lib.hid hl
  have HML := Lib.hid hml
  unfold maxLen at hl hml
  by_cases hc0 : check l = 0
  · have HC := Lib.hid hc0
    clear hc0
    by_cases hbig : 1024 < mem.length
    · have hbig2 : (1024 : Int) < (mem.length : Int) := by omega
      have HE : Hid (runErr l [r0, r1, r2, r3, r4, r5, r6, r7] mem fuel = 1) := by
        show _ = _
        rw [runErr, if_pos HC.out, if_pos hbig]
      clear hbig
      go_enter Tryd.func30, Tryd.ntmps30
      have hB0 : Below w.heap.size w ((w.alloc (.cells #[.int .i64 r0, .int .i64 r1, .int .i64 r2, .int .i64 r3, .int .i64 r4, .int .i64 r5, .int .i64 r6, .int .i64 r7] 28)).alloc (.cells #[.int .i64 0, .int .i64 0, .int .i64 0, .int .i64 0, .int .i64 0, .int .i64 0, .int .i64 0, .int .i64 0, .int .i64 0, .slice none 0 0, .slice none 0 0] 35)) := (below_al w _).alloc (by simp) _
      have hRB : Blk ((w.alloc (.cells #[.int .i64 r0, .int .i64 r1, .int .i64 r2, .int .i64 r3, .int .i64 r4, .int .i64 r5, .int .i64 r6, .int .i64 r7] 28)).alloc (.cells #[.int .i64 0, .int .i64 0, .int .i64 0, .int .i64 0, .int .i64 0, .int .i64 0, .int .i64 0, .int .i64 0, .int .i64 0, .slice none 0 0, .slice none 0 0] 35)) w.heap.size 28 #[.int .i64 r0, .int .i64 r1, .int .i64 r2, .int .i64 r3, .int .i64 r4, .int .i64 r5, .int .i64 r6, .int .i64 r7] := (Blk.new w _ _).alloc _
      have hOB : Blk ((w.alloc (.cells #[.int .i64 r0, .int .i64 r1, .int .i64 r2, .int .i64 r3, .int .i64 r4, .int .i64 r5, .int .i64 r6, .int .i64 r7] 28)).alloc (.cells #[.int .i64 0, .int .i64 0, .int .i64 0, .int .i64 0, .int .i64 0, .int .i64 0, .int .i64 0, .int .i64 0, .int .i64 0, .slice none 0 0, .slice none 0 0] 35)) (w.heap.size + 1) 35 #[.int .i64 0, .int .i64 0, .int .i64 0, .int .i64 0, .int .i64 0, .int .i64 0, .int .i64 0, .int .i64 0, .int .i64 0, .slice none 0 0, .slice none 0 0] := Blk.new' (by simp)
      go_wp2_with fail
      generalize (w.alloc (.cells #[.int .i64 r0, .int .i64 r1, .int .i64 r2, .int .i64 r3, .int .i64 r4, .int .i64 r5, .int .i64 r6, .int .i64 r7] 28)).alloc (.cells #[.int .i64 0, .int .i64 0, .int .i64 0, .int .i64 0, .int .i64 0, .int .i64 0, .int .i64 0, .int .i64 0, .int .i64 0, .slice none 0 0, .slice none 0 0] 35) = V at *
      refine (CodeFault_any A c l V ((hr.below hB0).more hB0.size) HL.out).mono ?_
      rw [HC.out]
      rintro e w1 ⟨rfl, hb1⟩
      have hbw := hB0.trans (hb1.mono hB0.size)
      have hR1 := hRB.below hb1 hRB.lt
      have hO1 := hOB.below hb1 hOB.lt
      obtain ⟨gr, hgr⟩ : ∃ gr, gr = w.heap.size := ⟨_, rfl⟩
      obtain ⟨gO, hgo⟩ : ∃ gO, gO = w.heap.size + 1 := ⟨_, rfl⟩
      have hgr0 : w.heap.size ≤ gr := by omega
      have hgo0 : w.heap.size ≤ gO := by omega
      have hgg : gr ≠ gO := by omega
      rw [← hgo] at hO1 ⊢
      rw [← hgr] at hR1 ⊢
      clear hgr hgo hRB hOB hB0 hb1 V
      have p0 := hR1.cell 0
      simp at p0
      have hgrl := hR1.lt
      clear p0
      have q0 := hO1.cell 0
      have q1 := hO1.cell 1
      have q2 := hO1.cell 2
      have q3 := hO1.cell 3
      have q4 := hO1.cell 4
      have q5 := hO1.cell 5
      have q6 := hO1.cell 6
      have q7 := hO1.cell 7
      have q8 := hO1.cell 8
      have q9 := hO1.cell 9
      have q10 := hO1.cell 10
      have p0 := hO1.frozen 0
      have p1 := hO1.frozen 1
      have p2 := hO1.frozen 2
      have p3 := hO1.frozen 3
      have p4 := hO1.frozen 4
      have p5 := hO1.frozen 5
      have p6 := hO1.frozen 6
      have p7 := hO1.frozen 7
      have p8 := hO1.frozen 8
      have p9 := hO1.frozen 9
      have p10 := hO1.frozen 10
      simp at q0 q1 q2 q3 q4 q5 q6 q7 q8 q9 q10
      go_wp2
      refine bodyPost_ret (v := .tuple #[.agg #[.int .i64 0, .int .i64 0, .int .i64 0, .int .i64 0, .int .i64 0, .int .i64 0, .int .i64 0, .int .i64 0, .int .i64 0, .slice none 0 0, .slice none 0 0], .int .i64 1]) (by simp [results, Tryd.results30, go_sem, q0, q1, q2, q3, q4, q5, q6, q7, q8, q9, q10]) rfl (RunPost.no (n := 1) HE.out (by omega) rfl (layL_below hgo0 [.int .i64 0, .int .i64 0, .int .i64 0, .int .i64 0, .int .i64 0, .int .i64 0, .int .i64 0, .int .i64 0, .int .i64 0, .slice none 0 0, .slice none 0 0] 0 _ hbw))
    · have hbig2 : (mem.length : Int) ≤ 1024 := by omega
      by_cases hf : fuel < 0 ∨ 20000 < fuel
      · have HE : Hid (runErr l [r0, r1, r2, r3, r4, r5, r6, r7] mem fuel = 2) := by
          show _ = _
          rw [runErr, if_pos HC.out, if_neg hbig, if_pos (by rcases hf with h | h <;> simp [h])]
        have hin : inB fuel 0 20000 = false := inB_false hf
        clear hbig hf
        go_enter Tryd.func30, Tryd.ntmps30
        have hB0 : Below w.heap.size w ((w.alloc (.cells #[.int .i64 r0, .int .i64 r1, .int .i64 r2, .int .i64 r3, .int .i64 r4, .int .i64 r5, .int .i64 r6, .int .i64 r7] 28)).alloc (.cells #[.int .i64 0, .int .i64 0, .int .i64 0, .int .i64 0, .int .i64 0, .int .i64 0, .int .i64 0, .int .i64 0, .int .i64 0, .slice none 0 0, .slice none 0 0] 35)) := (below_al w _).alloc (by simp) _
        have hRB : Blk ((w.alloc (.cells #[.int .i64 r0, .int .i64 r1, .int .i64 r2, .int .i64 r3, .int .i64 r4, .int .i64 r5, .int .i64 r6, .int .i64 r7] 28)).alloc (.cells #[.int .i64 0, .int .i64 0, .int .i64 0, .int .i64 0, .int .i64 0, .int .i64 0, .int .i64 0, .int .i64 0, .int .i64 0, .slice none 0 0, .slice none 0 0] 35)) w.heap.size 28 #[.int .i64 r0, .int .i64 r1, .int .i64 r2, .int .i64 r3, .int .i64 r4, .int .i64 r5, .int .i64 r6, .int .i64 r7] := (Blk.new w _ _).alloc _
        have hOB : Blk ((w.alloc (.cells #[.int .i64 r0, .int .i64 r1, .int .i64 r2, .int .i64 r3, .int .i64 r4, .int .i64 r5, .int .i64 r6, .int .i64 r7] 28)).alloc (.cells #[.int .i64 0, .int .i64 0, .int .i64 0, .int .i64 0, .int .i64 0, .int .i64 0, .int .i64 0, .int .i64 0, .int .i64 0, .slice none 0 0, .slice none 0 0] 35)) (w.heap.size + 1) 35 #[.int .i64 0, .int .i64 0, .int .i64 0, .int .i64 0, .int .i64 0, .int .i64 0, .int .i64 0, .int .i64 0, .int .i64 0, .slice none 0 0, .slice none 0 0] := Blk.new' (by simp)
        go_wp2_with fail
        generalize (w.alloc (.cells #[.int .i64 r0, .int .i64 r1, .int .i64 r2, .int .i64 r3, .int .i64 r4, .int .i64 r5, .int .i64 r6, .int .i64 r7] 28)).alloc (.cells #[.int .i64 0, .int .i64 0, .int .i64 0, .int .i64 0, .int .i64 0, .int .i64 0, .int .i64 0, .int .i64 0, .int .i64 0, .slice none 0 0, .slice none 0 0] 35) = V at *
        refine (CodeFault_any A c l V ((hr.below hB0).more hB0.size) HL.out).mono ?_
        rw [HC.out]
        rintro e w1 ⟨rfl, hb1⟩
        have hbw := hB0.trans (hb1.mono hB0.size)
        have hR1 := hRB.below hb1 hRB.lt
        have hO1 := hOB.below hb1 hOB.lt
        obtain ⟨gr, hgr⟩ : ∃ gr, gr = w.heap.size := ⟨_, rfl⟩
        obtain ⟨gO, hgo⟩ : ∃ gO, gO = w.heap.size + 1 := ⟨_, rfl⟩
        have hgr0 : w.heap.size ≤ gr := by omega
        have hgo0 : w.heap.size ≤ gO := by omega
        have hgg : gr ≠ gO := by omega
        rw [← hgo] at hO1 ⊢
        rw [← hgr] at hR1 ⊢
        clear hgr hgo hRB hOB hB0 hb1 V
        have p0 := hR1.cell 0
        simp at p0
        have hgrl := hR1.lt
        clear p0
        have q0 := hO1.cell 0
        have q1 := hO1.cell 1
        have q2 := hO1.cell 2
        have q3 := hO1.cell 3
        have q4 := hO1.cell 4
        have q5 := hO1.cell 5
        have q6 := hO1.cell 6
        have q7 := hO1.cell 7
        have q8 := hO1.cell 8
        have q9 := hO1.cell 9
        have q10 := hO1.cell 10
        have p0 := hO1.frozen 0
        have p1 := hO1.frozen 1
        have p2 := hO1.frozen 2
        have p3 := hO1.frozen 3
        have p4 := hO1.frozen 4
        have p5 := hO1.frozen 5
        have p6 := hO1.frozen 6
        have p7 := hO1.frozen 7
        have p8 := hO1.frozen 8
        have p9 := hO1.frozen 9
        have p10 := hO1.frozen 10
        simp at q0 q1 q2 q3 q4 q5 q6 q7 q8 q9 q10
        go_wp2_with (first | (go_at_call 73; refine (In_any _ _ _ _).mono ?_; rintro e w' ⟨rfl, rfl⟩))
        refine bodyPost_ret (v := .tuple #[.agg #[.int .i64 0, .int .i64 0, .int .i64 0, .int .i64 0, .int .i64 0, .int .i64 0, .int .i64 0, .int .i64 0, .int .i64 0, .slice none 0 0, .slice none 0 0], .int .i64 2]) (by simp [results, Tryd.results30, go_sem, q0, q1, q2, q3, q4, q5, q6, q7, q8, q9, q10]) rfl (RunPost.no (n := 2) HE.out (by omega) rfl (layL_below hgo0 [.int .i64 0, .int .i64 0, .int .i64 0, .int .i64 0, .int .i64 0, .int .i64 0, .int .i64 0, .int .i64 0, .int .i64 0, .slice none 0 0, .slice none 0 0] 0 _ hbw))
      · have hf1 : 0 ≤ fuel := by omega
        have hf2 : fuel ≤ 20000 := by omega
        have hin : inB fuel 0 20000 = true := inB_true hf1 hf2
        cases har : [r0, r1, r2, r3, r4, r5, r6, r7].any oddW with
        | true =>
          have HE : Hid (runErr l [r0, r1, r2, r3, r4, r5, r6, r7] mem fuel = 2) := by
            show _ = _
            rw [runErr, if_pos HC.out, if_neg hbig, if_pos (.inr (.inr (by rw [List.any_append]; simp only [har]; simp)))]
          clear hbig hf
          have HAR := Lib.hid har
          clear har
          go_enter Tryd.func30, Tryd.ntmps30
          have hB0 : Below w.heap.size w ((w.alloc (.cells #[.int .i64 r0, .int .i64 r1, .int .i64 r2, .int .i64 r3, .int .i64 r4, .int .i64 r5, .int .i64 r6, .int .i64 r7] 28)).alloc (.cells #[.int .i64 0, .int .i64 0, .int .i64 0, .int .i64 0, .int .i64 0, .int .i64 0, .int .i64 0, .int .i64 0, .int .i64 0, .slice none 0 0, .slice none 0 0] 35)) := (below_al w _).alloc (by simp) _
          have hRB : Blk ((w.alloc (.cells #[.int .i64 r0, .int .i64 r1, .int .i64 r2, .int .i64 r3, .int .i64 r4, .int .i64 r5, .int .i64 r6, .int .i64 r7] 28)).alloc (.cells #[.int .i64 0, .int .i64 0, .int .i64 0, .int .i64 0, .int .i64 0, .int .i64 0, .int .i64 0, .int .i64 0, .int .i64 0, .slice none 0 0, .slice none 0 0] 35)) w.heap.size 28 #[.int .i64 r0, .int .i64 r1, .int .i64 r2, .int .i64 r3, .int .i64 r4, .int .i64 r5, .int .i64 r6, .int .i64 r7] := (Blk.new w _ _).alloc _
          have hOB : Blk ((w.alloc (.cells #[.int .i64 r0, .int .i64 r1, .int .i64 r2, .int .i64 r3, .int .i64 r4, .int .i64 r5, .int .i64 r6, .int .i64 r7] 28)).alloc (.cells #[.int .i64 0, .int .i64 0, .int .i64 0, .int .i64 0, .int .i64 0, .int .i64 0, .int .i64 0, .int .i64 0, .int .i64 0, .slice none 0 0, .slice none 0 0] 35)) (w.heap.size + 1) 35 #[.int .i64 0, .int .i64 0, .int .i64 0, .int .i64 0, .int .i64 0, .int .i64 0, .int .i64 0, .int .i64 0, .int .i64 0, .slice none 0 0, .slice none 0 0] := Blk.new' (by simp)
          go_wp2_with fail
          generalize (w.alloc (.cells #[.int .i64 r0, .int .i64 r1, .int .i64 r2, .int .i64 r3, .int .i64 r4, .int .i64 r5, .int .i64 r6, .int .i64 r7] 28)).alloc (.cells #[.int .i64 0, .int .i64 0, .int .i64 0, .int .i64 0, .int .i64 0, .int .i64 0, .int .i64 0, .int .i64 0, .int .i64 0, .slice none 0 0, .slice none 0 0] 35) = V at *
          refine (CodeFault_any A c l V ((hr.below hB0).more hB0.size) HL.out).mono ?_
          rw [HC.out]
          rintro e w1 ⟨rfl, hb1⟩
          have hbw := hB0.trans (hb1.mono hB0.size)
          have hR1 := hRB.below hb1 hRB.lt
          have hO1 := hOB.below hb1 hOB.lt
          obtain ⟨gr, hgr⟩ : ∃ gr, gr = w.heap.size := ⟨_, rfl⟩
          obtain ⟨gO, hgo⟩ : ∃ gO, gO = w.heap.size + 1 := ⟨_, rfl⟩
          have hgr0 : w.heap.size ≤ gr := by omega
          have hgo0 : w.heap.size ≤ gO := by omega
          have hgg : gr ≠ gO := by omega
          rw [← hgo] at hO1 ⊢
          rw [← hgr] at hR1 ⊢
          clear hgr hgo hRB hOB hB0 hb1 V
          have p0 := hR1.cell 0
          simp at p0
          have hgrl := hR1.lt
          have hrr : RdN w1 w1.heap.size (some ⟨gr, 0, none⟩) [r0, r1, r2, r3, r4, r5, r6, r7] := fun _ => ⟨gr, 0, rfl, hgrl, fun k hk => by
            rw [Nat.zero_add, hR1.cell]
            simp at hk
            have : k = 0 ∨ k = 1 ∨ k = 2 ∨ k = 3 ∨ k = 4 ∨ k = 5 ∨ k = 6 ∨ k = 7 := by omega
            rcases this with h | h | h | h | h | h | h | h <;> subst h <;> rfl⟩
          have HRR := Lib.hid hrr
          have HRM := Lib.hid ((hm.below hbw).more hbw.size)
          clear hrr
          have CR : Hid (Calls Tryd.prog 68 #[.slice (some ⟨gr, 0, none⟩) 8 8] w1 fun e w' => e = .returned (.bool false) ∧ w1 = w') := by
            have h := allWords_any (some ⟨gr, 0, none⟩) 8 [r0, r1, r2, r3, r4, r5, r6, r7] w1 HRR.out (by simp [maxLen])
            rw [HAR.out] at h
            exact h
          have q0 := hO1.cell 0
          have q1 := hO1.cell 1
          have q2 := hO1.cell 2
          have q3 := hO1.cell 3
          have q4 := hO1.cell 4
          have q5 := hO1.cell 5
          have q6 := hO1.cell 6
          have q7 := hO1.cell 7
          have q8 := hO1.cell 8
          have q9 := hO1.cell 9
          have q10 := hO1.cell 10
          have p0' := hO1.frozen 0
          have p1 := hO1.frozen 1
          have p2 := hO1.frozen 2
          have p3 := hO1.frozen 3
          have p4 := hO1.frozen 4
          have p5 := hO1.frozen 5
          have p6 := hO1.frozen 6
          have p7 := hO1.frozen 7
          have p8 := hO1.frozen 8
          have p9 := hO1.frozen 9
          have p10 := hO1.frozen 10
          simp at q0 q1 q2 q3 q4 q5 q6 q7 q8 q9 q10
          go_wp2_with (first | (go_at_call 73; refine (In_any _ _ _ _).mono ?_; rintro e w' ⟨rfl, rfl⟩) | (go_at_call 68; (with_reducible refine CR.out.mono ?_); rintro e w' ⟨rfl, rfl⟩) | (go_at_call 68; (with_reducible refine CM.out.mono ?_); rintro e w' ⟨rfl, rfl⟩))
          refine bodyPost_ret (v := .tuple #[.agg #[.int .i64 0, .int .i64 0, .int .i64 0, .int .i64 0, .int .i64 0, .int .i64 0, .int .i64 0, .int .i64 0, .int .i64 0, .slice none 0 0, .slice none 0 0], .int .i64 2]) (by simp [results, Tryd.results30, go_sem, q0, q1, q2, q3, q4, q5, q6, q7, q8, q9, q10]) rfl (RunPost.no (n := 2) HE.out (by omega) rfl (layL_below hgo0 [.int .i64 0, .int .i64 0, .int .i64 0, .int .i64 0, .int .i64 0, .int .i64 0, .int .i64 0, .int .i64 0, .int .i64 0, .slice none 0 0, .slice none 0 0] 0 _ hbw))
        | false =>
          cases ham : mem.any oddW with
          | true =>
            have HE : Hid (runErr l [r0, r1, r2, r3, r4, r5, r6, r7] mem fuel = 2) := by
              show _ = _
              rw [runErr, if_pos HC.out, if_neg hbig, if_pos (.inr (.inr (by rw [List.any_append]; simp only [har, ham]; simp)))]
            clear hbig hf
            have HAR := Lib.hid har
            clear har
            have HAM := Lib.hid ham
            clear ham
            go_enter Tryd.func30, Tryd.ntmps30
            have hB0 : Below w.heap.size w ((w.alloc (.cells #[.int .i64 r0, .int .i64 r1, .int .i64 r2, .int .i64 r3, .int .i64 r4, .int .i64 r5, .int .i64 r6, .int .i64 r7] 28)).alloc (.cells #[.int .i64 0, .int .i64 0, .int .i64 0, .int .i64 0, .int .i64 0, .int .i64 0, .int .i64 0, .int .i64 0, .int .i64 0, .slice none 0 0, .slice none 0 0] 35)) := (below_al w _).alloc (by simp) _
            have hRB : Blk ((w.alloc (.cells #[.int .i64 r0, .int .i64 r1, .int .i64 r2, .int .i64 r3, .int .i64 r4, .int .i64 r5, .int .i64 r6, .int .i64 r7] 28)).alloc (.cells #[.int .i64 0, .int .i64 0, .int .i64 0, .int .i64 0, .int .i64 0, .int .i64 0, .int .i64 0, .int .i64 0, .int .i64 0, .slice none 0 0, .slice none 0 0] 35)) w.heap.size 28 #[.int .i64 r0, .int .i64 r1, .int .i64 r2, .int .i64 r3, .int .i64 r4, .int .i64 r5, .int .i64 r6, .int .i64 r7] := (Blk.new w _ _).alloc _
            have hOB : Blk ((w.alloc (.cells #[.int .i64 r0, .int .i64 r1, .int .i64 r2, .int .i64 r3, .int .i64 r4, .int .i64 r5, .int .i64 r6, .int .i64 r7] 28)).alloc (.cells #[.int .i64 0, .int .i64 0, .int .i64 0, .int .i64 0, .int .i64 0, .int .i64 0, .int .i64 0, .int .i64 0, .int .i64 0, .slice none 0 0, .slice none 0 0] 35)) (w.heap.size + 1) 35 #[.int .i64 0, .int .i64 0, .int .i64 0, .int .i64 0, .int .i64 0, .int .i64 0, .int .i64 0, .int .i64 0, .int .i64 0, .slice none 0 0, .slice none 0 0] := Blk.new' (by simp)
            go_wp2_with fail
            generalize (w.alloc (.cells #[.int .i64 r0, .int .i64 r1, .int .i64 r2, .int .i64 r3, .int .i64 r4, .int .i64 r5, .int .i64 r6, .int .i64 r7] 28)).alloc (.cells #[.int .i64 0, .int .i64 0, .int .i64 0, .int .i64 0, .int .i64 0, .int .i64 0, .int .i64 0, .int .i64 0, .int .i64 0, .slice none 0 0, .slice none 0 0] 35) = V at *
            refine (CodeFault_any A c l V ((hr.below hB0).more hB0.size) HL.out).mono ?_
            rw [HC.out]
            rintro e w1 ⟨rfl, hb1⟩
            have hbw := hB0.trans (hb1.mono hB0.size)
            have hR1 := hRB.below hb1 hRB.lt
            have hO1 := hOB.below hb1 hOB.lt
            obtain ⟨gr, hgr⟩ : ∃ gr, gr = w.heap.size := ⟨_, rfl⟩
            obtain ⟨gO, hgo⟩ : ∃ gO, gO = w.heap.size + 1 := ⟨_, rfl⟩
            have hgr0 : w.heap.size ≤ gr := by omega
            have hgo0 : w.heap.size ≤ gO := by omega
            have hgg : gr ≠ gO := by omega
            rw [← hgo] at hO1 ⊢
            rw [← hgr] at hR1 ⊢
            clear hgr hgo hRB hOB hB0 hb1 V
            have p0 := hR1.cell 0
            simp at p0
            have hgrl := hR1.lt
            have hrr : RdN w1 w1.heap.size (some ⟨gr, 0, none⟩) [r0, r1, r2, r3, r4, r5, r6, r7] := fun _ => ⟨gr, 0, rfl, hgrl, fun k hk => by
              rw [Nat.zero_add, hR1.cell]
              simp at hk
              have : k = 0 ∨ k = 1 ∨ k = 2 ∨ k = 3 ∨ k = 4 ∨ k = 5 ∨ k = 6 ∨ k = 7 := by omega
              rcases this with h | h | h | h | h | h | h | h <;> subst h <;> rfl⟩
            have HRR := Lib.hid hrr
            have HRM := Lib.hid ((hm.below hbw).more hbw.size)
            clear hrr
            have CR : Hid (Calls Tryd.prog 68 #[.slice (some ⟨gr, 0, none⟩) 8 8] w1 fun e w' => e = .returned (.bool true) ∧ w1 = w') := by
              have h := allWords_any (some ⟨gr, 0, none⟩) 8 [r0, r1, r2, r3, r4, r5, r6, r7] w1 HRR.out (by simp [maxLen])
              rw [HAR.out] at h
              exact h
            have CM : Hid (Calls Tryd.prog 68 #[.slice Am mem.length cm] w1 fun e w' => e = .returned (.bool false) ∧ w1 = w') := by
              have h := allWords_any Am cm mem w1 HRM.out HML.out
              rw [HAM.out] at h
              exact h
            have q0 := hO1.cell 0
            have q1 := hO1.cell 1
            have q2 := hO1.cell 2
            have q3 := hO1.cell 3
            have q4 := hO1.cell 4
            have q5 := hO1.cell 5
            have q6 := hO1.cell 6
            have q7 := hO1.cell 7
            have q8 := hO1.cell 8
            have q9 := hO1.cell 9
            have q10 := hO1.cell 10
            have p0' := hO1.frozen 0
            have p1 := hO1.frozen 1
            have p2 := hO1.frozen 2
            have p3 := hO1.frozen 3
            have p4 := hO1.frozen 4
            have p5 := hO1.frozen 5
            have p6 := hO1.frozen 6
            have p7 := hO1.frozen 7
            have p8 := hO1.frozen 8
            have p9 := hO1.frozen 9
            have p10 := hO1.frozen 10
            simp at q0 q1 q2 q3 q4 q5 q6 q7 q8 q9 q10
            go_wp2_with (first | (go_at_call 73; refine (In_any _ _ _ _).mono ?_; rintro e w' ⟨rfl, rfl⟩) | (go_at_call 68; (with_reducible refine CR.out.mono ?_); rintro e w' ⟨rfl, rfl⟩) | (go_at_call 68; (with_reducible refine CM.out.mono ?_); rintro e w' ⟨rfl, rfl⟩))
            refine bodyPost_ret (v := .tuple #[.agg #[.int .i64 0, .int .i64 0, .int .i64 0, .int .i64 0, .int .i64 0, .int .i64 0, .int .i64 0, .int .i64 0, .int .i64 0, .slice none 0 0, .slice none 0 0], .int .i64 2]) (by simp [results, Tryd.results30, go_sem, q0, q1, q2, q3, q4, q5, q6, q7, q8, q9, q10]) rfl (RunPost.no (n := 2) HE.out (by omega) rfl (layL_below hgo0 [.int .i64 0, .int .i64 0, .int .i64 0, .int .i64 0, .int .i64 0, .int .i64 0, .int .i64 0, .int .i64 0, .int .i64 0, .slice none 0 0, .slice none 0 0] 0 _ hbw))
          | false =>
            have HE : Hid (runErr l [r0, r1, r2, r3, r4, r5, r6, r7] mem fuel = 0) := by
              show _ = _
              rw [runErr, if_pos HC.out, if_neg hbig, if_neg (by rw [List.any_append, har, ham]; intro h; rcases h with h | h | h; exact absurd h (by omega); exact absurd h (by omega); cases h)]
            exact absurd HE.out hbad
  · have HC := Lib.hid hc0
    have hc1 : (check l == 0) = false := by rw [beq_eq_false_iff_ne]; exact hc0
    have hc2 : (check l != 0) = true := by rw [bne_iff_ne]; exact hc0
    have HE : Hid (runErr l [r0, r1, r2, r3, r4, r5, r6, r7] mem fuel = check l) := by
      show _ = _
      rw [runErr, if_neg HC.out]
    clear hc0
    go_enter Tryd.func30, Tryd.ntmps30
    have hB0 : Below w.heap.size w ((w.alloc (.cells #[.int .i64 r0, .int .i64 r1, .int .i64 r2, .int .i64 r3, .int .i64 r4, .int .i64 r5, .int .i64 r6, .int .i64 r7] 28)).alloc (.cells #[.int .i64 0, .int .i64 0, .int .i64 0, .int .i64 0, .int .i64 0, .int .i64 0, .int .i64 0, .int .i64 0, .int .i64 0, .slice none 0 0, .slice none 0 0] 35)) := (below_al w _).alloc (by simp) _
    have hRB : Blk ((w.alloc (.cells #[.int .i64 r0, .int .i64 r1, .int .i64 r2, .int .i64 r3, .int .i64 r4, .int .i64 r5, .int .i64 r6, .int .i64 r7] 28)).alloc (.cells #[.int .i64 0, .int .i64 0, .int .i64 0, .int .i64 0, .int .i64 0, .int .i64 0, .int .i64 0, .int .i64 0, .int .i64 0, .slice none 0 0, .slice none 0 0] 35)) w.heap.size 28 #[.int .i64 r0, .int .i64 r1, .int .i64 r2, .int .i64 r3, .int .i64 r4, .int .i64 r5, .int .i64 r6, .int .i64 r7] := (Blk.new w _ _).alloc _
    have hOB : Blk ((w.alloc (.cells #[.int .i64 r0, .int .i64 r1, .int .i64 r2, .int .i64 r3, .int .i64 r4, .int .i64 r5, .int .i64 r6, .int .i64 r7] 28)).alloc (.cells #[.int .i64 0, .int .i64 0, .int .i64 0, .int .i64 0, .int .i64 0, .int .i64 0, .int .i64 0, .int .i64 0, .int .i64 0, .slice none 0 0, .slice none 0 0] 35)) (w.heap.size + 1) 35 #[.int .i64 0, .int .i64 0, .int .i64 0, .int .i64 0, .int .i64 0, .int .i64 0, .int .i64 0, .int .i64 0, .int .i64 0, .slice none 0 0, .slice none 0 0] := Blk.new' (by simp)
    go_wp2_with fail
    generalize (w.alloc (.cells #[.int .i64 r0, .int .i64 r1, .int .i64 r2, .int .i64 r3, .int .i64 r4, .int .i64 r5, .int .i64 r6, .int .i64 r7] 28)).alloc (.cells #[.int .i64 0, .int .i64 0, .int .i64 0, .int .i64 0, .int .i64 0, .int .i64 0, .int .i64 0, .int .i64 0, .int .i64 0, .slice none 0 0, .slice none 0 0] 35) = V at *
    refine (CodeFault_any A c l V ((hr.below hB0).more hB0.size) HL.out).mono ?_
    rintro e w1 ⟨rfl, hb1⟩
    have hbw := hB0.trans (hb1.mono hB0.size)
    have hR1 := hRB.below hb1 hRB.lt
    have hO1 := hOB.below hb1 hOB.lt
    obtain ⟨gr, hgr⟩ : ∃ gr, gr = w.heap.size := ⟨_, rfl⟩
    obtain ⟨gO, hgo⟩ : ∃ gO, gO = w.heap.size + 1 := ⟨_, rfl⟩
    have hgr0 : w.heap.size ≤ gr := by omega
    have hgo0 : w.heap.size ≤ gO := by omega
    have hgg : gr ≠ gO := by omega
    rw [← hgo] at hO1 ⊢
    rw [← hgr] at hR1 ⊢
    clear hgr hgo hRB hOB hB0 hb1 V
    have p0 := hR1.cell 0
    simp at p0
    have hgrl := hR1.lt
    clear p0
    have q0 := hO1.cell 0
    have q1 := hO1.cell 1
    have q2 := hO1.cell 2
    have q3 := hO1.cell 3
    have q4 := hO1.cell 4
    have q5 := hO1.cell 5
    have q6 := hO1.cell 6
    have q7 := hO1.cell 7
    have q8 := hO1.cell 8
    have q9 := hO1.cell 9
    have q10 := hO1.cell 10
    have p0 := hO1.frozen 0
    have p1 := hO1.frozen 1
    have p2 := hO1.frozen 2
    have p3 := hO1.frozen 3
    have p4 := hO1.frozen 4
    have p5 := hO1.frozen 5
    have p6 := hO1.frozen 6
    have p7 := hO1.frozen 7
    have p8 := hO1.frozen 8
    have p9 := hO1.frozen 9
    have p10 := hO1.frozen 10
    simp at q0 q1 q2 q3 q4 q5 q6 q7 q8 q9 q10
    go_wp2
    refine bodyPost_ret (v := .tuple #[.agg #[.int .i64 0, .int .i64 0, .int .i64 0, .int .i64 0, .int .i64 0, .int .i64 0, .int .i64 0, .int .i64 0, .int .i64 0, .slice none 0 0, .slice none 0 0], .int .i64 (check l)]) (by simp [results, Tryd.results30, go_sem, q0, q1, q2, q3, q4, q5, q6, q7, q8, q9, q10]) rfl (RunPost.no (n := (check l)) HE.out HC.out rfl (layL_below hgo0 [.int .i64 0, .int .i64 0, .int .i64 0, .int .i64 0, .int .i64 0, .int .i64 0, .int .i64 0, .int .i64 0, .int .i64 0, .slice none 0 0, .slice none 0 0] 0 _ hbw))
end Go.Proofs.YtdjamdbamkhblabDoor
