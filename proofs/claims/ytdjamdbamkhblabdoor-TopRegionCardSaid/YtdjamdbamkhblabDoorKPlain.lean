/- The walk of K.Plain: plain code of raw things, as plain data. No condition. -/
import Derived.Test.YtdjamdbamkhblabDoorKPlainJ
namespace Go.Proofs.YtdjamdbamkhblabDoor
open Go.RowKit
set_option linter.unusedVariables false
set_option linter.unusedSimpArgs false
set_option maxRecDepth 1000000 in
set_option maxHeartbeats 8000000 in
theorem KPlain_any (A : Option Addr) (c : Nat) (l : List Ins) (w : World) (hr : RdI w w.heap.size A l) (hwf : ∀ i ∈ l, i.wf) (hl : l.length ≤ maxLen) :
    Calls Tryd.prog 19 #[.slice A l.length c] w fun e w' => ∃ V, e = .returned V ∧ w'.ownsRow w.heap.size 45 4 V (plainL l).length (insCells (plainL l)) ∧ Below w.heap.size w w' := by
  have HL := Lib.hid hl
  have HWF := Lib.hid hwf
  have hU := Tryd.underlying25
  obtain ⟨i0, hi0, hz0, hz1, hz2⟩ := info_parts info_InstrP
  unfold maxLen at hl
  obtain ⟨n, hn⟩ : ∃ n, n = plainN l := ⟨_, rfl⟩
  have hn1 : n ≤ l.length := by rw [hn]; unfold plainN; omega
  have hn2 : n ≤ 30 := by rw [hn]; unfold plainN; omega
  have hn3 : (30 : Int) < (l.length : Int) → n = 30 := by rw [hn]; unfold plainN; omega
  have hn4 : ¬ (30 : Int) < (l.length : Int) → n = l.length := by rw [hn]; unfold plainN; omega
  have HN := Lib.hid hn
  have H1 := Lib.hid hn1
  clear hwf hn hn1
  go_enter Tryd.func19, Tryd.ntmps19
  go_wp2
  all_goals
    have en : (n : Int) = 30 ∧ (30 : Int) ≤ l.length ∨ n = l.length ∧ ¬ (30 : Int) < l.length := by omega
    show Code.wp Tryd.prog (Code.loop pbody) _ _ _
    refine ploop w c n A l _ H1.out hn2 hr HWF.out (fun a' w2 hX => ?_) _ _ ⟨rfl, rfl, rfl, ?_, ?_, 0, .slice none 0 0, rfl, rfl, Nat.zero_le _, World.ownsRow_nil _ _ _ _, Below.refl _ _⟩
    · obtain ⟨h0, h1, h2, V, h4, hV, hB⟩ := hX
      obtain ⟨t, d⟩ := a'
      simp only at h0 h1 h2 h4
      subst h0
      obtain ⟨u, rfl⟩ := arr_litP t h1
      have e4 : u 4 = V := Option.some.inj h4
      subst e4
      have e2 := hB.size
      clear h1 h2 h4
      go_wp2_with (at_builtin
                   refine wpList_append_rd _ rfl (.tmp 115) (.tmp 117) _ rfl w.heap.size 45 i0 _ 4 32 hU hi0 hz0 hz1 hz2 rfl (by omega) (u 4) n (insCells (plainTo l n n)) rfl (hV.alloc _) _ (some ⟨w2.heap.size, 0, none⟩) 1 1 (insCells [⟨13, 0, 0, 0⟩]) rfl ((Blk.new w2 _ _).rd 1 4 (by simp)) (ins_one _) ?len ?byt ?bas ?_
                   case len => (unfold maxLen; omega)
                   case byt => omega
                   case bas => (simp; omega)
                   intro v3 w3 hv3 hg3 _)
      refine bodyPost_ret (v := v3) (by simp [results, Tryd.results19, go_sem]) rfl ?_
      refine ⟨v3, rfl, ?_, (hB.alloc e2 _).grown hg3 (by simp; omega) (fun q hq => (hV.lt q hq).1)⟩
      have e : plainL l = plainTo l n n ++ [⟨13, 0, 0, 0⟩] := by rw [HN.out]; rfl
      rw [e, insCells_appP, List.length_append, plainTo_length]
      exact hv3
    · show some _ = some _
      first | rfl | (rw [show (n : Int) = 30 by omega]; rfl) | (rw [show (n : Int) = l.length by omega]; rfl)
    · show some _ = some _
      first | rfl | (rw [show (n : Int) = 30 by omega]; rfl) | (rw [show (n : Int) = l.length by omega]; rfl)
end Go.Proofs.YtdjamdbamkhblabDoor
