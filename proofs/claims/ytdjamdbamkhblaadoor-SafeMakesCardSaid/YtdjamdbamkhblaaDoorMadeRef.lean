/- The walk of the reference's MadeOf: the code that it makes. No condition. -/
import Derived.Test.YtdjamdbamkhblaaDoorMake
namespace Go.Proofs.YtdjamdbamkhblaaDoor
open Go.RowKit

structure Mk3 (w0 wx : World) (l : List Ins) (k : Nat) (V : Value) : Prop where
  below : Below w0.heap.size w0 wx
  own : wx.ownsRow w0.heap.size 52 4 V ((l.take k).flatMap (mkI l)).length (insCells ((l.take k).flatMap (mkI l)))
theorem Mk3.next {w0 w' : World} {l : List Ins} {k n' : Nat} {V' : Value} {x : Ins} {ys : List Ins} (hk : k < l.length) (hx : l[k] = x) (hy : mkI l x = ys) (hb : Below w0.heap.size w0 w')
    (ho : w'.ownsRow w0.heap.size 52 4 V' n' (insCells ((l.take k).flatMap (mkI l)) ++ insCells ys)) (hn : n' = ((l.take k).flatMap (mkI l)).length + ys.length) : Mk3 w0 w' l (k + 1) V' := by
  refine ⟨hb, ?_⟩
  have e : (l.take (k + 1)).flatMap (mkI l) = (l.take k).flatMap (mkI l) ++ ys := by
    rw [List.take_succ_eq_append_getElem hk, List.flatMap_append, List.flatMap_cons, List.flatMap_nil, List.append_nil, hx, hy]
  rw [e, List.length_append, insCells_app, ← hn]
  exact ho
theorem Mk3.one {w0 wx W w1 : World} {l : List Ins} {k n' : Nat} {V V' : Value} {x y : Ins} (h : Mk3 w0 wx l k V) (hW : Below wx.heap.size wx W) (hk : k < l.length) (hx : l[k] = x) (hy : mkI l x = [y])
    (ho : w1.ownsRow w0.heap.size 52 4 V' n' (insCells ((l.take k).flatMap (mkI l)) ++ insCells [y])) (hn : n' = ((l.take k).flatMap (mkI l)).length + 1) (hg : W.grownBy w1 V.ownBlock) : Mk3 w0 w1 l (k + 1) V' := by
  have hown := own_below h.own hW
  have b2 := h.below.trans (hW.mono h.below.size)
  exact Mk3.next hk hx hy (b2.grown hg b2.size (fun q hq => (hown.lt q hq).1)) ho hn
theorem Mk3.three {w0 wx w3 W4 w4 : World} {l : List Ins} {k n3 n4 : Nat} {V V3 V4 : Value} {x y1 y2 y3 : Ins} {o1 o2 : Obj} (h : Mk3 w0 wx l k V) (hk : k < l.length) (hx : l[k] = x) (hy : mkI l x = [y1, y2, y3])
    (hg3 : ((wx.alloc o1).alloc o2).grownBy w3 V.ownBlock) (hb4 : Below w0.heap.size w3 W4) (ho3 : W4.ownsRow w0.heap.size 52 4 V3 n3 (insCells ((l.take k).flatMap (mkI l)) ++ insCells [y1, y2]))
    (ho4 : w4.ownsRow w0.heap.size 52 4 V4 n4 (insCells ((l.take k).flatMap (mkI l)) ++ insCells [y1, y2] ++ insCells [y3])) (hn4 : n4 = ((l.take k).flatMap (mkI l)).length + 3) (hg4 : W4.grownBy w4 V3.ownBlock) : Mk3 w0 w4 l (k + 1) V4 := by
  have hown := (h.own.alloc o1).alloc o2
  have b1 := h.below.alloc h.below.size o1
  have b2 := b1.alloc b1.size o2
  have b3 := b2.grown hg3 b2.size (fun q hq => (hown.lt q hq).1)
  have b4 := b3.trans hb4
  refine Mk3.next hk hx hy (b4.grown hg4 b4.size (fun q hq => (ho3.lt q hq).1)) ?_ hn4
  rw [List.append_assoc, ← insCells_app] at ho4
  exact ho4
theorem makeOf_form (l : List Ins) : makeOf l = (if check l = 0 then (if plainB l then (if 200 < (madeOf l).length then ([], 1) else (madeOf l, 0)) else ([], 10)) else ([], check l)) := rfl

set_option maxRecDepth 100000 in
set_option maxHeartbeats 8000000 in
theorem MadeOf_any (A : Option Addr) (c : Nat) (l : List Ins) (w : World) (hr : RdI w w.heap.size A l) (hl : l.length ≤ maxLen) :
    Calls Tryd.prog 22 #[.slice A l.length c] w (MadePost w (makeOf l)) := by
  have HL := Lib.hid hl
  unfold maxLen at hl
  by_cases hc0 : check l = 0
  · have HC := Lib.hid hc0
    have h200 : l.length ≤ 200 := ((check_zero_iff l).1 hc0).1
    clear hc0
    cases hpl : plainB l with
    | false =>
      have HP := Lib.hid hpl
      clear hpl
      go_enter Tryd.func22, Tryd.ntmps22
      go_wp2_with fail
      refine (CodeFault_any A c l w hr HL.out).mono ?_
      rw [HC.out]
      rintro e w1 ⟨rfl, hb1⟩
      go_wp2_with fail
      refine (PlainMay_any A c l w1 ((hr.below hb1).more hb1.size) HL.out).mono ?_
      rw [HP.out]
      rintro e w2 ⟨rfl, hb2⟩
      go_wp2
      go_ret2
      exact MadePost.no (n := 10) (by rw [makeOf, if_pos HC.out, HP.out]; rfl) rfl (hb1.trans (hb2.mono hb1.size))
    | true =>
      obtain ⟨hok, hpos⟩ := plainOk_of HC.out hpl
      have HP := Lib.hid hpl
      have HO := Lib.hid hok
      clear hpl hok
      go_enter Tryd.func22, Tryd.ntmps22
      go_wp2_with fail
      refine (CodeFault_any A c l w hr HL.out).mono ?_
      rw [HC.out]
      rintro e w1 ⟨rfl, hb1⟩
      go_wp2_with fail
      refine (PlainMay_any A c l w1 ((hr.below hb1).more hb1.size) HL.out).mono ?_
      rw [HP.out]
      rintro e w2 ⟨rfl, hb2⟩
      have hb12 := hb1.trans (hb2.mono hb1.size)
      have hU := Tryd.underlying22
      obtain ⟨i0, hi0, hz0, hz1, hz2⟩ := info_parts minfo_ins
      go_wp2
      go_loopw [5, 6] (fun v i wx => Cnt l.length i fun k => Mk3 w wx l k v) (fun _ i _ => l.length - (intOf i).toNat)
      case atStart => exact ⟨0, Nat.zero_le _, rfl, hb12, World.ownsRow_nil _ _ _ _⟩
      case round =>
        obtain ⟨k, hk, rfl, hM⟩ := hrel
        by_cases hlt : k < l.length
        · obtain ⟨b, o, rfl, hbB, hcell⟩ := hr hpos
          obtain ⟨d0, d1, d2, d3⟩ := hcell k hlt
          rw [← hM.below.cell (p := ⟨b, _, none⟩) hbB] at d0 d1 d2 d3
          have hbs := Nat.lt_of_lt_of_le hbB hM.below.size
          have hbs1 : b < wr.heap.size + 1 := by omega
          have hbs2 : b < wr.heap.size + 1 + 1 := by omega
          have hfl := take_flat_le l k hk
          have hO := hM.own
          obtain ⟨nf, hnf⟩ : ∃ nf, nf = ((l.take k).flatMap (mkI l)).length := ⟨_, rfl⟩
          rw [← hnf] at hfl hO
          have HNF := Lib.hid hnf
          have HOW := Lib.hid hO
          clear hnf hO
          have HCL : Hid (∀ q (hq : q < l.length), wr.cell? ⟨b, o + q * 4, none⟩ = some (.int .i64 l[q].op)) := fun q hq => (hM.below.cell (p := ⟨b, _, none⟩) hbB).trans (hcell q hq).1
          have HM2 := Lib.hid hM
          have hin := HO.out.code _ (List.getElem_mem hlt)
          obtain ⟨x, hx⟩ : ∃ x, l[k] = x := ⟨_, rfl⟩
          rw [hx] at d0 d1 d2 d3 hin
          have hun := unplainB_false (HO.out.each k hlt)
          rw [hx] at hun
          have HX := Lib.hid hx
          have HIN := Lib.hid hin
          have HUN := Lib.hid hun
          clear hx hM hcell hin hun
          obtain ⟨xo, xa, xb, xc⟩ := x
          simp only at d0 d1 d2 d3
          by_cases hj : xo = 10 ∨ xo = 11 ∨ xo = 12
          · have hcc := HUN.out.2.2.2 hj
            have hc0 := HIN.out.c0
            simp only at hcc hc0
            obtain ⟨ci, rfl⟩ : ∃ ci : Nat, xc = (ci : Int) := ⟨xc.toNat, by omega⟩
            have hci : ci < l.length := by omega
            have HY : Hid (mkI l ⟨xo, xa, xb, (ci : Int)⟩ = [⟨xo, xa, xb, (atMap l ci : Nat)⟩]) := by
              show _ = _
              unfold mkI
              rw [if_neg (by simp [ldB]; omega), if_pos (by simp [jmpB]; omega)]
              simp
            have hjm : jmpB ⟨xo, xa, xb, (ci : Int)⟩ = true := by simp only [jmpB, decide_eq_true_eq]; exact hj
            have n8 : ¬ xo = 8 := by omega
            have n9 : ¬ xo = 9 := by omega
            have m8 : (xo == 8) = false := by simp [n8]
            have m9 : (xo == 9) = false := by simp [n9]
            clear hcc hc0 hj
            go_wp2_with (first
              | (go_at_call 36; refine (jumps_any _ _ _ _ _).mono ?_; rintro e w9 ⟨rfl, rfl⟩))
            go_loop [8, 9] (fun m j => Cnt ci j fun q => m = .int .i64 (2 * (l.take q).countP ldB : Nat)) (fun _ j => ci - (intOf j).toNat)
            case atStart => exact ⟨0, Nat.zero_le _, rfl, by simp⟩
            case round =>
              obtain ⟨q, hq, rfl, rfl⟩ := hrel
              have hcq : (l.take q).countP ldB ≤ 200 := by
                have h1 := List.countP_le_length (p := ldB) (l := l.take q)
                have h2 : (l.take q).length ≤ q := by rw [List.length_take]; omega
                omega
              by_cases hqc : q < ci
              · have hql : q < l.length := by omega
                have e0 := HCL.out q hql
                have HS : Hid ((l.take (q + 1)).countP ldB = (l.take q).countP ldB + if ldB l[q] then 1 else 0) := by
                  show _ = _
                  rw [List.take_succ_eq_append_getElem hql, List.countP_append, List.countP_cons]
                  simp
                have HLd : Hid (ldB l[q] = (l[q].op == 8 || l[q].op == 9)) := rfl
                generalize l[q] = y at *
                obtain ⟨yo, ya, yb, yc⟩ := y
                simp only at e0 HLd
                generalize (l.take q).countP ldB = cq at *
                by_cases y8 : yo = 8
                · subst y8
                  go_wp2
                  go_round
                  case rel => exact ⟨q + 1, by omega, by go_num, by show Value.int .i64 _ = Value.int .i64 _; rw [HS.out, HLd.out]; simp; omega⟩
                  case measure => simp [intOf]; omega
                by_cases y9 : yo = 9
                · subst y9
                  go_wp2
                  go_round
                  case rel => exact ⟨q + 1, by omega, by go_num, by show Value.int .i64 _ = Value.int .i64 _; rw [HS.out, HLd.out]; simp; omega⟩
                  case measure => simp [intOf]; omega
                have z8 : (yo == 8) = false := by simp [y8]
                have z9 : (yo == 9) = false := by simp [y9]
                go_wp2
                go_round
                case rel => exact ⟨q + 1, by omega, by go_num, by show Value.int .i64 _ = Value.int .i64 _; rw [HS.out, HLd.out, z8, z9]; simp⟩
                case measure => simp [intOf]; omega
              · obtain rfl : q = ci := by omega
                obtain ⟨mm, hmm⟩ : ∃ mm, mm = 2 * (l.take q).countP ldB := ⟨_, rfl⟩
                rw [← hmm]
                have hm4 : mm ≤ 400 := by omega
                have HMM : Hid (atMap l q = q + mm) := by show _ = _; rw [hmm]; rfl
                clear hmm hcq
                have HY2 : Hid (mkI l ⟨xo, xa, xb, (q : Int)⟩ = [⟨xo, xa, xb, (q : Int) + (mm : Int)⟩]) := by
                  show _ = _
                  rw [HY.out, HMM.out]
                  simp
                go_wp2_with (first
                  | (at_builtin
                     refine wpList_append_lies _ rfl (.tmp 77) (.tmp 79) _ rfl w.heap.size 52 i0 _ 4 32 hU hi0 hz0 hz1 hz2 rfl (by omega) _ nf (insCells ((l.take k).flatMap (mkI l))) rfl ?_ ⟨wr.heap.size + 1 + 1, 0, none⟩ 1 1 (insCells [⟨xo, xa, xb, (q : Int) + (mm : Int)⟩]) rfl rfl ?_ (ins_one _) (by omega) ?_ ?_ ?_ (wr.heap.size + 1 + 1 + 1) ?_ ?_
                     · exact ((HOW.out.alloc _).alloc _).alloc _
                     · exact World.news_of_block (fr := (0, 0)) (B := wr.heap.size + 1 + 1) (t := 52) (cs := #[.int .i64 xo, .int .i64 xa, .int .i64 xb, .int .i64 ((q : Int) + (mm : Int))]) (Blk.new' (by simp))
                     · (unfold maxLen; omega)
                     · omega
                     · (have := HM2.out.below.size; simp; omega)
                     · simp
                     intro g3 cap3 w3 hown3 hgrow3 hat3 hlt3))
                have hN := HM2.out.one ((((Below.refl wr.heap.size wr).alloc (Nat.le_refl _) _).alloc (by simp) _).alloc (by simp; omega) _) hlt HX.out HY2.out hown3 (by rw [HNF.out]) hgrow3
                go_wp2
                go_roundw
                case rel => exact ⟨k + 1, by omega, by go_num, hN⟩
                case measure => simp [intOf]; omega
          by_cases hd : xo = 8 ∨ xo = 9
          · clear hj
            rcases hd with rfl | rfl
            · have HY : Hid (mkI l ⟨8, xa, xb, xc⟩ = [⟨4, 4, xb, 6⟩, ⟨5, 4, 4, 5⟩, ⟨8, xa, 4, xc⟩]) := rfl
              have hjm : jmpB ⟨8, xa, 4, xc⟩ = false := by simp [jmpB]
              go_wp2_with (first
                | (go_at_call 36; refine (jumps_any _ _ _ _ _).mono ?_; rintro e w9 ⟨rfl, rfl⟩)
                | (at_builtin
                   refine wpList_append_lies _ rfl (.tmp 40) (.tmp 45) _ rfl w.heap.size 52 i0 _ 4 32 hU hi0 hz0 hz1 hz2 rfl (by omega) _ nf (insCells ((l.take k).flatMap (mkI l))) rfl ?_ ⟨wr.heap.size + 1, 0, none⟩ 2 2 (insCells [⟨4, 4, xb, 6⟩, ⟨5, 4, 4, 5⟩]) rfl rfl ?_ (ins_one _) (by omega) ?_ ?_ ?_ (wr.heap.size + 1 + 1) ?_ ?_
                   · exact (HOW.out.alloc _).alloc _
                   · exact World.news_of_block (fr := (0, 0)) (B := wr.heap.size + 1) (t := 52) (cs := #[.int .i64 4, .int .i64 4, .int .i64 xb, .int .i64 6, .int .i64 5, .int .i64 4, .int .i64 4, .int .i64 5]) (Blk.new' (by simp))
                   · (unfold maxLen; omega)
                   · omega
                   · (have := HM2.out.below.size; simp; omega)
                   · simp
                   intro g3 cap3 w3 hown3 hgrow3 hat3 hlt3
                   have kb : Blk w3 wr.heap.size 52 #[.int .i64 8, .int .i64 xa, .int .i64 xb, .int .i64 xc] := ((Blk.new wr _ _).alloc _).grown hgrow3 (own_ne_new HOW.out)
                   have kb0 := kb.cell 0
                   have kb1 := kb.cell 1
                   have kb2 := kb.cell 2
                   have kb3 := kb.cell 3
                   have kf2 := kb.frozen 2
                   have klt := kb.lt
                   have klt1 : wr.heap.size < w3.heap.size + 1 := by omega
                   have hne : Value.ownBlock (.slice (some ⟨g3, 0, none⟩) (nf + 2) cap3) ≠ some wr.heap.size := by
                     intro e
                     have e' : g3 = wr.heap.size := by simpa [Value.ownBlock] using e
                     rcases hat3 with h5 | h5
                     · rw [e'] at h5
                       exact own_ne_new HOW.out h5.symm
                     · omega
                   have hlo3 : w.heap.size ≤ w3.heap.size := by have := (hown3.lt g3 rfl).1; omega
                   simp at kb0 kb1 kb2 kb3
                   clear kb)
                | (at_builtin
                   refine wpList_append_lies _ rfl (.tmp 77) (.tmp 79) _ rfl w.heap.size 52 i0 _ 4 32 hU hi0 hz0 hz1 hz2 rfl (by omega) (.slice (some ⟨g3, 0, none⟩) (nf + 2) cap3) (nf + 2) (insCells ((l.take k).flatMap (mkI l)) ++ insCells [⟨4, 4, xb, 6⟩, ⟨5, 4, 4, 5⟩]) rfl ?_ ⟨w3.heap.size + 1, 0, none⟩ 1 1 (insCells [⟨8, xa, 4, xc⟩]) rfl rfl ?_ (ins_one _) (by omega) ?_ ?_ ?_ (w3.heap.size + 1 + 1) ?_ ?_
                   · exact ((hown3.kept (set_grown w3 ⟨wr.heap.size, 2, none⟩ (.int .i64 4)) (.inr hne)).alloc _).alloc _
                   · exact World.news_of_block (fr := (0, 0)) (B := w3.heap.size + 1) (t := 52) (cs := #[.int .i64 8, .int .i64 xa, .int .i64 4, .int .i64 xc]) (Blk.new' (by simp))
                   · (unfold maxLen; omega)
                   · omega
                   · (simp; omega)
                   · simp
                   intro g4 cap4 w4 hown4 hgrow4 hat4 hlt4))
              have hN := HM2.out.three hlt HX.out HY.out hgrow3 ((((Below.refl w.heap.size w3).setCell (p := ⟨wr.heap.size, 2, none⟩) HM2.out.below.size (.int .i64 4)).alloc (by simp; omega) _).alloc (by simp; omega) _)
                (((hown3.kept (set_grown w3 ⟨wr.heap.size, 2, none⟩ (.int .i64 4)) (.inr hne)).alloc _).alloc _) hown4 (by rw [HNF.out]) hgrow4
              go_wp2
              go_roundw
              case rel => exact ⟨k + 1, by omega, by go_num, hN⟩
              case measure => simp [intOf]; omega
            · have HY : Hid (mkI l ⟨9, xa, xb, xc⟩ = [⟨4, 4, xb, 6⟩, ⟨5, 4, 4, 5⟩, ⟨9, xa, 4, xc⟩]) := rfl
              have hjm : jmpB ⟨9, xa, 4, xc⟩ = false := by simp [jmpB]
              go_wp2_with (first
                | (go_at_call 36; refine (jumps_any _ _ _ _ _).mono ?_; rintro e w9 ⟨rfl, rfl⟩)
                | (at_builtin
                   refine wpList_append_lies _ rfl (.tmp 40) (.tmp 45) _ rfl w.heap.size 52 i0 _ 4 32 hU hi0 hz0 hz1 hz2 rfl (by omega) _ nf (insCells ((l.take k).flatMap (mkI l))) rfl ?_ ⟨wr.heap.size + 1, 0, none⟩ 2 2 (insCells [⟨4, 4, xb, 6⟩, ⟨5, 4, 4, 5⟩]) rfl rfl ?_ (ins_one _) (by omega) ?_ ?_ ?_ (wr.heap.size + 1 + 1) ?_ ?_
                   · exact (HOW.out.alloc _).alloc _
                   · exact World.news_of_block (fr := (0, 0)) (B := wr.heap.size + 1) (t := 52) (cs := #[.int .i64 4, .int .i64 4, .int .i64 xb, .int .i64 6, .int .i64 5, .int .i64 4, .int .i64 4, .int .i64 5]) (Blk.new' (by simp))
                   · (unfold maxLen; omega)
                   · omega
                   · (have := HM2.out.below.size; simp; omega)
                   · simp
                   intro g3 cap3 w3 hown3 hgrow3 hat3 hlt3
                   have kb : Blk w3 wr.heap.size 52 #[.int .i64 9, .int .i64 xa, .int .i64 xb, .int .i64 xc] := ((Blk.new wr _ _).alloc _).grown hgrow3 (own_ne_new HOW.out)
                   have kb0 := kb.cell 0
                   have kb1 := kb.cell 1
                   have kb2 := kb.cell 2
                   have kb3 := kb.cell 3
                   have kf2 := kb.frozen 2
                   have klt := kb.lt
                   have klt1 : wr.heap.size < w3.heap.size + 1 := by omega
                   have hne : Value.ownBlock (.slice (some ⟨g3, 0, none⟩) (nf + 2) cap3) ≠ some wr.heap.size := by
                     intro e
                     have e' : g3 = wr.heap.size := by simpa [Value.ownBlock] using e
                     rcases hat3 with h5 | h5
                     · rw [e'] at h5
                       exact own_ne_new HOW.out h5.symm
                     · omega
                   have hlo3 : w.heap.size ≤ w3.heap.size := by have := (hown3.lt g3 rfl).1; omega
                   simp at kb0 kb1 kb2 kb3
                   clear kb)
                | (at_builtin
                   refine wpList_append_lies _ rfl (.tmp 77) (.tmp 79) _ rfl w.heap.size 52 i0 _ 4 32 hU hi0 hz0 hz1 hz2 rfl (by omega) (.slice (some ⟨g3, 0, none⟩) (nf + 2) cap3) (nf + 2) (insCells ((l.take k).flatMap (mkI l)) ++ insCells [⟨4, 4, xb, 6⟩, ⟨5, 4, 4, 5⟩]) rfl ?_ ⟨w3.heap.size + 1, 0, none⟩ 1 1 (insCells [⟨9, xa, 4, xc⟩]) rfl rfl ?_ (ins_one _) (by omega) ?_ ?_ ?_ (w3.heap.size + 1 + 1) ?_ ?_
                   · exact ((hown3.kept (set_grown w3 ⟨wr.heap.size, 2, none⟩ (.int .i64 4)) (.inr hne)).alloc _).alloc _
                   · exact World.news_of_block (fr := (0, 0)) (B := w3.heap.size + 1) (t := 52) (cs := #[.int .i64 9, .int .i64 xa, .int .i64 4, .int .i64 xc]) (Blk.new' (by simp))
                   · (unfold maxLen; omega)
                   · omega
                   · (simp; omega)
                   · simp
                   intro g4 cap4 w4 hown4 hgrow4 hat4 hlt4))
              have hN := HM2.out.three hlt HX.out HY.out hgrow3 ((((Below.refl w.heap.size w3).setCell (p := ⟨wr.heap.size, 2, none⟩) HM2.out.below.size (.int .i64 4)).alloc (by simp; omega) _).alloc (by simp; omega) _)
                (((hown3.kept (set_grown w3 ⟨wr.heap.size, 2, none⟩ (.int .i64 4)) (.inr hne)).alloc _).alloc _) hown4 (by rw [HNF.out]) hgrow4
              go_wp2
              go_roundw
              case rel => exact ⟨k + 1, by omega, by go_num, hN⟩
              case measure => simp [intOf]; omega
          have n8 : ¬ xo = 8 := by omega
          have n9 : ¬ xo = 9 := by omega
          have m8 : (xo == 8) = false := by simp [n8]
          have m9 : (xo == 9) = false := by simp [n9]
          have hjm : jmpB ⟨xo, xa, xb, xc⟩ = false := by simp only [jmpB, decide_eq_false_iff_not]; exact hj
          have HY : Hid (mkI l ⟨xo, xa, xb, xc⟩ = [⟨xo, xa, xb, xc⟩]) := by show _ = _; unfold mkI; rw [if_neg (by simp [ldB, n8, n9]), if_neg (by rw [hjm]; decide)]
          clear hj hd
          go_wp2_with (first
            | (go_at_call 36; refine (jumps_any _ _ _ _ _).mono ?_; rintro e w3 ⟨rfl, rfl⟩)
            | (at_builtin
               refine wpList_append_lies _ rfl (.tmp 77) (.tmp 79) _ rfl w.heap.size 52 i0 _ 4 32 hU hi0 hz0 hz1 hz2 rfl (by omega) _ nf (insCells ((l.take k).flatMap (mkI l))) rfl ?_ ⟨wr.heap.size + 1 + 1, 0, none⟩ 1 1 (insCells [⟨xo, xa, xb, xc⟩]) rfl rfl ?_ (ins_one _) (by omega) ?_ ?_ ?_ (wr.heap.size + 1 + 1 + 1) ?_ ?_
               · exact ((HOW.out.alloc _).alloc _).alloc _
               · exact World.news_of_block (fr := (0, 0)) (B := wr.heap.size + 1 + 1) (t := 52) (cs := #[.int .i64 xo, .int .i64 xa, .int .i64 xb, .int .i64 xc]) (Blk.new' (by simp))
               · (unfold maxLen; omega)
               · omega
               · (have := HM2.out.below.size; simp; omega)
               · simp
               intro g3 cap3 w3 hown3 hgrow3 hat3 hlt3))
          have hN := HM2.out.one ((((Below.refl wr.heap.size wr).alloc (Nat.le_refl _) _).alloc (by simp) _).alloc (by simp; omega) _) hlt HX.out HY.out hown3 (by rw [HNF.out]) hgrow3
          go_wp2
          go_roundw
          case rel => exact ⟨k + 1, by omega, by go_num, hN⟩
          case measure => simp [intOf]; omega
        · obtain rfl : k = l.length := by omega
          have hF := hM.own
          rw [List.take_length] at hF
          have HF := Lib.hid hF
          have HB := Lib.hid hM.below
          obtain ⟨AV, cV, rfl⟩ := own_slice hF
          obtain ⟨nm, hnm⟩ : ∃ nm, nm = (l.flatMap (mkI l)).length := ⟨_, rfl⟩
          have HNM := Lib.hid hnm
          rw [← hnm]
          clear hM hF
          by_cases h2 : 200 < nm
          · have h3 : (200 : Int) < (nm : Int) := by omega
            have HR : Hid (makeOf l = ([], 1)) := by show _ = _; rw [makeOf, if_pos HC.out, HP.out, if_pos rfl, if_pos (by rw [madeOf, ← HNM.out]; exact h2)]
            clear hnm
            go_wp2
            go_ret2
            exact MadePost.no HR.out rfl HB.out
          · have h3 : (nm : Int) ≤ 200 := by omega
            have HR : Hid (makeOf l = (madeOf l, 0)) := by show _ = _; rw [makeOf, if_pos HC.out, HP.out, if_pos rfl, if_neg (by rw [madeOf, ← HNM.out]; exact h2)]
            clear hnm
            go_wp2
            go_ret2
            exact MadePost.yes HR.out rfl (by rw [HNM.out]; exact HF.out) HB.out
  · have HC := Lib.hid hc0
    have hc1 : (check l == 0) = false := by rw [beq_eq_false_iff_ne]; exact hc0
    have hc2 : (check l != 0) = true := by rw [bne_iff_ne]; exact hc0
    clear hc0
    go_enter Tryd.func22, Tryd.ntmps22
    go_wp2_with fail
    refine (CodeFault_any A c l w hr HL.out).mono ?_
    rintro e w1 ⟨rfl, hb1⟩
    go_wp2
    go_ret2
    exact MadePost.no (n := check l) (by rw [makeOf, if_neg HC.out]) rfl hb1
end Go.Proofs.YtdjamdbamkhblaaDoor
