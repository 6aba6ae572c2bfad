/- The walk of keep.FilesBack. No condition. -/
import Derived.Test.YtdjamdbamkhblacDoorConcat
import Derived.Test.YtdjamdbamkhblacDoorFilesP
import Derived.Test.YtdjamdbamkhblacDoorG30
import Derived.Test.YtdjamdbamkhblacDoorG29
import Derived.BigQuiet
import Derived.Deep.DeepCutAuto
namespace Go.Proofs.YtdjamdbamkhblacDoor
open Go.RowKit
set_option linter.unusedVariables false
set_option linter.unusedSimpArgs false
attribute [local go_sem] After.cell
/-- A row of acts of this call's own. -/
structure RowA (w W : World) (A : Option Addr) (c : Nat) (l : List Akt) : Prop where
  own : W.ownsRow w.heap.size 26 6 (.slice A l.length c) l.length (aktCells l)
  be : Below w.heap.size w W
theorem RowA.below {w W W' : World} {A : Option Addr} {c : Nat} {l : List Akt} (h : RowA w W A c l) (hb : Below W.heap.size W W') : RowA w W' A c l := ⟨own_below h.own hb, h.be.trans (hb.mono h.be.size)⟩
theorem RowA.lit {w W : World} (hb : Below w.heap.size w W) {l : List Akt} {cs : Array Value} (hcs : cs = (aktCells l).toArray) (hl : l.length ≤ 100000) : RowA w (W.alloc (.cells cs 26)) (some ⟨W.heap.size, 0, none⟩) l.length l := by
  have hs : cs.size = l.length * 6 := by rw [hcs]; simp [aktCells_len]
  have h := World.ownsRow_lit (base := w.heap.size) (e := 26) (size := 6) W cs l.length hb.size (by simp [maxLen]; omega) hs
  rw [hcs] at h
  rw [hcs]
  exact ⟨h, hb.alloc hb.size _⟩
theorem wp_app {w W : World} {ops : Array Oper} {rest : List Oper} {o : Oper} {a : Act} {Q : Exit → Act → World → Prop} {A : Option Addr} {c : Nat} {l : List Akt} (x : List Akt) {cs : Array Value} {m c2 : Nat} (hW : RowA w W A c l) (hgd : o.guard = none) (s y : Operand)
    (ho : o.op = .call { callee := .builtin .append, args := #[s, y], argTypes := #[27, 27] }) (hs : a.eval s = .slice A l.length c) (hy : a.eval y = .slice (some ⟨W.heap.size, 0, none⟩) m c2) (hm : m = x.length) (hcs : cs = (aktCells x).toArray) (hlen : l.length + x.length ≤ 100000)
    (h : ∀ A' c' w', RowA w w' A' c' (l ++ x) → wpList Tryd.prog ops Q rest (a.put o.dst (.slice A' (l ++ x).length c')) w') : wpList Tryd.prog ops Q (o :: rest) a (W.alloc (.cells cs 26)) := by
  obtain ⟨i0, hi0, hz0, hz1, hz2⟩ := info_parts info_Akt
  have hba := (Below.refl W.heap.size W).alloc (Nat.le_refl _) (.cells cs 26)
  have hW2 := hW.below hba
  have hr := (RdA.blk (Blk.new W 26 cs) hcs).rd
  rw [hm] at hy
  refine wpList_append_rd _ hgd s y _ ho w.heap.size 26 i0 _ 6 64 Tryd.underlying27 hi0 hz0 hz1 hz2 rfl (by omega) (.slice A l.length c) l.length (aktCells l) hs hW2.own _ _ x.length c2 (aktCells x) hy hr (akt_one _) (by simp [maxLen]; omega) (by omega) hW2.be.size ?_
  intro v1 w3 hv1 hg1 _
  obtain ⟨A2, k2, rfl⟩ := own_slice hv1
  rw [← List.length_append]
  refine h A2 k2 w3 ⟨?_, hW2.be.grown hg1 hW2.be.size fun q hq => (hW2.own.lt q hq).1⟩
  rw [List.length_append, aktCells_app]
  exact hv1
/-- One slice, laid in a block. -/
theorem Sls.one {w W : World} {A : Option Addr} {c : Nat} {l : List Akt} {t : TypeId} (h : RowA w W A c l) : Sls (W.alloc (.cells #[.slice A l.length c] t)) (W.alloc (.cells #[.slice A l.length c] t)).heap.size W.heap.size [(A, c, l)] := by
  have hba := (Below.refl W.heap.size W).alloc (Nat.le_refl _) (.cells #[.slice A l.length c] t)
  refine ⟨by simp, fun q hq => ?_, fun q hq => ?_⟩
  · have : q = 0 := by simp at hq; omega
    subst this
    exact (Blk.new W t #[.slice A l.length c]).cell 0
  · have : q = 0 := by simp at hq; omega
    subst this
    exact RdA.of ((Rd.of_own (h.below hba).own))
set_option maxRecDepth 100000 in
set_option maxHeartbeats 2000000 in
theorem FilesBack_any (HRC : RunC 156) (r : Ins) (x : Int) (u : Bool) (w : World) (hr : r.wf) (wx : (Lit.int .i64 x).wf = true) (ht : Tab w) :
    Calls Tryd.prog 3 #[.agg #[.int .i64 r.op, .int .i64 r.a, .int .i64 r.b, .int .i64 r.c], .int .i64 x, .bool u] w fun e w' => e = .returned (.bool true) ∧ Below w.heap.size w w' := by
  obtain ⟨x1, x2⟩ := wf64_of wx
  have wf0 : wf64 0 := ⟨by decide, by decide⟩
  have hb0 := below_box w (.cells #[.int .i64 r.op, .int .i64 r.a, .int .i64 r.b, .int .i64 r.c] 23)
  have HB0 := Lib.hid hb0
  have HX0 := Lib.hid (Blk.new w 23 #[.int .i64 r.op, .int .i64 r.a, .int .i64 r.b, .int .i64 r.c])
  have C1 : Hid (∀ W : World, Calls Tryd.prog 12 #[.agg #[.int .i64 r.op, .int .i64 r.a, .int .i64 r.b, .int .i64 r.c]] W fun e w' => e = .returned (.string (dataS r.a r.b)) ∧ Below W.heap.size W w') := fun W => KData_any r hr W
  have C2 : Hid (∀ W : World, Calls Tryd.prog 12 #[.agg #[.int .i64 0, .int .i64 r.b, .int .i64 r.c, .int .i64 0]] W fun e w' => e = .returned (.string (dataS r.b r.c)) ∧ Below W.heap.size W w') := fun W => KData_any ⟨0, r.b, r.c, 0⟩ ⟨wf0, hr.2.2.1, hr.2.2.2, wf0⟩ W
  obtain ⟨d1, hd1⟩ : ∃ d, d = dataS r.a r.b := ⟨_, rfl⟩
  obtain ⟨d2, hd2⟩ : ∃ d, d = dataS r.b r.c := ⟨_, rfl⟩
  rw [← hd1] at C1
  rw [← hd2] at C2
  have l1 : 1 ≤ d1.size ∧ d1.size ≤ 30 := by rw [hd1]; exact dataS_le _ _
  have l2 : 1 ≤ d2.size ∧ d2.size ≤ 30 := by rw [hd2]; exact dataS_le _ _
  have hov : ¬ (9223372036854775807 < d1.size + d2.size) := by omega
  have HL := Lib.hid (And.intro l1 l2)
  have HT := Lib.hid ht
  have HW := Lib.hid (And.intro x1 x2)
  clear wf0 hb0 hd1 hd2 ht wx hr l1 l2 x1 x2
  go_enter Tryd.func3, Tryd.ntmps3
  go_upto_region 1 with fail
  refine (show ∀ W : World, Blk W w.heap.size 23 #[.int .i64 r.op, .int .i64 r.a, .int .i64 r.b, .int .i64 r.c] → Below w.heap.size w W → Code.wp _ _ _ _ W from ?_) _ HX0.out HB0.out
  clear HX0 HB0
  intro W1 hX hB
  have r0 := hX.cell 0
  have r1 := hX.cell 1
  have r2 := hX.cell 2
  have r3 := hX.cell 3
  have rl := hX.lt
  simp at r0 r1 r2 r3
  have D1 : Hid (∀ X : After W1, Calls Tryd.prog 12 #[.agg #[.int .i64 r.op, .int .i64 r.a, .int .i64 r.b, .int .i64 r.c]] X.w' fun e w' => e = .returned (.string d1) ∧ Below X.w'.heap.size X.w' w') := fun X => C1.out _
  have D2 : Hid (∀ X : After W1, Calls Tryd.prog 12 #[.agg #[.int .i64 0, .int .i64 r.b, .int .i64 r.c, .int .i64 0]] X.w' fun e w' => e = .returned (.string d2) ∧ Below X.w'.heap.size X.w' w') := fun X => C2.out _
  have HB := Lib.hid hB
  clear hX hB C1 C2
  refine wp_region_calm (by kernel_rfl) (by kernel_rfl) ?_
  repeat (go_big_quiet_step ((rename_i X; first | with_reducible exact Calls.calm (D1.out X) | with_reducible exact Calls.calm (D2.out X))))
  refine wpQuiet_nil ?_
  rintro W2 ⟨⟨_, hb2⟩, rfl⟩
  rename_i W2
  have HB2 := Lib.hid (HB.out.trans (hb2.mono HB.out.size))
  clear hb2 HB D1 D2 r0 r1 r2 r3 rl hov
  have hsz : (d1 ++ d2).size = d1.size + d2.size := str_app_size d1 d2
  obtain ⟨s, hs⟩ : ∃ s, s = d1 ++ d2 := ⟨_, rfl⟩
  rw [← hs] at hsz
  rw [← hs]
  have HSZ := Lib.hid (show 2 ≤ s.size ∧ s.size ≤ 60 by have := HL.out; omega)
  clear hs hsz HL
  obtain ⟨p, hp⟩ : ∃ p, p = pick x s.size := ⟨_, rfl⟩
  have hps : p < s.size := by rw [hp]; exact pick_lt _ (by have := HSZ.out; omega)
  have PA : Hid (∀ W : World, Calls Tryd.prog 13 #[.int .i64 x, .int .i64 (s.size : Int)] W fun e w' => e = .returned (.int .i64 (p : Nat)) ∧ W = w') := fun W => by rw [hp]; exact picked_any x s.size W HW.out.1 HW.out.2 (by have := HSZ.out; omega) (by have := HSZ.out; omega)
  have hs60 := HSZ.out.2
  clear hp
  have HA0 := Lib.hid (RowA.lit HB2.out (l := [⟨2, 0, 0, 0, fS, noS⟩, ⟨5, 0, 0, 0, fS, noS⟩, ⟨5, 0, 0, 0, fS, noS⟩]) (cs := #[.int .i64 2, .int .i64 0, .int .i64 0, .int .i64 0, .string ⟨#[102]⟩, .string ⟨#[]⟩, .int .i64 5, .int .i64 0, .int .i64 0, .int .i64 0, .string ⟨#[102]⟩, .string ⟨#[]⟩, .int .i64 5, .int .i64 0, .int .i64 0, .int .i64 0, .string ⟨#[102]⟩, .string ⟨#[]⟩]) rfl (by simp))
  go_wp2_with fail
  refine (PA.out _).mono ?_
  rintro e w' ⟨rfl, rfl⟩
  clear PA
  go_upto_region 4 with fail
  obtain ⟨n, hn⟩ : ∃ n, n = 1 + p := ⟨_, rfl⟩
  have hni : (n : Int) = 1 + (p : Int) := by omega
  rw [← hni]
  have HN := Lib.hid (show 1 ≤ n ∧ n ≤ s.size by omega)
  have n1 : 1 ≤ (n : Int) := by omega
  have n2 : (n : Int) ≤ (s.size : Int) := by omega
  have n3 : n ≤ s.size := by omega
  have n4 : 0 ≤ (n : Int) := by omega
  clear hn hni hps
  have ex1 : Hid (s.extract 0 n = cutS s 0 n) := by show _ = _; exact cut_ext _ _ _
  have ex2 : Hid (s.extract n s.size = cutS s n s.size) := by show _ = _; exact cut_ext _ _ _
  obtain ⟨la0, hla0⟩ : ∃ l, l = ([⟨2, 0, 0, 0, fS, noS⟩, ⟨5, 0, 0, 0, fS, noS⟩, ⟨5, 0, 0, 0, fS, noS⟩] : List Akt) := ⟨_, rfl⟩
  have e3 : la0.length = 3 := by rw [hla0]; rfl
  rw [← hla0] at HA0
  have hcat : Hid (la0.length = 3) := by show _ = _; rw [hla0]; rfl
  have HA1 : Hid (RowA w (W2.alloc (.cells #[.int .i64 2, .int .i64 0, .int .i64 0, .int .i64 0, .string ⟨#[102]⟩, .string ⟨#[]⟩, .int .i64 5, .int .i64 0, .int .i64 0, .int .i64 0, .string ⟨#[102]⟩, .string ⟨#[]⟩, .int .i64 5, .int .i64 0, .int .i64 0, .int .i64 0, .string ⟨#[102]⟩, .string ⟨#[]⟩] 26)) (some ⟨W2.heap.size, 0, none⟩) 3 la0) := by
    have h := HA0.out
    rw [hcat.out] at h
    exact h
  have HLA := Lib.hid hla0
  refine (show ∀ W : World, RowA w W (some ⟨W2.heap.size, 0, none⟩) 3 la0 → Code.wp _ _ _ _ W from ?_) _ HA1.out
  clear HA0 HA1 hla0
  intro W3 h0
  have HA0 := Lib.hid h0
  clear h0
  go_upto_if 42 with (at_builtin; rw [ex1.out]; (refine wp_app (l := la0) [⟨8, 0, 0, 0, noS, cutS s 0 n⟩] HA0.out rfl (.tmp 32) (.tmp 37) rfl ?vs rfl rfl rfl ?len ?_); (case vs => (show Value.slice _ 3 3 = _; rw [hcat.out])); (case len => (rw [hcat.out]; simp)); intro A1 c1 W4 h1; obtain ⟨la1, hl1⟩ : ∃ l, l = la0 ++ [⟨8, 0, 0, 0, noS, cutS s 0 n⟩] := ⟨_, rfl⟩; rw [← hl1] at h1 ⊢; have HE1 : Hid (la1.length = 4) := (by show _ = _; rw [hl1, List.length_append, hcat.out]; rfl); have HL1 := Lib.hid hl1; have HA1 := Lib.hid h1; clear h1 hl1 hcat HA0)
  go_cut [8] (fun V wx => ∃ A c l, V = .slice A l.length c ∧ RowA w wx A c l ∧ Hid (l = la1 ++ if n < s.size then [⟨8, 0, 0, 0, noS, cutS s n s.size⟩] else []))
  case first =>
    by_cases hns : n < s.size
    · have hnz : (n : Int) < (s.size : Int) := by omega
      go_wp2_with (at_builtin; rw [ex2.out]; (refine wp_app (l := la1) [⟨8, 0, 0, 0, noS, cutS s n s.size⟩] HA1.out rfl (.tmp 43) (.tmp 48) rfl rfl rfl rfl rfl ?len ?_); (case len => (rw [HE1.out]; simp)); intro A2 c2 W5 h2)
      go_meet
      exact ⟨A2, c2, la1 ++ [⟨8, 0, 0, 0, noS, cutS s n s.size⟩], by first | rfl | simp, h2, by show _ = _; rw [if_pos hns]⟩
    · have hnz : ¬ (n : Int) < (s.size : Int) := by omega
      go_wp2_with fail
      go_meet
      exact ⟨A1, c1, la1, rfl, HA1.out, by show _ = _; rw [if_neg hns, List.append_nil]⟩
  case rest =>
    obtain ⟨A2, c2, la2, rfl, h2, HL2⟩ := hcut
    have HA2 := Lib.hid h2
    have l2 : la2.length ≤ 5 := by
      rw [HL2.out, List.length_append, HE1.out]
      split <;> simp
    have HE2 := Lib.hid l2
    clear h2 l2 HE1 HA1 ex1 ex2
    go_upto_if 50 with fail
    go_cut [8] (fun V wx => ∃ A c l, V = .slice A l.length c ∧ RowA w wx A c l ∧ Hid (l = la2 ++ if u then [⟨4, 0, 0, 0, fS, noS⟩] else []))
    case first =>
      by_cases hu : u = true
      · subst hu
        go_wp2_with (at_builtin; (refine wp_app (l := la2) [⟨4, 0, 0, 0, fS, noS⟩] HA2.out rfl (.tmp 51) (.tmp 53) rfl rfl rfl rfl rfl ?len ?_); (case len => (have := HE2.out; simp; omega)); intro A3 c3 W5 h3)
        go_meet
        exact ⟨A3, c3, la2 ++ [⟨4, 0, 0, 0, fS, noS⟩], by first | rfl | simp, h3, by show _ = _; simp⟩
      · have hu' : u = false := by simpa using hu
        subst hu'
        go_wp2_with fail
        go_meet
        exact ⟨A2, c2, la2, rfl, HA2.out, by show _ = _; simp⟩
    case rest =>
      obtain ⟨A3, c3, la3, rfl, h3, HL3⟩ := hcut
      have HA3 := Lib.hid h3
      have l3 : la3.length ≤ 6 := by
        have := HE2.out
        rw [HL3.out, List.length_append]
        split <;> simp <;> omega
      have HE3 := Lib.hid l3
      clear h3 l3 HA2 HE2
      go_upto_region 11 with (at_builtin; (refine wp_app (l := la3) [⟨7, 0, 1, (n : Int), noS, noS⟩, ⟨7, 0, 1, 100, noS, noS⟩, ⟨7, 0, 1, 1, noS, noS⟩, ⟨5, 0, 0, 0, fS, noS⟩] HA3.out rfl (.tmp 57) (.tmp 63) rfl rfl rfl rfl rfl ?len ?_); (case len => (have := HE3.out; simp; omega)); intro A4 c4 W6 h4; obtain ⟨la4, hl4⟩ : ∃ l, l = la3 ++ [⟨7, 0, 1, (n : Int), noS, noS⟩, ⟨7, 0, 1, 100, noS, noS⟩, ⟨7, 0, 1, 1, noS, noS⟩, ⟨5, 0, 0, 0, fS, noS⟩] := ⟨_, rfl⟩; rw [← hl4] at h4 ⊢; have HE4 : Hid (la4.length = la3.length + 4) := (by show _ = _; rw [hl4, List.length_append]; rfl); have HL4 := Lib.hid hl4; have HA4 := Lib.hid h4; clear h4 hl4 HA3)
      have HL : Hid (la4 = filesL s n u) := by
        show _ = _
        rw [HL4.out, HL3.out, HL2.out, HL1.out, HLA.out]
        unfold filesL
        simp
      have HAO : Hid (ActsOk la4) := fun y hy => by
        have := HSZ.out.2
        have k1 := cutS_size s 0 n HN.out.2
        have k2 := cutS_size s n s.size (Nat.le_refl _)
        have h6 : fS.size ≤ maxLen := by decide
        have h0 : noS.size ≤ maxLen := by decide
        have h1 : (cutS s 0 n).size ≤ maxLen := by unfold maxLen; omega
        have h2 : (cutS s n s.size).size ≤ maxLen := by unfold maxLen; omega
        rw [HL.out] at hy
        unfold filesL at hy
        simp only [List.mem_append, List.mem_cons, List.not_mem_nil, or_false] at hy
        rcases hy with (((rfl | rfl | rfl | rfl) | hy) | hy) | rfl | rfl | rfl | rfl
        case inl.inl.inr => (split at hy; (simp only [List.mem_cons, List.not_mem_nil, or_false] at hy; subst hy; exact ⟨h0, h2⟩); cases hy)
        case inl.inr => (split at hy; (simp only [List.mem_cons, List.not_mem_nil, or_false] at hy; subst hy; exact ⟨h6, h0⟩); cases hy)
        all_goals exact ⟨by first | exact h6 | exact h0, by first | exact h0 | exact h1⟩
      have hba := (Below.refl W6.heap.size W6).alloc (Nat.le_refl _) (.cells #[.slice A4 la4.length c4] 27)
      have HBA := Lib.hid (HA4.out.be.trans (hba.mono HA4.out.be.size))
      have HRAN : Hid (Calls Tryd.prog 14 #[.slice (some ⟨W6.heap.size, 0, none⟩) 1 1] (W6.alloc (.cells #[.slice A4 la4.length c4] 27)) (RanPost (W6.alloc (.cells #[.slice A4 la4.length c4] 27)) (runK newK la4))) :=
        Ran_any HRC W6.heap.size 1 [(A4, c4, la4)] la4 _ (Sls.one HA4.out) (by simp) (by simp [flatS]) (by have := HE3.out; have := HE4.out; omega) HAO.out (HT.out.below HBA.out)
      obtain ⟨pre, hpre⟩ := files_runs s n u HN.out.1 HN.out.2 (by have := HSZ.out.2; omega)
      rw [← HL.out] at hpre
      have hlen := runK_len la4 newK
      have HPRE := Lib.hid hpre
      have HLEN := Lib.hid hlen
      clear hba HAO hpre hlen HL4 HL3 HL2 HL1 HLA HL
      go_wp2_with fail
      refine HRAN.out.mono ?_
      rintro e w3 ⟨A, c, ak, rfl, hO, hK, hcp, hb3⟩
      have HBF := Lib.hid (HBA.out.trans (hb3.mono HBA.out.size))
      obtain ⟨⟨kk, la⟩, hr⟩ : ∃ r, r = runK newK la4 := ⟨_, rfl⟩
      have hpre := HPRE.out
      have hlen := HLEN.out
      rw [← hr] at hO hK hpre hlen
      rw [← hr]
      simp only at hO hK hpre hlen
      obtain ⟨N, hN⟩ : ∃ N, N = la.length := ⟨_, rfl⟩
      obtain ⟨m, hm⟩ : ∃ m, m = la3.length := ⟨_, rfl⟩
      have hN4 : N = m + 4 := by rw [hN, hlen, HE4.out, hm]
      have hpl : pre.length = m := by
        have h : (pre ++ filesA s n u).length = N := by rw [← hpre, hN]
        rw [List.length_append] at h
        have : (filesA s n u).length = 4 := rfl
        omega
      have hfx : ∃ bx, A = some ⟨bx, 0, none⟩ ∧ bx < w3.heap.size ∧ w3.cell? ⟨bx, m * 3 + 2, none⟩ = some (.string (cutS s 0 n)) ∧ w3.cell? ⟨bx, (m + 1) * 3 + 2, none⟩ = some (.string (cutS s n s.size)) ∧ w3.cell? ⟨bx, (m + 1) * 3, none⟩ = some (.int .i64 (if n < s.size then 0 else 12)) ∧ w3.cell? ⟨bx, (m + 2) * 3, none⟩ = some (.int .i64 12) ∧ w3.cell? ⟨bx, (m + 3) * 3, none⟩ = some (.int .i64 (if u then 6 else 0)) := by
        obtain ⟨bx, hA, hlt, hcell⟩ := RunKPost.at_ hO (by omega)
        have g := fun i (hi : i < 4) => show la[m + i]? = (filesA s n u)[i]? by rw [hpre, List.getElem?_append_right (by omega)]; congr 1; omega
        have gl : la.length = m + 4 := by omega
        have g0 := (List.getElem?_eq_some_iff.1 ((g 0 (by omega)).trans rfl)).2
        have g1 := (List.getElem?_eq_some_iff.1 ((g 1 (by omega)).trans rfl)).2
        have g2 := (List.getElem?_eq_some_iff.1 ((g 2 (by omega)).trans rfl)).2
        have g3 := (List.getElem?_eq_some_iff.1 ((g 3 (by omega)).trans rfl)).2
        have y0 := (hcell (m + 0) (by omega)).2.2
        have y1 := hcell (m + 1) (by omega)
        have y2 := (hcell (m + 2) (by omega)).1
        have y3 := (hcell (m + 3) (by omega)).1
        rw [g0] at y0
        rw [g1] at y1
        rw [g2] at y2
        rw [g3] at y3
        refine ⟨bx, hA, hlt, y0, ?_, ?_, y2, ?_⟩
        · rw [y1.2.2]
          split
          · rfl
          · rename_i h
            have : n = s.size := by have := HN.out.2; omega
            have e : cutS s n s.size = noS := by
              subst this
              unfold cutS noS
              rw [List.drop_of_length_le (by simp)]
            rw [e]
            rfl
        · rw [y1.1]
          split <;> rfl
        · rw [y3]
          cases u <;> rfl
      obtain ⟨bx, rfl, hlt, y0, y1, yc, y2, y3⟩ := hfx
      have HM := Lib.hid (show m ≤ 6 by have := HE3.out; omega)
      simp only
      rw [← hN, ← hm]
      have HN4 := Lib.hid hN4
      clear hO hK hcp hb3 hr hpre hlen hN hm hN4 hpl HRAN HPRE HLEN HBA HA4 HE4 HE3 HT
      unfold KA.cells
      go_upto_region 12 with fail
      refine (show ∀ W : World, W.cell? ⟨bx, m * 3 + 2, none⟩ = some (.string (cutS s 0 n)) → W.cell? ⟨bx, (m + 1) * 3 + 2, none⟩ = some (.string (cutS s n s.size)) → W.cell? ⟨bx, (m + 1) * 3, none⟩ = some (.int .i64 (if n < s.size then 0 else 12)) → W.cell? ⟨bx, (m + 2) * 3, none⟩ = some (.int .i64 12) → W.cell? ⟨bx, (m + 3) * 3, none⟩ = some (.int .i64 (if u then 6 else 0)) → bx < W.heap.size → Below w.heap.size w W → Code.wp _ _ _ _ W from ?_) _ ((Below.one w3 _).cell (p := ⟨bx, m * 3 + 2, none⟩) hlt |>.trans y0) ((Below.one w3 _).cell (p := ⟨bx, (m + 1) * 3 + 2, none⟩) hlt |>.trans y1) ((Below.one w3 _).cell (p := ⟨bx, (m + 1) * 3, none⟩) hlt |>.trans yc) ((Below.one w3 _).cell (p := ⟨bx, (m + 2) * 3, none⟩) hlt |>.trans y2) ((Below.one w3 _).cell (p := ⟨bx, (m + 3) * 3, none⟩) hlt |>.trans y3) (Nat.lt_of_lt_of_le hlt (Below.one w3 _).size) (HBF.out.trans ((Below.one w3 _).mono HBF.out.size))
      clear y0 y1 yc y2 y3 hlt HBF
      intro W7 y0 y1 yc y2 y3 hlt hB
      have HBF := Lib.hid hB
      clear hB
      have i0 : (m : Int) < (N : Int) := by have := HN4.out; omega
      have i1 : (m : Int) + 1 < (N : Int) := by have := HN4.out; omega
      have i2 : (m : Int) + 2 < (N : Int) := by have := HN4.out; omega
      have i3 : (m : Int) + 3 < (N : Int) := by have := HN4.out; omega
      have e1 : ((m : Int) + 1).toNat = m + 1 := by omega
      have e2 : ((m : Int) + 2).toNat = m + 2 := by omega
      have e3 : ((m : Int) + 3).toNat = m + 3 := by omega
      have hm6 := HM.out
      have q0 : ((cutS s 0 n).toList == (s.extract 0 n).toList) = true := by rw [cut_ext]; exact beq_self_eq_true _
      have q1 : ((cutS s n s.size).toList == (s.extract n s.size).toList) = true := by rw [cut_ext]; exact beq_self_eq_true _
      go_quiet (fail)
      have hdr := Below.drewN' (Below.refl W7.heap.size W7) nq
      refine (show ∀ W : World, W.cell? ⟨bx, (m + 1) * 3, none⟩ = some (.int .i64 (if n < s.size then 0 else 12)) → W.cell? ⟨bx, (m + 3) * 3, none⟩ = some (.int .i64 (if u then 6 else 0)) → bx < W.heap.size → Below w.heap.size w W → Exit.then _ (Exit.then _ _) Exit.normal _ W from ?_) _ ((hdr.cell (p := ⟨bx, (m + 1) * 3, none⟩) hlt).trans yc) ((hdr.cell (p := ⟨bx, (m + 3) * 3, none⟩) hlt).trans y3) (Nat.lt_of_lt_of_le hlt hdr.size) (HBF.out.trans (hdr.mono HBF.out.size))
      clear y0 y1 yc y2 y3 hlt HBF hdr q0 q1
      intro W8 yc y3 hlt hB
      have HBF := Lib.hid hB
      clear hB
      have HF := Lib.hid (And.intro n3 hm6)
      rcases Bool.eq_false_or_eq_true u with hu | hu <;> subst hu <;> by_cases hns : n < s.size
      all_goals
        first | (have z1 : (n : Int) < (s.size : Int) := by omega) | (have z1 : ¬ (n : Int) < (s.size : Int) := by omega)
        first | rw [if_pos hns] at yc | rw [if_neg hns] at yc
        simp only [Bool.false_eq_true, if_true, if_false] at y3
        go_wp2_with fail
        go_ret
        exact ⟨by first | rfl | (simp; done), HBF.out⟩
end Go.Proofs.YtdjamdbamkhblacDoor
