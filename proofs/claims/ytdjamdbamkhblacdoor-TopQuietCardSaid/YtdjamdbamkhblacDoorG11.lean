/- slices.Clone at files, strings and open ends. slices.Clone at integers: a new row of the call's own that holds what the slice held. slices.Clone at instructions: a new row of the call's own that holds what the slice held. The walk of the laws' comparison of two codes that hold the same: it answers true. The walks of the laws' comparisons at two slices, or modules, that hold the same: they answer true. The walk of module.Copy: new memory that reads as the module did. Rows of the call's own, read as lists (see Cells), beside module.Copy: no condition. -/
import Derived.Test.YtdjamdbamkhblacDoorG08
set_option maxHeartbeats 3200000
namespace Go.Proofs.YtdjamdbamkhblacDoor
open Go.RowKit
theorem Mzy:(Tryd.prog.info? 52).map (fun i=>(i.zero,i.size,i.bytes))=some (some (.agg #[.string ⟨#[]⟩, .int .i64 0, .string ⟨#[]⟩, .int .i64 0]),4,48):=by kernel_rfl
theorem Kzl (A:Option Addr) (n c:Nat) (xs:List Value) (w:World) (hr:Rd w w.heap.size 4 A n xs) (hnil:A=none→n=0∧c=0) (h1:∀ u∈xs,u.oneCell'=true) (hn:n*48≤140737488351232):
  Calls Tryd.prog 55 #[.slice A n c] w fun e w'=>∃ A' c',e= .returned (.slice A' n c')∧w'.ownsRow w.heap.size 52 4 (.slice A' n c') n xs∧Below w.heap.size w w':=by
 obtain⟨i0,hi0,hz0,hz1,hz2⟩:=info_parts Mzy;have hq:=fun (W:World) (a:Option Addr) (l c n' c':Nat)=>Lib.run_eql_slice_nil (P:=Tryd.prog) W 32 52 a l c n' c' Tryd.underlying32
 cases A with
 | none=>
   obtain⟨rfl,rfl⟩:=hnil rfl;have hx:xs=[]:=List.eq_nil_of_length_eq_zero (by simpa using hr.1);have HX:=Lib.hid hx;clear hx;go_enter Tryd.func55,Tryd.ntmps55;go_wp2;go_ret;exact⟨_,_,rfl,by rw[HX.out];exact World.ownsRow_nil _ _ _ _,Below.refl _ _⟩
 | some ad=>
   have hU:=Tryd.underlying32;go_enter Tryd.func55,Tryd.ntmps55;go_wp2_with (at_builtin;(refine Az4 _ rfl (.tmp 5) (.tmp 6) _ rfl w.heap.size 52 i0 _ 4 48 hU hi0 hz0 hz1 hz2 rfl (by omega) (.slice (some ⟨w.heap.size,0,none⟩) 0 0) 0 [] rfl ?own w.heap.size (some ad) n c xs rfl ?rd h1 ?len ?byt ?bas ?_);(case own=>exact World.ownsRow_made w #[] 0 (Nat.le_refl _) (by simp[maxLen]) rfl);(case rd=>exact hr.keep fun p hp=>World.cell?_alloc_lt w _ p hp);(case len=>(simp[maxLen];omega));(case byt=>omega);(case bas=>simp);intro v1 w1 hv1 hg1 _);go_ret;rw[Nat.zero_add] at hv1;obtain⟨a1,k1,e1⟩:=Az5 hv1;rw[e1] at hv1;exact⟨a1,k1,congrArg Ending.returned e1,by simpa using hv1,((Below.refl _ _).alloc (Nat.le_refl _) _).grown hg1 (by simp) (by simp[Value.ownBlock])⟩
theorem Pz4:(Tryd.prog.info? 9).map (fun i=>(i.zero,i.size,i.bytes))=some (some (.string ⟨#[]⟩),1,16):=by kernel_rfl
theorem Mz5 (A:Option Addr) (n c:Nat) (xs:List Value) (w:World) (hr:Rd w w.heap.size 1 A n xs) (hnil:A=none→n=0∧c=0) (h1:∀ u∈xs,u.oneCell'=true) (hn:n*16≤140737488351232):
  Calls Tryd.prog 56 #[.slice A n c] w fun e w'=>∃ A' c',e= .returned (.slice A' n c')∧w'.ownsRow w.heap.size 9 1 (.slice A' n c') n xs∧Below w.heap.size w w':=by
 obtain⟨i0,hi0,hz0,hz1,hz2⟩:=info_parts Pz4;have hq:=fun (W:World) (a:Option Addr) (l c n' c':Nat)=>Lib.run_eql_slice_nil (P:=Tryd.prog) W 33 9 a l c n' c' Tryd.underlying33
 cases A with
 | none=>
   obtain⟨rfl,rfl⟩:=hnil rfl;have hx:xs=[]:=List.eq_nil_of_length_eq_zero (by simpa using hr.1);have HX:=Lib.hid hx;clear hx;go_enter Tryd.func56,Tryd.ntmps56;go_wp2;go_ret;exact⟨_,_,rfl,by rw[HX.out];exact World.ownsRow_nil _ _ _ _,Below.refl _ _⟩
 | some ad=>
   have hU:=Tryd.underlying33;go_enter Tryd.func56,Tryd.ntmps56;go_wp2_with (at_builtin;(refine Az4 _ rfl (.tmp 5) (.tmp 6) _ rfl w.heap.size 9 i0 _ 1 16 hU hi0 hz0 hz1 hz2 rfl (by omega) (.slice (some ⟨w.heap.size,0,none⟩) 0 0) 0 [] rfl ?own w.heap.size (some ad) n c xs rfl ?rd h1 ?len ?byt ?bas ?_);(case own=>exact World.ownsRow_made w #[] 0 (Nat.le_refl _) (by simp[maxLen]) rfl);(case rd=>exact hr.keep fun p hp=>World.cell?_alloc_lt w _ p hp);(case len=>(simp[maxLen];omega));(case byt=>omega);(case bas=>simp);intro v1 w1 hv1 hg1 _);go_ret;rw[Nat.zero_add] at hv1;obtain⟨a1,k1,e1⟩:=Az5 hv1;rw[e1] at hv1;exact⟨a1,k1,congrArg Ending.returned e1,by simpa using hv1,((Below.refl _ _).alloc (Nat.le_refl _) _).grown hg1 (by simp) (by simp[Value.ownBlock])⟩
theorem Kz8:(Tryd.prog.info? 82).map (fun i=>(i.zero,i.size,i.bytes))=some (some (.agg #[.int .i64 0, .int .i64 0, .int .i64 0]),3,24):=by kernel_rfl
theorem Hzp (A:Option Addr) (n c:Nat) (xs:List Value) (w:World) (hr:Rd w w.heap.size 3 A n xs) (hnil:A=none→n=0∧c=0) (h1:∀ u∈xs,u.oneCell'=true) (hn:n*24≤140737488351232):
  Calls Tryd.prog 58 #[.slice A n c] w fun e w'=>∃ A' c',e= .returned (.slice A' n c')∧w'.ownsRow w.heap.size 82 3 (.slice A' n c') n xs∧Below w.heap.size w w':=by
 obtain⟨i0,hi0,hz0,hz1,hz2⟩:=info_parts Kz8;have hq:=fun (W:World) (a:Option Addr) (l c n' c':Nat)=>Lib.run_eql_slice_nil (P:=Tryd.prog) W 77 82 a l c n' c' Tryd.underlying77
 cases A with
 | none=>
   obtain⟨rfl,rfl⟩:=hnil rfl;have hx:xs=[]:=List.eq_nil_of_length_eq_zero (by simpa using hr.1);have HX:=Lib.hid hx;clear hx;go_enter Tryd.func58,Tryd.ntmps58;go_wp2;go_ret;exact⟨_,_,rfl,by rw[HX.out];exact World.ownsRow_nil _ _ _ _,Below.refl _ _⟩
 | some ad=>
   have hU:=Tryd.underlying77;go_enter Tryd.func58,Tryd.ntmps58;go_wp2_with (at_builtin;(refine Az4 _ rfl (.tmp 5) (.tmp 6) _ rfl w.heap.size 82 i0 _ 3 24 hU hi0 hz0 hz1 hz2 rfl (by omega) (.slice (some ⟨w.heap.size,0,none⟩) 0 0) 0 [] rfl ?own w.heap.size (some ad) n c xs rfl ?rd h1 ?len ?byt ?bas ?_);(case own=>exact World.ownsRow_made w #[] 0 (Nat.le_refl _) (by simp[maxLen]) rfl);(case rd=>exact hr.keep fun p hp=>World.cell?_alloc_lt w _ p hp);(case len=>(simp[maxLen];omega));(case byt=>omega);(case bas=>simp);intro v1 w1 hv1 hg1 _);go_ret;rw[Nat.zero_add] at hv1;obtain⟨a1,k1,e1⟩:=Az5 hv1;rw[e1] at hv1;exact⟨a1,k1,congrArg Ending.returned e1,by simpa using hv1,((Below.refl _ _).alloc (Nat.le_refl _) _).grown hg1 (by simp) (by simp[Value.ownBlock])⟩
theorem Kz9:(Tryd.prog.info? 3).map (fun i=>(i.zero,i.size,i.bytes))=some (some (.int .i64 0),1,8):=by kernel_rfl
theorem Fzr (A:Option Addr) (n c:Nat) (xs:List Value) (w:World) (hr:Rd w w.heap.size 1 A n xs) (hnil:A=none→n=0∧c=0) (h1:∀ u∈xs,u.oneCell'=true) (hn:n*8≤140737488351232):
  Calls Tryd.prog 54 #[.slice A n c] w fun e w'=>∃ A' c',e= .returned (.slice A' n c')∧w'.ownsRow w.heap.size 3 1 (.slice A' n c') n xs∧Below w.heap.size w w':=by
 obtain⟨i0,hi0,hz0,hz1,hz2⟩:=info_parts Kz9;have hq:=fun (W:World) (a:Option Addr) (l c n' c':Nat)=>Lib.run_eql_slice_nil (P:=Tryd.prog) W 31 3 a l c n' c' Tryd.underlying31
 cases A with
 | none=>
   obtain⟨rfl,rfl⟩:=hnil rfl;have hx:xs=[]:=List.eq_nil_of_length_eq_zero (by simpa using hr.1);have HX:=Lib.hid hx;clear hx;go_enter Tryd.func54,Tryd.ntmps54;go_wp2;go_ret;exact⟨_,_,rfl,by rw[HX.out];exact World.ownsRow_nil _ _ _ _,Below.refl _ _⟩
 | some ad=>
   have hU:=Tryd.underlying31;go_enter Tryd.func54,Tryd.ntmps54;go_wp2_with (at_builtin;(refine Az4 _ rfl (.tmp 5) (.tmp 6) _ rfl w.heap.size 3 i0 _ 1 8 hU hi0 hz0 hz1 hz2 rfl (by omega) (.slice (some ⟨w.heap.size,0,none⟩) 0 0) 0 [] rfl ?own w.heap.size (some ad) n c xs rfl ?rd h1 ?len ?byt ?bas ?_);(case own=>exact World.ownsRow_made w #[] 0 (Nat.le_refl _) (by simp[maxLen]) rfl);(case rd=>exact hr.keep fun p hp=>World.cell?_alloc_lt w _ p hp);(case len=>(simp[maxLen];omega));(case byt=>omega);(case bas=>simp);intro v1 w1 hv1 hg1 _);go_ret;rw[Nat.zero_add] at hv1;obtain⟨a1,k1,e1⟩:=Az5 hv1;rw[e1] at hv1;exact⟨a1,k1,congrArg Ending.returned e1,by simpa using hv1,((Below.refl _ _).alloc (Nat.le_refl _) _).grown hg1 (by simp) (by simp[Value.ownBlock])⟩
theorem Pz2:(Tryd.prog.info? 65).map (fun i=>(i.zero,i.size,i.bytes))=some (some (.agg #[.int .i64 0, .int .i64 0, .int .i64 0, .int .i64 0]),4,32):=by kernel_rfl
theorem Mz4 (A:Option Addr) (n c:Nat) (xs:List Value) (w:World) (hr:Rd w w.heap.size 4 A n xs) (hnil:A=none→n=0∧c=0) (h1:∀ u∈xs,u.oneCell'=true) (hn:n*32≤140737488351232):
  Calls Tryd.prog 93 #[.slice A n c] w fun e w'=>∃ A' c',e= .returned (.slice A' n c')∧w'.ownsRow w.heap.size 65 4 (.slice A' n c') n xs∧Below w.heap.size w w':=by
 obtain⟨i0,hi0,hz0,hz1,hz2⟩:=info_parts Pz2;have hq:=fun (W:World) (a:Option Addr) (l c n' c':Nat)=>Lib.run_eql_slice_nil (P:=Tryd.prog) W 56 65 a l c n' c' Tryd.underlying56
 cases A with
 | none=>
   obtain⟨rfl,rfl⟩:=hnil rfl;have hx:xs=[]:=List.eq_nil_of_length_eq_zero (by simpa using hr.1);have HX:=Lib.hid hx;clear hx;go_enter Tryd.func93,Tryd.ntmps93;go_wp2;go_ret;exact⟨_,_,rfl,by rw[HX.out];exact World.ownsRow_nil _ _ _ _,Below.refl _ _⟩
 | some ad=>
   have hU:=Tryd.underlying56;go_enter Tryd.func93,Tryd.ntmps93;go_wp2_with (at_builtin;(refine Az4 _ rfl (.tmp 5) (.tmp 6) _ rfl w.heap.size 65 i0 _ 4 32 hU hi0 hz0 hz1 hz2 rfl (by omega) (.slice (some ⟨w.heap.size,0,none⟩) 0 0) 0 [] rfl ?own w.heap.size (some ad) n c xs rfl ?rd h1 ?len ?byt ?bas ?_);(case own=>exact World.ownsRow_made w #[] 0 (Nat.le_refl _) (by simp[maxLen]) rfl);(case rd=>exact hr.keep fun p hp=>World.cell?_alloc_lt w _ p hp);(case len=>(simp[maxLen];omega));(case byt=>omega);(case bas=>simp);intro v1 w1 hv1 hg1 _);go_ret;rw[Nat.zero_add] at hv1;obtain⟨a1,k1,e1⟩:=Az5 hv1;rw[e1] at hv1;exact⟨a1,k1,congrArg Ending.returned e1,by simpa using hv1,((Below.refl _ _).alloc (Nat.le_refl _) _).grown hg1 (by simp) (by simp[Value.ownBlock])⟩
theorem Izy (m:Mod) (A A':Option Addr) (c c':Nat) (w:World) (hr:RdI w w.heap.size A m.code) (hr':RdN w w.heap.size A' m.data)
  (hn:A=none→m.code.length=0∧c=0) (hn':A'=none→m.data.length=0∧c'=0) (hl:m.code.length*32≤140737488351232) (hl':m.data.length*8≤140737488351232):
  Calls Tryd.prog 57 #[.agg #[.string m.name, .slice A m.code.length c, .slice A' m.data.length c']] w fun e w'=>
   ∃ v u,e= .returned (.agg #[.string m.name,v,u])∧w'.ownsRow w.heap.size 65 4 v m.code.length (Az1 m.code)∧w'.ownsRow w.heap.size 3 1 u m.data.length (intCells m.data)∧Below w.heap.size w w':=by
 have HR:=Lib.hid hr.rd;have HR':=Lib.hid hr'.rd;have HN:=Lib.hid hn;have HN':=Lib.hid hn';clear hr hr' hn hn';go_enter Tryd.func57,Tryd.ntmps57;go_wp2_with fail;go_region_held3 (fun w'=>w'.cell? ⟨w.heap.size,0,none⟩=some (.string m.name)∧w'.cell? ⟨w.heap.size,1,none⟩=some (.slice A m.code.length c)∧w'.cell? ⟨w.heap.size,2,none⟩=some (.slice A' m.data.length c'))
  (first
    | (go_split_ands;refine⟨?_,?_,?_⟩<;>(rw[World.cell?_setCell_far _ _ _ _ (show w.heap.size+1≠w.heap.size by omega),World.cell?_setCell_far _ _ _ _ (show w.heap.size+1≠w.heap.size by omega),World.cell?_setCell_far _ _ _ _ (show w.heap.size+1≠w.heap.size by omega)];assumption))
    | (go_split_ands;refine⟨?_,?_,?_⟩<;>(rw[hc2 _ _ (by first|omega|(simp;omega)|(have:=hb1.size;simp at this;omega)|(have:=hb1.size;simp at this ⊢;omega))];assumption))
    | (go_split_ands;refine⟨?_,?_,?_⟩<;>(rw[hc1 _ _ (by simp;omega)];assumption))
    | go_keep)
  (first
    | (go_at_call 93;refine(Mz4 A m.code.length c (Az1 m.code) _ ?_ HN.out (Azh _) hl).mono ?_;(exact Rd.more (Rd.below HR.out (Below.drew (((Below.refl _ _).alloc (Nat.le_refl _) _).alloc (by simp) _))) (by simp;omega));rintro e w1 ⟨a1,k1,rfl,hv1,hb1⟩;have p1:w.heap.size+1<w1.heap.size:=Nat.lt_of_lt_of_le (by simp) hb1.size;have p0:w.heap.size<w1.heap.size:=(by omega);obtain⟨hc1,hf1⟩:=Hzy hb1)
    | (go_at_call 54;refine(Fzr A' m.data.length c' (intCells m.data) _ ?_ HN'.out (Ezv _) hl').mono ?_;(exact Rd.more (Rd.below HR'.out (Below.trans (Below.drew (((Below.refl _ _).alloc (Nat.le_refl _) _).alloc (by simp) _)) (hb1.mono (by simp;omega)))) (by omega));rintro e w2 ⟨a2,k2,rfl,hv2,hb2⟩;have p3:w.heap.size+1<w2.heap.size:=Nat.lt_of_lt_of_le (by simpa using p1) hb2.size;have p2:w.heap.size<w2.heap.size:=(by omega);obtain⟨hc2,hf2⟩:=Hzy hb2))
 have o1:=ownsRow_setCell_below (ownsRow_setCell_below (ownsRow_setCell_below (own_below hv1 hb2) (a:=⟨w.heap.size+1,0,none⟩) (by simp) (.string m.name)) (a:=⟨w.heap.size+1,1,none⟩) (by simp) (.slice a1 m.code.length k1)) (a:=⟨w.heap.size+1,2,none⟩) (by simp) (.slice a2 m.data.length k2);have o2:=ownsRow_setCell_below (ownsRow_setCell_below (ownsRow_setCell_below hv2 (a:=⟨w.heap.size+1,0,none⟩) p1 (.string m.name)) (a:=⟨w.heap.size+1,1,none⟩) p1 (.slice a1 m.code.length k1)) (a:=⟨w.heap.size+1,2,none⟩) p1 (.slice a2 m.data.length k2);have O1:=Lib.hid o1;have O2:=Lib.hid o2;clear o1 o2 hv1 hv2;go_wp2;refine bodyPost_ret (v:= .agg #[.string m.name, .slice a1 m.code.length k1, .slice a2 m.data.length k2]) ?_ rfl ⟨_,_,rfl,own_base (B:=w.heap.size) O1.out (by simp;omega),own_base (B:=w.heap.size) O2.out (by omega),?_⟩
 ·have z0:w2.cell? ⟨w.heap.size+1,0,none⟩=some (.string ⟨#[]⟩):=(hc2 _ _ p1).trans ((hc1 _ _ (by simp)).trans (by simp))
  have z1:w2.cell? ⟨w.heap.size+1,1,none⟩=some (.slice none 0 0):=(hc2 _ _ p1).trans ((hc1 _ _ (by simp)).trans (by simp));have z2:w2.cell? ⟨w.heap.size+1,2,none⟩=some (.slice none 0 0):=(hc2 _ _ p1).trans ((hc1 _ _ (by simp)).trans (by simp));simp[results,Tryd.results57,go_sem,z0,z1,z2]
 ·have b0:Below w.heap.size w ((w.alloc (.cells #[.string m.name, .slice A m.code.length c, .slice A' m.data.length c'] 90)).alloc (.cells #[.string ⟨#[]⟩, .slice none 0 0, .slice none 0 0] 90)).drew:=(((Below.refl _ _).alloc (Nat.le_refl _) _).alloc (by simp) _).drew
  have b1:=(b0.trans (hb1.mono (by simp;omega))).trans (hb2.mono (by omega));exact((b1.setCell (by simp) _).setCell (by simp) _).setCell (by simp) _
end Go.Proofs.YtdjamdbamkhblacDoor
