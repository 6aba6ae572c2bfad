/- Acts laid in a block read as a list; answers read off a script's row. No condition. The walks of slices.Grow and slices.Concat at acts. No condition. -/
import Derived.Test.YtdjamdbamkhblacDoorKRun
import Derived.Lib.AppendZeros
set_option maxHeartbeats 1000000
set_option maxRecDepth 100000
namespace Go.Proofs.YtdjamdbamkhblacDoor
open Go.RowKit
set_option linter.unusedVariables false
set_option linter.unusedSimpArgs false
def Azr (l:List Akt):List Value:=l.flatMap fun x=>[.int .i64 x.kind, .int .i64 x.p, .int .i64 x.n, .int .i64 x.m, .string x.name, .string x.data]
theorem Bzz (l:List Akt):(Azr l).length=l.length*6:=Fzq _ 6 (fun _=>rfl) l
theorem Fz6 (l r:List Akt):Azr (l++r)=Azr l++Azr r:=by simp[Azr]
theorem Mzb (l:List Akt):∀ u∈Azr l,u.oneCell'=true:=by
 intro u hu;simp only[Azr,List.mem_flatMap] at hu;obtain⟨i,_,hu⟩:=hu;simp at hu;rcases hu with h|h|h|h|h|h<;>subst h<;>rfl
theorem RdA.of {w:World} {B:Nat} {A:Option Addr} {l:List Akt} (h:Rd w B 6 A l.length (Azr l)):RdA w B A l:=fun hl=>by
 obtain⟨b,o,e,hb,hc⟩:=h.2 hl;refine⟨b,o,e,hb,fun k hk=>?_⟩;have f:=fun j hj=>Bzt (fun x:Akt=>[Value.int .i64 x.kind, .int .i64 x.p, .int .i64 x.n, .int .i64 x.m, .string x.name, .string x.data]) 6 (fun _=>rfl) l k hk j hj
 exact⟨hc _ _ (f 0 (by omega)),hc _ _ (f 1 (by omega)),hc _ _ (f 2 (by omega)),hc _ _ (f 3 (by omega)),hc _ _ (f 4 (by omega)),hc _ _ (f 5 (by omega))⟩
theorem RdA.blk {w:World} {g:Nat} {l:List Akt} {cs:Array Value} (h:Blk w g 26 cs) (hc:cs=(Azr l).toArray):RdA w w.heap.size (some ⟨g,0,none⟩) l:=by
 have hs:cs.size=l.length*6:=by rw[hc];simp[Bzz]
 have:=h.rd l.length 6 (by omega);rw[hc] at this;simp only at this;rw[List.take_of_length_le (by rw[Bzz];omega)] at this;exact RdA.of this
theorem RunKPost.at_ {w w':World} {A:Option Addr} {c:Nat} {l:List Ans} (h:w'.ownsRow w.heap.size 41 3 (.slice A l.length c) l.length (Azp l)) (hn:0<l.length):
  ∃ b,A=some ⟨b,0,none⟩∧b<w'.heap.size∧∀ k (hk:k<l.length),w'.cell? ⟨b,k*3,none⟩=some (.int .i64 l[k].code)∧w'.cell? ⟨b,k*3+1,none⟩=some (.int .i64 l[k].n)∧w'.cell? ⟨b,k*3+2,none⟩=some (.string l[k].data):=by
 have hr:=Rd.of_own h;obtain⟨b,rfl,_,hlt⟩:=Azx h hn;obtain⟨b',o,e,_,hc⟩:=hr.2 hn;cases e
 refine⟨b,rfl,hlt,fun k hk=>?_⟩;obtain⟨x0,x1,x2⟩:=Jz1 l k hk;have y0:=hc _ _ x0;have y1:=hc _ _ x1;have y2:=hc _ _ x2;rw[Nat.zero_add] at y0 y1 y2;exact⟨y0,y1,y2⟩
theorem Hz6:(Tryd.prog.info? 26).map (fun i=>(i.zero,i.size,i.bytes))=some (some (.agg #[.int .i64 0, .int .i64 0, .int .i64 0, .int .i64 0, .string ⟨#[]⟩, .string ⟨#[]⟩]),6,64):=by kernel_rfl
theorem RdA.rd {w:World} {B:Nat} {A:Option Addr} {l:List Akt} (h:RdA w B A l):Rd w B 6 A l.length (Azr l):=
 ⟨Bzz l,fun hn=>by
   obtain⟨b,o,e,hb,hc⟩:=h hn;refine⟨b,o,e,hb,fun j u hu=>?_⟩;have hj:j<l.length*6:=by rw[←Bzz];exact(List.getElem?_eq_some_iff.1 hu).1
   have hm:∃ q,q<l.length∧(j=q*6∨j=q*6+1∨j=q*6+2∨j=q*6+3∨j=q*6+4∨j=q*6+5):=⟨j / 6,by omega,by omega⟩;obtain⟨q,hq,hm⟩:=hm;have f:=fun j hj=>Bzt (fun x:Akt=>[Value.int .i64 x.kind, .int .i64 x.p, .int .i64 x.n, .int .i64 x.m, .string x.name, .string x.data]) 6 (fun _=>rfl) l q hq j hj
   obtain⟨c0,c1,c2,c3,c4,c5⟩:=hc q hq;rcases hm with h|h|h|h|h|h<;>subst h
   ·have:=(f 0 (by omega)).symm.trans hu;cases this;exact c0
   ·have:=(f 1 (by omega)).symm.trans hu;cases this;exact c1
   ·have:=(f 2 (by omega)).symm.trans hu;cases this;exact c2
   ·have:=(f 3 (by omega)).symm.trans hu;cases this;exact c3
   ·have:=(f 4 (by omega)).symm.trans hu;cases this;exact c4
   ·have:=(f 5 (by omega)).symm.trans hu;cases this;exact c5⟩
theorem Ozc (n:Nat) (hn:n≤100000) (w:World):
  Calls Tryd.prog 74 #[.slice none 0 0, .int .i64 (n:Int)] w fun e w'=>∃ A c,e= .returned (.slice A 0 c)∧w'.ownsRow w.heap.size 26 6 (.slice A 0 c) 0 []∧Below w.heap.size w w':=by
 by_cases h0:n=0
 ·subst h0
  go_enter Tryd.func74,Tryd.ntmps74;go_wp2;go_ret;exact⟨_,_,rfl,World.ownsRow_nil _ _ _ _,Below.refl _ _⟩
 ·obtain⟨i0,hi0,hz0,hz1,hz2⟩:=info_parts Hz6
  have hn1:0<n:=by omega
  have hg:=Lib.run_append_nil_zeros (P:=Tryd.prog) w 27 3 27 26 i0 _ .i64 .i64 rfl rfl hi0 hz0 n hn1 (by rw[hz1];omega) (by omega) (by rw[hz2];omega);have hge:=grownCap_ge w n 0 26;have hcm:=grownCap_le_maxLen w n 0 26 (by unfold maxLen;omega);have hsz:(Builtin.zeroCells (Value.agg #[.int .i64 0, .int .i64 0, .int .i64 0, .int .i64 0, .string ⟨#[]⟩, .string ⟨#[]⟩]).cells n++Builtin.zeroCells (Value.agg #[.int .i64 0, .int .i64 0, .int .i64 0, .int .i64 0, .string ⟨#[]⟩, .string ⟨#[]⟩]).cells (grownCap w n 0 26 - n)).size=grownCap w n 0 26*6:=by
   rw[Array.size_append,size_zeroCells,size_zeroCells];have:(Value.agg #[.int .i64 0, .int .i64 0, .int .i64 0, .int .i64 0, .string ⟨#[]⟩, .string ⟨#[]⟩]).cells.size=6:=by rfl
   rw[this];omega
  have hp:(0:Int)<(n:Int):=by omega
  have hp':¬ (n:Int)<0:=by omega
  generalize Builtin.zeroCells (Value.agg #[.int .i64 0, .int .i64 0, .int .i64 0, .int .i64 0, .string ⟨#[]⟩, .string ⟨#[]⟩]).cells n++Builtin.zeroCells (Value.agg #[.int .i64 0, .int .i64 0, .int .i64 0, .int .i64 0, .string ⟨#[]⟩, .string ⟨#[]⟩]).cells (grownCap w n 0 26 - n)=cur at hg hsz;generalize grownCap w n 0 26=c at hg hge hcm hsz;have HO:Hid ((w.drew.alloc (.cells cur 26)).ownsRow w.heap.size 26 6 (.slice (some ⟨w.heap.size,0,none⟩) 0 c) 0 []∧Below w.heap.size w (w.drew.alloc (.cells cur 26))):=
   ⟨World.ownsRow_made w.drew cur c (Nat.le_refl _) hcm hsz,(Below.drewN' (Below.refl w.heap.size w) 1).alloc (Nat.le_refl _) _⟩
  clear hsz;go_enter Tryd.func74,Tryd.ntmps74;go_wp2_with (at_builtin;refine Lib.wpList_append_run _ rfl (.tmp 20) (.tmp 21) _ _ rfl _ _ rfl rfl _ _ hg ?_)
  go_ret;exact⟨_,_,rfl,HO.out.1,HO.out.2⟩
structure Sls (w:World) (B b:Nat) (ls:List (Option Addr × Nat × List Akt)):Prop where
 lt:b<B
 cell:∀ q (hq:q<ls.length),w.cell? ⟨b,q,none⟩=some (.slice ls[q].1 ls[q].2.2.length ls[q].2.1)
 rd:∀ q (hq:q<ls.length),RdA w B ls[q].1 ls[q].2.2
theorem Sls.below {w w':World} {B b:Nat} {ls:List (Option Addr × Nat × List Akt)} (h:Sls w B b ls) (hb:Below B w w'):Sls w' B b ls:=
 ⟨h.lt,fun q hq=>(hb.cell h.lt).trans (h.cell q hq),fun q hq=>(h.rd q hq).below hb⟩
def Czi (ls:List (Option Addr × Nat × List Akt)):List Akt:=ls.flatMap fun x=>x.2.2
theorem Gzl (ls:List (Option Addr × Nat × List Akt)) (k:Nat) (hk:k<ls.length):Czi (ls.take (k+1))=Czi (ls.take k)++ls[k].2.2:=by
 unfold Czi;rw[List.take_succ_eq_append_getElem hk,List.flatMap_append];simp
theorem Kz2 (ls:List (Option Addr × Nat × List Akt)) (k:Nat):(Czi (ls.take k)).length≤(Czi ls).length:=by
 conv=>rhs;rw[←List.take_append_drop k ls]
 unfold Czi;rw[List.flatMap_append,List.length_append];omega
theorem Rzn (b c:Nat) (ls:List (Option Addr × Nat × List Akt)) (w:World) (hS:Sls w w.heap.size b ls) (hl:ls.length≤100) (hn:(Czi ls).length≤100000):
  Calls Tryd.prog 32 #[.slice (some ⟨b,0,none⟩) ls.length c] w fun e w'=>∃ A c',e= .returned (.slice A (Czi ls).length c')∧w'.ownsRow w.heap.size 26 6 (.slice A (Czi ls).length c') (Czi ls).length (Azr (Czi ls))∧Below w.heap.size w w':=by
 have HS:=Lib.hid hS;obtain⟨i0,hi0,hz0,hz1,hz2⟩:=info_parts Hz6;have hU:=Tryd.underlying27;clear hS;go_enter Tryd.func32,Tryd.ntmps32;go_wp2_with fail;go_loopw [3,11] (fun V i wr=>Cnt ls.length i fun k=>V= .int .i64 ((Czi (ls.take k)).length:Int)∧w=wr) (fun _ i _=>ls.length - (intOf i).toNat)
 case atStart=>exact⟨0,Nat.zero_le _,rfl,rfl,rfl⟩
 case round=>
  obtain⟨k,hk,rfl,rfl,rfl⟩:=hrel;by_cases hlt:k<ls.length
  ·have t1:(k:Int)<(ls.length:Int):=by omega
   have c0:=HS.out.cell k hlt;have hft:=Gzl ls k hlt;have hfl:=Kz2 ls (k+1);have hfs:(Czi (ls.take (k+1))).length=(Czi (ls.take k)).length+ls[k].2.2.length:=by rw[hft,List.length_append]
   obtain⟨n,hn0⟩:∃ n,n=(Czi (ls.take k)).length:=⟨_,rfl⟩;obtain⟨m,hm0⟩:∃ m,m=ls[k].2.2.length:=⟨_,rfl⟩;obtain⟨A,hA⟩:∃ A,A=ls[k].1:=⟨_,rfl⟩;obtain⟨cc,hcc⟩:∃ cc,cc=ls[k].2.1:=⟨_,rfl⟩;rw[←hm0, ←hA, ←hcc] at c0;rw[←hn0, ←hm0] at hfs;rw[←hn0];have HF:=Lib.hid hfs;have t2:¬ ((n:Int)+(m:Int)<0):=by omega
   have hbl:=HS.out.lt;have hnm:n+m≤100000:=by omega
   clear hft hfl hfs hn0 hm0 hA hcc;go_wp2_with fail;refine⟨⟨k+1,hlt,by go_num,by rw[HF.out];simp,by first|rfl|trivial⟩,by simp[intOf];omega⟩
  ·have t1:¬ (k:Int)<(ls.length:Int):=by omega
   have hk9:k=ls.length:=by omega
   subst hk9;rw[List.take_length];clear hlt;go_wp2_with fail;refine(Ozc (Czi ls).length hn w).mono ?_;rintro e w1 ⟨A0,c1,rfl,ho,hb⟩;have HO:=Lib.hid ho;have HB:=Lib.hid hb;clear ho hb t1;go_wp2_with fail;go_loopw [6,27] (fun V i wr=>Cnt ls.length i fun k=>∃ A c,V= .slice A (Czi (ls.take k)).length c∧wr.ownsRow w.heap.size 26 6 (.slice A (Czi (ls.take k)).length c) (Czi (ls.take k)).length (Azr (Czi (ls.take k)))∧Below w.heap.size w wr) (fun _ i _=>ls.length - (intOf i).toNat)
   case atStart=>exact⟨0,Nat.zero_le _,rfl,A0,c1,rfl,HO.out,HB.out⟩
   case round=>
    obtain⟨k,hk,rfl,A1,k1,rfl,ho,hb⟩:=hrel;by_cases hlt:k<ls.length
    ·have t1:(k:Int)<(ls.length:Int):=by omega
     have hS2:=HS.out.below hb;have c0:=hS2.cell k hlt;have hr:=(hS2.rd k hlt).rd;have hft:=Gzl ls k hlt;have hfl:=Kz2 ls (k+1);rw[hft,List.length_append] at hfl;obtain⟨L,hL⟩:∃ L,L=Czi (ls.take k):=⟨_,rfl⟩;obtain⟨l,hl0⟩:∃ l,l=ls[k].2.2:=⟨_,rfl⟩;obtain⟨A,hA⟩:∃ A,A=ls[k].1:=⟨_,rfl⟩;obtain⟨cc,hcc⟩:∃ cc,cc=ls[k].2.1:=⟨_,rfl⟩;rw[←hl0, ←hA, ←hcc] at c0;rw[←hl0, ←hA] at hr;rw[←hL, ←hl0] at hft hfl;rw[←hL] at ho ⊢;have HF:=Lib.hid hft;have HR:=Lib.hid hr;have HO:=Lib.hid ho;have HB:=Lib.hid hb;have hbl:=Nat.lt_of_lt_of_le hS2.lt hb.size;clear hft hL hl0 hA hcc hS2 hr ho hb;go_wp2_with (at_builtin;(refine Az4 _ rfl (.tmp 31) (.tmp 32) _ rfl w.heap.size 26 i0 _ 6 64 hU hi0 hz0 hz1 hz2 rfl (by omega) (.slice A1 L.length k1) L.length (Azr L) rfl HO.out w.heap.size A l.length cc (Azr l) rfl HR.out (Mzb _) ?len ?byt ?bas ?_);(case len=>(simp[maxLen];omega));(case byt=>omega);(case bas=>exact HB.out.size);intro v1 w3 hv1 hg1 _);obtain⟨A2,k2,rfl⟩:=Az5 hv1;refine⟨⟨k+1,hlt,by go_num,A2,k2,?_,?_,HB.out.grown hg1 HB.out.size fun q hq=>(HO.out.lt q hq).1⟩,by simp[intOf];omega⟩
     ·rw[HF.out,List.length_append]
     ·rw[HF.out,List.length_append,Fz6];exact hv1
    ·have t1:¬ (k:Int)<(ls.length:Int):=by omega
     have hk9:k=ls.length:=by omega
     subst hk9;rw[List.take_length] at ho ⊢;clear hlt;have HO:=Lib.hid ho;have HB:=Lib.hid hb;clear ho hb;go_wp2_with fail;go_ret;exact⟨_,_,rfl,HO.out,HB.out⟩
def RanPost (w:World) (r:Krn × List Ans) (e:Ending) (w':World):Prop:=
 ∃ (A:Option Addr) (c:Nat) (a:KA),e= .returned (.tuple #[.slice A r.2.length c, .agg (a.cells r.1), .bool true])∧w'.ownsRow w.heap.size 41 3 (.slice A r.2.length c) r.2.length (Azp r.2)∧(∀ W:World,Stp w' W→KrnAt W W.heap.size a r.1)∧a.caps r.1∧Below w.heap.size w w'
theorem RanPost.fin {w w':World} {k:Krn} {la:List Ans} {A:Option Addr} {c N:Nat} {a:KA} (hO:w'.ownsRow N 41 3 (.slice A la.length c) la.length (Azp la)) (hN:w.heap.size<N) (hNw:N≤w'.heap.size) (hK:∀ W:World,Stp w' W→KrnAt W W.heap.size a k) (hc:a.caps k) (hb:Below w.heap.size w w') (rs:Blk w' w.heap.size 36 #[.slice none 0 0, .slice none 0 0, .slice none 0 0, .slice none 0 0, .slice none 0 0])
  {W':World} (hW:W'=(lay5 w' w.heap.size (.slice a.a0 k.mods.length a.c0) (.slice a.a1 k.mem.length a.c1) (.slice a.a2 k.nodes.length a.c2) (.slice a.a3 k.pipes.length a.c3) (.slice a.a4 k.procs.length a.c4)).drew):
  RanPost w (k,la) (.returned (.tuple #[.slice A la.length c, .agg #[.slice a.a0 k.mods.length a.c0, .slice a.a1 k.mem.length a.c1, .slice a.a2 k.nodes.length a.c2, .slice a.a3 k.pipes.length a.c3, .slice a.a4 k.procs.length a.c4], .bool true])) W':=by
 have g:=Azy w' w.heap.size (.slice a.a0 k.mods.length a.c0) (.slice a.a1 k.mem.length a.c1) (.slice a.a2 k.nodes.length a.c2) (.slice a.a3 k.pipes.length a.c3) (.slice a.a4 k.procs.length a.c4);obtain⟨WL,hWL⟩:∃ WL,WL=lay5 w' w.heap.size (.slice a.a0 k.mods.length a.c0) (.slice a.a1 k.mem.length a.c1) (.slice a.a2 k.nodes.length a.c2) (.slice a.a3 k.pipes.length a.c3) (.slice a.a4 k.procs.length a.c4):=⟨_,rfl⟩;rw[←hWL] at g hW;have ht:Tch 36 w' WL:=⟨g.os,g.tape,g.output,g.size,fun q hq hne=>g.block q hq fun e=>by
  injection e with e
  subst e;exact hne _ _ rs⟩
 have hb1:Below w.heap.size w' WL:=⟨g.os,g.tape,g.output,g.size,fun q hq=>g.block q (by have:=hb.size;omega) (fun e=>by injection e with e;omega)⟩;have hd:=Below.drewN' (Below.refl WL.heap.size WL) 1;have hsz:w.heap.size≤WL.heap.size:=Nat.le_trans hb.size g.size;rw[hW];exact⟨A,c,a,rfl,own_base (own_below (Az6 hO ht (by decide)) hd) (by omega),fun X hS=>hK X ((((Stp.refl _).krn ht).trans (Stp.of_below hd)).trans hS),hc,(hb.trans hb1).trans (hd.mono hsz)⟩
end Go.Proofs.YtdjamdbamkhblacDoor
