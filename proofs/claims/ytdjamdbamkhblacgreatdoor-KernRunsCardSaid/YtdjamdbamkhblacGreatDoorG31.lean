/- The walk of kern.Run: a script's answers, and the kernel behind it. Condition: the listed table, the run's contract (RunC). Acts laid in a block read as a list; answers read off a script's row. No condition. kern.Run refuses more than 200 acts. No condition. The walk of the machine's loads and stores: no condition. -/
import Derived.Test.YtdjamdbamkhblacGreatDoorG22
import Derived.Test.YtdjamdbamkhblacGreatDoorG30
import Derived.Deep.RegionLaw
set_option maxHeartbeats 4000000
namespace Go.Proofs.YtdjamdbamkhblacGreatDoor
open Go.RowKit
set_option linter.unusedVariables false
set_option linter.unusedSimpArgs false
attribute [local go_sem] After.cell
def Bz7 (l:List Ans):List Value:=l.flatMap fun x=>[.int .i64 x.code, .int .i64 x.n, .string x.data]
theorem Izb (l r:List Ans):Bz7 (l++r)=Bz7 l++Bz7 r:=by simp[Bz7]
theorem Mzv (l:List Ans):∀ u∈Bz7 l,u.oneCell'=true:=by
 intro u hu;simp only[Bz7,List.mem_flatMap] at hu;obtain⟨i,_,hu⟩:=hu;simp at hu;rcases hu with h|h|h<;>subst h<;>rfl
theorem Jzn (l:List Ans) (k:Nat) (h:k<l.length):(Bz7 l)[k*3]? =some (.int .i64 l[k].code)∧(Bz7 l)[k*3+1]? =some (.int .i64 l[k].n)∧(Bz7 l)[k*3+2]? =some (.string l[k].data):=
 ⟨Czh _ 3 (fun _=>rfl) l k h 0 (by omega),Czh _ 3 (fun _=>rfl) l k h 1 (by omega),Czh _ 3 (fun _=>rfl) l k h 2 (by omega)⟩
theorem Pz5:(Tryz.prog.info? 36).map (fun i=>(i.zero,i.size,i.bytes))=some (some (.agg #[.int .i64 0, .int .i64 0, .string ⟨#[]⟩]),3,32):=by kernel_rfl
theorem Oz3 (l:List Akt) (x:Akt) (k:Krn):runK k (l++ [x])=if doE (runK k l).1 x=0 then ((doK (runK k l).1 x).1,(runK k l).2++ [(doK (runK k l).1 x).2]) else ((runK k l).1,(runK k l).2++ [ansE (doE (runK k l).1 x)]):=by
 rw[Iz0];simp only[runK];split<;>rfl
theorem KOk.small {k:Krn} (h:KOk k):k.small:=by
 refine⟨fun x hx=>?_,fun s hs=>?_⟩
 ·obtain⟨i,hi,rfl⟩:=List.mem_iff_getElem.1 hx
  obtain⟨⟨h1,h2⟩,_⟩:=(Bz9 hi).1 (h.nodes i hi);unfold maxLen;have hn:k.nodes[i].name.size≤6:=by
   by_cases e:k.nodes[i].name=noS
   ·rw[e];exact Nat.zero_le _
   ·have:=(h2 e).1
    unfold Azs at this;simp at this;omega
  unfold Bz6 at h1;split at h1
  ·simp only[Bool.and_eq_true,Czj] at h1
   have:k.nodes[i].data.size=0:=by rw[h1.1.2];rfl
   omega
  ·split at h1
   ·simp only[Bool.and_eq_true,decide_eq_true_eq] at h1
    omega
   ·split at h1
    ·simp only[Bool.and_eq_true,Czj] at h1
     have:k.nodes[i].data.size=0:=by rw[h1.1.1];rfl
     omega
    ·cases h1
 ·obtain⟨i,hi,rfl⟩:=List.mem_iff_getElem.1 hs
  have:=h.pre.pipes i hi;unfold maxLen;omega
def Sz5 (l:List Akt):Prop:=∀ x∈l,x.name.size≤maxLen∧x.data.size≤maxLen
theorem Copied.krnAt {w:World} {B:Nat} {a:KA} {k:Krn} {ms:List (Value × Value)} {es:List Value} (h:Copied w B (.slice a.a0 k.mods.length a.c0) (.slice a.a1 k.mem.length a.c1) (.slice a.a2 k.nodes.length a.c2) (.slice a.a3 k.pipes.length a.c3) (.slice a.a4 k.procs.length a.c4) k ms es) (hf:k.fits):KrnAt w w.heap.size a k:=by
 obtain⟨a',e,hk⟩:=h.krn hf;have:a=a':=KA.inj (k:=k) e;subst this;exact hk
theorem Copied.caps {w:World} {B:Nat} {a:KA} {k:Krn} {ms:List (Value × Value)} {es:List Value} (h:Copied w B (.slice a.a0 k.mods.length a.c0) (.slice a.a1 k.mem.length a.c1) (.slice a.a2 k.nodes.length a.c2) (.slice a.a3 k.pipes.length a.c3) (.slice a.a4 k.procs.length a.c4) k ms es):a.caps k:=⟨(Fz8 h.mods).2,(Fz8 h.nodes).2⟩
inductive Stp:World→World→Prop
 | refl (w:World):Stp w w
 | ans {a b c:World}:Stp a b→Tch 36 b c→Stp a c
 | krn {a b c:World}:Stp a b→Tch 30 b c→Stp a c
theorem Stp.trans {a b c:World} (h:Stp a b) (h':Stp b c):Stp a c:=by
 induction h' with
 | refl=>exact h
 | ans _ ht ih=>exact ih.ans ht
 | krn _ ht ih=>exact ih.krn ht
theorem Stp.of_below {a b:World} (h:Below a.heap.size a b):Stp a b:=(Stp.refl a).ans (Tch.of_below h)
def RunKPost (w:World) (r:Krn × List Ans) (e:Ending) (w':World):Prop:=
 ∃ (A:Option Addr) (c:Nat) (a:KA),e= .returned (.tuple #[.slice A r.2.length c, .agg (a.cells r.1), .int .i64 0])∧w'.ownsRow w.heap.size 36 3 (.slice A r.2.length c) r.2.length (Bz7 r.2)∧(∀ W:World,Stp w' W→KrnAt W W.heap.size a r.1)∧a.caps r.1∧Below w.heap.size w w'
theorem Copied.stp {w w':World} {B:Nat} {V0 V1 V2 V3 V4:Value} {k:Krn} {ms:List (Value × Value)} {es:List Value} (h:Copied w B V0 V1 V2 V3 V4 k ms es) (hs:Stp w w'):Copied w' B V0 V1 V2 V3 V4 k ms es:=by
 induction hs with
 | refl=>exact h
 | ans _ ht ih=>exact ih.tch ht (by decide) (by decide) (by decide) (by decide) (by decide) (by decide) (by decide)
 | krn _ ht ih=>exact ih.tch ht (by decide) (by decide) (by decide) (by decide) (by decide) (by decide) (by decide)
structure NewB (N:Nat) (wx:World) (g1 g2 g3:Nat) (V:Value) (xs:List Value) (es:List Nat):Prop where
 sz:N≤wx.heap.size
 b1:Blk wx g1 3 zInt
 b2:Blk wx g2 49 zNod
 b3:Blk wx g3 9 zStr
 own:wx.ownsRow N 52 2 V 4 xs
 ends : ∀ e ∈ es, Blk wx e 54 zEnd
 lo1:N<g1
 lo2:N<g2
 lo3:N<g3
 loe:∀ e∈es,N<e
 nd:es.Pairwise (· ≠ ·)
theorem NewF.nb {w0 w:World} {g1 g2 g3:Nat} {V:Value} {xs:List Value} {es:List Nat} (h:NewF w0 w g1 g2 g3 V xs es):NewB w0.heap.size w g1 g2 g3 V xs es:=⟨h.below.size,h.b1,h.b2,h.b3,h.own,h.ends,h.lo1,h.lo2,h.lo3,h.loe,h.nd⟩
theorem NewB.tch {N:Nat} {w w':World} {t:TypeId} {g1 g2 g3:Nat} {V:Value} {xs:List Value} {es:List Nat} (h:NewB N w g1 g2 g3 V xs es) (ht:Tch t w w') (hk:t=36∨t=30):NewB N w' g1 g2 g3 V xs es:=by
 rcases hk with rfl|rfl
 ·exact⟨Nat.le_trans h.sz ht.size,h.b1.tch ht (by decide),h.b2.tch ht (by decide),h.b3.tch ht (by decide),Az4 h.own ht (by decide),fun e he=>(h.ends e he).tch ht (by decide),h.lo1,h.lo2,h.lo3,h.loe,h.nd⟩
 ·exact⟨Nat.le_trans h.sz ht.size,h.b1.tch ht (by decide),h.b2.tch ht (by decide),h.b3.tch ht (by decide),Az4 h.own ht (by decide),fun e he=>(h.ends e he).tch ht (by decide),h.lo1,h.lo2,h.lo3,h.loe,h.nd⟩
theorem NewB.stp {N:Nat} {w w':World} {g1 g2 g3:Nat} {V:Value} {xs:List Value} {es:List Nat} (h:NewB N w g1 g2 g3 V xs es) (hs:Stp w w'):NewB N w' g1 g2 g3 V xs es:=by
 induction hs with
 | refl=>exact h
 | ans _ ht ih=>exact ih.tch ht (.inl rfl)
 | krn _ ht ih=>exact ih.tch ht (.inr rfl)
theorem NewB.krn {N:Nat} {w:World} {g1 g2 g3:Nat} {V:Value} {es:List Nat} (h:NewB N w g1 g2 g3 V (pcs 0 es) es) (h4:es.length=4):
  ∃ a:KA, #[.slice none 0 0,sl g1 1024,sl g2 8,sl g3 6,V]=a.cells Fz5∧KrnAt w w.heap.size a Fz5:=by
 have hb:Below N ({ w with heap:=w.heap.extract 0 N }:World) w:=⟨rfl,rfl,rfl,by simp;omega,fun k hk=>by
  simp[Array.getElem?_extract,hk];intro _;have:=h.sz;omega⟩
 have hs:({ w with heap:=w.heap.extract 0 N }:World).heap.size=N:=by have:=h.sz;simp;omega
 have hF:NewF ({ w with heap:=w.heap.extract 0 N }:World) w g1 g2 g3 V (pcs 0 es) es:=⟨by rw[hs];exact hb,h.b1,h.b2,h.b3,by rw[hs];exact h.own,h.ends,by rw[hs];exact h.lo1,by rw[hs];exact h.lo2,by rw[hs];exact h.lo3,by rw[hs];exact h.loe,h.nd⟩;exact hF.krn h4
structure RunI (w wr:World) (N n:Nat) (r:Krn × List Ans) (V:Value) (a:KA):Prop where
 kn:∀ W:World,Stp wr W→KrnAt W W.heap.size a r.1
 cp:a.caps r.1
 bk:Blk wr n 30 (a.cells r.1)
 hn:w.heap.size<n
 hN:n<N
 hNw:N≤wr.heap.size
 ow:wr.ownsRow N 36 3 V r.2.length (Bz7 r.2)
 be:Below w.heap.size w wr
 rs:Blk wr w.heap.size 30 #[.slice none 0 0, .slice none 0 0, .slice none 0 0, .slice none 0 0, .slice none 0 0]
theorem RunI.krn {w wr:World} {N n:Nat} {r:Krn × List Ans} {V:Value} {a:KA} (h:RunI w wr N n r V a):KrnAt wr wr.heap.size a r.1:=h.kn wr (Stp.refl _)
theorem RunI.below {w wr w':World} {N n:Nat} {r:Krn × List Ans} {V:Value} {a:KA} (h:RunI w wr N n r V a) (hb:Below wr.heap.size wr w'):RunI w w' N n r V a:=
 ⟨fun W hT=>h.kn W ((Stp.of_below hb).trans hT),h.cp,h.bk.below hb h.bk.lt,h.hn,h.hN,Nat.le_trans h.hNw hb.size,own_below h.ow hb,h.be.trans (hb.mono h.be.size),h.rs.below hb h.rs.lt⟩
theorem RunI.app {w wr w':World} {N n:Nat} {k:Krn} {l:List Ans} {x:Ans} {V V':Value} {a:KA} (h:RunI w wr N n (k,l) V a) (hv:w'.ownsRow N 36 3 V' (l.length+1) (Bz7 l++Bz7 [x])) (hg:wr.grownBy w' V.ownBlock):RunI w w' N n (k,l++ [x]) V' a:=by
 have ht:=Tch.of_grown h.ow hg;have hbN:Below N wr w':=(Below.refl N wr).grown hg h.hNw (fun q hq=>(h.ow.lt q hq).1);have hb:Below w.heap.size w w':=h.be.trans (hbN.mono (by have:=h.hn;have:=h.hN;omega));exact⟨fun W hT=>h.kn W (((Stp.refl _).ans ht).trans hT),h.cp,h.bk.tch ht (by decide),h.hn,h.hN,Nat.le_trans h.hNw hg.size,by rw[List.length_append,Izb];exact hv,hb,h.rs.tch ht (by decide)⟩
theorem RunI.put {w wr w1:World} {N n:Nat} {k k':Krn} {l:List Ans} {V:Value} {a a':KA} {ms:List (Value × Value)} {es:List Value} {B:Nat} (h:RunI w wr N n (k,l) V a) (hb:Below wr.heap.size wr w1)
  (hC:Copied w1 B (.slice a'.a0 k'.mods.length a'.c0) (.slice a'.a1 k'.mem.length a'.c1) (.slice a'.a2 k'.nodes.length a'.c2) (.slice a'.a3 k'.pipes.length a'.c3) (.slice a'.a4 k'.procs.length a'.c4) k' ms es) (hf:k'.fits):
  RunI w (lay5 w1 n (.slice a'.a0 k'.mods.length a'.c0) (.slice a'.a1 k'.mem.length a'.c1) (.slice a'.a2 k'.nodes.length a'.c2) (.slice a'.a3 k'.pipes.length a'.c3) (.slice a'.a4 k'.procs.length a'.c4)) N n (k',l) V a':=by
 have h1:=h.below hb;have e0:(a.cells k).size=5:=rfl;have k0:=h1.bk.lay5 e0 (.slice a'.a0 k'.mods.length a'.c0) (.slice a'.a1 k'.mem.length a'.c1) (.slice a'.a2 k'.nodes.length a'.c2) (.slice a'.a3 k'.pipes.length a'.c3) (.slice a'.a4 k'.procs.length a'.c4);have g:=Bz8 w1 n (.slice a'.a0 k'.mods.length a'.c0) (.slice a'.a1 k'.mem.length a'.c1) (.slice a'.a2 k'.nodes.length a'.c2) (.slice a'.a3 k'.pipes.length a'.c3) (.slice a'.a4 k'.procs.length a'.c4);obtain⟨WL,hWL⟩:∃ WL,WL=lay5 w1 n (.slice a'.a0 k'.mods.length a'.c0) (.slice a'.a1 k'.mem.length a'.c1) (.slice a'.a2 k'.nodes.length a'.c2) (.slice a'.a3 k'.pipes.length a'.c3) (.slice a'.a4 k'.procs.length a'.c4):=⟨_,rfl⟩;rw[←hWL] at k0 g ⊢;have ht:Tch 30 w1 WL:=⟨g.os,g.tape,g.output,g.size,fun q hq hne=>g.block q hq fun e=>by
  injection e with e
  subst e;exact hne _ _ h1.bk⟩
 have C1:=hC.tch ht (by decide) (by decide) (by decide) (by decide) (by decide) (by decide) (by decide);have bl:Below w.heap.size w1 WL:=⟨g.os,g.tape,g.output,g.size,fun q hq=>g.block q (by have:=h1.be.size;omega) (fun e=>by injection e with e;have:=h.hn;omega)⟩;refine⟨fun W hT=>(C1.stp hT).krnAt hf,hC.caps,k0,h.hn,h.hN,Nat.le_trans h1.hNw g.size,Az4 h1.ow ht (by decide),h1.be.trans bl,?_⟩;exact(g.block _ h1.rs.lt (fun e=>by injection e with e;have:=h.hn;omega)).trans h1.rs
theorem RunI.start {w W0 w1:World} {g1 g2 g3:Nat} {V:Value} {es:List Nat} {a:KA} (hW0:W0=w.alloc (.cells #[.slice none 0 0, .slice none 0 0, .slice none 0 0, .slice none 0 0, .slice none 0 0] 30)) (hF:NewF W0 w1 g1 g2 g3 V (pcs 0 es) es) (h4:es.length=4) (ha: #[.slice none 0 0,sl g1 1024,sl g2 8,sl g3 6,V]=a.cells Fz5):
  RunI w (w1.alloc (.cells (a.cells Fz5) 30)) (w1.heap.size+1) w1.heap.size (newK,[]) (.slice none 0 0) a:=by
 have hn:W0.heap.size=w.heap.size+1:=by rw[hW0];simp
 have hsz:=hF.below.size;have hb0:Below w.heap.size w W0:=by rw[hW0];exact(Below.refl w.heap.size w).alloc (Nat.le_refl _) _
 have hb1:=hb0.trans (hF.below.mono (by omega));have r0:Blk W0 w.heap.size 30 #[.slice none 0 0, .slice none 0 0, .slice none 0 0, .slice none 0 0, .slice none 0 0]:=by rw[hW0];exact Blk.new w _ _
 have hba:=(Below.refl w1.heap.size w1).alloc (Nat.le_refl _) (.cells (a.cells Fz5) 30);refine⟨fun W hS=>?_,?_,Blk.new w1 _ _,by omega,Nat.lt_succ_self _,by simp,World.ownsRow_nil _ _ _ _,hb1.alloc (by omega) _,(r0.below hF.below r0.lt).alloc _⟩
 ·obtain⟨a2,e2,hk⟩:=(hF.nb.stp ((Stp.of_below hba).trans hS)).krn h4
  have:a=a2:=KA.inj (k:=Fz5) (ha.symm.trans e2);subst this;exact hk
 ·have e2:some (sl g2 8)=some (Value.slice a.a2 8 a.c2):=congrArg (fun x:Array Value=>x[2]?) ha
  injection e2 with e2
  injection e2 with _ _ e2
  exact⟨Nat.zero_le _,by show 8≤a.c2;omega⟩
theorem RunKPost.drew {w W:World} {r:Krn × List Ans} {e:Ending} (h:RunKPost w r e W):RunKPost w r e W.drew:=by
 obtain⟨A,c,a,h1,h2,h3,h4,h5⟩:=h;have hb:=Below.drewN' (Below.refl W.heap.size W) 1;exact⟨A,c,a,h1,own_below h2 hb,fun W' hS=>h3 W' ((Stp.of_below hb).trans hS),h4,Below.drewN' h5 1⟩
theorem RunI.fin {w wr:World} {N n:Nat} {k:Krn} {l:List Ans} {A:Option Addr} {c:Nat} {a:KA} (h:RunI w wr N n (k,l) (.slice A l.length c) a) {W':World}
  (hW:W'=lay5 wr w.heap.size (.slice a.a0 k.mods.length a.c0) (.slice a.a1 k.mem.length a.c1) (.slice a.a2 k.nodes.length a.c2) (.slice a.a3 k.pipes.length a.c3) (.slice a.a4 k.procs.length a.c4)):
  RunKPost w (k,l) (.returned (.tuple #[.slice A l.length c, .agg #[.slice a.a0 k.mods.length a.c0, .slice a.a1 k.mem.length a.c1, .slice a.a2 k.nodes.length a.c2, .slice a.a3 k.pipes.length a.c3, .slice a.a4 k.procs.length a.c4], .int .i64 0])) W':=by
 have g:=Bz8 wr w.heap.size (.slice a.a0 k.mods.length a.c0) (.slice a.a1 k.mem.length a.c1) (.slice a.a2 k.nodes.length a.c2) (.slice a.a3 k.pipes.length a.c3) (.slice a.a4 k.procs.length a.c4);rw[←hW] at g;have ht:Tch 30 wr W':=⟨g.os,g.tape,g.output,g.size,fun q hq hne=>g.block q hq fun e=>by
  injection e with e
  subst e;exact hne _ _ h.rs⟩
 have hb:Below w.heap.size wr W':=⟨g.os,g.tape,g.output,g.size,fun q hq=>g.block q (by have:=h.be.size;omega) (fun e=>by injection e with e;omega)⟩;exact⟨A,c,a,rfl,own_base (Az4 h.ow ht (by decide)) (by have:=h.hn;have:=h.hN;omega),fun X hS=>h.kn X (((Stp.refl _).krn ht).trans hS),h.cp,h.be.trans hb⟩
set_option maxRecDepth 100000 in
theorem Tz2 (HR:RunC 96) (A:Option Addr) (c:Nat) (l:List Akt) (w:World) (hr:RdA w w.heap.size A l) (hl:l.length≤200) (hs:Sz5 l) (ht:Tab w):
  Calls Tryz.prog 4 #[.slice A l.length c] w (RunKPost w (runK newK l)):=by
 have HR':=Lib.hid HR;have HA:=Lib.hid hr;have HS:=Lib.hid hs;have HT:=Lib.hid ht;have q1:decide ((200:Int)<(l.length:Int))=false:=decide_eq_false (by omega);obtain⟨i0,hi0,hz0,hz1,hz2⟩:=info_parts Pz5;have hU:=Tryz.underlying23;clear HR hr hs ht;go_enter Tryz.func4,Tryz.ntmps4;go_upto_region 1 with fail
 refine(show ∀ W:World,W=w.alloc (.cells #[.slice none 0 0, .slice none 0 0, .slice none 0 0, .slice none 0 0, .slice none 0 0] 30)→Code.wp _ _ _ _ W from ?_) _ rfl;intro W0 hW0;have HW0:=Lib.hid hW0;clear hW0;go_wp2_with fail;refine(Qzh W0).mono ?_;rintro e w1 ⟨g1,g2,g3,V,es,rfl,hF,h4⟩;obtain⟨a,ha,_⟩:=hF.krn h4;have S0:=RunI.start HW0.out hF h4 ha;rw[ha];clear hF h4 ha q1;unfold KA.cells;go_upto_region 4 with fail
 refine(show ∀ W:World,RunI w W (w1.heap.size+1) w1.heap.size (newK,[]) (.slice none 0 0) a→Code.wp _ _ _ _ W from ?_) _ S0;clear S0;intro W1 hS;have HS1:=Lib.hid hS;clear hS;go_wp2_with fail;go_loopw [6,19] (fun V i wr=>Cnt l.length i fun j=>∃ (V':Value) (a:KA),V'=V∧RunI w wr (w1.heap.size+1) w1.heap.size (runK newK (l.take j)) V' a) (fun _ i _=>l.length - (intOf i).toNat)
 case atStart=>exact⟨0,Nat.zero_le _,rfl,_,a,rfl,HS1.out⟩
 case round=>
  clear HS1;obtain⟨j,hj,rfl,V,a,rfl,hS⟩:=hrel;by_cases hlt:j<l.length
  ·obtain⟨b,o,rfl,hb,hcell⟩:=HA.out (by omega)
   obtain⟨c0,c1,c2,c3,c4,c5⟩:=hcell j hlt;obtain⟨x,hx⟩:∃ x,x=l[j]:=⟨_,rfl⟩;have hxs:x.name.size≤maxLen∧x.data.size≤maxLen:=by rw[hx];exact HS.out _ (List.getElem_mem hlt)
   have htk:runK newK (l.take (j+1))=if doE (runK newK (l.take j)).1 x=0 then ((doK (runK newK (l.take j)).1 x).1,(runK newK (l.take j)).2++ [(doK (runK newK (l.take j)).1 x).2]) else ((runK newK (l.take j)).1,(runK newK (l.take j)).2++ [ansE (doE (runK newK (l.take j)).1 x)]):=by
    rw[List.take_succ_eq_append_getElem hlt, ←hx,Oz3]
   have hok:=Kz5 (l.take j) Rzb;have hla:(runK newK (l.take j)).2.length=j:=by rw[Iz1,List.length_take];omega
   rw[←hx] at c0 c1 c2 c3 c4 c5;obtain⟨⟨k,la⟩,hkl⟩:∃ r,r=runK newK (l.take j):=⟨_,rfl⟩;rw[←hkl] at hS htk hok hla;simp only at htk hok hla;have c0:=(hS.be.cell (p:=⟨b,o+j*6,none⟩) hb).trans c0;have c1:=(hS.be.cell (p:=⟨b,o+j*6+1,none⟩) hb).trans c1;have c2:=(hS.be.cell (p:=⟨b,o+j*6+2,none⟩) hb).trans c2;have c3:=(hS.be.cell (p:=⟨b,o+j*6+3,none⟩) hb).trans c3;have c4:=(hS.be.cell (p:=⟨b,o+j*6+4,none⟩) hb).trans c4;have c5:=(hS.be.cell (p:=⟨b,o+j*6+5,none⟩) hb).trans c5;have hbw:b<wr.heap.size:=Nat.lt_of_lt_of_le hb hS.be.size;have hji:(j:Int)<(l.length:Int):=by omega
   have HTK:=Lib.hid htk;have HOK:=Lib.hid hok;have HLA:=Lib.hid hla;have HXS:=Lib.hid hxs;have HSj:=Lib.hid hS;clear hx hcell htk hok hla hS hkl hxs;have hba:=(Below.refl wr.heap.size wr).alloc (Nat.le_refl _) (.cells x.cells 40);have hA:=Blk.new wr 40 x.cells;go_upto_region 8 with fail
   refine(show ∀ W:World,RunI w W (w1.heap.size+1) w1.heap.size (k,la) V a→Blk W wr.heap.size 40 x.cells→Code.wp _ _ _ _ W from ?_) _ (HSj.out.below hba) hA;clear hba hA HSj c0 c1 c2 c3 c4 c5 hbw;intro W2 hS hA;have HDO:=Lib.hid (Sz7 HR'.out k a x W2 hS.krn HOK.out.small hS.cp (HT.out.below (hS.be)) HXS.out.1 HXS.out.2);have HSj:=Lib.hid hS;obtain⟨d0,d1,d2,d3,d4, -, -, -, -, -,dl⟩:=hS.bk.a5;obtain⟨a0,a1,a2,a3,a4,a5, -, -, -, -, -, -, -, -, -, -, -, -, -, -, -, -,al⟩:=hA.a11;simp[KA.cells,Akt.cells] at d0 d1 d2 d3 d4 a0 a1 a2 a3 a4 a5;unfold KA.cells Akt.cells at HDO;clear hS hA;go_wp2_with fail;refine HDO.out.mono ?_;rintro e w2 ⟨hb2,hres⟩;have HS2:=Lib.hid (HSj.out.below hb2);clear HDO d0 d1 d2 d3 d4 dl a0 a1 a2 a3 a4 a5 al;rcases hres with⟨hne,rfl⟩|⟨he0,a',ms,es,rfl,hC,hf⟩
   ·rw[if_neg hne] at HTK
    have hbn:(doE k x != 0)=true:=by rw[bne_iff_ne];exact hne
    obtain⟨ev,hev⟩:∃ ev,ev=doE k x:=⟨_,rfl⟩;rw[←hev] at HTK hbn;rw[←hev];have hbA:=(Below.refl w2.heap.size w2).alloc (Nat.le_refl _) (.cells #[.slice none 0 0, .slice none 0 0, .slice none 0 0, .slice none 0 0, .slice none 0 0] 30);have hbB:=hbA.alloc hbA.size (.cells #[.int .i64 0, .int .i64 0, .string ⟨#[]⟩] 36);have hbC:=hbB.alloc hbB.size (.cells #[.int .i64 ev, .int .i64 0, .string ⟨#[]⟩] 36);have HS3:=Lib.hid (HS2.out.below hbC);clear hev hne hb2 hbA hbB hbC HSj;go_wp2_with (at_builtin;(refine Azo _ rfl (.tmp 32) (.tmp 35) _ rfl (w1.heap.size+1) 36 i0 _ 3 32 hU hi0 hz0 hz1 hz2 rfl (by omega) V la.length (Bz7 la) rfl ?own ((w2.heap.size+1+1)+1) (some ⟨w2.heap.size+1+1,0,none⟩) 1 1 (Bz7 [ansE ev]) rfl ?rd (Mzv _) ?len ?byt ?bas ?_);(case own=>exact HS3.out.ow);(case rd=>exact((Blk.new' (by simp)).rd 1 3 (by simp)).more (by simp));(case len=>(have:=HLA.out;simp[maxLen];omega));(case byt=>(have:=HLA.out;omega));(case bas=>exact HS3.out.hNw);intro v1 w3 hv1 hg1 _);have hR:=HS3.out.app hv1 hg1;exact⟨⟨j+1,hlt,by go_num,v1,a,rfl,by rw[HTK.out];exact hR⟩,by simp[intOf];omega⟩
   ·rw[if_pos he0] at HTK
    obtain⟨⟨kk,xc,xn,xd⟩,hdo⟩:∃ r,r=doK k x:=⟨_,rfl⟩;rw[←hdo] at hC hf HTK;rw[←hdo];simp only at hC hf HTK;have hP:=HSj.out.put hb2 hC hf;have hbA:=(Below.refl _ _).alloc (w:=lay5 w2 w1.heap.size (.slice a'.a0 kk.mods.length a'.c0) (.slice a'.a1 kk.mem.length a'.c1) (.slice a'.a2 kk.nodes.length a'.c2) (.slice a'.a3 kk.pipes.length a'.c3) (.slice a'.a4 kk.procs.length a'.c4)) (Nat.le_refl _) (.cells (a'.cells kk) 30);have hbB:=hbA.alloc hbA.size (.cells #[.int .i64 xc, .int .i64 xn, .string xd] 36);have hP2:=hP.below hbB;have hsz:(lay5 w2 w1.heap.size (.slice a'.a0 kk.mods.length a'.c0) (.slice a'.a1 kk.mem.length a'.c1) (.slice a'.a2 kk.nodes.length a'.c2) (.slice a'.a3 kk.pipes.length a'.c3) (.slice a'.a4 kk.procs.length a'.c4)).heap.size=w2.heap.size:=by simp[lay5]
    have hX:Blk (((lay5 w2 w1.heap.size (.slice a'.a0 kk.mods.length a'.c0) (.slice a'.a1 kk.mem.length a'.c1) (.slice a'.a2 kk.nodes.length a'.c2) (.slice a'.a3 kk.pipes.length a'.c3) (.slice a'.a4 kk.procs.length a'.c4)).alloc (.cells (a'.cells kk) 30)).alloc (.cells #[.int .i64 xc, .int .i64 xn, .string xd] 36)) (w2.heap.size+1) 36 #[.int .i64 xc, .int .i64 xn, .string xd]:=Blk.new' (by simp[hsz]);obtain⟨d0,d1,d2,d3,d4,f0,f1,f2,f3,f4,dl⟩:=HS2.out.bk.a5;simp[KA.cells] at d0 d1 d2 d3 d4;have HE0:=Lib.hid he0;clear hdo hC hf hP hbA hbB hb2 HSj hsz he0;unfold KA.cells at hP2 hX ⊢;unfold lay5 at hP2 hX;go_upto_region 12 with fail
    refine(show ∀ W:World,RunI w W (w1.heap.size+1) w1.heap.size (kk,la) V a'→Blk W (w2.heap.size+1) 36 #[.int .i64 xc, .int .i64 xn, .string xd]→Code.wp _ _ _ _ W from ?_) _ hP2 hX;clear hP2 hX d0 d1 d2 d3 d4 f0 f1 f2 f3 f4 dl HS2;intro W5 hS hX;have HS5:=Lib.hid hS;obtain⟨o0,o1,o2, -, -, -,ol⟩:=hX.a3;simp at o0 o1 o2;have HS6:=Lib.hid (HS5.out.below ((Below.refl W5.heap.size W5).alloc (Nat.le_refl _) (.cells #[.int .i64 xc, .int .i64 xn, .string xd] 36)));clear hS hX;go_wp2_with (at_builtin;(refine Azo _ rfl (.tmp 38) (.tmp 40) _ rfl (w1.heap.size+1) 36 i0 _ 3 32 hU hi0 hz0 hz1 hz2 rfl (by omega) V la.length (Bz7 la) rfl ?own (W5.heap.size+1) (some ⟨W5.heap.size,0,none⟩) 1 1 (Bz7 [⟨xc,xn,xd⟩]) rfl ?rd (Mzv _) ?len ?byt ?bas ?_);(case own=>exact HS6.out.ow);(case rd=>exact((Blk.new' (by simp)).rd 1 3 (by simp)).more (by simp));(case len=>(have:=HLA.out;simp[maxLen];omega));(case byt=>(have:=HLA.out;omega));(case bas=>exact HS6.out.hNw);intro v1 w3 hv1 hg1 _);have hR:=HS6.out.app hv1 hg1;exact⟨⟨j+1,hlt,by go_num,v1,a',rfl,by rw[HTK.out];exact hR⟩,by simp[intOf];omega⟩
  ·obtain rfl:j=l.length:=by omega
   rw[List.take_length] at hS;obtain⟨⟨k,la⟩,hkl⟩:∃ r,r=runK newK l:=⟨_,rfl⟩;rw[←hkl] at hS ⊢;obtain⟨AV,cV,rfl⟩:=Az1 hS.ow;obtain⟨d0,d1,d2,d3,d4, -, -, -, -, -,dl⟩:=hS.bk.a5;obtain⟨r0,r1,r2,r3,r4,f0,f1,f2,f3,f4,rl⟩:=hS.rs.a5;have hne:w1.heap.size≠w.heap.size:=by have:=hS.hn;omega
   simp[KA.cells] at d0 d1 d2 d3 d4 r0 r1 r2 r3 r4;have HSF:=Lib.hid hS;have HKL:=Lib.hid hkl;clear hS hkl hlt hj;go_wp2_with fail;go_region
   all_goals
    go_wp2;refine bodyPost_ret (v:= .tuple #[.slice AV la.length cV, .agg #[.slice a.a0 k.mods.length a.c0, .slice a.a1 k.mem.length a.c1, .slice a.a2 k.nodes.length a.c2, .slice a.a3 k.pipes.length a.c3, .slice a.a4 k.procs.length a.c4], .int .i64 0]) (by simp[results,Tryz.results4,go_sem,r0,r1,r2,r3,r4]) rfl ?_;have hfin:=(HSF.out.fin rfl).drew;rw[HKL.out] at hfin;exact hfin
end Go.Proofs.YtdjamdbamkhblacGreatDoor
namespace Go.Proofs.YtdjamdbamkhblacGreatDoor
open Go.RowKit
set_option linter.unusedVariables false
set_option linter.unusedSimpArgs false
def Eza (l:List Akt):List Value:=l.flatMap fun x=>[.int .i64 x.kind, .int .i64 x.p, .int .i64 x.n, .int .i64 x.m, .string x.name, .string x.data]
theorem Fzi (l:List Akt):(Eza l).length=l.length*6:=Gz0 _ 6 (fun _=>rfl) l
theorem Tz6 (l:List Akt):∀ u∈Eza l,u.oneCell'=true:=by
 intro u hu;simp only[Eza,List.mem_flatMap] at hu;obtain⟨i,_,hu⟩:=hu;simp at hu;rcases hu with h|h|h|h|h|h<;>subst h<;>rfl
theorem RdA.of {w:World} {B:Nat} {A:Option Addr} {l:List Akt} (h:Rd w B 6 A l.length (Eza l)):RdA w B A l:=fun hl=>by
 obtain⟨b,o,e,hb,hc⟩:=h.2 hl;refine⟨b,o,e,hb,fun k hk=>?_⟩;have f:=fun j hj=>Czh (fun x:Akt=>[Value.int .i64 x.kind, .int .i64 x.p, .int .i64 x.n, .int .i64 x.m, .string x.name, .string x.data]) 6 (fun _=>rfl) l k hk j hj
 exact⟨hc _ _ (f 0 (by omega)),hc _ _ (f 1 (by omega)),hc _ _ (f 2 (by omega)),hc _ _ (f 3 (by omega)),hc _ _ (f 4 (by omega)),hc _ _ (f 5 (by omega))⟩
theorem RdA.blk {w:World} {g:Nat} {l:List Akt} {cs:Array Value} (h:Blk w g 40 cs) (hc:cs=(Eza l).toArray):RdA w w.heap.size (some ⟨g,0,none⟩) l:=by
 have hs:cs.size=l.length*6:=by rw[hc];simp[Fzi]
 have:=h.rd l.length 6 (by omega);rw[hc] at this;simp only at this;rw[List.take_of_length_le (by rw[Fzi];omega)] at this;exact RdA.of this
theorem RunKPost.at_ {w w':World} {A:Option Addr} {c:Nat} {l:List Ans} (h:w'.ownsRow w.heap.size 36 3 (.slice A l.length c) l.length (Bz7 l)) (hn:0<l.length):
  ∃ b,A=some ⟨b,0,none⟩∧b<w'.heap.size∧∀ k (hk:k<l.length),w'.cell? ⟨b,k*3,none⟩=some (.int .i64 l[k].code)∧w'.cell? ⟨b,k*3+1,none⟩=some (.int .i64 l[k].n)∧w'.cell? ⟨b,k*3+2,none⟩=some (.string l[k].data):=by
 have hr:=Rd.of_own h;obtain⟨b,rfl,_,hlt⟩:=Azf h hn;obtain⟨b',o,e,_,hc⟩:=hr.2 hn;cases e
 refine⟨b,rfl,hlt,fun k hk=>?_⟩;obtain⟨x0,x1,x2⟩:=Jzn l k hk;have y0:=hc _ _ x0;have y1:=hc _ _ x1;have y2:=hc _ _ x2;rw[Nat.zero_add] at y0 y1 y2;exact⟨y0,y1,y2⟩
def Rza:Value:= .tuple #[.slice none 0 0, .agg #[.slice none 0 0, .slice none 0 0, .slice none 0 0, .slice none 0 0, .slice none 0 0], .int .i64 1]
theorem Sz8 (A:Option Addr) (n c:Nat) (w:World) (h:200<n):
  Calls Tryz.prog 4 #[.slice A n c] w fun e w'=>e= .returned Rza∧Below w.heap.size w w':=by
 have t:(200:Int)<(n:Int):=by omega
 have hb0:=Az6 w (.cells #[.slice none 0 0, .slice none 0 0, .slice none 0 0, .slice none 0 0, .slice none 0 0] 30);have HB:=Lib.hid hb0;clear hb0 h;go_enter Tryz.func4,Tryz.ntmps4;go_wp2_with fail;have hB:=Blk.new w 30 #[.slice none 0 0, .slice none 0 0, .slice none 0 0, .slice none 0 0, .slice none 0 0];obtain⟨r0,r1,r2,r3,r4, -⟩:=hB.a5;simp at r0 r1 r2 r3 r4;refine bodyPost_ret (v:=Rza) (by simp[results,Rza,Tryz.results4,go_sem,r0,r1,r2,r3,r4]) rfl ?_;exact⟨rfl,HB.out⟩
def Czv (s:Mc) (i:Ins):Mc:=
 if rg s i.b<s.mem.length then (if i.op=8 then { s with regs:=s.regs.set i.a.toNat (s.mem.getD (rg s i.b) 0) } else { s with mem:=s.mem.set (rg s i.b) (rg s i.a) }) else s
def Mzt (w0:World) (g:Nat) (C:Value) (s:Mc) (i:Ins) (en:Nat) (B T M:Value) (e:Ending) (w':World):Prop:=
 ∃ z:Int,Hid (z=if rg s i.b<s.mem.length then 0 else 3)∧e= .returned (.int .i64 z)∧Mach w0 w' g C (Czv s i) en B T M
theorem Jzb (w0:World) (g en:Nat) (C B T M:Value) (s:Mc) (i:Ins) (w:World) (h:Mach w0 w g C s en B T M) (hs:McOk s) (hi:InsOk i) (ho:i.op=8∨i.op=9) (hml:s.mem.length≤1024):
  Calls Tryz.prog 109 #[.pointer (some ⟨g,0,none⟩),i.val] w (Mzt w0 g C s i en B T M):=by
 obtain⟨o1,o2,a0,a7,b0,b7,c0,cw,c7⟩:=hi;obtain⟨o,a,b,c⟩:=i;simp only at o1 o2 a0 a7 b0 b7 c0 cw c7 ho ⊢;unfold Ins.val;simp only;obtain⟨bn,rfl⟩:∃ n:Nat,b=(n:Int):=⟨b.toNat,by omega⟩;obtain⟨an,rfl⟩:∃ n:Nat,a=(n:Int):=⟨a.toNat,by omega⟩;have hr8:=hs.regs;have hbn:(bn:Int)<8:=by omega
 have han:(an:Int)<8:=by omega
 have e1:=(h.blk.cell (4+bn)).trans (Fzp bn (by omega));have e2:=(h.blk.cell (4+an)).trans (Fzp an (by omega));have e3:=h.blk.cell 13;have hg:=h.blk.lt;have hg1:g<w.heap.size+1:=by omega
 have fz:=h.blk.frozen (4+an);obtain⟨A3,k3,hM⟩:=Az1 h.om;have hX:Hid (rg s (bn:Int)=s.regs.getD bn 0):=rfl;have hY:Hid (rg s (an:Int)=s.regs.getD an 0):=rfl;subst hM;simp[Azr] at e3;unfold natV at e1 e2;obtain⟨x,hx⟩:∃ x,s.regs.getD bn 0=x:=⟨_,rfl⟩;obtain⟨y,hy⟩:∃ y,s.regs.getD an 0=y:=⟨_,rfl⟩;rw[hx] at e1;rw[hy] at e2;have HX:=Lib.hid hx;have HY:=Lib.hid hy;clear hx hy;have H:=Lib.hid h;clear h;have hwg:w.heap.size≠g:=by omega
 have hwg':g≠w.heap.size:=by omega
 by_cases hlt:x<s.mem.length
 ·obtain⟨q,cap,hv,hq,hql⟩:=H.out.om.form (by omega)
  injection hv with hv1 hv2 hv3
  subst hv1 hv3;clear hv2;have e4:=H.out.om.cells (g:=q) rfl x _ (Ezj hlt);rw[add_plain,Nat.zero_add] at e4;unfold natV at e4;have hgq:g≠q:=fun e=>Aza H.out.om H.out.blk (by decide) (by rw[e];rfl)
  have hqg:q≠g:=Ne.symm hgq;have hq1:q<w.heap.size+1:=by omega
  have hwq:w.heap.size≠q:=by omega
  have hwq':q≠w.heap.size:=by omega
  obtain⟨v,hvv⟩:∃ v,s.mem.getD x 0=v:=⟨_,rfl⟩;rw[hvv] at e4;have HV:=Lib.hid hvv;clear hvv;have HE:Hid ((if rg s (bn:Int)<s.mem.length then (0:Int) else 3)=0):=if_pos (by rw[hX.out,HX.out];exact hlt);have fq:w.frozen? ⟨q,x,none⟩=false:=by
   rcases H.out.om.2 with⟨h0,_⟩|⟨g',cap',cur,hv,_,hh,_⟩
   ·cases h0
   ·injection hv with e1
    injection e1 with e1
    injection e1 with e1
    subst e1;exact Blk.frozen (t:=3) (cs:=cur) hh x
  rcases ho with rfl|rfl
  ·have HT:Hid (Czv s ⟨8,(an:Int),(bn:Int),c⟩= { s with regs:=s.regs.set an v }):=by
    show _=_;unfold Czv;simp only;rw[hX.out,HX.out,if_pos hlt,HV.out];rfl
   go_enter Tryz.func109,Tryz.ntmps109;go_wp2;go_quiet (fail);go_wp2;go_region_law (first|fail)
   all_goals
    go_wp2;go_ret;exact⟨_,HE.out.symm,rfl,by rw[HT.out];exact(H.out.later (Below.drewN' ((Below.refl w.heap.size w).alloc (Nat.le_refl _) _) _)).setreg hr8 an (by omega) _⟩
  ·have HT:Hid (Czv s ⟨9,(an:Int),(bn:Int),c⟩= { s with mem:=s.mem.set x y }):=by
    show _=_;unfold Czv;simp only;rw[hX.out,HX.out,if_pos hlt,hY.out,HY.out];rfl
   go_enter Tryz.func109,Tryz.ntmps109;go_wp2;go_quiet (fail);go_wp2;go_region_law (first|fail)
   all_goals
    go_wp2;go_ret;exact⟨_,HE.out.symm,rfl,by rw[HT.out];exact(H.out.later (Below.drewN' ((Below.refl w.heap.size w).alloc (Nat.le_refl _) _) _)).setmem rfl x y⟩
 ·have hge:s.mem.length≤x:=by omega
  have HE:Hid ((if rg s (bn:Int)<s.mem.length then (0:Int) else 3)=3):=if_neg (by rw[hX.out,HX.out];exact hlt);have HT:Hid (Czv s ⟨o,(an:Int),(bn:Int),c⟩=s):=by
   show _=_;unfold Czv;simp only;rw[hX.out,HX.out,if_neg hlt]
  clear hlt;go_enter Tryz.func109,Tryz.ntmps109;go_wp2;go_quiet (fail);go_wp2;go_ret;exact⟨_,HE.out.symm,rfl,by rw[HT.out];exact H.out.later (Below.drewN' ((Below.refl w.heap.size w).alloc (Nat.le_refl _) _) _)⟩
end Go.Proofs.YtdjamdbamkhblacGreatDoor
