/- The walk of the kernel's install, whole. Condition: the listed table. The walk of the kernel's make: a file, or a device. No condition. -/
import Derived.Test.YtdjamdbamkhblacGreatDoorG20
import Derived.StillTailTactics
set_option maxHeartbeats 4000000
set_option maxRecDepth 100000
namespace Go.Proofs.YtdjamdbamkhblacGreatDoor
open Go.RowKit
set_option linter.unusedVariables false
set_option linter.unusedSimpArgs false
attribute [local go_sem] After.cell
structure InA (B:Nat) (w W:World) (g:Nat) (a:KA) (k:Krn) (ms:List (Value × Value)) (es:List Value):Prop where
 ks:KS B W g a k ms es
 fr:Fr B w W
 wk:Blk W w.heap.size 59 #[.pointer (some ⟨g,0,none⟩)]
 tb:Tab W
structure InB (B:Nat) (w W0 W:World) (g:Nat) (a:KA) (k:Krn) (ms:List (Value × Value)) (es:List Value) (bm:Nat) (m:Mod) (VC VD:Value):Prop where
 k0:KS B W0 g a k ms es
 f0:Fr B w W0
 bl:Below W0.heap.size W0 W
 wl:w.heap.size<W0.heap.size
 wk:Blk W w.heap.size 59 #[.pointer (some ⟨g,0,none⟩)]
 md:Blk W bm 47 #[.string m.name,VC,VD]
 hb:W0.heap.size≤bm
 oc:W.ownsRow W0.heap.size 104 4 VC m.code.length (Azc m.code)
 od:W.ownsRow W0.heap.size 3 1 VD m.data.length (intCells m.data)
structure InC (B:Nat) (w W:World) (g:Nat) (a:KA) (k:Krn) (ms:List (Value × Value)) (es:List Value) (bm:Nat) (m:Mod) (VC VD:Value) (N:Nat):Prop where
 ks:KS B W g a k ms es
 fr:Fr B w W
 wk:Blk W w.heap.size 59 #[.pointer (some ⟨g,0,none⟩)]
 md:Blk W bm 47 #[.string m.name,VC,VD]
 od:W.ownsRow N 3 1 VD m.data.length (intCells m.data)
 a1:∃ b1,a.a1=some ⟨b1,0,none⟩∧b1<N
 hb:N≤bm
section
variable {B g bm N:Nat} {a:KA} {k:Krn} {ms:List (Value × Value)} {es:List Value} {w W0 W W':World} {m:Mod} {VC VD:Value}
theorem InB.ks (h:InB B w W0 W g a k ms es bm m VC VD):KS B W g a k ms es:=h.k0.below h.bl
theorem InB.fr (h:InB B w W0 W g a k ms es bm m VC VD):Fr B w W:=h.f0.trans (Fr.low h.bl (Nat.le_of_lt h.k0.lt))
theorem InB.below (h:InB B w W0 W g a k ms es bm m VC VD) (hb:Below W.heap.size W W'):InB B w W0 W' g a k ms es bm m VC VD:=
 ⟨h.k0,h.f0,h.bl.trans (hb.mono h.bl.size),h.wl,h.wk.below hb h.wk.lt,h.md.below hb h.md.lt,h.hb,own_below h.oc hb,own_below h.od hb⟩
theorem InB.start {w1:World} (h:InA B w W0 g a k ms es) (hb:Below W0.heap.size W0 w1) (hc:w1.ownsRow W0.heap.size 104 4 VC m.code.length (Azc m.code)) (hd:w1.ownsRow W0.heap.size 3 1 VD m.data.length (intCells m.data)):
  InB B w W0 (w1.alloc (.cells #[.string m.name,VC,VD] 47)) g a k ms es w1.heap.size m VC VD:=by
 have h1:=(Below.refl w1.heap.size w1).alloc (Nat.le_refl _) (.cells #[.string m.name,VC,VD] 47);exact⟨h.ks,h.fr,hb.alloc hb.size _,h.wk.lt,(h.wk.below hb h.wk.lt).alloc _,Blk.new w1 _ _,hb.size,hc.alloc _,hd.alloc _⟩
theorem InB.next {w1:World} {V0':Value} (h:InB B w W0 W g a k ms es bm m VC VD) (hb:Below W.heap.size W W') (h1:w1.ownsRow B 47 3 V0' (k.mods.length+1) (Azy k.mods ms++ [.string m.name,VC,VD]))
  (hg:W'.grownBy w1 (Value.slice a.a0 k.mods.length a.c0).ownBlock) (hm:Az7 m=0) (hk:KOk k) (h8:k.mods.length<8):
  ∃ A c,V0'= .slice A (k.mods.length+1) c∧InC B w (w1.setCell ⟨g,0,none⟩ V0') g { a with a0:=A,c0:=c } { k with mods:=k.mods++ [m] } (ms++ [(VC,VD)]) es bm m VC VD W0.heap.size:=by
 have h':=h.below hb;obtain⟨q1,q2,q3⟩:=Dzu hm;obtain⟨A,c,e,hK,hF⟩:=h'.k0.modApp (w:=W') h'.bl h'.oc h'.od h1 hg ⟨by omega,by omega,by omega⟩ (by omega);refine⟨A,c,e,hK,h'.fr.trans hF,hF.blk h'.wk (by decide),?_,?_,?_,h'.hb⟩
 ·have hne:some bm≠(Value.slice a.a0 k.mods.length a.c0).ownBlock:=fun e=>by
   have:=(h'.k0.cp.mods.lt bm e.symm).2;have:=h'.hb;omega
  have hgb:bm≠g:=by have:=h'.k0.blk.lt;have:=h'.hb;omega
  exact(h'.md.grown hg hne).far (p:=⟨g,0,none⟩) hgb _
 ·have t1:Tch 47 W' w1:=Tch.of_grown h'.ks.cp.mods hg
  have t2:=Tch.of_set (p:=⟨g,0,none⟩) (h'.ks.blk.tch t1 (by decide)) V0';exact Az4 (Az4 h'.od t1 (by decide)) t2 (by decide)
 ·have hn:=h'.k0.cp.mem
  obtain⟨b1,e1,_,hl⟩:=Azf hn (by have:=hk.l1;omega);exact⟨b1,e1,hl⟩
theorem InC.row {b1 o:Nat} (h:InC B w W g a k ms es bm m VC VD N) (e1:a.a1=some ⟨b1,0,none⟩) (l:List Int) (hl:o+l.length≤k.mem.length):
  ∃ cur,W.heap[b1]? =some (.cells cur 3 (0,0))∧o+l.length≤cur.size∧
   InC B w (W.setRow b1 (cur.toList.take o++intCells l++cur.toList.drop (o+l.length)).toArray) g a { k with mem:=k.mem.take o++l++k.mem.drop (o+l.length) } ms es bm m VC VD N:=by
 obtain⟨cur,h1,h2,hK,hF,hbb⟩:=h.ks.memRow e1 l hl;obtain⟨b2,e2,hN⟩:=h.a1;obtain rfl:b1=b2:=by rw[e1] at e2;injection e2 with e2;injection e2
 refine⟨cur,h1,h2,hK,h.fr.trans hF,hF.blk h.wk (by decide),?_,?_,⟨b1,e1,hN⟩,h.hb⟩
 ·exact(setRow_other W b1 bm _ (by have:=h.hb;omega)).trans h.md
 ·refine h.od.kept (Ezp W b1 _) ?_
  cases hq:VD.ownBlock with
  | none=>exact .inl rfl
  | some q=>exact .inr (fun e=>by have:=(h.od.lt q hq).1;injection e with e;omega)
theorem Kz6 (W:World) (b o cap:Nat) (cur:Array Value) (ty:TypeId) (hg:W.heap[b]? =some (.cells cur 3 (0,0))) (hf:o+64≤cur.size):
  (Builtin.clear_ #[25] ty #[.slice (some ⟨b,o,none⟩) 64 cap]).run Tryz.prog W= .ok (.tuple #[]) (W.setRow b (cur.toList.take o++intCells (List.replicate 64 0)++cur.toList.drop (o+(List.replicate 64 (0:Int)).length)).toArray):=by
 obtain⟨i0,hi,hz,_,_⟩:=info_parts Nz9;have hc:(Builtin.zeroCells (Value.cells (.int .i64 0)) 64).toList=intCells (List.replicate 64 0):=by kernel_rfl
 have hst:=run_storeCells_at Tryz.prog b o 3 (intCells (List.replicate 64 0)) 0 cur W hg (by simpa [intCells] using hf) (Dz3 _);have hl:(intCells (List.replicate 64 0)).length=(List.replicate 64 (0:Int)).length:=by simp[intCells]
 rw[Nat.add_zero,hl] at hst;obtain⟨W',hW'⟩:∃ W',W'=W.setRow b (cur.toList.take o++intCells (List.replicate 64 0)++cur.toList.drop (o+(List.replicate 64 (0:Int)).length)).toArray:=⟨_,rfl⟩;rw[←hW'] at hst ⊢;obtain⟨xs,hxs⟩:∃ xs,xs=intCells (List.replicate 64 0):=⟨_,rfl⟩;rw[←hxs] at hst hc;clear hW' hxs hl hg hf;simp[Builtin.clear_,run_underlying (Tryz.underlying25),zeroValue,typeInfo,hi,hz,hc,hst]
theorem Jz4 (W:World) (b o cap:Nat) (cur:Array Value) (ty:TypeId) (l:List Int) {AD:Option Addr} {cD:Nat} (hg:W.heap[b]? =some (.cells cur 3 (0,0))) (hl:l.length≤64) (hf:o+l.length≤cur.size)
  (hd:W.ownsRow N 3 1 (.slice AD l.length cD) l.length (intCells l)):
  ∃ v,(Builtin.copy_ #[25,25] ty #[.slice (some ⟨b,o,none⟩) 64 cap, .slice AD l.length cD]).run Tryz.prog W= .ok v (W.setRow b (cur.toList.take o++intCells l++cur.toList.drop (o+l.length)).toArray):=by
 have hil:(intCells l).length=l.length:=by simp[intCells]
 have hsz:(Tryz.prog.info? 3).map (·.size)=some 1:=by kernel_rfl
 by_cases h0:l.length=0
 ·obtain rfl:l=[]:=List.eq_nil_of_length_eq_zero h0
  refine⟨goInt 0,?_⟩;have e:(cur.toList.take o++intCells []++cur.toList.drop (o+([]:List Int).length)).toArray=cur:=by simp[intCells]
  rw[e,setRow_self W b cur _ _ hg];exact run_copy_none (P:=Tryz.prog) W 25 25 ty 3 _ _ 64 cap _ cD Tryz.underlying25 hsz (by simp)
 ·obtain⟨bd,e1,_,_⟩:=Azf hd (by omega)
  subst e1;have e:=run_copy_row Tryz.prog W 25 25 ty 3 b o 64 cap ⟨bd,0,none⟩ l.length cD cur 3 (intCells l) Tryz.underlying25 hsz hg (by rw[hil];exact(Nat.min_eq_left hl).symm) (fun j v hj=>hd.cells rfl j v hj) (by rw[hil];exact hf) (Dz3 _);rw[hil] at e;exact⟨_,e⟩
theorem Rz9 (M d:List Int) (o:Nat) (hd:d.length≤64) (ho:o+64≤M.length):
  (M.take o++List.replicate 64 0++M.drop (o+64)).take o++d++(M.take o++List.replicate 64 0++M.drop (o+64)).drop (o+d.length)=M.take o++(d++List.replicate (64 - d.length) 0)++M.drop (o+64):=by
 have t1:(M.take o).length=o:=by rw[List.length_take];omega
 have e1:(M.take o++List.replicate 64 0++M.drop (o+64)).take o=M.take o:=by
  rw[List.append_assoc,List.take_append_of_le_length (by omega),List.take_of_length_le (by omega)]
 have e2:(M.take o++List.replicate 64 0++M.drop (o+64)).drop (o+d.length)=List.replicate (64 - d.length) 0++M.drop (o+64):=by
  rw[List.append_assoc,List.drop_append,t1,List.drop_of_length_le (by omega),List.nil_append,show o+d.length - o=d.length by omega,List.drop_append_of_le_length (by simp;omega),List.drop_replicate]
 rw[e1,e2];simp[List.append_assoc]
end
theorem Jzy {B g:Nat} {a:KA} {k:Krn} {ms:List (Value × Value)} {es:List Value} (s:ByteArray) (w:World) (h:KS B w g a k ms es) (hk:KOk k) (ht:Tab w) (hs:s.size≤maxLen):
  Calls Tryz.prog 15 #[.agg #[.pointer (some ⟨g,0,none⟩)], .string s] w (Qzg B w g es (Bzf k s)):=by
 have hb1:=Az6 w (.cells #[.pointer (some ⟨g,0,none⟩)] 59);have S0:InA B w (w.alloc (.cells #[.pointer (some ⟨g,0,none⟩)] 59)) g a k ms es:=⟨h.below hb1,Fr.low hb1 (Nat.le_of_lt h.lt),Blk.new w _ _,ht.below hb1⟩;have HD:Hid (∀ W:World,Tab W→Calls Tryz.prog 47 #[.string s] W (DecPost W (decR s))):=fun W hW=>Mzm s.data.toList W (by simpa using hs) hW
 have HKO:=Lib.hid hk;clear h hk ht hs hb1;go_enter Tryz.func15,Tryz.ntmps15;go_upto_region 1 with fail
 refine(show ∀ W:World,InA B w W g a k ms es→Code.wp _ _ _ _ W from ?_) _ S0;clear S0;intro W0 hS;have HS:=Lib.hid hS;clear hS;go_wp2_with fail;refine(HD.out W0 HS.out.tb).mono ?_;clear HD;rintro e w1 ⟨VC,VD,rfl,hVC,hVD,hb⟩;cases hd:decE s.data.toList Az7 with
 | mk o e0=>
   cases o with
   | none=>
     have hR:decR s=(⟨⟨#[]⟩,[],[]⟩,e0):=by unfold decR;rw[hd];rfl
     have HV:Hid (Bzf k s=(k,ansE e0)):=by show _=_;unfold Bzf;rw[hd]
     have hne:(e0 != 0)=true:=by rw[bne_iff_ne];exact Izl hd
     rw[hR] at hVC hVD;rw[hR];clear hd hR;obtain⟨AC,cC,rfl⟩:=Az1 hVC;obtain⟨AD,cD,rfl⟩:=Az1 hVD;have hbA:=hb.alloc hb.size (.cells #[.string ⟨#[]⟩, .slice AC 0 cC, .slice AD 0 cD] 47);have HK:=Lib.hid (HS.out.ks.below hbA);have HF:=Lib.hid (HS.out.fr.trans (Fr.low hbA (Nat.le_of_lt HS.out.ks.lt)));clear hVC hVD hb hbA HS;go_wp2;go_ret2;rw[HV.out];exact⟨rfl,HF.out,_,_,HK.out⟩
   | some m=>
     obtain⟨hmc,rfl⟩:=Gza hd;have hR:decR s=(m,0):=by unfold decR;rw[hd];rfl
     have HV:Hid (Bzf k s=if k.mods.any (fun x=>x.name == m.name) then (k,ansE 7) else if k.mods.length=8 then (k,ansE 8)
      else ({ k with mods:=k.mods++ [m],mem:=k.mem.take (64*k.mods.length)++(m.data++List.replicate (64 - m.data.length) 0)++k.mem.drop (64*k.mods.length+64) },ansN k.mods.length)):=by show _=_;unfold Bzf;rw[hd]
     have HM:=Lib.hid hmc;rw[hR] at hVC hVD;rw[hR];clear hd hR hmc;have hS1:=InB.start (m:=m) HS.out hb hVC hVD;obtain⟨AC,cC,rfl⟩:=Az1 hVC;obtain⟨AD,cD,rfl⟩:=Az1 hVD;clear hVC hVD hb HS;go_upto_region 4 with fail
     refine(show ∀ W:World,InB B w W0 W g a k ms es w1.heap.size m (.slice AC m.code.length cC) (.slice AD m.data.length cD)→Code.wp _ _ _ _ W from ?_) _ hS1;clear hS1;intro W2 hS;have HS:=Lib.hid hS;clear hS;obtain⟨x0, -, -, -,xl⟩:=HS.out.wk.a2;obtain⟨d0,d1,d2,d3,d4⟩:=HS.out.ks.c5;have gl:=HS.out.ks.blk.lt;simp at x0;have HC:=Lib.hid (Dzi 48 #[.pointer (some ⟨w1.heap.size,0,none⟩)] (fun x:Mod=>x.name == m.name) a.a0 a.c0 k.mods W2 HS.out.ks.krn.mods (by have:=HKO.out.l0;unfold maxLen;omega) Gzq (fun y _ w2 A1 c1 A2 c2 hw2 _=>Izt y.name _ _ w1.heap.size m.name w2 (Nat.lt_of_lt_of_le HS.out.md.lt hw2.size) ((HS.out.md.below hw2 HS.out.md.lt).cell 0)));go_wp2_with fail;refine HC.out.mono ?_;rintro e w3 ⟨rfl,hb⟩;have HS3:=Lib.hid (HS.out.below hb);clear HC HS hb x0 xl d0 d1 d2 d3 d4 gl;cases hdup:k.mods.any (fun x=>x.name == m.name) with
     | true=>
       rw[hdup,if_pos rfl] at HV;clear hdup;go_wp2;go_ret2;rw[HV.out];exact⟨rfl,HS3.out.fr,_,_,HS3.out.ks⟩
     | false=>
       rw[hdup,if_neg (by simp)] at HV;clear hdup;obtain⟨x0, -, -, -,xl⟩:=HS3.out.wk.a2;obtain⟨d0,d1,d2,d3,d4⟩:=HS3.out.ks.c5;have gl:=HS3.out.ks.blk.lt;simp at x0;by_cases h8:k.mods.length=8
       ·rw[if_pos h8] at HV
        have q8:((k.mods.length:Int) == 8)=true:=by rw[h8];rfl
        clear h8;go_wp2;go_ret2;rw[HV.out];exact⟨rfl,HS3.out.fr,_,_,HS3.out.ks⟩
       ·rw[if_neg h8] at HV
        have h7:k.mods.length<8:=by have:=HKO.out.l0;omega
        have q8:((k.mods.length:Int) == 8)=false:=by rw[beq_eq_false_iff_ne];omega
        have H7:=Lib.hid h7;clear h8;obtain⟨m0,m1,m2, -, -, -,ml⟩:=HS3.out.md.a3;simp at m0 m1 m2;go_upto_region 9 with fail
        clear x0 xl d0 d1 d2 d3 d4 gl m0 m1 m2 ml;refine Rz5 w3 B w.heap.size g w1.heap.size k.mods.length a.c0 a.a0 m.name AC AD m.code.length cC m.data.length cD (Azy k.mods ms) (.slice a.a1 k.mem.length a.c1) (.slice a.a2 k.nodes.length a.c2) (.slice a.a3 k.pipes.length a.c3) (.slice a.a4 k.procs.length a.c4) w3 _ (Bz4 _) (Nat.le_of_lt HS3.out.ks.lt) HS3.out.wk HS3.out.ks.blk HS3.out.md HS3.out.ks.cp.mods H7.out ?_;intro listed W y41 y42 y43 y44 y45 y46 y47 y48 y49 y50 y51 y52 hall hJ;obtain⟨V',W1,W2,hb1,hO,hG,rfl⟩:=hJ.f12 (hall 12 (by decide));clear hJ hall;obtain⟨A5,c5,rfl,hC⟩:=HS3.out.next hb1 hO hG HM.out HKO.out H7.out;go_upto_region 10 with fail
        refine(show ∀ W:World,InC B w W g { a with a0:=A5,c0:=c5 } { k with mods:=k.mods++ [m] } (ms++ [(.slice AC m.code.length cC, .slice AD m.data.length cD)]) es w1.heap.size m (.slice AC m.code.length cC) (.slice AD m.data.length cD) W0.heap.size→Code.wp _ _ _ _ W from ?_) _ hC;clear hC hO hG hb1 HS3;intro W6 hC;obtain⟨b1,e1,hl1⟩:=hC.a1;simp only at e1;have HC:=Lib.hid hC;have HE1:=Lib.hid e1;have hc1:1024≤a.c1:=by
         have:=(Fz8 hC.ks.cp.mem).2;simp only[HKO.out.l1] at this;exact this
        have hcm:a.c1≤maxLen:=by
         have hn:=hC.ks.cp.mem;simp only at hn;rw[e1] at hn;rcases hn.2 with⟨h2,_⟩|⟨b',cap,cur,hv,_,hh,hnc,hcm,_⟩
         ·cases h2
         ·cases hv;exact hcm
        have d1:W6.cell? ⟨g,1,none⟩=some (.slice (some ⟨b1,0,none⟩) 1024 a.c1):=by
         have:=hC.ks.c5.2.1;simp only[HKO.out.l1] at this;rw[e1] at this;exact this
        obtain⟨x0, -, -, -,xl⟩:=hC.wk.a2;have gl:=hC.ks.blk.lt;simp at x0;have H7':=H7.out;have hcm':=hcm;unfold maxLen at hcm';clear hC e1 hl1 hcm;have e64:(k.mods.length+1)*64 - k.mods.length*64=64:=by omega
        go_upto_region 11 with fail
        obtain⟨cur,hh,hf,hC1⟩:=HC.out.row HE1.out (o:=k.mods.length*64) (List.replicate 64 0) (by simp only[HKO.out.l1,List.length_replicate];omega);have hcl:=Kz6 W6 b1 (k.mods.length*64) (a.c1 - k.mods.length*64) cur 0 hh (by simpa using hf);obtain⟨W7,hW7⟩:∃ W7,W7=W6.setRow b1 (cur.toList.take (k.mods.length*64)++intCells (List.replicate 64 0)++cur.toList.drop (k.mods.length*64+(List.replicate 64 (0:Int)).length)).toArray:=⟨_,rfl⟩;rw[←hW7] at hcl hC1;have HC1:=Lib.hid hC1;clear hW7 hh hf hC1 d1 x0 xl gl HC;go_upto_region 12 with fail
        clear hcl;have hml:(k.mem.take (k.mods.length*64)++List.replicate 64 0++k.mem.drop (k.mods.length*64+(List.replicate 64 (0:Int)).length)).length=1024:=by
         have:=HKO.out.l1;simp only[List.length_append,List.length_take,List.length_drop,List.length_replicate];omega
        obtain⟨_,_,hm64⟩:=Dzu HM.out;obtain⟨cur2,hh,hf,hC2⟩:=HC1.out.row HE1.out (o:=k.mods.length*64) m.data (by simp only[hml];omega);obtain⟨v,hcp⟩:=Jz4 W7 b1 (k.mods.length*64) (a.c1 - k.mods.length*64) cur2 3 m.data hh hm64 hf HC1.out.od;obtain⟨W8,hW8⟩:∃ W8,W8=W7.setRow b1 (cur2.toList.take (k.mods.length*64)++intCells m.data++cur2.toList.drop (k.mods.length*64+m.data.length)).toArray:=⟨_,rfl⟩;rw[←hW8] at hcp hC2;obtain⟨-, -,m2, -, -, -,ml⟩:=HC1.out.md.a3;simp at m2;have HEQ:=Rz9 k.mem m.data (k.mods.length*64) hm64 (by have:=HKO.out.l1;omega);simp only[List.length_replicate] at hC2;rw[HEQ] at hC2;have HC2:=Lib.hid hC2;clear hh hf hC2 HC1 hW8 hml HEQ;go_wp2;go_ret2;rw[HV.out];rw[Nat.mul_comm 64 k.mods.length];exact⟨rfl,HC2.out.fr,_,_,HC2.out.ks⟩
end Go.Proofs.YtdjamdbamkhblacGreatDoor
namespace Go.Proofs.YtdjamdbamkhblacGreatDoor
open Go.RowKit
set_option linter.unusedVariables false
set_option linter.unusedSimpArgs false
attribute [local go_sem] After.cell
def Qze (B:Nat) (w:World) (g:Nat) (a:KA) (ms:List (Value × Value)) (es:List Value) (r:Krn × Ans) (e:Ending) (w':World):Prop:=
 e= .returned (.tuple #[.int .i64 r.2.n, .int .i64 r.2.code])∧KS B w' g a r.1 ms es∧Fr B w w'
section
variable {B g:Nat} {a:KA} {k:Krn} {ms:List (Value × Value)} {es:List Value}
theorem Gzz {s:ByteArray} {x:Nod} (h:Azs s=false):Cze k s x=(k,ansE 4):=by unfold Cze;rw[h];rfl
theorem Gzh {s:ByteArray} {x:Nod} (h:Azs s=true) (h2:0≤Bzm k s):Cze k s x=(k,ansE 7):=by unfold Cze;rw[if_pos h,if_pos h2]
theorem Hz0 {s:ByteArray} {x:Nod} (h:Azs s=true) (h2:Bzm k s<0) (h3:x.kind=2∧(x.unit<0∨k.mods.length≤x.unit)):Cze k s x=(k,ansE 6):=by unfold Cze;rw[if_pos h,if_neg (by omega),if_pos h3]
theorem Fz4 {s:ByteArray} {x:Nod} (h:Azs s=true) (h2:Bzm k s<0) (h3:¬ (x.kind=2∧(x.unit<0∨k.mods.length≤x.unit))) (h4:Dzm k<0):Cze k s x=(k,ansE 8):=by unfold Cze;rw[if_pos h,if_neg (by omega),if_neg h3,if_pos h4]
theorem Hzt {s:ByteArray} {x:Nod} {i:Nat} (h:Azs s=true) (h2:Bzm k s<0) (h3:¬ (x.kind=2∧(x.unit<0∨k.mods.length≤x.unit))) (h4:Dzm k=i):Cze k s x=(setNod k i { x with name:=s },ansN i):=by
 unfold Cze;rw[if_pos h,if_neg (by omega),if_neg h3,if_neg (by omega),h4];rfl
theorem Lz3 (s:ByteArray) (x:Nod) (w:World) (h:KS B w g a k ms es) (l2:k.nodes.length=8) (hm8:k.mods.length≤8) (hs:s.size≤maxLen):
  Calls Tryz.prog 16 #[.agg #[.pointer (some ⟨g,0,none⟩)], .string s, .agg #[.string x.name, .int .i64 x.kind, .string x.data, .int .i64 x.unit]] w (Qze B w g a ms es (Cze k s x)):=by
 obtain⟨b2,ha2,hbb2,hlt2⟩:=Azf h.cp.nodes (by omega);have hb1:=Az6 w (.cells #[.pointer (some ⟨g,0,none⟩)] 59);have hb2:=hb1.alloc hb1.size (.cells #[.string x.name, .int .i64 x.kind, .string x.data, .int .i64 x.unit] 49);have H2:=Lib.hid (h.below hb2);have HX:=Lib.hid ((Blk.new w 59 #[.pointer (some ⟨g,0,none⟩)]).alloc (.cells #[.string x.name, .int .i64 x.kind, .string x.data, .int .i64 x.unit] 49));have HN:Hid (Blk ((w.alloc (.cells #[.pointer (some ⟨g,0,none⟩)] 59)).alloc (.cells #[.string x.name, .int .i64 x.kind, .string x.data, .int .i64 x.unit] 49)) (w.heap.size+1) 49 #[.string x.name, .int .i64 x.kind, .string x.data, .int .i64 x.unit]):=Blk.new' (by simp);have HB:=Lib.hid (Fr.low hb2 (Nat.le_of_lt h.lt));have HA2:=Lib.hid ha2;have H0:=Lib.hid h;have HW:=Lib.hid hb2;clear h hb1 hb2 ha2;generalize hW2:(w.alloc (.cells #[.pointer (some ⟨g,0,none⟩)] 59)).alloc (.cells #[.string x.name, .int .i64 x.kind, .string x.data, .int .i64 x.unit] 49)=W2 at*;have HW2:=Lib.hid hW2;have HNA:=Lib.hid (Dzr s W2 hs);clear hW2;cases hnm:Azs s with
 | false=>
   have HV:=Lib.hid (Gzz (k:=k) (x:=x) hnm);rw[hnm] at HNA;clear hnm;go_enter Tryz.func16,Tryz.ntmps16;go_wp2_with fail;rw[HW2.out];refine HNA.out.mono ?_;rintro e w1 ⟨rfl,hb1⟩;have hK:=H2.out.below hb1;have hB:=HB.out.trans (Fr.low hb1 (Nat.le_of_lt H2.out.lt));go_wp2;go_ret2;rw[HV.out];exact⟨rfl,hK,hB⟩
 | true=>
   rw[hnm] at HNA;have HNM:=Lib.hid hnm;clear hnm;go_enter Tryz.func16,Tryz.ntmps16;go_wp2_with fail;rw[HW2.out];refine HNA.out.mono ?_;rintro e w1 ⟨rfl,hb1⟩;have HV1:=Lib.hid (HW.out.trans (hb1.mono HW.out.size));have hK1:=H2.out.below hb1;have hB1:=HB.out.trans (Fr.low hb1 (Nat.le_of_lt H2.out.lt));have hX1:=HX.out.below hb1 HX.out.lt;have hN1:=HN.out.below hb1 HN.out.lt;obtain⟨x0, -, -, -,xl⟩:=hX1.a2;simp at x0;have HF:=Lib.hid (Hzn s w1 hK1 l2);have HK1:=Lib.hid hK1;have HB1:=Lib.hid hB1;have HX1:=Lib.hid hX1;have HN1:=Lib.hid hN1;clear hb1 hK1 hB1 hX1 hN1 HX HN HB H2 HNA HW2 HW;go_wp2_with fail;refine HF.out.mono ?_;rintro e w2 ⟨rfl,hb2⟩;have HV2:=Lib.hid (HV1.out.trans (hb2.mono HV1.out.size));have hK2:=HK1.out.below hb2;have hB2:=HB1.out.trans (Fr.low hb2 (Nat.le_of_lt HK1.out.lt));have hX2:=HX1.out.below hb2 HX1.out.lt;have hN2:=HN1.out.below hb2 HN1.out.lt;clear HF HK1 HB1 HX1 HN1 hb2 x0 xl;obtain⟨fi,hfi⟩:∃ fi,fi=Bzm k s:=⟨_,rfl⟩;rw[←hfi];by_cases h0:0≤fi
   ·have HV:=Lib.hid (Gzh (k:=k) (x:=x) HNM.out (by rw[←hfi];exact h0))
    clear hfi;go_wp2;go_ret2;rw[HV.out];exact⟨rfl,hK2,hB2⟩
   ·have h0':fi<0:=by omega
    have HF2:=Lib.hid (show Bzm k s<0 by rw[←hfi];exact h0');clear hfi h0;obtain⟨x0, -, -, -,xl⟩:=hX2.a2;obtain⟨n0,n1,n2,n3⟩:=hN2.c4;have nl:=hN2.lt;obtain⟨c0,c1,c2,c3,c4⟩:=hK2.c5;have gl:=hK2.blk.lt;rw[l2,HA2.out] at c2;simp at x0;have HK2:=Lib.hid hK2;have HB2:=Lib.hid hB2;have HX2:=Lib.hid hX2;have HN2:=Lib.hid hN2;clear hK2 hB2 hX2 hN2;by_cases hbad:x.kind=2∧(x.unit<0∨(k.mods.length:Int)≤x.unit)
    ·have HV:=Lib.hid (Hz0 (k:=k) (x:=x) HNM.out HF2.out hbad)
     have hk2:(x.kind == 2)=true:=by rw[hbad.1];rfl
     by_cases hu:x.unit<0
     ·have hu':decide (x.unit<0)=true:=by simpa using hu
      clear hbad;go_wp2;go_quiet (fail);go_wp2;go_ret2;rw[HV.out];exact⟨rfl,HK2.out.below (Below.drewN' (Below.refl _ _) nq),Fr.drewN HB2.out nq⟩
     ·have hu':decide (x.unit<0)=false:=by simpa using hu
      have hu2:(k.mods.length:Int)≤x.unit:=by omega
      have hu3:decide ((k.mods.length:Int)≤x.unit)=true:=by simpa using hu2
      clear hbad;go_wp2;go_quiet (fail);go_wp2;go_ret2;rw[HV.out];exact⟨rfl,HK2.out.below (Below.drewN' (Below.refl _ _) nq),Fr.drewN HB2.out nq⟩
    ·have hcase:(x.kind == 2)=false∨((x.kind == 2)=true∧decide (x.unit<0)=false∧decide ((k.mods.length:Int)≤x.unit)=false):=by
      by_cases hk2:x.kind=2
      ·refine .inr ⟨by rw[hk2];rfl,?_,?_⟩
       ·simp;omega
       ·simp;omega
      ·exact .inl (by rw[beq_eq_false_iff_ne];exact hk2)
     have HBAD:=Lib.hid hbad;clear hbad;rcases hcase with q1|⟨q1,q2,q3⟩
     all_goals
      go_wp2;go_quiet (fail);have hK3:=HK2.out.below (Below.drewN' (Below.refl _ _) nq);have hB3:=Fr.drewN HB2.out nq;have HI:=Lib.hid (Dz6 50 #[] (fun y:Nod=>y.kind == 0) a.a2 a.c2 k.nodes (w2.drewN nq) hK3.krn.nodes (by rw[l2];unfold maxLen;omega) Jzz (fun y _ w3 _=>Nzd y w3));rw[l2,HA2.out] at HI;have HK3:=Lib.hid hK3;have HB3:=Lib.hid hB3;have HX3:=Lib.hid (HX2.out.drewN nq);have HN3:=Lib.hid (HN2.out.drewN nq);clear hK3 hB3 HK2 HB2 HX2 HN2;go_wp2_with fail;refine HI.out.mono ?_;rintro e w4 ⟨rfl,hb4⟩;have HV4:=Lib.hid ((Below.drewN' HV2.out nq).trans (hb4.mono HV2.out.size));have hK4:=HK3.out.below hb4;have hB4:=HB3.out.trans (Fr.low hb4 (Nat.le_of_lt HK3.out.lt));have hX4:=HX3.out.below hb4 HX3.out.lt;have hN4:=HN3.out.below hb4 HN3.out.lt;clear HI HK3 HB3 HX3 HN3 hb4 x0 xl n0 n1 n2 n3 nl c0 c1 c2 c3 c4 gl;obtain⟨fr,hfr⟩:∃ fr,fr=idxF (fun y:Nod=>y.kind == 0) k.nodes 0:=⟨_,rfl⟩;rw[←hfr];by_cases h0:fr<0
      ·have HV:=Lib.hid (Fz4 (k:=k) (x:=x) HNM.out HF2.out HBAD.out (by unfold Dzm;rw[←hfr];exact h0))
       clear hfr;go_wp2;go_ret2;rw[HV.out];exact⟨rfl,hK4,hB4⟩
      ·obtain⟨i,hi,he,hpi⟩:=Dz0 (p:=fun y:Nod=>y.kind == 0) (l:=k.nodes) (k:=0) (by rw[←hfr];omega)
       rw[Nat.zero_add] at he;have hfi:fr=(i:Int):=by rw[hfr];exact he
       have HV:=Lib.hid (Hzt (k:=k) (x:=x) HNM.out HF2.out HBAD.out (by unfold Dzm;rw[←hfr];exact hfi));subst hfi;have hi8:(i:Int)<8:=by omega
       obtain⟨x0, -, -, -,xl⟩:=hX4.a2;obtain⟨n0,n1,n2,n3⟩:=hN4.c4;obtain⟨-, -,nf, -,nl⟩:=hN4.a2;simp at x0;have HI4:=Lib.hid hi;clear h0 hfr he hpi hi;go_wp2_with fail;have HV5:=Lib.hid (HV4.out.setCell (p:=⟨w.heap.size+1,0,none⟩) (Nat.le_succ _) (.string s));have hK5:=H0.out.below HV5.out;have hX5:=hX4.far (p:=⟨w.heap.size+1,0,none⟩) (by simp) (.string s);have hN5:=hN4.set_ 0 (.string s);simp at hN5;clear x0 xl n0 n1 n2 n3 nf nl hK4 hX4 hN4;generalize w4.setCell ⟨w.heap.size+1,0,none⟩ (.string s)=W5 at*;obtain⟨x0, -, -, -,xl⟩:=hX5.a2;obtain⟨n0,n1,n2,n3⟩:=hN5.c4;have nl:=hN5.lt;obtain⟨c0,c1,c2,c3,c4⟩:=hK5.c5;have gl:=hK5.blk.lt;rw[l2,HA2.out] at c2;simp at x0;have hn2:=hK5.cp.nodes;rw[HA2.out] at hn2;have f0:=hn2.frozenAt (i*4);have f1:=hn2.frozenAt (i*4+1);have f2:=hn2.frozenAt (i*4+2);have f3:=hn2.frozenAt (i*4+3);obtain⟨b',o',e1,hbB',hcell⟩:=hK5.krn.nodes (by have:=HI4.out;omega);obtain⟨rfl,rfl⟩:b2=b'∧0=o':=by
        have:=HA2.out.symm.trans e1;injection this with this
        injection this with e3 e4
        exact⟨e3,e4⟩
       obtain⟨z0,z1,z2,z3⟩:=hcell i HI4.out;simp only[Nat.zero_add] at z0 z1 z2 z3;have HK5:=Lib.hid hK5;have HB5:=Lib.hid (Fr.low HV5.out (Nat.le_of_lt H0.out.lt));clear hX5 hN5 hK5 hn2 e1 hcell c0 c1 c3 c4;go_still_tail 8,(by kernel_rfl);change wpList _ _ _ _ _ W5.drew;have hK6:=HK5.out.below (Below.drewN' (Below.refl _ W5) 1);have hfin:=Lib.hid (hK6.nodeAll HA2.out HI4.out ({ x with name:=s }:Nod));have HB6:=Lib.hid (Fr.drewN HB5.out 1);clear hK6;go_wp2;go_ret2;rw[HV.out];exact⟨rfl,hfin.out.1,HB6.out.trans hfin.out.2⟩
end
end Go.Proofs.YtdjamdbamkhblacGreatDoor
