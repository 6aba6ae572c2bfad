/- The walk of cpu.Run: what it returns, for every code, registers, words and fuel. Condition: the listed table. The run's contract, put in for the program's cpu.Run. Condition: the listed table. A struct of four integers that came in by value, opened. What the cards' proofs of this seat share: the table that the rows list, and a world in which it lies. -/
import Derived.Test.YtdjamdbamkhblacDoorStep
import Derived.ArgAppend
namespace Go.Proofs.YtdjamdbamkhblacDoor
open Go.RowKit
section
variable {P:Program} {ops:Array Oper} {rest:List Oper} {o:Oper} {a:Act} {w w':World} {Q:Exit→Act→World→Prop} {v:Value}
theorem wpList_append_run (hw:Region.wanted o (yielded ops a.tmps)=true) (s x:Operand) (t:TypeId)
  (ho:o.op= .call { callee:= .builtin .append,args:= #[s,x],argTypes:= #[t,t] })
  (hrun:(Builtin.append_ #[t,t] o.type #[a.eval s,a.eval x]).run P w= .ok v w') (h:wpList P ops Q rest (a.put o.dst v) w'):wpList P ops Q (o::rest) a w:=
 wpList_step fun K hK=>by
  rw[if_pos hw];unfold Oper.wp execOp;simp only[ho,resolve,invoke,builtin,Sem.run_bind,Sem.run_pure,Result.andThen_ok,List.map_toArray,List.map_cons,List.map_nil,hrun];exact hK _ _ h
end
theorem Dz4 (w:World) (g:Nat) (rv:List Value) (hrv:rv.length=8) (hc:∀ j u,rv[j]? =some u→w.cell? ⟨g,j,none⟩=some u) (hg:g<w.heap.size) (A:Option Addr) (n c:Nat) (xs:List Value)
  (hr:Rd w w.heap.size 1 A n xs) (hn:n≤1024):
  ∃ A' c' w',(Builtin.append_ #[31,31] 31 #[.slice (some ⟨g,0,none⟩) 8 8, .slice A n c]).run Tryd.prog w= .ok (.slice A' (8+n) c') w'∧Rd w' w'.heap.size 1 A' (8+n) (rv++xs)∧Below w.heap.size w w':=by
 obtain⟨i0,hi0,hz0,hz1,hz2⟩:=info_parts Kz9;rcases Nat.eq_zero_or_pos n with h0|h0
 ·subst h0
  have hx:xs=[]:=List.eq_nil_of_length_eq_zero (by simpa using hr.1);subst hx;refine⟨some ⟨g,0,none⟩,8,w,?_,⟨by simp[hrv],fun _=>⟨g,0,rfl,hg,fun j u hu=>by rw[Nat.zero_add];exact hc j u (by simpa using hu)⟩⟩,Below.refl _ _⟩;cases A with
  | none=>simp[Builtin.append_,run_underlying Tryd.underlying31,sizeOf,typeInfo,hi0,Builtin.lenOf,Builtin.firstCells,storeCells]
  | some ad=>
    have h:=run_append_room_cells (P:=Tryd.prog) (w:=w) 31 31 3 i0 Tryd.underlying31 hi0 g 0 8 8 ad 0 c [] (by simp) (by simp) (by simp) (by omega) (by simp) (by simp);exact h
 ·obtain⟨b,o,rfl,hb,hcell⟩:=hr.2 h0
  obtain⟨v',w',hrun,hown,hgr⟩:=run_append_arg_grows (P:=Tryd.prog) (w:=w) 31 31 3 i0 _ 1 8 Tryd.underlying31 hi0 hz0 hz1 hz2 rfl (by omega) ⟨g,0,none⟩ 8 8 rv (by simpa using hrv)
   (fun j u hu=>by rw[add_plain,Nat.zero_add];exact hc j u hu) ⟨b,o,none⟩ n c xs hr.1 (fun j u hu=>by rw[add_plain];exact hcell j u hu) (by omega) (by unfold maxLen;omega) (by omega)
  obtain⟨A',c',rfl⟩:=Az5 hown;exact⟨A',c',w',hrun,Rd.of_own hown,(Below.refl _ _).grown hgr (Nat.le_refl _) (by simp)⟩
theorem Lzd {l:List Int} (h:∀ x∈l,0≤x):intCells l=Bzi (l.map Int.toNat):=by
 unfold intCells Bzi;rw[List.map_map];refine List.map_congr_left fun x hx=>?_
 have:=h x hx;show Value.int .i64 x=Value.int .i64 ((x.toNat:Nat):Int);rw[Int.toNat_of_nonneg this]
theorem Pzz {l:List Int} (h:l.any oddW=false):∀ x∈l,0≤x∧x≤65535:=by
 intro x hx;have:=(List.any_eq_false.1 h) x hx;simp[oddW] at this;omega
theorem Kzc {C M:Value} {r0 r1 r2 r3 r4 r5 r6 r7:Int} (h:∀ x∈ [r0,r1,r2,r3,r4,r5,r6,r7],0≤x):
  Azg C 0 (.slice none 0 0) 0 ([r0,r1,r2,r3,r4,r5,r6,r7].map Int.toNat) (.slice none 0 0) M= #[C, .int .i64 0, .slice none 0 0, .int .i64 0, .int .i64 r0, .int .i64 r1, .int .i64 r2, .int .i64 r3, .int .i64 r4, .int .i64 r5, .int .i64 r6, .int .i64 r7, .slice none 0 0,M]:=by
 simp only[List.mem_cons,List.not_mem_nil,or_false,forall_eq_or_imp,forall_eq] at h;obtain⟨h0,h1,h2,h3,h4,h5,h6,h7⟩:=h;simp[Azg,natV];omega
theorem Rzl {regs mem:List Int} (h8:regs.length=8) (h:∀ x∈regs++mem,0≤x∧x≤65535):McOk (toMc regs mem):=by
 refine⟨by simp[toMc,h8],fun x hx=>?_,fun x hx=>?_,by simp[toMc],by simp[toMc]⟩
 ·simp only[toMc,List.mem_map] at hx
  obtain⟨y,hy,rfl⟩:=hx;have:=h y (List.mem_append_left _ hy);omega
 ·simp only[toMc,List.mem_map] at hx
  obtain⟨y,hy,rfl⟩:=hx;have:=h y (List.mem_append_right _ hy);omega
def Loop (w0 wr:World) (g:Nat) (C:Value) (l:List Ins) (n:Nat) (s0:Mc) (k:Nat):Prop:=
 ∃ s en B T M,Mach w0 wr g C s en B T M∧McOk s∧s.mem.length=s0.mem.length∧((en=0∧runs l k s=runs l n s0)∨(en≠0∧runs l n s0=(s,en)))
set_option maxRecDepth 100000 in
set_option maxHeartbeats 8000000 in
theorem Qza (A Am:Option Addr) (c cm:Nat) (l:List Ins) (r0 r1 r2 r3 r4 r5 r6 r7:Int) (mem:List Int) (fuel:Int) (w:World) (hr:RdI w w.heap.size A l) (ht:Tab w) (hl:l.length≤maxLen)
  (hm:RdN w w.heap.size Am mem) (hml:mem.length≤maxLen) (hnil:Am=none→mem.length=0∧cm=0):
  Calls Tryd.prog 156 #[.slice A l.length c, .agg #[.int .i64 r0, .int .i64 r1, .int .i64 r2, .int .i64 r3, .int .i64 r4, .int .i64 r5, .int .i64 r6, .int .i64 r7], .slice Am mem.length cm, .int .i64 fuel] w
   (RunPost w (Dzp l [r0,r1,r2,r3,r4,r5,r6,r7] mem fuel) (Cz0 l [r0,r1,r2,r3,r4,r5,r6,r7] mem fuel)):=by
 have HL:=Lib.hid hl;have HML:=Lib.hid hml;have HNIL:=Lib.hid hnil;clear hnil;unfold maxLen at hl hml;by_cases hc0:check l=0
 ·have HC:=Lib.hid hc0
  clear hc0;by_cases hbig:1024<mem.length
  ·have hbig2:(1024:Int)<(mem.length:Int):=by omega
   have HE:Hid (Cz0 l [r0,r1,r2,r3,r4,r5,r6,r7] mem fuel=1):=by
    show _=_;rw[Cz0,if_pos HC.out,if_pos hbig]
   clear hbig;go_enter Tryd.func156,Tryd.ntmps156;go_wp2_with fail;obtain⟨V,hV,hB0,hRB,hOB⟩:=Gz8 w r0 r1 r2 r3 r4 r5 r6 r7;rw[hV];clear hV;refine(Bzc A c l V ((hr.below hB0).more hB0.size) (ht.below hB0) HL.out).mono ?_;rw[HC.out];rintro e w1 ⟨rfl,hb1⟩;have hbw:=hB0.trans (hb1.mono hB0.size);have hR1:=hRB.below hb1 hRB.lt;have hO1:=hOB.below hb1 hOB.lt;obtain⟨gr,hgr⟩:∃ gr,gr=w.heap.size:=⟨_,rfl⟩;obtain⟨gO,hgo⟩:∃ gO,gO=w.heap.size+1:=⟨_,rfl⟩;have hgr0:w.heap.size≤gr:=by omega
   have hgo0:w.heap.size≤gO:=by omega
   have hgg:gr≠gO:=by omega
   rw[←hgo] at hO1 ⊢;rw[←hgr] at hR1 ⊢;clear hgr hgo hRB hOB hB0 hb1 V;obtain⟨q0,q1,q2,q3,q4,q5,q6,q7,q8,q9,q10,p0,p1,p2,p3,p4,p5,p6,p7,p8,p9,p10, -⟩:=hO1.a11;simp at q0 q1 q2 q3 q4 q5 q6 q7 q8 q9 q10;go_wp2;refine bodyPost_ret (v:= .tuple #[.agg #[.int .i64 0, .int .i64 0, .int .i64 0, .int .i64 0, .int .i64 0, .int .i64 0, .int .i64 0, .int .i64 0, .int .i64 0, .slice none 0 0, .slice none 0 0], .int .i64 1]) (by simp[results,Tryd.results156,go_sem,q0,q1,q2,q3,q4,q5,q6,q7,q8,q9,q10]) rfl (RunPost.no (n:=1) HE.out (by omega) rfl (Bzu hgo0 [.int .i64 0, .int .i64 0, .int .i64 0, .int .i64 0, .int .i64 0, .int .i64 0, .int .i64 0, .int .i64 0, .int .i64 0, .slice none 0 0, .slice none 0 0] 0 _ hbw))
  ·have hbig2:(mem.length:Int)≤1024:=by omega
   by_cases hf:fuel<0∨20000<fuel
   ·have HE:Hid (Cz0 l [r0,r1,r2,r3,r4,r5,r6,r7] mem fuel=2):=by
     show _=_;rw[Cz0,if_pos HC.out,if_neg hbig,if_pos (by rcases hf with h|h<;>simp[h])]
    clear hbig;rcases hf with hf|hf
    all_goals
     go_enter Tryd.func156,Tryd.ntmps156;go_wp2_with fail;obtain⟨V,hV,hB0,hRB,hOB⟩:=Gz8 w r0 r1 r2 r3 r4 r5 r6 r7;rw[hV];clear hV;refine(Bzc A c l V ((hr.below hB0).more hB0.size) (ht.below hB0) HL.out).mono ?_;rw[HC.out];rintro e w1 ⟨rfl,hb1⟩;have hbw:=hB0.trans (hb1.mono hB0.size);have hR1:=hRB.below hb1 hRB.lt;have hO1:=hOB.below hb1 hOB.lt;obtain⟨gr,hgr⟩:∃ gr,gr=w.heap.size:=⟨_,rfl⟩;obtain⟨gO,hgo⟩:∃ gO,gO=w.heap.size+1:=⟨_,rfl⟩;have hgr0:w.heap.size≤gr:=by omega
     have hgo0:w.heap.size≤gO:=by omega
     have hgg:gr≠gO:=by omega
     rw[←hgo] at hO1 ⊢;rw[←hgr] at hR1 ⊢;clear hgr hgo hRB hOB hB0 hb1 V;obtain⟨q0,q1,q2,q3,q4,q5,q6,q7,q8,q9,q10,p0,p1,p2,p3,p4,p5,p6,p7,p8,p9,p10, -⟩:=hO1.a11;simp at q0 q1 q2 q3 q4 q5 q6 q7 q8 q9 q10;go_wp2;refine bodyPost_ret (v:= .tuple #[.agg #[.int .i64 0, .int .i64 0, .int .i64 0, .int .i64 0, .int .i64 0, .int .i64 0, .int .i64 0, .int .i64 0, .int .i64 0, .slice none 0 0, .slice none 0 0], .int .i64 2]) (by simp[results,Tryd.results156,go_sem,q0,q1,q2,q3,q4,q5,q6,q7,q8,q9,q10]) rfl (RunPost.no (n:=2) HE.out (by omega) rfl (Bzu hgo0 [.int .i64 0, .int .i64 0, .int .i64 0, .int .i64 0, .int .i64 0, .int .i64 0, .int .i64 0, .int .i64 0, .int .i64 0, .slice none 0 0, .slice none 0 0] 0 _ hbw))
   ·have hf1:0≤fuel:=by omega
    have hf2:fuel≤20000:=by omega
    have hf3:decide (fuel<0)=false:=by simpa using hf1
    have hf4:decide (20000<fuel)=false:=by simpa using hf2
    cases hodd:([r0,r1,r2,r3,r4,r5,r6,r7]++mem).any oddW with
    | true=>
      have HE:Hid (Cz0 l [r0,r1,r2,r3,r4,r5,r6,r7] mem fuel=2):=by
       show _=_;rw[Cz0,if_pos HC.out,if_neg hbig,if_pos (.inr (.inr hodd))]
      have HODD:=Lib.hid hodd;clear hbig hf hodd;go_enter Tryd.func156,Tryd.ntmps156;go_wp2_with fail;obtain⟨V,hV,hB0,hRB,hOB⟩:=Gz8 w r0 r1 r2 r3 r4 r5 r6 r7;rw[hV];clear hV;refine(Bzc A c l V ((hr.below hB0).more hB0.size) (ht.below hB0) HL.out).mono ?_;rw[HC.out];rintro e w1 ⟨rfl,hb1⟩;have hbw:=hB0.trans (hb1.mono hB0.size);have hR1:=hRB.below hb1 hRB.lt;have hO1:=hOB.below hb1 hOB.lt;obtain⟨gr,hgr⟩:∃ gr,gr=w.heap.size:=⟨_,rfl⟩;obtain⟨gO,hgo⟩:∃ gO,gO=w.heap.size+1:=⟨_,rfl⟩;have hgr0:w.heap.size≤gr:=by omega
      have hgo0:w.heap.size≤gO:=by omega
      have hgg:gr≠gO:=by omega
      rw[←hgo] at hO1 ⊢;rw[←hgr] at hR1 ⊢;clear hgr hgo hRB hOB hB0 hb1 V;have hr8:∀ (j:Nat) (u:Value),(intCells [r0,r1,r2,r3,r4,r5,r6,r7])[j]? =some u→w1.cell? ⟨gr,j,none⟩=some u:=fun j u hu=>by rw[hR1.cell];simpa [intCells] using hu
      obtain⟨A2,c2,w2,hrun,hrd,hb2⟩:=Dz4 w1 gr (intCells [r0,r1,r2,r3,r4,r5,r6,r7]) rfl hr8 hR1.lt Am mem.length cm (intCells mem) ((hm.below hbw).more hbw.size).rd (by omega);have hLL:8+mem.length=([r0,r1,r2,r3,r4,r5,r6,r7]++mem).length:=by simp;omega
      rw[hLL] at hrun hrd;have hrd2:RdN w2 w2.heap.size A2 ([r0,r1,r2,r3,r4,r5,r6,r7]++mem):=RdN.of (by rw[show intCells ([r0,r1,r2,r3,r4,r5,r6,r7]++mem)=intCells [r0,r1,r2,r3,r4,r5,r6,r7]++intCells mem by simp[intCells]];exact hrd);have hL2:=Lib.hid (show ([r0,r1,r2,r3,r4,r5,r6,r7]++mem).length≤maxLen by rw[←hLL];unfold maxLen;omega);have HRUN:=Lib.hid hrun;have HRD:=Lib.hid hrd2;have HR8:=Lib.hid hr8;obtain⟨LL,hLLL⟩:∃ LL,LL=[r0,r1,r2,r3,r4,r5,r6,r7]++mem:=⟨_,rfl⟩;rw[←hLLL] at HRUN HRD hL2;have HLL:=Lib.hid hLLL;clear hrun hrd hrd2 hLL hr8 hLLL;have p0:=hR1.cell 0;simp at p0;have hgrl:=hR1.lt;go_wp2_with (at_builtin;refine wpList_append_run (by rfl) (.tmp 29) (.tmp 30) 31 rfl HRUN.out ?_)
      refine(Bzl 172 #[] oddW A2 c2 LL w2 HRD.out hL2.out Gzh (fun x _ w4 _=>(Jzr x w4).mono ?_)).mono ?_
      ·rintro e w5 ⟨rfl,rfl⟩
       exact⟨rfl,Below.refl _ _⟩
      rw[HLL.out,HODD.out];rintro e w3 ⟨rfl,hb3⟩;have hb23:=hb2.trans (hb3.mono hb2.size);have hbw3:=hbw.trans (hb23.mono hbw.size);have hO3:=hO1.below hb23 hO1.lt;have hR3:=hR1.below hb23 hR1.lt;clear p0;obtain⟨q0,q1,q2,q3,q4,q5,q6,q7,q8,q9,q10,p0,p1,p2,p3,p4,p5,p6,p7,p8,p9,p10, -⟩:=hO3.a11;simp at q0 q1 q2 q3 q4 q5 q6 q7 q8 q9 q10;go_wp2;refine bodyPost_ret (v:= .tuple #[.agg #[.int .i64 0, .int .i64 0, .int .i64 0, .int .i64 0, .int .i64 0, .int .i64 0, .int .i64 0, .int .i64 0, .int .i64 0, .slice none 0 0, .slice none 0 0], .int .i64 2]) (by simp[results,Tryd.results156,go_sem,q0,q1,q2,q3,q4,q5,q6,q7,q8,q9,q10]) rfl (RunPost.no (n:=2) HE.out (by omega) rfl (Bzu hgo0 [.int .i64 0, .int .i64 0, .int .i64 0, .int .i64 0, .int .i64 0, .int .i64 0, .int .i64 0, .int .i64 0, .int .i64 0, .slice none 0 0, .slice none 0 0] 0 _ hbw3))
    | false=>
      have HE:Hid (Cz0 l [r0,r1,r2,r3,r4,r5,r6,r7] mem fuel=0):=by
       show _=_;rw[Cz0,if_pos HC.out,if_neg hbig,if_neg (by rw[hodd];intro h;rcases h with h|h|h;exact absurd h (by omega);exact absurd h (by omega);cases h)]
      have HODD:=Lib.hid hodd;clear hbig hf hodd;go_enter Tryd.func156,Tryd.ntmps156;go_wp2_with fail;obtain⟨V,hV,hB0,hRB,hOB⟩:=Gz8 w r0 r1 r2 r3 r4 r5 r6 r7;rw[hV];clear hV;refine(Bzc A c l V ((hr.below hB0).more hB0.size) (ht.below hB0) HL.out).mono ?_;rw[HC.out];rintro e w1 ⟨rfl,hb1⟩;have hbw:=hB0.trans (hb1.mono hB0.size);have hR1:=hRB.below hb1 hRB.lt;have hO1:=hOB.below hb1 hOB.lt;obtain⟨gr,hgr⟩:∃ gr,gr=w.heap.size:=⟨_,rfl⟩;obtain⟨gO,hgo⟩:∃ gO,gO=w.heap.size+1:=⟨_,rfl⟩;have hgr0:w.heap.size≤gr:=by omega
      have hgo0:w.heap.size≤gO:=by omega
      have hgg:gr≠gO:=by omega
      rw[←hgo] at hO1 ⊢;rw[←hgr] at hR1 ⊢;clear hgr hgo hRB hOB hB0 hb1 V;have hr8:∀ (j:Nat) (u:Value),(intCells [r0,r1,r2,r3,r4,r5,r6,r7])[j]? =some u→w1.cell? ⟨gr,j,none⟩=some u:=fun j u hu=>by rw[hR1.cell];simpa [intCells] using hu
      obtain⟨A2,c2,w2,hrun,hrd,hb2⟩:=Dz4 w1 gr (intCells [r0,r1,r2,r3,r4,r5,r6,r7]) rfl hr8 hR1.lt Am mem.length cm (intCells mem) ((hm.below hbw).more hbw.size).rd (by omega);have hLL:8+mem.length=([r0,r1,r2,r3,r4,r5,r6,r7]++mem).length:=by simp;omega
      rw[hLL] at hrun hrd;have hrd2:RdN w2 w2.heap.size A2 ([r0,r1,r2,r3,r4,r5,r6,r7]++mem):=RdN.of (by rw[show intCells ([r0,r1,r2,r3,r4,r5,r6,r7]++mem)=intCells [r0,r1,r2,r3,r4,r5,r6,r7]++intCells mem by simp[intCells]];exact hrd);have hL2:=Lib.hid (show ([r0,r1,r2,r3,r4,r5,r6,r7]++mem).length≤maxLen by rw[←hLL];unfold maxLen;omega);have HRUN:=Lib.hid hrun;have HRD:=Lib.hid hrd2;have HR8:=Lib.hid hr8;obtain⟨LL,hLLL⟩:∃ LL,LL=[r0,r1,r2,r3,r4,r5,r6,r7]++mem:=⟨_,rfl⟩;rw[←hLLL] at HRUN HRD hL2;have HLL:=Lib.hid hLLL;clear hrun hrd hrd2 hLL hr8 hLLL;have p0:=hR1.cell 0;simp at p0;have hgrl:=hR1.lt;go_wp2_with (at_builtin;refine wpList_append_run (by rfl) (.tmp 29) (.tmp 30) 31 rfl HRUN.out ?_)
      refine(Bzl 172 #[] oddW A2 c2 LL w2 HRD.out hL2.out Gzh (fun x _ w4 _=>(Jzr x w4).mono ?_)).mono ?_
      ·rintro e w5 ⟨rfl,rfl⟩
       exact⟨rfl,Below.refl _ _⟩
      rw[HLL.out,HODD.out];rintro e w3 ⟨rfl,hb3⟩;have hb23:=hb2.trans (hb3.mono hb2.size);have hbw3:=hbw.trans (hb23.mono hbw.size);have hO3:=hO1.below hb23 hO1.lt;have hR3:=hR1.below hb23 hR1.lt;clear p0;have hwd:=Pzz HODD.out;have HW:=Lib.hid hwd;have h0s:Hid (∀ x∈ [r0,r1,r2,r3,r4,r5,r6,r7],0≤x):=fun x hx=>(hwd x (List.mem_append_left _ hx)).1
      have hm0:Hid (∀ x∈mem,0≤x):=fun x hx=>(hwd x (List.mem_append_right _ hx)).1
      clear hwd;have hm3:=((hm.below hbw3).more hbw3.size).rd;have HM3:=Lib.hid (hm3.below (Below.drewN' (Below.refl _ _) 1));clear hm3;obtain⟨c0,c1,c2,c3,c4,c5,c6,c7, -⟩:=hR3.a11;simp at c0 c1 c2 c3 c4 c5 c6 c7;have hgr3:=hR3.lt;go_wp2;have HTT:=Lib.hid (Fzr Am mem.length cm (intCells mem) w3.drew HM3.out HNIL.out (Ezv _) (by omega));go_region_held3 (fun w'=>w'.cell? ⟨gr,0,none⟩=some (.int .i64 r0)∧w'.cell? ⟨gr,1,none⟩=some (.int .i64 r1)∧w'.cell? ⟨gr,2,none⟩=some (.int .i64 r2)∧w'.cell? ⟨gr,3,none⟩=some (.int .i64 r3)∧w'.cell? ⟨gr,4,none⟩=some (.int .i64 r4)∧w'.cell? ⟨gr,5,none⟩=some (.int .i64 r5)∧w'.cell? ⟨gr,6,none⟩=some (.int .i64 r6)∧w'.cell? ⟨gr,7,none⟩=some (.int .i64 r7))
       (first|exact⟨s0,s1,s2,s3,s4,s5,s6,s7⟩|exact⟨c0,c1,c2,c3,c4,c5,c6,c7⟩|go_keep)
       (first|(go_at_call 54;refine(HTT.out).mono ?_;rintro e w4 ⟨A4,k4,rfl,hown4,hb4⟩;have s0:=(hb4.cell (p:=⟨gr,0,none⟩) hgr3).trans c0;have s1:=(hb4.cell (p:=⟨gr,1,none⟩) hgr3).trans c1;have s2:=(hb4.cell (p:=⟨gr,2,none⟩) hgr3).trans c2;have s3:=(hb4.cell (p:=⟨gr,3,none⟩) hgr3).trans c3;have s4:=(hb4.cell (p:=⟨gr,4,none⟩) hgr3).trans c4;have s5:=(hb4.cell (p:=⟨gr,5,none⟩) hgr3).trans c5;have s6:=(hb4.cell (p:=⟨gr,6,none⟩) hgr3).trans c6;have s7:=(hb4.cell (p:=⟨gr,7,none⟩) hgr3).trans c7))
      have hM0:Mach w3 (w4.alloc (.cells #[.slice A l.length c, .int .i64 0, .slice none 0 0, .int .i64 0, .int .i64 r0, .int .i64 r1, .int .i64 r2, .int .i64 r3, .int .i64 r4, .int .i64 r5, .int .i64 r6, .int .i64 r7, .slice none 0 0, .slice A4 mem.length k4] 226)) w4.heap.size (.slice A l.length c) (toMc [r0,r1,r2,r3,r4,r5,r6,r7] mem) 0 (.slice none 0 0) (.slice none 0 0) (.slice A4 mem.length k4):=by
       have hb34:Below w3.heap.size w3 w4:=(Below.drewN' (Below.refl w3.heap.size w3) 1).trans hb4;have ho:=hown4;rw[Lzd hm0.out] at ho;refine⟨hb34.alloc hb34.size _,hb34.size,?_,World.ownsRow_nil _ _ _ _,World.ownsRow_nil _ _ _ _,?_, .inl rfl, .inl rfl, .inl rfl⟩
       ·have:=Blk.new w4 226 (Azg (.slice A l.length c) 0 (.slice none 0 0) 0 ([r0,r1,r2,r3,r4,r5,r6,r7].map Int.toNat) (.slice none 0 0) (.slice A4 mem.length k4))
        rw[Kzc h0s.out] at this;show Blk _ _ _ (Azg (.slice A l.length c) 0 (.slice none 0 0) 0 ([r0,r1,r2,r3,r4,r5,r6,r7].map Int.toNat) (.slice none 0 0) (.slice A4 mem.length k4));rw[Kzc h0s.out];exact this
       ·show World.ownsRow _ _ _ _ _ (mem.map Int.toNat).length (Bzi (mem.map Int.toNat))
        rw[List.length_map];exact ho.alloc _
      have HM0:=Lib.hid hM0;have hgm:w4.heap.size≠gO:=by have:=hO1.lt;have:=hb23.size;have:=hb4.size;simp at this;omega
      clear hM0 hown4 s0 s1 s2 s3 s4 s5 s6 s7 c0 c1 c2 c3 c4 c5 c6 c7 HTT HM3 HRUN HRD hL2 HLL hR3 hR1 hgr3 hgrl;generalize w4.alloc (.cells #[.slice A l.length c, .int .i64 0, .slice none 0 0, .int .i64 0, .int .i64 r0, .int .i64 r1, .int .i64 r2, .int .i64 r3, .int .i64 r4, .int .i64 r5, .int .i64 r6, .int .i64 r7, .slice none 0 0, .slice A4 mem.length k4] 226)=w5 at*;obtain⟨g,hg⟩:∃ g,g=w4.heap.size:=⟨_,rfl⟩;rw[←hg] at HM0 hgm ⊢;clear hg;obtain⟨n,rfl⟩:∃ n:Nat,fuel=(n:Int):=⟨fuel.toNat,by omega⟩;have hck:Hid (Fz4 l):=Bz4 HC.out;have h200:l.length≤200:=((Azo l).1 HC.out).1;have hr3:=hr.below hbw3;have HR3:=Lib.hid (hr3.more hbw3.size);clear hr3;go_wp2;go_loopw [3] (fun f wr=>Cnt n f fun k=>Hid (Loop w3 wr g (.slice A l.length c) l n (toMc [r0,r1,r2,r3,r4,r5,r6,r7] mem) k)) (fun f _=>(intOf f).toNat)
      case atStart=>exact⟨n,Nat.le_refl _,rfl,_,0,_,_,_,HM0.out,Rzl rfl HW.out,rfl, .inl ⟨rfl,rfl⟩⟩
      case round=>
       obtain⟨k,hk,rfl,hL⟩:=hrel;obtain⟨s,en,B,T,M,hM,hok,hmm,hrn⟩:=hL.out;have HM:=Lib.hid hM;have HOK:=Lib.hid hok;have HMM:=Lib.hid hmm;have HRN:=Lib.hid hrn;obtain⟨-, -, -,m3, -, -, -,m3f, -⟩:=hM.blk.a4;simp[Azg,natV] at m3;have hgl:=hM.blk.lt;clear hM hok hmm hrn hL;by_cases hen:en=0
       ·subst hen
        have hr1:Hid (runs l k s=runs l n (toMc [r0,r1,r2,r3,r4,r5,r6,r7] mem)):=by
         rcases HRN.out with⟨_,h⟩|⟨h,_⟩
         ·exact h
         ·exact absurd rfl h
        clear HRN;by_cases hk0:k=0
        ·subst hk0
         have HRS:Hid (Dzp l [r0,r1,r2,r3,r4,r5,r6,r7] mem (n:Int)=(s,2)):=by
          show _=_;unfold Dzp;rw[HE.out,if_pos rfl,Int.toNat_natCast, ←hr1.out];rfl
         obtain⟨AT,kT,hTT⟩:=Az5 HM.out.ot;obtain⟨AM,kM,hMM⟩:=Az5 HM.out.om;subst hTT hMM;have hOr:=hO3.below HM.out.below hO3.lt;have hog:gO≠g:=fun e=>hgm e.symm
         have hol:=hOr.lt;have x4:=HM.out.blk.cell 4;have x5:=HM.out.blk.cell 5;have x6:=HM.out.blk.cell 6;have x7:=HM.out.blk.cell 7;have x8:=HM.out.blk.cell 8;have x9:=HM.out.blk.cell 9;have x10:=HM.out.blk.cell 10;have x11:=HM.out.blk.cell 11;have x12:=HM.out.blk.cell 12;have x13:=HM.out.blk.cell 13;obtain⟨q0,q1,q2,q3,q4,q5,q6,q7,q8,q9,q10,p0,p1,p2,p3,p4,p5,p6,p7,p8,p9,p10, -⟩:=hOr.a11;simp only[Azg,natV,List.getElem?_toArray,List.getElem?_cons_succ,List.getElem?_cons_zero] at x4 x5 x6 x7 x8 x9 x10 x11 x12 x13;simp at q0 q1 q2 q3 q4 q5 q6 q7 q8 q9 q10;obtain⟨v0,hv0⟩:∃ v:Nat,v=s.regs.getD 0 0:=⟨_,rfl⟩;obtain⟨v1,hv1⟩:∃ v:Nat,v=s.regs.getD 1 0:=⟨_,rfl⟩;obtain⟨v2,hv2⟩:∃ v:Nat,v=s.regs.getD 2 0:=⟨_,rfl⟩;obtain⟨v3,hv3⟩:∃ v:Nat,v=s.regs.getD 3 0:=⟨_,rfl⟩;obtain⟨v4,hv4⟩:∃ v:Nat,v=s.regs.getD 4 0:=⟨_,rfl⟩;obtain⟨v5,hv5⟩:∃ v:Nat,v=s.regs.getD 5 0:=⟨_,rfl⟩;obtain⟨v6,hv6⟩:∃ v:Nat,v=s.regs.getD 6 0:=⟨_,rfl⟩;obtain⟨v7,hv7⟩:∃ v:Nat,v=s.regs.getD 7 0:=⟨_,rfl⟩;rw[←hv0] at x4;rw[←hv1] at x5;rw[←hv2] at x6;rw[←hv3] at x7;rw[←hv4] at x8;rw[←hv5] at x9;rw[←hv6] at x10;rw[←hv7] at x11;have HV:Hid (outV 2 s.regs (.slice AT s.told.length kT) (.slice AM s.mem.length kM)= .agg #[.int .i64 ((2:Nat):Int), .int .i64 (v0:Int), .int .i64 (v1:Int), .int .i64 (v2:Int), .int .i64 (v3:Int), .int .i64 (v4:Int), .int .i64 (v5:Int), .int .i64 (v6:Int), .int .i64 (v7:Int), .slice AT s.told.length kT, .slice AM s.mem.length kM]):=by
          show _=_;rw[hv0,hv1,hv2,hv3,hv4,hv5,hv6,hv7];rfl
         clear hv0 hv1 hv2 hv3 hv4 hv5 hv6 hv7;have HOR:=Lib.hid hOr;clear hOr;go_wp2;refine bodyPost_ret (v:= .tuple #[.agg #[.int .i64 ((2:Nat):Int), .int .i64 (v0:Int), .int .i64 (v1:Int), .int .i64 (v2:Int), .int .i64 (v3:Int), .int .i64 (v4:Int), .int .i64 (v5:Int), .int .i64 (v6:Int), .int .i64 (v7:Int), .slice AT s.told.length kT, .slice AM s.mem.length kM], .int .i64 0]) (by simp[results,Tryd.results156,go_sem,q0,q1,q2,q3,q4,q5,q6,q7,q8,q9,q10]) rfl ?_;unfold RunPost;rw[HRS.out,HE.out];have hM9:=HM.out.setend 2;have hO9:=HOR.out.far (p:=⟨g,3,none⟩) hog (natV 2);refine⟨_,_,by rw[HV.out],own_base (hM9.ot.kept (Czl gO [.int .i64 ((2:Nat):Int), .int .i64 (v0:Int), .int .i64 (v1:Int), .int .i64 (v2:Int), .int .i64 (v3:Int), .int .i64 (v4:Int), .int .i64 (v5:Int), .int .i64 (v6:Int), .int .i64 (v7:Int), .slice AT s.told.length kT, .slice AM s.mem.length kM] 0 _) (.inr (Az9 hM9.ot hO9 (by decide)))) hbw3.size,own_base (hM9.om.kept (Czl gO [.int .i64 ((2:Nat):Int), .int .i64 (v0:Int), .int .i64 (v1:Int), .int .i64 (v2:Int), .int .i64 (v3:Int), .int .i64 (v4:Int), .int .i64 (v5:Int), .int .i64 (v6:Int), .int .i64 (v7:Int), .slice AT s.told.length kT, .slice AM s.mem.length kM] 0 _) (.inr (Az9 hM9.om hO9 (by decide)))) hbw3.size,Bzu hgo0 [.int .i64 ((2:Nat):Int), .int .i64 (v0:Int), .int .i64 (v1:Int), .int .i64 (v2:Int), .int .i64 (v3:Int), .int .i64 (v4:Int), .int .i64 (v5:Int), .int .i64 (v6:Int), .int .i64 (v7:Int), .slice AT s.told.length kT, .slice AM s.mem.length kM] 0 _ (hbw3.trans (hM9.below.mono hbw3.size))⟩
        ·obtain⟨k',rfl⟩:∃ k',k=k'+1:=⟨k - 1,by omega⟩
         have hk1:(((k'+1:Nat):Int) == 0)=false:=by rw[beq_eq_false_iff_ne];omega
         have hk2:((k':Int)+1 == 0)=false:=by rw[beq_eq_false_iff_ne];omega
         have hk3:(k':Int)≤20000:=by omega
         clear hk0;go_wp2_with fail;refine(Pzs w3 g c A l s B T M _ HR3.out h200 hck.out HM.out HOK.out (by rw[HMM.out];simp[toMc];omega)).mono ?_;rintro e w6 ⟨B',T',M',rfl,hM'⟩;obtain⟨z,hz⟩:∃ z,z=(step l s).2:=⟨_,rfl⟩;rw[←hz];have HZ:=Lib.hid hz;obtain⟨-, -, -,y3, -, -, -,y3f, -⟩:=hM'.blk.a4;simp[Azg,natV] at y3;have HM':=Lib.hid hM';have hL':Hid (Loop w3 (w6.setCell ⟨g,3,none⟩ (natV z)) g (.slice A l.length c) l n (toMc [r0,r1,r2,r3,r4,r5,r6,r7] mem) k'):=by
          refine⟨(step l s).1,z,B',T',M',hM'.setend z,step_ok hck.out HOK.out,by rw[step_mem];exact HMM.out,?_⟩;by_cases h0:z=0
          ·left
           refine⟨h0,?_⟩;rw[←hr1.out,Gz9 (by rw[←HZ.out];exact h0)]
          ·right
           refine⟨h0,?_⟩;rw[←hr1.out,Dza (by rw[←HZ.out];exact h0),HZ.out]
         clear hM' hz;go_wp2;go_roundw
         case rel=>exact⟨k',by omega,by go_num,hL'⟩
         case measure=>simp[intOf]
       ·have hen1:((en:Int) == 0)=false:=by rw[beq_eq_false_iff_ne];omega
        have HRS:Hid (Dzp l [r0,r1,r2,r3,r4,r5,r6,r7] mem (n:Int)=(s,en)):=by
         show _=_;unfold Dzp;rw[HE.out,if_pos rfl,Int.toNat_natCast];rcases HRN.out with⟨h,_⟩|⟨_,h⟩
         ·exact absurd h hen
         ·exact h
        clear HRN;obtain⟨AT,kT,hTT⟩:=Az5 HM.out.ot;obtain⟨AM,kM,hMM⟩:=Az5 HM.out.om;subst hTT hMM;have hOr:=hO3.below HM.out.below hO3.lt;have hog:gO≠g:=fun e=>hgm e.symm
        have hol:=hOr.lt;have x4:=HM.out.blk.cell 4;have x5:=HM.out.blk.cell 5;have x6:=HM.out.blk.cell 6;have x7:=HM.out.blk.cell 7;have x8:=HM.out.blk.cell 8;have x9:=HM.out.blk.cell 9;have x10:=HM.out.blk.cell 10;have x11:=HM.out.blk.cell 11;have x12:=HM.out.blk.cell 12;have x13:=HM.out.blk.cell 13;obtain⟨q0,q1,q2,q3,q4,q5,q6,q7,q8,q9,q10,p0,p1,p2,p3,p4,p5,p6,p7,p8,p9,p10, -⟩:=hOr.a11;simp only[Azg,natV,List.getElem?_toArray,List.getElem?_cons_succ,List.getElem?_cons_zero] at x4 x5 x6 x7 x8 x9 x10 x11 x12 x13;simp at q0 q1 q2 q3 q4 q5 q6 q7 q8 q9 q10;obtain⟨v0,hv0⟩:∃ v:Nat,v=s.regs.getD 0 0:=⟨_,rfl⟩;obtain⟨v1,hv1⟩:∃ v:Nat,v=s.regs.getD 1 0:=⟨_,rfl⟩;obtain⟨v2,hv2⟩:∃ v:Nat,v=s.regs.getD 2 0:=⟨_,rfl⟩;obtain⟨v3,hv3⟩:∃ v:Nat,v=s.regs.getD 3 0:=⟨_,rfl⟩;obtain⟨v4,hv4⟩:∃ v:Nat,v=s.regs.getD 4 0:=⟨_,rfl⟩;obtain⟨v5,hv5⟩:∃ v:Nat,v=s.regs.getD 5 0:=⟨_,rfl⟩;obtain⟨v6,hv6⟩:∃ v:Nat,v=s.regs.getD 6 0:=⟨_,rfl⟩;obtain⟨v7,hv7⟩:∃ v:Nat,v=s.regs.getD 7 0:=⟨_,rfl⟩;rw[←hv0] at x4;rw[←hv1] at x5;rw[←hv2] at x6;rw[←hv3] at x7;rw[←hv4] at x8;rw[←hv5] at x9;rw[←hv6] at x10;rw[←hv7] at x11;have HV:Hid (outV en s.regs (.slice AT s.told.length kT) (.slice AM s.mem.length kM)= .agg #[.int .i64 ((en:Nat):Int), .int .i64 (v0:Int), .int .i64 (v1:Int), .int .i64 (v2:Int), .int .i64 (v3:Int), .int .i64 (v4:Int), .int .i64 (v5:Int), .int .i64 (v6:Int), .int .i64 (v7:Int), .slice AT s.told.length kT, .slice AM s.mem.length kM]):=by
         show _=_;rw[hv0,hv1,hv2,hv3,hv4,hv5,hv6,hv7];rfl
        clear hv0 hv1 hv2 hv3 hv4 hv5 hv6 hv7;have HOR:=Lib.hid hOr;clear hOr;go_wp2;refine bodyPost_ret (v:= .tuple #[.agg #[.int .i64 ((en:Nat):Int), .int .i64 (v0:Int), .int .i64 (v1:Int), .int .i64 (v2:Int), .int .i64 (v3:Int), .int .i64 (v4:Int), .int .i64 (v5:Int), .int .i64 (v6:Int), .int .i64 (v7:Int), .slice AT s.told.length kT, .slice AM s.mem.length kM], .int .i64 0]) (by simp[results,Tryd.results156,go_sem,q0,q1,q2,q3,q4,q5,q6,q7,q8,q9,q10]) rfl ?_;unfold RunPost;rw[HRS.out,HE.out];have hM9:=HM.out;have hO9:=HOR.out;refine⟨_,_,by rw[HV.out],own_base (hM9.ot.kept (Czl gO [.int .i64 ((en:Nat):Int), .int .i64 (v0:Int), .int .i64 (v1:Int), .int .i64 (v2:Int), .int .i64 (v3:Int), .int .i64 (v4:Int), .int .i64 (v5:Int), .int .i64 (v6:Int), .int .i64 (v7:Int), .slice AT s.told.length kT, .slice AM s.mem.length kM] 0 _) (.inr (Az9 hM9.ot hO9 (by decide)))) hbw3.size,own_base (hM9.om.kept (Czl gO [.int .i64 ((en:Nat):Int), .int .i64 (v0:Int), .int .i64 (v1:Int), .int .i64 (v2:Int), .int .i64 (v3:Int), .int .i64 (v4:Int), .int .i64 (v5:Int), .int .i64 (v6:Int), .int .i64 (v7:Int), .slice AT s.told.length kT, .slice AM s.mem.length kM] 0 _) (.inr (Az9 hM9.om hO9 (by decide)))) hbw3.size,Bzu hgo0 [.int .i64 ((en:Nat):Int), .int .i64 (v0:Int), .int .i64 (v1:Int), .int .i64 (v2:Int), .int .i64 (v3:Int), .int .i64 (v4:Int), .int .i64 (v5:Int), .int .i64 (v6:Int), .int .i64 (v7:Int), .slice AT s.told.length kT, .slice AM s.mem.length kM] 0 _ (hbw3.trans (hM9.below.mono hbw3.size))⟩
 ·have HC:=Lib.hid hc0
  have hc1:(check l == 0)=false:=by rw[beq_eq_false_iff_ne];exact hc0
  have hc2:(check l != 0)=true:=by rw[bne_iff_ne];exact hc0
  have HE:Hid (Cz0 l [r0,r1,r2,r3,r4,r5,r6,r7] mem fuel=check l):=by
   show _=_;rw[Cz0,if_neg HC.out]
  clear hc0;go_enter Tryd.func156,Tryd.ntmps156;go_wp2_with fail;obtain⟨V,hV,hB0,hRB,hOB⟩:=Gz8 w r0 r1 r2 r3 r4 r5 r6 r7;rw[hV];clear hV;refine(Bzc A c l V ((hr.below hB0).more hB0.size) (ht.below hB0) HL.out).mono ?_;rintro e w1 ⟨rfl,hb1⟩;have hbw:=hB0.trans (hb1.mono hB0.size);have hR1:=hRB.below hb1 hRB.lt;have hO1:=hOB.below hb1 hOB.lt;obtain⟨gr,hgr⟩:∃ gr,gr=w.heap.size:=⟨_,rfl⟩;obtain⟨gO,hgo⟩:∃ gO,gO=w.heap.size+1:=⟨_,rfl⟩;have hgr0:w.heap.size≤gr:=by omega
  have hgo0:w.heap.size≤gO:=by omega
  have hgg:gr≠gO:=by omega
  rw[←hgo] at hO1 ⊢;rw[←hgr] at hR1 ⊢;clear hgr hgo hRB hOB hB0 hb1 V;obtain⟨q0,q1,q2,q3,q4,q5,q6,q7,q8,q9,q10,p0,p1,p2,p3,p4,p5,p6,p7,p8,p9,p10, -⟩:=hO1.a11;simp at q0 q1 q2 q3 q4 q5 q6 q7 q8 q9 q10;go_wp2;refine bodyPost_ret (v:= .tuple #[.agg #[.int .i64 0, .int .i64 0, .int .i64 0, .int .i64 0, .int .i64 0, .int .i64 0, .int .i64 0, .int .i64 0, .int .i64 0, .slice none 0 0, .slice none 0 0], .int .i64 (check l)]) (by simp[results,Tryd.results156,go_sem,q0,q1,q2,q3,q4,q5,q6,q7,q8,q9,q10]) rfl (RunPost.no (n:=(check l)) HE.out HC.out rfl (Bzu hgo0 [.int .i64 0, .int .i64 0, .int .i64 0, .int .i64 0, .int .i64 0, .int .i64 0, .int .i64 0, .int .i64 0, .int .i64 0, .slice none 0 0, .slice none 0 0] 0 _ hbw))
set_option linter.unusedVariables false
theorem Szt:RunC 156:=fun A Am c cm l n e mem W h1 h2 h3 h4 h5 h6=>Qza A Am c cm l n 0 0 0 e e 63 0 mem 2000 W h1 h2 h3 h4 h5 h6
open Go.RowKit Go.WideShapes Go.ChangeShapes Go.ChangeAt Go.Deep Go.Joins
section
variable {H:Type} {enc:TypeId × Value→H} {P:Program}
theorem Szk {W:World} {base:Nat} {spare:Nat→Bool} {held:Bool} {t:TypeId} {f0 f1 f2 f3:Field} {v:Value} {d:DataW H} {p:List MemPlace} {r:Reach} {b0:Nat}
  (ht:P.underlying t=some (.struct #[f0,f1,f2,f3])) (hone:oneCellFields P #[f0,f1,f2,f3]=true) (hC:P.cellsOf t=4)
  (h0:P.underlying f0.type=some (.int .i64)) (h1:P.underlying f1.type=some (.int .i64)) (h2:P.underlying f2.type=some (.int .i64)) (h3:P.underlying f3.type=some (.int .i64))
  (hv:Value.okWide P W r b0 t v) (h:DataW.Trod enc P W base spare held t v d p):
  ∃ i:Ins,v= .agg #[.int .i64 i.op, .int .i64 i.a, .int .i64 i.b, .int .i64 i.c]∧i.wf:=by
 obtain⟨v0,v1,v2,v3,y0,y1,y2,y3,n,rfl,_,_,g0,g1,g2,g3⟩:=open_agg4 ht hone hC hv h;obtain⟨n0,e0,_,w0⟩:=DataW.trod_int h0 g0;obtain⟨n1,e1,_,w1⟩:=DataW.trod_int h1 g1;obtain⟨n2,e2,_,w2⟩:=DataW.trod_int h2 g2;obtain⟨n3,e3,_,w3⟩:=DataW.trod_int h3 g3;simp at e0 e1 e2 e3;subst e0;subst e1;subst e2;subst e3;exact⟨⟨n0,n1,n2,n3⟩,rfl,Dzd w0,Dzd w1,Dzd w2,Dzd w3⟩
end
open Go.RowKit Go.WideShapes Go.ChangeShapes Go.ChangeAt Go.Deep
theorem Ozs:Tryd.prog.globalNamed "curfew/code.shapes" =some 1:=by kernel_rfl
theorem Iz6:(Tryd.prog.globals[1]?).map (·.type)=some 120:=by kernel_rfl
theorem Iz1:Tryd.prog.cellsOf 120=16:=by kernel_rfl
theorem Iz2:Tryd.prog.cellsOf 9=1:=by kernel_rfl
def shapesL:List (List UInt8):=[[],[114,45,119],[114,114,114],[114,114,114],[114,114,114],[114,114,114],[114,114,114],[114,114,114],[114,114,45],[114,114,45],[45,45,112],[114,45,112],[45,45,112],[45,45,45],[114,45,45],[45,45,45]]
theorem Rzk {W:World} (h:laidMet Tryd.prog [("curfew/code.shapes",Rows.laid_curfew_code_shapes)] W):Tab W:=by
 have hc:∀ k:Nat,k<16→W.cell? ⟨1,k,none⟩=some (.string (shp k)):=fun k hk=>by
  have hz:shapesL[k]? =some (shp k).data.toList:=by
   have:k=0∨k=1∨k=2∨k=3∨k=4∨k=5∨k=6∨k=7∨k=8∨k=9∨k=10∨k=11∨k=12∨k=13∨k=14∨k=15:=by omega
   rcases this with h|h|h|h|h|h|h|h|h|h|h|h|h|h|h|h<;>subst h<;>rfl
  exact Izo Ozs Iz6 Tryd.underlying120 Tryd.underlying9 Iz2 Iz1 (zs:=shapesL) h k _ hz
 exact⟨World.block_lt_of_cell? W _ (hc 0 (by omega)),hc⟩
noncomputable def laidWorld (os:Os):World:=
 { World.holding Tryd.prog os ⟨#[], #[],[]⟩ with heap:=(World.holding Tryd.prog os ⟨#[], #[],[]⟩).heap.modify 1 fun
   | .cells _ t frozen=> .cells (shapesL.map fun z=>Value.string ⟨z.toArray⟩).toArray t frozen
   | o=>o }
end Go.Proofs.YtdjamdbamkhblacDoor
