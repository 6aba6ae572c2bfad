/- The walk of cpu.Run: what it returns, for every code, registers, words and fuel. Condition: the listed table. The run's contract, put in for the program's cpu.Run. Condition: the listed table. The reference's machine in memory, and how each step keeps it: no condition. Words for the walk of the reference's RunOf. No condition. The body of the reference's loop, and where it stands: no condition. -/
import Derived.Test.YtdjamdbamkhblacGreatDoorStep
import Derived.ArgAppend
set_option maxRecDepth 100000
namespace Go.Proofs.YtdjamdbamkhblacGreatDoor
open Go.RowKit
section
variable {P:Program} {ops:Array Oper} {rest:List Oper} {o:Oper} {a:Act} {w w':World} {Q:Exit→Act→World→Prop} {v:Value}
theorem wpList_append_run (hw:Region.wanted o (yielded ops a.tmps)=true) (s x:Operand) (t:TypeId)
  (ho:o.op= .call { callee:= .builtin .append,args:= #[s,x],argTypes:= #[t,t] })
  (hrun:(Builtin.append_ #[t,t] o.type #[a.eval s,a.eval x]).run P w= .ok v w') (h:wpList P ops Q rest (a.put o.dst v) w'):wpList P ops Q (o::rest) a w:=
 wpList_step fun K hK=>by
  rw[if_pos hw];unfold Oper.wp execOp;simp only[ho,resolve,invoke,builtin,Sem.run_bind,Sem.run_pure,Result.andThen_ok,List.map_toArray,List.map_cons,List.map_nil,hrun];exact hK _ _ h
end
theorem Dzl (w:World) (g:Nat) (rv:List Value) (hrv:rv.length=8) (hc:∀ j u,rv[j]? =some u→w.cell? ⟨g,j,none⟩=some u) (hg:g<w.heap.size) (A:Option Addr) (n c:Nat) (xs:List Value)
  (hr:Rd w w.heap.size 1 A n xs) (hn:n≤1024):
  ∃ A' c' w',(Builtin.append_ #[25,25] 25 #[.slice (some ⟨g,0,none⟩) 8 8, .slice A n c]).run Tryz.prog w= .ok (.slice A' (8+n) c') w'∧Rd w' w'.heap.size 1 A' (8+n) (rv++xs)∧Below w.heap.size w w':=by
 obtain⟨i0,hi0,hz0,hz1,hz2⟩:=info_parts Dz1;rcases Nat.eq_zero_or_pos n with h0|h0
 ·subst h0
  have hx:xs=[]:=List.eq_nil_of_length_eq_zero (by simpa using hr.1);subst hx;refine⟨some ⟨g,0,none⟩,8,w,?_,⟨by simp[hrv],fun _=>⟨g,0,rfl,hg,fun j u hu=>by rw[Nat.zero_add];exact hc j u (by simpa using hu)⟩⟩,Below.refl _ _⟩;cases A with
  | none=>simp[Builtin.append_,run_underlying Tryz.underlying25,sizeOf,typeInfo,hi0,Builtin.lenOf,Builtin.firstCells,storeCells]
  | some ad=>
    have h:=run_append_room_cells (P:=Tryz.prog) (w:=w) 25 25 3 i0 Tryz.underlying25 hi0 g 0 8 8 ad 0 c [] (by simp) (by simp) (by simp) (by omega) (by simp) (by simp);exact h
 ·obtain⟨b,o,rfl,hb,hcell⟩:=hr.2 h0
  obtain⟨v',w',hrun,hown,hgr⟩:=run_append_arg_grows (P:=Tryz.prog) (w:=w) 25 25 3 i0 _ 1 8 Tryz.underlying25 hi0 hz0 hz1 hz2 rfl (by omega) ⟨g,0,none⟩ 8 8 rv (by simpa using hrv)
   (fun j u hu=>by rw[add_plain,Nat.zero_add];exact hc j u hu) ⟨b,o,none⟩ n c xs hr.1 (fun j u hu=>by rw[add_plain];exact hcell j u hu) (by omega) (by unfold maxLen;omega) (by omega)
  obtain⟨A',c',rfl⟩:=Az1 hown;exact⟨A',c',w',hrun,Rd.of_own hown,(Below.refl _ _).grown hgr (Nat.le_refl _) (by simp)⟩
theorem Hz3 {l:List Int} (h:∀ x∈l,0≤x):intCells l=Azx (l.map Int.toNat):=by
 unfold intCells Azx;rw[List.map_map];refine List.map_congr_left fun x hx=>?_
 have:=h x hx;show Value.int .i64 x=Value.int .i64 ((x.toNat:Nat):Int);rw[Int.toNat_of_nonneg this]
theorem Lzg {l:List Int} (h:l.any oddW=false):∀ x∈l,0≤x∧x≤65535:=by
 intro x hx;have:=(List.any_eq_false.1 h) x hx;simp[oddW] at this;omega
theorem Lz5 {C M:Value} {r0 r1 r2 r3 r4 r5 r6 r7:Int} (h:∀ x∈ [r0,r1,r2,r3,r4,r5,r6,r7],0≤x):
  Azr C 0 (.slice none 0 0) 0 ([r0,r1,r2,r3,r4,r5,r6,r7].map Int.toNat) (.slice none 0 0) M= #[C, .int .i64 0, .slice none 0 0, .int .i64 0, .int .i64 r0, .int .i64 r1, .int .i64 r2, .int .i64 r3, .int .i64 r4, .int .i64 r5, .int .i64 r6, .int .i64 r7, .slice none 0 0,M]:=by
 simp only[List.mem_cons,List.not_mem_nil,or_false,forall_eq_or_imp,forall_eq] at h;obtain⟨h0,h1,h2,h3,h4,h5,h6,h7⟩:=h;simp[Azr,natV];omega
theorem Ozc {regs mem:List Int} (h8:regs.length=8) (h:∀ x∈regs++mem,0≤x∧x≤65535):McOk (toMc regs mem):=by
 refine⟨by simp[toMc,h8],fun x hx=>?_,fun x hx=>?_,by simp[toMc],by simp[toMc]⟩
 ·simp only[toMc,List.mem_map] at hx
  obtain⟨y,hy,rfl⟩:=hx;have:=h y (List.mem_append_left _ hy);omega
 ·simp only[toMc,List.mem_map] at hx
  obtain⟨y,hy,rfl⟩:=hx;have:=h y (List.mem_append_right _ hy);omega
def Loop (w0 wr:World) (g:Nat) (C:Value) (l:List Ins) (n:Nat) (s0:Mc) (k:Nat):Prop:=
 ∃ s en B T M,Mach w0 wr g C s en B T M∧McOk s∧s.mem.length=s0.mem.length∧((en=0∧runs l k s=runs l n s0)∨(en≠0∧runs l n s0=(s,en)))
set_option maxHeartbeats 8000000 in
theorem Qzi (A Am:Option Addr) (c cm:Nat) (l:List Ins) (r0 r1 r2 r3 r4 r5 r6 r7:Int) (mem:List Int) (fuel:Int) (w:World) (hr:RdI w w.heap.size A l) (ht:Tab w) (hl:l.length≤maxLen)
  (hm:RdN w w.heap.size Am mem) (hml:mem.length≤maxLen) (hnil:Am=none→mem.length=0∧cm=0):
  Calls Tryz.prog 96 #[.slice A l.length c, .agg #[.int .i64 r0, .int .i64 r1, .int .i64 r2, .int .i64 r3, .int .i64 r4, .int .i64 r5, .int .i64 r6, .int .i64 r7], .slice Am mem.length cm, .int .i64 fuel] w
   (RunPost w (Czq l [r0,r1,r2,r3,r4,r5,r6,r7] mem fuel) (Azv l [r0,r1,r2,r3,r4,r5,r6,r7] mem fuel)):=by
 have HL:=Lib.hid hl;have HML:=Lib.hid hml;have HNIL:=Lib.hid hnil;clear hnil;unfold maxLen at hl hml;by_cases hc0:check l=0
 ·have HC:=Lib.hid hc0
  clear hc0;by_cases hbig:1024<mem.length
  ·have hbig2:(1024:Int)<(mem.length:Int):=by omega
   have HE:Hid (Azv l [r0,r1,r2,r3,r4,r5,r6,r7] mem fuel=1):=by
    show _=_;rw[Azv,if_pos HC.out,if_pos hbig]
   clear hbig;go_enter Tryz.func96,Tryz.ntmps96;go_wp2_with fail;obtain⟨V,hV,hB0,hRB,hOB⟩:=Czr w r0 r1 r2 r3 r4 r5 r6 r7;rw[hV];clear hV;refine(Czd A c l V ((hr.below hB0).more hB0.size) (ht.below hB0) HL.out).mono ?_;rw[HC.out];rintro e w1 ⟨rfl,hb1⟩;have hbw:=hB0.trans (hb1.mono hB0.size);have hR1:=hRB.below hb1 hRB.lt;have hO1:=hOB.below hb1 hOB.lt;obtain⟨gr,hgr⟩:∃ gr,gr=w.heap.size:=⟨_,rfl⟩;obtain⟨gO,hgo⟩:∃ gO,gO=w.heap.size+1:=⟨_,rfl⟩;have hgr0:w.heap.size≤gr:=by omega
   have hgo0:w.heap.size≤gO:=by omega
   have hgg:gr≠gO:=by omega
   rw[←hgo] at hO1 ⊢;rw[←hgr] at hR1 ⊢;clear hgr hgo hRB hOB hB0 hb1 V;obtain⟨q0,q1,q2,q3,q4,q5,q6,q7,q8,q9,q10,p0,p1,p2,p3,p4,p5,p6,p7,p8,p9,p10, -⟩:=hO1.a11;simp at q0 q1 q2 q3 q4 q5 q6 q7 q8 q9 q10;go_wp2;refine bodyPost_ret (v:= .tuple #[.agg #[.int .i64 0, .int .i64 0, .int .i64 0, .int .i64 0, .int .i64 0, .int .i64 0, .int .i64 0, .int .i64 0, .int .i64 0, .slice none 0 0, .slice none 0 0], .int .i64 1]) (by simp[results,Tryz.results96,go_sem,q0,q1,q2,q3,q4,q5,q6,q7,q8,q9,q10]) rfl (RunPost.no (n:=1) HE.out (by omega) rfl (Bz3 hgo0 [.int .i64 0, .int .i64 0, .int .i64 0, .int .i64 0, .int .i64 0, .int .i64 0, .int .i64 0, .int .i64 0, .int .i64 0, .slice none 0 0, .slice none 0 0] 0 _ hbw))
  ·have hbig2:(mem.length:Int)≤1024:=by omega
   by_cases hf:fuel<0∨20000<fuel
   ·have HE:Hid (Azv l [r0,r1,r2,r3,r4,r5,r6,r7] mem fuel=2):=by
     show _=_;rw[Azv,if_pos HC.out,if_neg hbig,if_pos (by rcases hf with h|h<;>simp[h])]
    clear hbig;rcases hf with hf|hf
    all_goals
     go_enter Tryz.func96,Tryz.ntmps96;go_wp2_with fail;obtain⟨V,hV,hB0,hRB,hOB⟩:=Czr w r0 r1 r2 r3 r4 r5 r6 r7;rw[hV];clear hV;refine(Czd A c l V ((hr.below hB0).more hB0.size) (ht.below hB0) HL.out).mono ?_;rw[HC.out];rintro e w1 ⟨rfl,hb1⟩;have hbw:=hB0.trans (hb1.mono hB0.size);have hR1:=hRB.below hb1 hRB.lt;have hO1:=hOB.below hb1 hOB.lt;obtain⟨gr,hgr⟩:∃ gr,gr=w.heap.size:=⟨_,rfl⟩;obtain⟨gO,hgo⟩:∃ gO,gO=w.heap.size+1:=⟨_,rfl⟩;have hgr0:w.heap.size≤gr:=by omega
     have hgo0:w.heap.size≤gO:=by omega
     have hgg:gr≠gO:=by omega
     rw[←hgo] at hO1 ⊢;rw[←hgr] at hR1 ⊢;clear hgr hgo hRB hOB hB0 hb1 V;obtain⟨q0,q1,q2,q3,q4,q5,q6,q7,q8,q9,q10,p0,p1,p2,p3,p4,p5,p6,p7,p8,p9,p10, -⟩:=hO1.a11;simp at q0 q1 q2 q3 q4 q5 q6 q7 q8 q9 q10;go_wp2;refine bodyPost_ret (v:= .tuple #[.agg #[.int .i64 0, .int .i64 0, .int .i64 0, .int .i64 0, .int .i64 0, .int .i64 0, .int .i64 0, .int .i64 0, .int .i64 0, .slice none 0 0, .slice none 0 0], .int .i64 2]) (by simp[results,Tryz.results96,go_sem,q0,q1,q2,q3,q4,q5,q6,q7,q8,q9,q10]) rfl (RunPost.no (n:=2) HE.out (by omega) rfl (Bz3 hgo0 [.int .i64 0, .int .i64 0, .int .i64 0, .int .i64 0, .int .i64 0, .int .i64 0, .int .i64 0, .int .i64 0, .int .i64 0, .slice none 0 0, .slice none 0 0] 0 _ hbw))
   ·have hf1:0≤fuel:=by omega
    have hf2:fuel≤20000:=by omega
    have hf3:decide (fuel<0)=false:=by simpa using hf1
    have hf4:decide (20000<fuel)=false:=by simpa using hf2
    cases hodd:([r0,r1,r2,r3,r4,r5,r6,r7]++mem).any oddW with
    | true=>
      have HE:Hid (Azv l [r0,r1,r2,r3,r4,r5,r6,r7] mem fuel=2):=by
       show _=_;rw[Azv,if_pos HC.out,if_neg hbig,if_pos (.inr (.inr hodd))]
      have HODD:=Lib.hid hodd;clear hbig hf hodd;go_enter Tryz.func96,Tryz.ntmps96;go_wp2_with fail;obtain⟨V,hV,hB0,hRB,hOB⟩:=Czr w r0 r1 r2 r3 r4 r5 r6 r7;rw[hV];clear hV;refine(Czd A c l V ((hr.below hB0).more hB0.size) (ht.below hB0) HL.out).mono ?_;rw[HC.out];rintro e w1 ⟨rfl,hb1⟩;have hbw:=hB0.trans (hb1.mono hB0.size);have hR1:=hRB.below hb1 hRB.lt;have hO1:=hOB.below hb1 hOB.lt;obtain⟨gr,hgr⟩:∃ gr,gr=w.heap.size:=⟨_,rfl⟩;obtain⟨gO,hgo⟩:∃ gO,gO=w.heap.size+1:=⟨_,rfl⟩;have hgr0:w.heap.size≤gr:=by omega
      have hgo0:w.heap.size≤gO:=by omega
      have hgg:gr≠gO:=by omega
      rw[←hgo] at hO1 ⊢;rw[←hgr] at hR1 ⊢;clear hgr hgo hRB hOB hB0 hb1 V;have hr8:∀ (j:Nat) (u:Value),(intCells [r0,r1,r2,r3,r4,r5,r6,r7])[j]? =some u→w1.cell? ⟨gr,j,none⟩=some u:=fun j u hu=>by rw[hR1.cell];simpa [intCells] using hu
      obtain⟨A2,c2,w2,hrun,hrd,hb2⟩:=Dzl w1 gr (intCells [r0,r1,r2,r3,r4,r5,r6,r7]) rfl hr8 hR1.lt Am mem.length cm (intCells mem) ((hm.below hbw).more hbw.size).rd (by omega);have hLL:8+mem.length=([r0,r1,r2,r3,r4,r5,r6,r7]++mem).length:=by simp;omega
      rw[hLL] at hrun hrd;have hrd2:RdN w2 w2.heap.size A2 ([r0,r1,r2,r3,r4,r5,r6,r7]++mem):=RdN.of (by rw[show intCells ([r0,r1,r2,r3,r4,r5,r6,r7]++mem)=intCells [r0,r1,r2,r3,r4,r5,r6,r7]++intCells mem by simp[intCells]];exact hrd);have hL2:=Lib.hid (show ([r0,r1,r2,r3,r4,r5,r6,r7]++mem).length≤maxLen by rw[←hLL];unfold maxLen;omega);have HRUN:=Lib.hid hrun;have HRD:=Lib.hid hrd2;have HR8:=Lib.hid hr8;obtain⟨LL,hLLL⟩:∃ LL,LL=[r0,r1,r2,r3,r4,r5,r6,r7]++mem:=⟨_,rfl⟩;rw[←hLLL] at HRUN HRD hL2;have HLL:=Lib.hid hLLL;clear hrun hrd hrd2 hLL hr8 hLLL;have p0:=hR1.cell 0;simp at p0;have hgrl:=hR1.lt;go_wp2_with (at_builtin;refine wpList_append_run (by rfl) (.tmp 29) (.tmp 30) 25 rfl HRUN.out ?_)
      refine(Bzy 104 #[] oddW A2 c2 LL w2 HRD.out hL2.out Gzt (fun x _ w4 _=>(Kzf x w4).mono ?_)).mono ?_
      ·rintro e w5 ⟨rfl,rfl⟩
       exact⟨rfl,Below.refl _ _⟩
      rw[HLL.out,HODD.out];rintro e w3 ⟨rfl,hb3⟩;have hb23:=hb2.trans (hb3.mono hb2.size);have hbw3:=hbw.trans (hb23.mono hbw.size);have hO3:=hO1.below hb23 hO1.lt;have hR3:=hR1.below hb23 hR1.lt;clear p0;obtain⟨q0,q1,q2,q3,q4,q5,q6,q7,q8,q9,q10,p0,p1,p2,p3,p4,p5,p6,p7,p8,p9,p10, -⟩:=hO3.a11;simp at q0 q1 q2 q3 q4 q5 q6 q7 q8 q9 q10;go_wp2;refine bodyPost_ret (v:= .tuple #[.agg #[.int .i64 0, .int .i64 0, .int .i64 0, .int .i64 0, .int .i64 0, .int .i64 0, .int .i64 0, .int .i64 0, .int .i64 0, .slice none 0 0, .slice none 0 0], .int .i64 2]) (by simp[results,Tryz.results96,go_sem,q0,q1,q2,q3,q4,q5,q6,q7,q8,q9,q10]) rfl (RunPost.no (n:=2) HE.out (by omega) rfl (Bz3 hgo0 [.int .i64 0, .int .i64 0, .int .i64 0, .int .i64 0, .int .i64 0, .int .i64 0, .int .i64 0, .int .i64 0, .int .i64 0, .slice none 0 0, .slice none 0 0] 0 _ hbw3))
    | false=>
      have HE:Hid (Azv l [r0,r1,r2,r3,r4,r5,r6,r7] mem fuel=0):=by
       show _=_;rw[Azv,if_pos HC.out,if_neg hbig,if_neg (by rw[hodd];intro h;rcases h with h|h|h;exact absurd h (by omega);exact absurd h (by omega);cases h)]
      have HODD:=Lib.hid hodd;clear hbig hf hodd;go_enter Tryz.func96,Tryz.ntmps96;go_wp2_with fail;obtain⟨V,hV,hB0,hRB,hOB⟩:=Czr w r0 r1 r2 r3 r4 r5 r6 r7;rw[hV];clear hV;refine(Czd A c l V ((hr.below hB0).more hB0.size) (ht.below hB0) HL.out).mono ?_;rw[HC.out];rintro e w1 ⟨rfl,hb1⟩;have hbw:=hB0.trans (hb1.mono hB0.size);have hR1:=hRB.below hb1 hRB.lt;have hO1:=hOB.below hb1 hOB.lt;obtain⟨gr,hgr⟩:∃ gr,gr=w.heap.size:=⟨_,rfl⟩;obtain⟨gO,hgo⟩:∃ gO,gO=w.heap.size+1:=⟨_,rfl⟩;have hgr0:w.heap.size≤gr:=by omega
      have hgo0:w.heap.size≤gO:=by omega
      have hgg:gr≠gO:=by omega
      rw[←hgo] at hO1 ⊢;rw[←hgr] at hR1 ⊢;clear hgr hgo hRB hOB hB0 hb1 V;have hr8:∀ (j:Nat) (u:Value),(intCells [r0,r1,r2,r3,r4,r5,r6,r7])[j]? =some u→w1.cell? ⟨gr,j,none⟩=some u:=fun j u hu=>by rw[hR1.cell];simpa [intCells] using hu
      obtain⟨A2,c2,w2,hrun,hrd,hb2⟩:=Dzl w1 gr (intCells [r0,r1,r2,r3,r4,r5,r6,r7]) rfl hr8 hR1.lt Am mem.length cm (intCells mem) ((hm.below hbw).more hbw.size).rd (by omega);have hLL:8+mem.length=([r0,r1,r2,r3,r4,r5,r6,r7]++mem).length:=by simp;omega
      rw[hLL] at hrun hrd;have hrd2:RdN w2 w2.heap.size A2 ([r0,r1,r2,r3,r4,r5,r6,r7]++mem):=RdN.of (by rw[show intCells ([r0,r1,r2,r3,r4,r5,r6,r7]++mem)=intCells [r0,r1,r2,r3,r4,r5,r6,r7]++intCells mem by simp[intCells]];exact hrd);have hL2:=Lib.hid (show ([r0,r1,r2,r3,r4,r5,r6,r7]++mem).length≤maxLen by rw[←hLL];unfold maxLen;omega);have HRUN:=Lib.hid hrun;have HRD:=Lib.hid hrd2;have HR8:=Lib.hid hr8;obtain⟨LL,hLLL⟩:∃ LL,LL=[r0,r1,r2,r3,r4,r5,r6,r7]++mem:=⟨_,rfl⟩;rw[←hLLL] at HRUN HRD hL2;have HLL:=Lib.hid hLLL;clear hrun hrd hrd2 hLL hr8 hLLL;have p0:=hR1.cell 0;simp at p0;have hgrl:=hR1.lt;go_wp2_with (at_builtin;refine wpList_append_run (by rfl) (.tmp 29) (.tmp 30) 25 rfl HRUN.out ?_)
      refine(Bzy 104 #[] oddW A2 c2 LL w2 HRD.out hL2.out Gzt (fun x _ w4 _=>(Kzf x w4).mono ?_)).mono ?_
      ·rintro e w5 ⟨rfl,rfl⟩
       exact⟨rfl,Below.refl _ _⟩
      rw[HLL.out,HODD.out];rintro e w3 ⟨rfl,hb3⟩;have hb23:=hb2.trans (hb3.mono hb2.size);have hbw3:=hbw.trans (hb23.mono hbw.size);have hO3:=hO1.below hb23 hO1.lt;have hR3:=hR1.below hb23 hR1.lt;clear p0;have hwd:=Lzg HODD.out;have HW:=Lib.hid hwd;have h0s:Hid (∀ x∈ [r0,r1,r2,r3,r4,r5,r6,r7],0≤x):=fun x hx=>(hwd x (List.mem_append_left _ hx)).1
      have hm0:Hid (∀ x∈mem,0≤x):=fun x hx=>(hwd x (List.mem_append_right _ hx)).1
      clear hwd;have hm3:=((hm.below hbw3).more hbw3.size).rd;have HM3:=Lib.hid (hm3.below (Below.drewN' (Below.refl _ _) 1));clear hm3;obtain⟨c0,c1,c2,c3,c4,c5,c6,c7, -⟩:=hR3.a11;simp at c0 c1 c2 c3 c4 c5 c6 c7;have hgr3:=hR3.lt;go_wp2;have HTT:=Lib.hid (Gz6 Am mem.length cm (intCells mem) w3.drew HM3.out HNIL.out (Dz3 _) (by omega));go_region_held3 (fun w'=>w'.cell? ⟨gr,0,none⟩=some (.int .i64 r0)∧w'.cell? ⟨gr,1,none⟩=some (.int .i64 r1)∧w'.cell? ⟨gr,2,none⟩=some (.int .i64 r2)∧w'.cell? ⟨gr,3,none⟩=some (.int .i64 r3)∧w'.cell? ⟨gr,4,none⟩=some (.int .i64 r4)∧w'.cell? ⟨gr,5,none⟩=some (.int .i64 r5)∧w'.cell? ⟨gr,6,none⟩=some (.int .i64 r6)∧w'.cell? ⟨gr,7,none⟩=some (.int .i64 r7))
       (first|exact⟨s0,s1,s2,s3,s4,s5,s6,s7⟩|exact⟨c0,c1,c2,c3,c4,c5,c6,c7⟩|go_keep)
       (first|(go_at_call 42;refine(HTT.out).mono ?_;rintro e w4 ⟨A4,k4,rfl,hown4,hb4⟩;have s0:=(hb4.cell (p:=⟨gr,0,none⟩) hgr3).trans c0;have s1:=(hb4.cell (p:=⟨gr,1,none⟩) hgr3).trans c1;have s2:=(hb4.cell (p:=⟨gr,2,none⟩) hgr3).trans c2;have s3:=(hb4.cell (p:=⟨gr,3,none⟩) hgr3).trans c3;have s4:=(hb4.cell (p:=⟨gr,4,none⟩) hgr3).trans c4;have s5:=(hb4.cell (p:=⟨gr,5,none⟩) hgr3).trans c5;have s6:=(hb4.cell (p:=⟨gr,6,none⟩) hgr3).trans c6;have s7:=(hb4.cell (p:=⟨gr,7,none⟩) hgr3).trans c7))
      have hM0:Mach w3 (w4.alloc (.cells #[.slice A l.length c, .int .i64 0, .slice none 0 0, .int .i64 0, .int .i64 r0, .int .i64 r1, .int .i64 r2, .int .i64 r3, .int .i64 r4, .int .i64 r5, .int .i64 r6, .int .i64 r7, .slice none 0 0, .slice A4 mem.length k4] 140)) w4.heap.size (.slice A l.length c) (toMc [r0,r1,r2,r3,r4,r5,r6,r7] mem) 0 (.slice none 0 0) (.slice none 0 0) (.slice A4 mem.length k4):=by
       have hb34:Below w3.heap.size w3 w4:=(Below.drewN' (Below.refl w3.heap.size w3) 1).trans hb4;have ho:=hown4;rw[Hz3 hm0.out] at ho;refine⟨hb34.alloc hb34.size _,hb34.size,?_,World.ownsRow_nil _ _ _ _,World.ownsRow_nil _ _ _ _,?_, .inl rfl, .inl rfl, .inl rfl⟩
       ·have:=Blk.new w4 140 (Azr (.slice A l.length c) 0 (.slice none 0 0) 0 ([r0,r1,r2,r3,r4,r5,r6,r7].map Int.toNat) (.slice none 0 0) (.slice A4 mem.length k4))
        rw[Lz5 h0s.out] at this;show Blk _ _ _ (Azr (.slice A l.length c) 0 (.slice none 0 0) 0 ([r0,r1,r2,r3,r4,r5,r6,r7].map Int.toNat) (.slice none 0 0) (.slice A4 mem.length k4));rw[Lz5 h0s.out];exact this
       ·show World.ownsRow _ _ _ _ _ (mem.map Int.toNat).length (Azx (mem.map Int.toNat))
        rw[List.length_map];exact ho.alloc _
      have HM0:=Lib.hid hM0;have hgm:w4.heap.size≠gO:=by have:=hO1.lt;have:=hb23.size;have:=hb4.size;simp at this;omega
      clear hM0 hown4 s0 s1 s2 s3 s4 s5 s6 s7 c0 c1 c2 c3 c4 c5 c6 c7 HTT HM3 HRUN HRD hL2 HLL hR3 hR1 hgr3 hgrl;generalize w4.alloc (.cells #[.slice A l.length c, .int .i64 0, .slice none 0 0, .int .i64 0, .int .i64 r0, .int .i64 r1, .int .i64 r2, .int .i64 r3, .int .i64 r4, .int .i64 r5, .int .i64 r6, .int .i64 r7, .slice none 0 0, .slice A4 mem.length k4] 140)=w5 at*;obtain⟨g,hg⟩:∃ g,g=w4.heap.size:=⟨_,rfl⟩;rw[←hg] at HM0 hgm ⊢;clear hg;obtain⟨n,rfl⟩:∃ n:Nat,fuel=(n:Int):=⟨fuel.toNat,by omega⟩;have hck:Hid (Ez7 l):=Az5 HC.out;have h200:l.length≤200:=((Bzn l).1 HC.out).1;have hr3:=hr.below hbw3;have HR3:=Lib.hid (hr3.more hbw3.size);clear hr3;go_wp2;go_loopw [3] (fun f wr=>Cnt n f fun k=>Hid (Loop w3 wr g (.slice A l.length c) l n (toMc [r0,r1,r2,r3,r4,r5,r6,r7] mem) k)) (fun f _=>(intOf f).toNat)
      case atStart=>exact⟨n,Nat.le_refl _,rfl,_,0,_,_,_,HM0.out,Ozc rfl HW.out,rfl, .inl ⟨rfl,rfl⟩⟩
      case round=>
       obtain⟨k,hk,rfl,hL⟩:=hrel;obtain⟨s,en,B,T,M,hM,hok,hmm,hrn⟩:=hL.out;have HM:=Lib.hid hM;have HOK:=Lib.hid hok;have HMM:=Lib.hid hmm;have HRN:=Lib.hid hrn;obtain⟨-, -, -,m3, -, -, -,m3f, -⟩:=hM.blk.a4;simp[Azr,natV] at m3;have hgl:=hM.blk.lt;clear hM hok hmm hrn hL;by_cases hen:en=0
       ·subst hen
        have hr1:Hid (runs l k s=runs l n (toMc [r0,r1,r2,r3,r4,r5,r6,r7] mem)):=by
         rcases HRN.out with⟨_,h⟩|⟨h,_⟩
         ·exact h
         ·exact absurd rfl h
        clear HRN;by_cases hk0:k=0
        ·subst hk0
         have HRS:Hid (Czq l [r0,r1,r2,r3,r4,r5,r6,r7] mem (n:Int)=(s,2)):=by
          show _=_;unfold Czq;rw[HE.out,if_pos rfl,Int.toNat_natCast, ←hr1.out];rfl
         obtain⟨AT,kT,hTT⟩:=Az1 HM.out.ot;obtain⟨AM,kM,hMM⟩:=Az1 HM.out.om;subst hTT hMM;have hOr:=hO3.below HM.out.below hO3.lt;have hog:gO≠g:=fun e=>hgm e.symm
         have hol:=hOr.lt;have x4:=HM.out.blk.cell 4;have x5:=HM.out.blk.cell 5;have x6:=HM.out.blk.cell 6;have x7:=HM.out.blk.cell 7;have x8:=HM.out.blk.cell 8;have x9:=HM.out.blk.cell 9;have x10:=HM.out.blk.cell 10;have x11:=HM.out.blk.cell 11;have x12:=HM.out.blk.cell 12;have x13:=HM.out.blk.cell 13;obtain⟨q0,q1,q2,q3,q4,q5,q6,q7,q8,q9,q10,p0,p1,p2,p3,p4,p5,p6,p7,p8,p9,p10, -⟩:=hOr.a11;simp only[Azr,natV,List.getElem?_toArray,List.getElem?_cons_succ,List.getElem?_cons_zero] at x4 x5 x6 x7 x8 x9 x10 x11 x12 x13;simp at q0 q1 q2 q3 q4 q5 q6 q7 q8 q9 q10;obtain⟨v0,hv0⟩:∃ v:Nat,v=s.regs.getD 0 0:=⟨_,rfl⟩;obtain⟨v1,hv1⟩:∃ v:Nat,v=s.regs.getD 1 0:=⟨_,rfl⟩;obtain⟨v2,hv2⟩:∃ v:Nat,v=s.regs.getD 2 0:=⟨_,rfl⟩;obtain⟨v3,hv3⟩:∃ v:Nat,v=s.regs.getD 3 0:=⟨_,rfl⟩;obtain⟨v4,hv4⟩:∃ v:Nat,v=s.regs.getD 4 0:=⟨_,rfl⟩;obtain⟨v5,hv5⟩:∃ v:Nat,v=s.regs.getD 5 0:=⟨_,rfl⟩;obtain⟨v6,hv6⟩:∃ v:Nat,v=s.regs.getD 6 0:=⟨_,rfl⟩;obtain⟨v7,hv7⟩:∃ v:Nat,v=s.regs.getD 7 0:=⟨_,rfl⟩;rw[←hv0] at x4;rw[←hv1] at x5;rw[←hv2] at x6;rw[←hv3] at x7;rw[←hv4] at x8;rw[←hv5] at x9;rw[←hv6] at x10;rw[←hv7] at x11;have HV:Hid (outV 2 s.regs (.slice AT s.told.length kT) (.slice AM s.mem.length kM)= .agg #[.int .i64 ((2:Nat):Int), .int .i64 (v0:Int), .int .i64 (v1:Int), .int .i64 (v2:Int), .int .i64 (v3:Int), .int .i64 (v4:Int), .int .i64 (v5:Int), .int .i64 (v6:Int), .int .i64 (v7:Int), .slice AT s.told.length kT, .slice AM s.mem.length kM]):=by
          show _=_;rw[hv0,hv1,hv2,hv3,hv4,hv5,hv6,hv7];rfl
         clear hv0 hv1 hv2 hv3 hv4 hv5 hv6 hv7;have HOR:=Lib.hid hOr;clear hOr;go_wp2;refine bodyPost_ret (v:= .tuple #[.agg #[.int .i64 ((2:Nat):Int), .int .i64 (v0:Int), .int .i64 (v1:Int), .int .i64 (v2:Int), .int .i64 (v3:Int), .int .i64 (v4:Int), .int .i64 (v5:Int), .int .i64 (v6:Int), .int .i64 (v7:Int), .slice AT s.told.length kT, .slice AM s.mem.length kM], .int .i64 0]) (by simp[results,Tryz.results96,go_sem,q0,q1,q2,q3,q4,q5,q6,q7,q8,q9,q10]) rfl ?_;unfold RunPost;rw[HRS.out,HE.out];have hM9:=HM.out.setend 2;have hO9:=HOR.out.far (p:=⟨g,3,none⟩) hog (natV 2);refine⟨_,_,by rw[HV.out],own_base (hM9.ot.kept (Cz7 gO [.int .i64 ((2:Nat):Int), .int .i64 (v0:Int), .int .i64 (v1:Int), .int .i64 (v2:Int), .int .i64 (v3:Int), .int .i64 (v4:Int), .int .i64 (v5:Int), .int .i64 (v6:Int), .int .i64 (v7:Int), .slice AT s.told.length kT, .slice AM s.mem.length kM] 0 _) (.inr (Aza hM9.ot hO9 (by decide)))) hbw3.size,own_base (hM9.om.kept (Cz7 gO [.int .i64 ((2:Nat):Int), .int .i64 (v0:Int), .int .i64 (v1:Int), .int .i64 (v2:Int), .int .i64 (v3:Int), .int .i64 (v4:Int), .int .i64 (v5:Int), .int .i64 (v6:Int), .int .i64 (v7:Int), .slice AT s.told.length kT, .slice AM s.mem.length kM] 0 _) (.inr (Aza hM9.om hO9 (by decide)))) hbw3.size,Bz3 hgo0 [.int .i64 ((2:Nat):Int), .int .i64 (v0:Int), .int .i64 (v1:Int), .int .i64 (v2:Int), .int .i64 (v3:Int), .int .i64 (v4:Int), .int .i64 (v5:Int), .int .i64 (v6:Int), .int .i64 (v7:Int), .slice AT s.told.length kT, .slice AM s.mem.length kM] 0 _ (hbw3.trans (hM9.below.mono hbw3.size))⟩
        ·obtain⟨k',rfl⟩:∃ k',k=k'+1:=⟨k - 1,by omega⟩
         have hk1:(((k'+1:Nat):Int) == 0)=false:=by rw[beq_eq_false_iff_ne];omega
         have hk2:((k':Int)+1 == 0)=false:=by rw[beq_eq_false_iff_ne];omega
         have hk3:(k':Int)≤20000:=by omega
         clear hk0;go_wp2_with fail;refine(Pzu w3 g c A l s B T M _ HR3.out h200 hck.out HM.out HOK.out (by rw[HMM.out];simp[toMc];omega)).mono ?_;rintro e w6 ⟨B',T',M',rfl,hM'⟩;obtain⟨z,hz⟩:∃ z,z=(step l s).2:=⟨_,rfl⟩;rw[←hz];have HZ:=Lib.hid hz;obtain⟨-, -, -,y3, -, -, -,y3f, -⟩:=hM'.blk.a4;simp[Azr,natV] at y3;have HM':=Lib.hid hM';have hL':Hid (Loop w3 (w6.setCell ⟨g,3,none⟩ (natV z)) g (.slice A l.length c) l n (toMc [r0,r1,r2,r3,r4,r5,r6,r7] mem) k'):=by
          refine⟨(step l s).1,z,B',T',M',hM'.setend z,step_ok hck.out HOK.out,by rw[Gz3];exact HMM.out,?_⟩;by_cases h0:z=0
          ·left
           refine⟨h0,?_⟩;rw[←hr1.out,Iz2 (by rw[←HZ.out];exact h0)]
          ·right
           refine⟨h0,?_⟩;rw[←hr1.out,Bzt (by rw[←HZ.out];exact h0),HZ.out]
         clear hM' hz;go_wp2;go_roundw
         case rel=>exact⟨k',by omega,by go_num,hL'⟩
         case measure=>simp[intOf]
       ·have hen1:((en:Int) == 0)=false:=by rw[beq_eq_false_iff_ne];omega
        have HRS:Hid (Czq l [r0,r1,r2,r3,r4,r5,r6,r7] mem (n:Int)=(s,en)):=by
         show _=_;unfold Czq;rw[HE.out,if_pos rfl,Int.toNat_natCast];rcases HRN.out with⟨h,_⟩|⟨_,h⟩
         ·exact absurd h hen
         ·exact h
        clear HRN;obtain⟨AT,kT,hTT⟩:=Az1 HM.out.ot;obtain⟨AM,kM,hMM⟩:=Az1 HM.out.om;subst hTT hMM;have hOr:=hO3.below HM.out.below hO3.lt;have hog:gO≠g:=fun e=>hgm e.symm
        have hol:=hOr.lt;have x4:=HM.out.blk.cell 4;have x5:=HM.out.blk.cell 5;have x6:=HM.out.blk.cell 6;have x7:=HM.out.blk.cell 7;have x8:=HM.out.blk.cell 8;have x9:=HM.out.blk.cell 9;have x10:=HM.out.blk.cell 10;have x11:=HM.out.blk.cell 11;have x12:=HM.out.blk.cell 12;have x13:=HM.out.blk.cell 13;obtain⟨q0,q1,q2,q3,q4,q5,q6,q7,q8,q9,q10,p0,p1,p2,p3,p4,p5,p6,p7,p8,p9,p10, -⟩:=hOr.a11;simp only[Azr,natV,List.getElem?_toArray,List.getElem?_cons_succ,List.getElem?_cons_zero] at x4 x5 x6 x7 x8 x9 x10 x11 x12 x13;simp at q0 q1 q2 q3 q4 q5 q6 q7 q8 q9 q10;obtain⟨v0,hv0⟩:∃ v:Nat,v=s.regs.getD 0 0:=⟨_,rfl⟩;obtain⟨v1,hv1⟩:∃ v:Nat,v=s.regs.getD 1 0:=⟨_,rfl⟩;obtain⟨v2,hv2⟩:∃ v:Nat,v=s.regs.getD 2 0:=⟨_,rfl⟩;obtain⟨v3,hv3⟩:∃ v:Nat,v=s.regs.getD 3 0:=⟨_,rfl⟩;obtain⟨v4,hv4⟩:∃ v:Nat,v=s.regs.getD 4 0:=⟨_,rfl⟩;obtain⟨v5,hv5⟩:∃ v:Nat,v=s.regs.getD 5 0:=⟨_,rfl⟩;obtain⟨v6,hv6⟩:∃ v:Nat,v=s.regs.getD 6 0:=⟨_,rfl⟩;obtain⟨v7,hv7⟩:∃ v:Nat,v=s.regs.getD 7 0:=⟨_,rfl⟩;rw[←hv0] at x4;rw[←hv1] at x5;rw[←hv2] at x6;rw[←hv3] at x7;rw[←hv4] at x8;rw[←hv5] at x9;rw[←hv6] at x10;rw[←hv7] at x11;have HV:Hid (outV en s.regs (.slice AT s.told.length kT) (.slice AM s.mem.length kM)= .agg #[.int .i64 ((en:Nat):Int), .int .i64 (v0:Int), .int .i64 (v1:Int), .int .i64 (v2:Int), .int .i64 (v3:Int), .int .i64 (v4:Int), .int .i64 (v5:Int), .int .i64 (v6:Int), .int .i64 (v7:Int), .slice AT s.told.length kT, .slice AM s.mem.length kM]):=by
         show _=_;rw[hv0,hv1,hv2,hv3,hv4,hv5,hv6,hv7];rfl
        clear hv0 hv1 hv2 hv3 hv4 hv5 hv6 hv7;have HOR:=Lib.hid hOr;clear hOr;go_wp2;refine bodyPost_ret (v:= .tuple #[.agg #[.int .i64 ((en:Nat):Int), .int .i64 (v0:Int), .int .i64 (v1:Int), .int .i64 (v2:Int), .int .i64 (v3:Int), .int .i64 (v4:Int), .int .i64 (v5:Int), .int .i64 (v6:Int), .int .i64 (v7:Int), .slice AT s.told.length kT, .slice AM s.mem.length kM], .int .i64 0]) (by simp[results,Tryz.results96,go_sem,q0,q1,q2,q3,q4,q5,q6,q7,q8,q9,q10]) rfl ?_;unfold RunPost;rw[HRS.out,HE.out];have hM9:=HM.out;have hO9:=HOR.out;refine⟨_,_,by rw[HV.out],own_base (hM9.ot.kept (Cz7 gO [.int .i64 ((en:Nat):Int), .int .i64 (v0:Int), .int .i64 (v1:Int), .int .i64 (v2:Int), .int .i64 (v3:Int), .int .i64 (v4:Int), .int .i64 (v5:Int), .int .i64 (v6:Int), .int .i64 (v7:Int), .slice AT s.told.length kT, .slice AM s.mem.length kM] 0 _) (.inr (Aza hM9.ot hO9 (by decide)))) hbw3.size,own_base (hM9.om.kept (Cz7 gO [.int .i64 ((en:Nat):Int), .int .i64 (v0:Int), .int .i64 (v1:Int), .int .i64 (v2:Int), .int .i64 (v3:Int), .int .i64 (v4:Int), .int .i64 (v5:Int), .int .i64 (v6:Int), .int .i64 (v7:Int), .slice AT s.told.length kT, .slice AM s.mem.length kM] 0 _) (.inr (Aza hM9.om hO9 (by decide)))) hbw3.size,Bz3 hgo0 [.int .i64 ((en:Nat):Int), .int .i64 (v0:Int), .int .i64 (v1:Int), .int .i64 (v2:Int), .int .i64 (v3:Int), .int .i64 (v4:Int), .int .i64 (v5:Int), .int .i64 (v6:Int), .int .i64 (v7:Int), .slice AT s.told.length kT, .slice AM s.mem.length kM] 0 _ (hbw3.trans (hM9.below.mono hbw3.size))⟩
 ·have HC:=Lib.hid hc0
  have hc1:(check l == 0)=false:=by rw[beq_eq_false_iff_ne];exact hc0
  have hc2:(check l != 0)=true:=by rw[bne_iff_ne];exact hc0
  have HE:Hid (Azv l [r0,r1,r2,r3,r4,r5,r6,r7] mem fuel=check l):=by
   show _=_;rw[Azv,if_neg HC.out]
  clear hc0;go_enter Tryz.func96,Tryz.ntmps96;go_wp2_with fail;obtain⟨V,hV,hB0,hRB,hOB⟩:=Czr w r0 r1 r2 r3 r4 r5 r6 r7;rw[hV];clear hV;refine(Czd A c l V ((hr.below hB0).more hB0.size) (ht.below hB0) HL.out).mono ?_;rintro e w1 ⟨rfl,hb1⟩;have hbw:=hB0.trans (hb1.mono hB0.size);have hR1:=hRB.below hb1 hRB.lt;have hO1:=hOB.below hb1 hOB.lt;obtain⟨gr,hgr⟩:∃ gr,gr=w.heap.size:=⟨_,rfl⟩;obtain⟨gO,hgo⟩:∃ gO,gO=w.heap.size+1:=⟨_,rfl⟩;have hgr0:w.heap.size≤gr:=by omega
  have hgo0:w.heap.size≤gO:=by omega
  have hgg:gr≠gO:=by omega
  rw[←hgo] at hO1 ⊢;rw[←hgr] at hR1 ⊢;clear hgr hgo hRB hOB hB0 hb1 V;obtain⟨q0,q1,q2,q3,q4,q5,q6,q7,q8,q9,q10,p0,p1,p2,p3,p4,p5,p6,p7,p8,p9,p10, -⟩:=hO1.a11;simp at q0 q1 q2 q3 q4 q5 q6 q7 q8 q9 q10;go_wp2;refine bodyPost_ret (v:= .tuple #[.agg #[.int .i64 0, .int .i64 0, .int .i64 0, .int .i64 0, .int .i64 0, .int .i64 0, .int .i64 0, .int .i64 0, .int .i64 0, .slice none 0 0, .slice none 0 0], .int .i64 (check l)]) (by simp[results,Tryz.results96,go_sem,q0,q1,q2,q3,q4,q5,q6,q7,q8,q9,q10]) rfl (RunPost.no (n:=(check l)) HE.out HC.out rfl (Bz3 hgo0 [.int .i64 0, .int .i64 0, .int .i64 0, .int .i64 0, .int .i64 0, .int .i64 0, .int .i64 0, .int .i64 0, .int .i64 0, .slice none 0 0, .slice none 0 0] 0 _ hbw))
set_option linter.unusedVariables false
theorem Tz4:RunC 96:=fun A Am c cm l n e mem W h1 h2 h3 h4 h5 h6=>Qzi A Am c cm l n 0 0 0 e e 63 0 mem 2000 W h1 h2 h3 h4 h5 h6
def Bzj (en:Nat) (r:List Nat) (T M:Value):Array Value:=
 #[natV en,natV (r.getD 0 0),natV (r.getD 1 0),natV (r.getD 2 0),natV (r.getD 3 0),natV (r.getD 4 0),natV (r.getD 5 0),natV (r.getD 6 0),natV (r.getD 7 0),T,M]
theorem Lz6 {T M:Value} {en:Nat} {r:List Nat} (k:Nat) (hk:k≤7):(Bzj en r T M)[1+k]? =some (natV (r.getD k 0)):=by
 match k,hk with
 | 0,_=>rfl
 | 1,_=>rfl
 | 2,_=>rfl
 | 3,_=>rfl
 | 4,_=>rfl
 | 5,_=>rfl
 | 6,_=>rfl
 | 7,_=>rfl
 | k+8,h=>omega
theorem Szp {T M:Value} {en:Nat} {r:List Nat} (hr:r.length=8) (k:Nat) (hk:k≤7) (v:Nat):(Bzj en r T M).setIfInBounds (1+k) (natV v)=Bzj en (r.set k v) T M:=by
 match r,hr with
 | [a0,a1,a2,a3,a4,a5,a6,a7],_=>
   match k,hk with
   | 0,_=>rfl
   | 1,_=>rfl
   | 2,_=>rfl
   | 3,_=>rfl
   | 4,_=>rfl
   | 5,_=>rfl
   | 6,_=>rfl
   | 7,_=>rfl
   | k+8,h=>omega
structure Ref (w0 w:World) (g:Nat) (s:Mc) (en:Nat) (B T M:Value):Prop where
 below:Below w0.heap.size w0 w
 lo:w0.heap.size≤g
 blk:Blk w g 133 (Bzj en s.regs T M)
 ob:w.ownsRow w0.heap.size 3 1 B s.back.length (Azx s.back)
 ot:w.ownsRow w0.heap.size 3 1 T s.told.length (Azx s.told)
 om:w.ownsRow w0.heap.size 3 1 M s.mem.length (Azx s.mem)
 bt:B.ownBlock=none∨B.ownBlock≠T.ownBlock
 bm:B.ownBlock=none∨B.ownBlock≠M.ownBlock
 tm:T.ownBlock=none∨T.ownBlock≠M.ownBlock
section
variable {w0 w:World} {g en:Nat} {B T M:Value} {s:Mc}
theorem Ref.later (h:Ref w0 w g s en B T M) {w':World} (hb:Below w.heap.size w w'):Ref w0 w' g s en B T M:=
 ⟨h.below.trans (hb.mono h.below.size),h.lo,h.blk.below hb h.blk.lt,own_below h.ob hb,own_below h.ot hb,own_below h.om hb,h.bt,h.bm,h.tm⟩
theorem Ref.cellset (h:Ref w0 w g s en B T M) (i:Nat) (u:Value) {s':Mc} {en':Nat} (hcs:(Bzj en s.regs T M).setIfInBounds i u=Bzj en' s'.regs T M)
  (hb:s'.back=s.back) (ht:s'.told=s.told) (hm:s'.mem=s.mem):Ref w0 (w.setCell ⟨g,i,none⟩ u) g s' en' B T M:=by
 have kp:∀ {V:Value} {n:Nat} {xs:List Value},w.ownsRow w0.heap.size 3 1 V n xs→(w.setCell ⟨g,i,none⟩ u).ownsRow w0.heap.size 3 1 V n xs:=fun ho=>ho.kept (set_grown' i u) (.inr (Aza ho h.blk (by decide)))
 refine⟨h.below.setCell (p:=⟨g,i,none⟩) h.lo u,h.lo,?_,?_,?_,?_,h.bt,h.bm,h.tm⟩
 ·have:=h.blk.set_ i u
  rw[hcs] at this;exact this
 ·rw[hb];exact kp h.ob
 ·rw[ht];exact kp h.ot
 ·rw[hm];exact kp h.om
theorem Ref.setpos (h:Ref w0 w g s en B T M) (p:Nat):Ref w0 w g { s with pos:=p } en B T M:=⟨h.below,h.lo,h.blk,h.ob,h.ot,h.om,h.bt,h.bm,h.tm⟩
theorem Ref.setend (h:Ref w0 w g s en B T M) (p:Nat):Ref w0 (w.setCell ⟨g,0,none⟩ (natV p)) g s p B T M:=
 h.cellset 0 _ rfl rfl rfl rfl
theorem Ref.setreg (h:Ref w0 w g s en B T M) (hr:s.regs.length=8) (k:Nat) (hk:k≤7) (v:Nat):Ref w0 (w.setCell ⟨g,1+k,none⟩ (natV v)) g { s with regs:=s.regs.set k v } en B T M:=
 h.cellset (1+k) _ (Szp hr k hk v) rfl rfl rfl
theorem Ref.setmem (h:Ref w0 w g s en B T M) {q:Nat} (hq:M.ownBlock=some q) (k:Nat) (v:Nat):Ref w0 (w.setCell ⟨q,k,none⟩ (natV v)) g { s with mem:=s.mem.set k v } en B T M:=by
 have kp:∀ {V:Value} {n:Nat} {xs:List Value},w.ownsRow w0.heap.size 3 1 V n xs→V.ownBlock=none∨V.ownBlock≠M.ownBlock→(w.setCell ⟨q,k,none⟩ (natV v)).ownsRow w0.heap.size 3 1 V n xs:=fun ho hne=>ho.kept (set_grown' k _) (by rw[←hq];exact hne)
 refine⟨h.below.setCell (p:=⟨q,k,none⟩) (h.om.lt q hq).1 _,h.lo,?_,kp h.ob h.bm,kp h.ot h.tm,?_,h.bt,h.bm,h.tm⟩
 ·exact h.blk.far (p:=⟨q,k,none⟩) (fun e=>Aza h.om h.blk (by decide) (by rw[hq,e])) _
 ·show (w.setCell ⟨q,k,none⟩ (natV v)).ownsRow w0.heap.size 3 1 M (s.mem.set k v).length (Azx (s.mem.set k v))
  rw[List.length_set,Izw];exact Nzr h.om hq k _
theorem Ref.pushtold (h:Ref w0 w g s en B T M) {W w1:World} (hW:Below w.heap.size w W) {g' cap:Nat} {x:Nat} {n':Nat} (hown:w1.ownsRow w0.heap.size 3 1 (.slice (some ⟨g',0,none⟩) n' cap) n' (Azx s.told++ [natV x])) (hn:n'=s.told.length+1)
  (hgrow:W.grownBy w1 T.ownBlock) (hat:T.ownBlock=some g'∨g'=W.heap.size):
  Ref w0 (w1.setCell ⟨g,9,none⟩ (.slice (some ⟨g',0,none⟩) n' cap)) g { s with told:=s.told++ [x] } en B (.slice (some ⟨g',0,none⟩) n' cap) M:=by
 have h1:=h.later hW;have hgw:W.heap.size≤w1.heap.size:=hgrow.size;have kb:=h1.ob.kept hgrow h1.bt;have km:=h1.om.kept hgrow (ne_comm' h1.tm);have kk:=h1.blk.grown hgrow (fun e=>Aza h1.ot h1.blk (by decide) e.symm);have hnew:(Value.slice (some ⟨g',0,none⟩) n' cap).ownBlock=T.ownBlock∨(Value.slice (some ⟨g',0,none⟩) n' cap).ownBlock=some W.heap.size:=by
  rcases hat with e|e
  ·exact .inl (by rw[e];rfl)
  ·exact .inr (by rw[←e];rfl)
 generalize hv:Value.slice (some ⟨g',0,none⟩) n' cap=T' at*;have kp:∀ {V:Value} {n:Nat} {xs:List Value},w1.ownsRow w0.heap.size 3 1 V n xs→(w1.setCell ⟨g,9,none⟩ T').ownsRow w0.heap.size 3 1 V n xs:=fun ho=>ho.kept (set_grown' 9 T') (.inr (Aza ho kk (by decide)))
 refine⟨?_,h.lo,?_,kp kb,?_,kp km,?_,h.bm,?_⟩
 ·exact(h1.below.grown hgrow h1.below.size (fun q hq=>(h1.ot.lt q hq).1)).setCell (p:=⟨g,9,none⟩) h.lo _
 ·exact kk.set_ 9 T'
 ·show (w1.setCell ⟨g,9,none⟩ T').ownsRow w0.heap.size 3 1 T' (s.told++ [x]).length (Azx (s.told++ [x]))
  rw[List.length_append,Ezi];rw[hn] at hown;exact kp hown
 ·rcases hnew with e|e
  ·rw[e];exact h.bt
  ·rw[e];exact Izv h1.ob (Nat.le_refl _)
 ·rcases hnew with e|e
  ·rw[e];exact h.tm
  ·rw[e];exact ne_comm' (Izv h1.om (Nat.le_refl _))
theorem Ref.pushback (h:Ref w0 w g s en B T M) {W w1:World} (hW:Below w.heap.size w W) {g' cap:Nat} {x:Nat} {n':Nat} (hown:w1.ownsRow w0.heap.size 3 1 (.slice (some ⟨g',0,none⟩) n' cap) n' (Azx s.back++ [natV x])) (hn:n'=s.back.length+1)
  (hgrow:W.grownBy w1 B.ownBlock) (hat:B.ownBlock=some g'∨g'=W.heap.size):
  Ref w0 w1 g { s with back:=s.back++ [x] } en (.slice (some ⟨g',0,none⟩) n' cap) T M:=by
 have h1:=h.later hW;have hgw:W.heap.size≤w1.heap.size:=hgrow.size;have kt:=h1.ot.kept hgrow (ne_comm' h1.bt);have km:=h1.om.kept hgrow (ne_comm' h1.bm);have kk:=h1.blk.grown hgrow (fun e=>Aza h1.ob h1.blk (by decide) e.symm);have hnew:(Value.slice (some ⟨g',0,none⟩) n' cap).ownBlock=B.ownBlock∨(Value.slice (some ⟨g',0,none⟩) n' cap).ownBlock=some W.heap.size:=by
  rcases hat with e|e
  ·exact .inl (by rw[e];rfl)
  ·exact .inr (by rw[←e];rfl)
 generalize hv:Value.slice (some ⟨g',0,none⟩) n' cap=B' at*;refine⟨?_,h.lo,?_,?_,kt,km,?_,?_,h.tm⟩
 ·exact(h1.below.grown hgrow h1.below.size (fun q hq=>(h1.ob.lt q hq).1))
 ·exact kk
 ·show w1.ownsRow w0.heap.size 3 1 B' (s.back++ [x]).length (Azx (s.back++ [x]))
  rw[List.length_append,Ezi];rw[hn] at hown;exact hown
 ·rcases hnew with e|e
  ·rw[e];exact h.bt
  ·rw[e];exact ne_comm' (Izv h1.ot (Nat.le_refl _))
 ·rcases hnew with e|e
  ·rw[e];exact h.bm
  ·rw[e];exact ne_comm' (Izv h1.om (Nat.le_refl _))
theorem Ref.popback {g' cap:Nat} (h:Ref w0 w g s en (.slice (some ⟨g',0,none⟩) s.back.length cap) T M) (k:Nat) (hk:k≤s.back.length):
  Ref w0 w g { s with back:=s.back.take k } en (.slice (some ⟨g',0,none⟩) k cap) T M:=by
 refine⟨h.below,h.lo,h.blk,?_,h.ot,h.om,h.bt,h.bm,h.tm⟩;have:=Lz9 h.ob k hk;rw[show (s.back.take k).length=k by rw[List.length_take];omega,Azx, ←List.map_take] at*;exact this
end
set_option linter.unusedSimpArgs false
section
variable {P:Program} (w:World)
theorem Gzs {ops:Array Oper} {o:Oper} {a:Act} {K:Act→World→Prop} {Q:Exit→Act→World→Prop} {E:Prop} (hgd:o.guard=none) (s x:Operand) (t:TypeId)
  (ho:o.op= .call { callee:= .builtin .append,args:= #[s,x],argTypes:= #[t,t] })
  (base:Nat) (e:TypeId) (i:TypeInfo) (z:Value) (size bytes:Nat) (ht:P.underlying t=some (.slice e)) (hi:P.info? e=some i) (hz:i.zero=some z)
  (hsize:i.size=size) (hby:i.bytes=bytes) (hzs:z.cells.size=size) (hsz:0<size)
  (v:Value) (n:Nat) (xs:List Value) (hs:a.eval s=v) (hown:w.ownsRow base e size v n xs)
  (B:Nat) (A:Option Addr) (m c:Nat) (news:List Value) (hx:a.eval x= .slice A m c) (hr:Rd w B size A m news) (h1:∀ u∈news,u.oneCell'=true)
  (h63:n+m≤maxLen) (hbytes:(n+m)*bytes≤140737488355328) (hbase:base≤w.heap.size)
  (h:∀ A' c' w',w'.ownsRow base e size (.slice A' (n+m) c') (n+m) (xs++news)→w.grownBy w' v.ownBlock→((Value.slice A' (n+m) c').ownBlock=v.ownBlock∨(Value.slice A' (n+m) c').ownBlock=some w.heap.size)→K (a.put o.dst (.slice A' (n+m) c')) w'):
  if Region.wanted o (yielded ops a.tmps)=true then Oper.wp P o a w K Q else E:=by
 have hw:Region.wanted o (yielded ops a.tmps)=true:=by simp[Region.wanted,hgd]
 rw[if_pos hw];obtain⟨v',w',hrun,h2,h3,h4⟩:=Dzf (P:=P) w base t o.type e i z size bytes ht hi hz hsize hby hzs hsz v n xs hown B A m c news hr h1 h63 hbytes hbase;obtain⟨A',c',rfl⟩:=Az1 h2;unfold Oper.wp execOp;simp only[ho,resolve,invoke,builtin,Sem.run_bind,Sem.run_pure,Result.andThen_ok,List.map_toArray,List.map_cons,List.map_nil,hs,hx,hrun];exact h A' c' w' h2 h3 h4
end
theorem cell_grown {w w':World} {row:Option Nat} (h:w.grownBy w' row) (b i:Nat) (hb:b<w.heap.size) (hne:some b≠row):w'.cell? ⟨b,i,none⟩=w.cell? ⟨b,i,none⟩:=World.cell?_of_block (h.block b hb hne)
theorem Ref.setregE {w0 w:World} {g en:Nat} {B T M:Value} {s:Mc} (h:Ref w0 w g s en B T M) (hr:s.regs.length=8) (k:Nat) (hk:k≤7) {E:Int} {v:Nat} (hE:E=(v:Int)):Ref w0 (w.setCell ⟨g,1+k,none⟩ (.int .i64 E)) g { s with regs:=s.regs.set k v } en B T M:=by
 subst hE;exact h.setreg hr k hk v
def setL:Array Value→Nat→List Value→Array Value
 | cs,_,[]=>cs
 | cs,k,u::r=>setL (cs.setIfInBounds k u) (k+1) r
theorem Jz6:∀ (us:List Value) (cs:Array Value) (k:Nat),k+us.length≤cs.size→(setL cs k us).toList=cs.toList.take k++us++cs.toList.drop (k+us.length)
 | [],cs,k,_=>by simp[setL]
 | u::r,cs,k,h=>by
   have hk:k<cs.toList.length:=by simp at h ⊢;omega
   rw[setL,Jz6 r _ _ (by simp at h ⊢;omega),Array.toList_setIfInBounds];have e1:(cs.toList.set k u).take (k+1)=cs.toList.take k++ [u]:=by
    rw[List.take_succ_eq_append_getElem (by simpa using hk),List.getElem_set_self]
    congr 1
    rw[List.take_set_of_le (Nat.le_refl _)]
   have e2:(cs.toList.set k u).drop (k+1+r.length)=cs.toList.drop (k+1+r.length):=by
    rw[List.drop_set,if_pos (by omega)]
   rw[e1,e2,List.length_cons];simp only[List.append_assoc,List.singleton_append];rw[show k+1+r.length=k+(r.length+1) by omega]
theorem Blk.layL {t:TypeId} {b:Nat}:∀ (us:List Value) (k:Nat) (w:World) (cs:Array Value),Blk w b t cs→Blk (layL b w k us) b t (setL cs k us)
 | [],_,_,_,h=>h
 | u::r,k,_,_,h=>Blk.layL r (k+1) _ _ (h.set_ k u)
theorem Blk.layAll {t:TypeId} {b:Nat} {w:World} {cs:Array Value} (h:Blk w b t cs) (us:List Value) (hs:cs.size=us.length):Blk (YtdjamdbamkhblacGreatDoor.layL b w 0 us) b t us.toArray:=by
 have h1:=Blk.layL us 0 w cs h;have e:setL cs 0 us=us.toArray:=by
  apply Array.ext';rw[Jz6 us cs 0 (by omega)];simp[hs]
 rw[e] at h1;exact h1
theorem Hzx {M:Value} {r0 r1 r2 r3 r4 r5 r6 r7:Int} (h:∀ x∈ [r0,r1,r2,r3,r4,r5,r6,r7],0≤x):
  Bzj 0 ([r0,r1,r2,r3,r4,r5,r6,r7].map Int.toNat) (.slice none 0 0) M= #[.int .i64 0, .int .i64 r0, .int .i64 r1, .int .i64 r2, .int .i64 r3, .int .i64 r4, .int .i64 r5, .int .i64 r6, .int .i64 r7, .slice none 0 0,M]:=by
 simp only[List.mem_cons,List.not_mem_nil,or_false,forall_eq_or_imp,forall_eq] at h;obtain⟨h0,h1,h2,h3,h4,h5,h6,h7⟩:=h;simp[Bzj,natV];omega
theorem Ref.startA {w1 w':World} {r0 r1 r2 r3 r4 r5 r6 r7:Int} {mem:List Int} {A:Option Addr} {c:Nat} (h:∀ x∈ [r0,r1,r2,r3,r4,r5,r6,r7],0≤x) (hb:Below w1.heap.size w1 w') (hown:w'.ownsRow w1.heap.size 3 1 (.slice A mem.length c) mem.length (Azx (mem.map Int.toNat))):
  Ref w1 (w'.alloc (.cells #[.int .i64 0, .int .i64 r0, .int .i64 r1, .int .i64 r2, .int .i64 r3, .int .i64 r4, .int .i64 r5, .int .i64 r6, .int .i64 r7, .slice none 0 0, .slice A mem.length c] 133)) w'.heap.size (toMc [r0,r1,r2,r3,r4,r5,r6,r7] mem) 0 (.slice none 0 0) (.slice none 0 0) (.slice A mem.length c):=by
 refine⟨hb.alloc hb.size _,hb.size,?_,World.ownsRow_nil _ _ _ _,World.ownsRow_nil _ _ _ _,?_, .inl rfl, .inl rfl, .inl rfl⟩
 ·have:=Blk.new w' 133 (Bzj 0 ([r0,r1,r2,r3,r4,r5,r6,r7].map Int.toNat) (.slice none 0 0) (.slice A mem.length c))
  rw[Hzx h] at this;show Blk _ _ _ (Bzj 0 ([r0,r1,r2,r3,r4,r5,r6,r7].map Int.toNat) (.slice none 0 0) (.slice A mem.length c));rw[Hzx h];exact this
 ·show World.ownsRow _ _ _ 1 _ (mem.map Int.toNat).length _
  rw[List.length_map];exact hown.alloc _
theorem Ref.startB {w1 w':World} {r0 r1 r2 r3 r4 r5 r6 r7:Int} {mem:List Int} {A:Option Addr} {c:Nat} (h:∀ x∈ [r0,r1,r2,r3,r4,r5,r6,r7],0≤x) (hb:Below w1.heap.size w1 w') (hk:Blk w' w1.heap.size 133 #[.int .i64 0, .int .i64 0, .int .i64 0, .int .i64 0, .int .i64 0, .int .i64 0, .int .i64 0, .int .i64 0, .int .i64 0, .slice none 0 0, .slice none 0 0])
  (hown:w'.ownsRow w1.heap.size 3 1 (.slice A mem.length c) mem.length (Azx (mem.map Int.toNat))):
  Ref w1 (layL w1.heap.size w' 0 [.int .i64 0, .int .i64 r0, .int .i64 r1, .int .i64 r2, .int .i64 r3, .int .i64 r4, .int .i64 r5, .int .i64 r6, .int .i64 r7, .slice none 0 0, .slice A mem.length c]) w1.heap.size (toMc [r0,r1,r2,r3,r4,r5,r6,r7] mem) 0 (.slice none 0 0) (.slice none 0 0) (.slice A mem.length c):=by
 have hg:=Cz7 w1.heap.size [.int .i64 0, .int .i64 r0, .int .i64 r1, .int .i64 r2, .int .i64 r3, .int .i64 r4, .int .i64 r5, .int .i64 r6, .int .i64 r7, .slice none 0 0, .slice A mem.length c] 0 w';refine⟨Bz3 (Nat.le_refl _) _ _ _ hb,Nat.le_refl _,?_,World.ownsRow_nil _ _ _ _,World.ownsRow_nil _ _ _ _,?_, .inl rfl, .inl rfl, .inl rfl⟩
 ·show Blk _ _ _ (Bzj 0 ([r0,r1,r2,r3,r4,r5,r6,r7].map Int.toNat) (.slice none 0 0) (.slice A mem.length c))
  rw[Hzx h];exact hk.layAll _ rfl
 ·show World.ownsRow _ _ _ 1 _ (mem.map Int.toNat).length _
  rw[List.length_map];exact hown.kept hg (.inr (Aza hown hk (by decide)))
theorem Ref.startB' {w1 w':World} {r0 r1 r2 r3 r4 r5 r6 r7:Int} {mem:List Int} {A:Option Addr} {c:Nat} (h:∀ x∈ [r0,r1,r2,r3,r4,r5,r6,r7],0≤x) (hb:Below w1.heap.size w1 w') (hk:Blk w' w1.heap.size 133 #[.int .i64 0, .int .i64 0, .int .i64 0, .int .i64 0, .int .i64 0, .int .i64 0, .int .i64 0, .int .i64 0, .int .i64 0, .slice none 0 0, .slice none 0 0])
  (hown:w'.ownsRow w1.heap.size 3 1 (.slice A mem.length c) mem.length (Azx (mem.map Int.toNat))):
  Ref w1 (((((((((((w'.setCell ⟨w1.heap.size,0,none⟩ (.int .i64 0)).setCell ⟨w1.heap.size,1,none⟩ (.int .i64 r0)).setCell ⟨w1.heap.size,2,none⟩ (.int .i64 r1)).setCell ⟨w1.heap.size,3,none⟩ (.int .i64 r2)).setCell ⟨w1.heap.size,4,none⟩ (.int .i64 r3)).setCell ⟨w1.heap.size,5,none⟩ (.int .i64 r4)).setCell ⟨w1.heap.size,6,none⟩ (.int .i64 r5)).setCell ⟨w1.heap.size,7,none⟩ (.int .i64 r6)).setCell ⟨w1.heap.size,8,none⟩ (.int .i64 r7)).setCell ⟨w1.heap.size,9,none⟩ (.slice none 0 0)).setCell ⟨w1.heap.size,10,none⟩ (.slice A mem.length c)) w1.heap.size (toMc [r0,r1,r2,r3,r4,r5,r6,r7] mem) 0 (.slice none 0 0) (.slice none 0 0) (.slice A mem.length c):=
 Ref.startB h hb hk hown
def RLoop (w0 wr:World) (g:Nat) (l:List Ins) (n:Nat) (s0:Mc) (k:Nat) (B a:Value):Prop:=
 ∃ s T M,a=natV s.pos∧Ref w0 wr g s 0 B T M∧McOk s∧s.mem.length=s0.mem.length∧runs l k s=runs l n s0
theorem RLoop.next {w0 w':World} {g n k:Nat} {l:List Ins} {s0 s s':Mc} {B' T' M':Value} {p:Int} (hst:step l s=(s',0)) (hc:Ez7 l) (hs:McOk s) (hm:s.mem.length=s0.mem.length) (hrn:runs l (k+1) s=runs l n s0) (hp:p=(s'.pos:Int)) (h:Ref w0 w' g s' 0 B' T' M'):
  RLoop w0 w' g l n s0 k B' (.int .i64 p):=by
 refine⟨s',T',M',by rw[hp];rfl,h,?_,?_,?_⟩
 ·have:=step_ok hc hs;rw[hst] at this;exact this
 ·have:=Gz3 (l:=l) (s:=s);rw[hst] at this;exact this.trans hm
 ·rw[←hrn,Iz2 (by rw[hst]),hst]
def Czm:Code→Option Code
 | .loop c=>some c
 | .seq a b=>match Czm a with
   | some c=>some c
   | none=>Czm b
 | .block _ c=>Czm c
 | .scope c=>Czm c
 | .cond _ a b=>match Czm a with
   | some c=>some c
   | none=>Czm b
 | _=>none
noncomputable def Jz1:Code:=((Tryz.f102.body.bind Czm).getD .skip)
def outL (en:Nat) (r:List Nat) (T M:Value):List Value:=(Bzj en r T M).toList
def RWI (w1:World) (gO g c:Nat) (A:Option Addr) (l:List Ins) (n:Nat) (s0:Mc) (a:Act) (w':World):Prop:=
 a.defers=[]∧a.tmps.size=254∧a.tmps[0]? =some (.slice A l.length c)∧a.tmps[8]? =some (.pointer (some ⟨gO,0,none⟩))∧a.tmps[11]? =some (.pointer (some ⟨g,0,none⟩))∧
  ∃ (k:Nat) (B p:Value),a.tmps[3]? =some (.int .i64 (k:Int))∧a.tmps[12]? =some B∧a.tmps[13]? =some p∧k≤20000∧RLoop w1 w' g l n s0 k B p
def rmu (a:Act) (_:World):Nat:=match a.tmps[3]? with
 | some (Value.int _ n)=>n.toNat
 | _=>0
structure XFin (w1 w2:World) (gO:Nat) (s:Mc) (en:Nat) (T M:Value):Prop where
 grown:w1.grownBy w2 (some gO)
 blk:Blk w2 gO 133 (Bzj en s.regs T M)
 ot:w2.ownsRow w1.heap.size 3 1 T s.told.length (Azx s.told)
 om:w2.ownsRow w1.heap.size 3 1 M s.mem.length (Azx s.mem)
theorem XFin.alloc {w1 w2:World} {gO en:Nat} {s:Mc} {T M:Value} (h:XFin w1 w2 gO s en T M) (o:Obj):XFin w1 (w2.alloc o) gO s en T M:=
 ⟨⟨h.grown.os,h.grown.tape,h.grown.output,by have:=h.grown.size;simp;omega,fun q hq hne=>(Below.heap_alloc w2 o q (Nat.lt_of_lt_of_le hq h.grown.size)).trans (h.grown.block q hq hne)⟩,h.blk.alloc o,h.ot.alloc o,h.om.alloc o⟩
theorem XFin.of {w1 W:World} {gO g en:Nat} {s:Mc} {B T M v0 v1 v2 v3 v4 v5 v6 v7 v8 v9 v10:Value} (h:Ref w1 W g s en B T M) {cs:Array Value} (hO:Blk W gO 133 cs) (hs:cs.size=11)
  (hv:outL en s.regs T M=[v0,v1,v2,v3,v4,v5,v6,v7,v8,v9,v10]):XFin w1 (((((((((((W.setCell ⟨gO,0,none⟩ v0).setCell ⟨gO,1,none⟩ v1).setCell ⟨gO,2,none⟩ v2).setCell ⟨gO,3,none⟩ v3).setCell ⟨gO,4,none⟩ v4).setCell ⟨gO,5,none⟩ v5).setCell ⟨gO,6,none⟩ v6).setCell ⟨gO,7,none⟩ v7).setCell ⟨gO,8,none⟩ v8).setCell ⟨gO,9,none⟩ v9).setCell ⟨gO,10,none⟩ v10) gO s en T M:=by
 have hg:=Cz7 gO [v0,v1,v2,v3,v4,v5,v6,v7,v8,v9,v10] 0 W;have hk:=hO.layAll [v0,v1,v2,v3,v4,v5,v6,v7,v8,v9,v10] hs;have e:(Bzj en s.regs T M)=[v0,v1,v2,v3,v4,v5,v6,v7,v8,v9,v10].toArray:=by rw[←hv];rfl
 refine⟨⟨hg.os.trans h.below.os,hg.tape.trans h.below.tape,hg.output.trans h.below.output,Nat.le_trans h.below.size hg.size,fun q hq hne=>(hg.block q (Nat.lt_of_lt_of_le hq h.below.size) hne).trans (h.below.block q hq)⟩,?_,h.ot.kept hg (.inr (Aza h.ot hO (by decide))),h.om.kept hg (.inr (Aza h.om hO (by decide)))⟩;rw[e];exact hk
def Jzm (w1:World) (gO:Nat) (l:List Ins) (n:Nat) (s0:Mc) (Q0:Exit→Act→World→Prop):Prop:=
 ∀ (a':Act) (w2:World) (s':Mc) (en:Nat) (T' M':Value),runs l n s0=(s',en)→XFin w1 w2 gO s' en T' M'→a'.defers=[]→a'.tmps.size=254→a'.tmps[8]? =some (.pointer (some ⟨gO,0,none⟩))→a'.tmps[9]? =some (.int .i64 0)→Q0 .ret a' w2
theorem Mzw (t:Array Value) (h:t.size=254):∃ u:Nat→Value,t= #[u 0,u 1,u 2,u 3,u 4,u 5,u 6,u 7,u 8,u 9,u 10,u 11,u 12,u 13,u 14,u 15,u 16,u 17,u 18,u 19,u 20,u 21,u 22,u 23,u 24,u 25,u 26,u 27,u 28,u 29,u 30,u 31,u 32,u 33,u 34,u 35,u 36,u 37,u 38,u 39,u 40,u 41,u 42,u 43,u 44,u 45,u 46,u 47,u 48,u 49,u 50,u 51,u 52,u 53,u 54,u 55,u 56,u 57,u 58,u 59,u 60,u 61,u 62,u 63,u 64,u 65,u 66,u 67,u 68,u 69,u 70,u 71,u 72,u 73,u 74,u 75,u 76,u 77,u 78,u 79,u 80,u 81,u 82,u 83,u 84,u 85,u 86,u 87,u 88,u 89,u 90,u 91,u 92,u 93,u 94,u 95,u 96,u 97,u 98,u 99,u 100,u 101,u 102,u 103,u 104,u 105,u 106,u 107,u 108,u 109,u 110,u 111,u 112,u 113,u 114,u 115,u 116,u 117,u 118,u 119,u 120,u 121,u 122,u 123,u 124,u 125,u 126,u 127,u 128,u 129,u 130,u 131,u 132,u 133,u 134,u 135,u 136,u 137,u 138,u 139,u 140,u 141,u 142,u 143,u 144,u 145,u 146,u 147,u 148,u 149,u 150,u 151,u 152,u 153,u 154,u 155,u 156,u 157,u 158,u 159,u 160,u 161,u 162,u 163,u 164,u 165,u 166,u 167,u 168,u 169,u 170,u 171,u 172,u 173,u 174,u 175,u 176,u 177,u 178,u 179,u 180,u 181,u 182,u 183,u 184,u 185,u 186,u 187,u 188,u 189,u 190,u 191,u 192,u 193,u 194,u 195,u 196,u 197,u 198,u 199,u 200,u 201,u 202,u 203,u 204,u 205,u 206,u 207,u 208,u 209,u 210,u 211,u 212,u 213,u 214,u 215,u 216,u 217,u 218,u 219,u 220,u 221,u 222,u 223,u 224,u 225,u 226,u 227,u 228,u 229,u 230,u 231,u 232,u 233,u 234,u 235,u 236,u 237,u 238,u 239,u 240,u 241,u 242,u 243,u 244,u 245,u 246,u 247,u 248,u 249,u 250,u 251,u 252,u 253]:=by
 refine⟨fun i=>t.getD i undef,?_⟩;have e:t=((List.range 254).map fun i=>t.getD i undef).toArray:=by
  apply Array.ext
  ·simp[h]
  ·intro i h1 h2
   simp[Array.getD_eq_getD_getElem?,h1]
 exact e
theorem RWI.mk {w1 w':World} {gO g c n k:Nat} {A:Option Addr} {l:List Ins} {s0:Mc} {a:Act} {B p:Value} (h0:a.defers=[]) (h1:a.tmps.size=254) (h2:a.tmps[0]? =some (.slice A l.length c)) (h3:a.tmps[8]? =some (.pointer (some ⟨gO,0,none⟩)))
  (h4:a.tmps[11]? =some (.pointer (some ⟨g,0,none⟩))) (h5:a.tmps[3]? =some (.int .i64 (k:Int))) (h6:a.tmps[12]? =some B) (h7:a.tmps[13]? =some p) (hk:k≤20000) (hR:RLoop w1 w' g l n s0 k B p):RWI w1 gO g c A l n s0 a w'∧rmu a w'<k+1:=by
 refine⟨⟨h0,h1,h2,h3,h4,k,B,p,h5,h6,h7,hk,hR⟩,?_⟩;unfold rmu;rw[h5];simp
end Go.Proofs.YtdjamdbamkhblacGreatDoor
