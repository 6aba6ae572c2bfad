/- The walk of the reference's RunOf where it refuses. No condition. The walk of the reference's RunOf: what it returns, for every code, registers, words and fuel. No condition. The run's contract, put in for the reference's RunOf. Condition: the listed table. Arguments opened, with what a machine can reach of them: no condition. Modules and kernels that came in, opened, with what a machine can reach: no condition. A kernel that came in, opened, with what a machine can reach of it: no condition. An act that came in, opened. No condition. -/
import Derived.Test.YtdjamdbamkhblabGreatDoorG33
import Derived.Test.YtdjamdbamkhblabGreatDoorG36
import Derived.Test.YtdjamdbamkhblabGreatDoorG32
import Derived.Test.YtdjamdbamkhblabGreatDoorG01
import Derived.Test.YtdjamdbamkhblabGreatDoorG03
namespace Go.Proofs.YtdjamdbamkhblabGreatDoor
open Go.RowKit
set_option linter.unusedVariables false
set_option linter.unusedSimpArgs false
set_option maxRecDepth 100000 in
set_option maxHeartbeats 40000000 in
theorem RunOf_bad (A Am:Option Addr) (c cm:Nat) (l:List Ins) (r0 r1 r2 r3 r4 r5 r6 r7:Int) (mem:List Int) (fuel:Int) (w:World) (hr:RdI w w.heap.size A l) (hl:l.length≤maxLen)
  (hm:RdN w w.heap.size Am mem) (hml:mem.length≤maxLen) (hbad:runErr l [r0,r1,r2,r3,r4,r5,r6,r7] mem fuel≠0):
  Calls Tryz.prog 98 #[.slice A l.length c, .agg #[.int .i64 r0, .int .i64 r1, .int .i64 r2, .int .i64 r3, .int .i64 r4, .int .i64 r5, .int .i64 r6, .int .i64 r7], .slice Am mem.length cm, .int .i64 fuel] w
   (RunPost w (runRes l [r0,r1,r2,r3,r4,r5,r6,r7] mem fuel) (runErr l [r0,r1,r2,r3,r4,r5,r6,r7] mem fuel)):=by
 have HL:=Lib.hid hl;have HML:=Lib.hid hml;unfold maxLen at hl hml;by_cases hc0:check l=0
 ·have HC:=Lib.hid hc0
  clear hc0;by_cases hbig:1024<mem.length
  ·have hbig2:(1024:Int)<(mem.length:Int):=by omega
   have HE:Hid (runErr l [r0,r1,r2,r3,r4,r5,r6,r7] mem fuel=1):=by
    show _=_;rw[runErr,if_pos HC.out,if_pos hbig]
   clear hbig;go_enter Tryz.func98,Tryz.ntmps98;go_wp2_with fail;obtain⟨V,hV,hB0,hRB,hOB⟩:=run_box w r0 r1 r2 r3 r4 r5 r6 r7;rw[hV];clear hV;refine(CodeFault_any A c l V ((hr.below hB0).more hB0.size) HL.out).mono ?_;rw[HC.out];rintro e w1 ⟨rfl,hb1⟩;have hbw:=hB0.trans (hb1.mono hB0.size);have hR1:=hRB.below hb1 hRB.lt;have hO1:=hOB.below hb1 hOB.lt;obtain⟨gr,hgr⟩:∃ gr,gr=w.heap.size:=⟨_,rfl⟩;obtain⟨gO,hgo⟩:∃ gO,gO=w.heap.size+1:=⟨_,rfl⟩;have hgr0:w.heap.size≤gr:=by omega
   have hgo0:w.heap.size≤gO:=by omega
   have hgg:gr≠gO:=by omega
   rw[←hgo] at hO1 ⊢;rw[←hgr] at hR1 ⊢;clear hgr hgo hRB hOB hB0 hb1 V;have p0:=hR1.cell 0;simp at p0;have hgrl:=hR1.lt;clear p0;obtain⟨q0,q1,q2,q3,q4,q5,q6,q7,q8,q9,q10,p0,p1,p2,p3,p4,p5,p6,p7,p8,p9,p10, -⟩:=hO1.a11;simp at q0 q1 q2 q3 q4 q5 q6 q7 q8 q9 q10;go_wp2;refine bodyPost_ret (v:= .tuple #[.agg #[.int .i64 0, .int .i64 0, .int .i64 0, .int .i64 0, .int .i64 0, .int .i64 0, .int .i64 0, .int .i64 0, .int .i64 0, .slice none 0 0, .slice none 0 0], .int .i64 1]) (by simp[results,Tryz.results98,go_sem,q0,q1,q2,q3,q4,q5,q6,q7,q8,q9,q10]) rfl (RunPost.no (n:=1) HE.out (by omega) rfl (layL_below hgo0 [.int .i64 0, .int .i64 0, .int .i64 0, .int .i64 0, .int .i64 0, .int .i64 0, .int .i64 0, .int .i64 0, .int .i64 0, .slice none 0 0, .slice none 0 0] 0 _ hbw))
  ·have hbig2:(mem.length:Int)≤1024:=by omega
   by_cases hf:fuel<0∨20000<fuel
   ·have HE:Hid (runErr l [r0,r1,r2,r3,r4,r5,r6,r7] mem fuel=2):=by
     show _=_;rw[runErr,if_pos HC.out,if_neg hbig,if_pos (by rcases hf with h|h<;>simp[h])]
    have hin:inB fuel 0 20000=false:=inB_false hf;clear hbig hf;go_enter Tryz.func98,Tryz.ntmps98;go_wp2_with fail;obtain⟨V,hV,hB0,hRB,hOB⟩:=run_box w r0 r1 r2 r3 r4 r5 r6 r7;rw[hV];clear hV;refine(CodeFault_any A c l V ((hr.below hB0).more hB0.size) HL.out).mono ?_;rw[HC.out];rintro e w1 ⟨rfl,hb1⟩;have hbw:=hB0.trans (hb1.mono hB0.size);have hR1:=hRB.below hb1 hRB.lt;have hO1:=hOB.below hb1 hOB.lt;obtain⟨gr,hgr⟩:∃ gr,gr=w.heap.size:=⟨_,rfl⟩;obtain⟨gO,hgo⟩:∃ gO,gO=w.heap.size+1:=⟨_,rfl⟩;have hgr0:w.heap.size≤gr:=by omega
    have hgo0:w.heap.size≤gO:=by omega
    have hgg:gr≠gO:=by omega
    rw[←hgo] at hO1 ⊢;rw[←hgr] at hR1 ⊢;clear hgr hgo hRB hOB hB0 hb1 V;have p0:=hR1.cell 0;simp at p0;have hgrl:=hR1.lt;clear p0;obtain⟨q0,q1,q2,q3,q4,q5,q6,q7,q8,q9,q10,p0,p1,p2,p3,p4,p5,p6,p7,p8,p9,p10, -⟩:=hO1.a11;simp at q0 q1 q2 q3 q4 q5 q6 q7 q8 q9 q10;go_wp2_with (first|(go_at_call 17;refine(In_any _ _ _ _).mono ?_;rintro e w' ⟨rfl,rfl⟩));refine bodyPost_ret (v:= .tuple #[.agg #[.int .i64 0, .int .i64 0, .int .i64 0, .int .i64 0, .int .i64 0, .int .i64 0, .int .i64 0, .int .i64 0, .int .i64 0, .slice none 0 0, .slice none 0 0], .int .i64 2]) (by simp[results,Tryz.results98,go_sem,q0,q1,q2,q3,q4,q5,q6,q7,q8,q9,q10]) rfl (RunPost.no (n:=2) HE.out (by omega) rfl (layL_below hgo0 [.int .i64 0, .int .i64 0, .int .i64 0, .int .i64 0, .int .i64 0, .int .i64 0, .int .i64 0, .int .i64 0, .int .i64 0, .slice none 0 0, .slice none 0 0] 0 _ hbw))
   ·have hf1:0≤fuel:=by omega
    have hf2:fuel≤20000:=by omega
    have hin:inB fuel 0 20000=true:=inB_true hf1 hf2;cases har:[r0,r1,r2,r3,r4,r5,r6,r7].any oddW with
    | true=>
      have HE:Hid (runErr l [r0,r1,r2,r3,r4,r5,r6,r7] mem fuel=2):=by
       show _=_;rw[runErr,if_pos HC.out,if_neg hbig,if_pos (.inr (.inr (by rw[List.any_append];simp only[har];simp)))]
      clear hbig hf;have HAR:=Lib.hid har;clear har;go_enter Tryz.func98,Tryz.ntmps98;go_wp2_with fail;obtain⟨V,hV,hB0,hRB,hOB⟩:=run_box w r0 r1 r2 r3 r4 r5 r6 r7;rw[hV];clear hV;refine(CodeFault_any A c l V ((hr.below hB0).more hB0.size) HL.out).mono ?_;rw[HC.out];rintro e w1 ⟨rfl,hb1⟩;have hbw:=hB0.trans (hb1.mono hB0.size);have hR1:=hRB.below hb1 hRB.lt;have hO1:=hOB.below hb1 hOB.lt;obtain⟨gr,hgr⟩:∃ gr,gr=w.heap.size:=⟨_,rfl⟩;obtain⟨gO,hgo⟩:∃ gO,gO=w.heap.size+1:=⟨_,rfl⟩;have hgr0:w.heap.size≤gr:=by omega
      have hgo0:w.heap.size≤gO:=by omega
      have hgg:gr≠gO:=by omega
      rw[←hgo] at hO1 ⊢;rw[←hgr] at hR1 ⊢;clear hgr hgo hRB hOB hB0 hb1 V;have p0:=hR1.cell 0;simp at p0;have hgrl:=hR1.lt;have hrr:RdN w1 w1.heap.size (some ⟨gr,0,none⟩) [r0,r1,r2,r3,r4,r5,r6,r7]:=fun _=>⟨gr,0,rfl,hgrl,fun k hk=>by
       rw[Nat.zero_add,hR1.cell];simp at hk;have:k=0∨k=1∨k=2∨k=3∨k=4∨k=5∨k=6∨k=7:=by omega
       rcases this with h|h|h|h|h|h|h|h<;>subst h<;>rfl⟩
      have HRR:=Lib.hid hrr;have HRM:=Lib.hid ((hm.below hbw).more hbw.size);clear hrr;have CR:Hid (Calls Tryz.prog 54 #[.slice (some ⟨gr,0,none⟩) 8 8] w1 fun e w'=>e= .returned (.bool false)∧w1=w'):=by
       have h:=allWords_any (some ⟨gr,0,none⟩) 8 [r0,r1,r2,r3,r4,r5,r6,r7] w1 HRR.out (by simp[maxLen]);rw[HAR.out] at h;exact h
      obtain⟨q0,q1,q2,q3,q4,q5,q6,q7,q8,q9,q10, -⟩:=hO1.a11;have p0':=hO1.frozen 0;obtain⟨-, -, -, -, -, -, -, -, -, -, -, -,p1,p2,p3,p4,p5,p6,p7,p8,p9,p10, -⟩:=hO1.a11;simp at q0 q1 q2 q3 q4 q5 q6 q7 q8 q9 q10;go_wp2_with (first|(go_at_call 17;refine(In_any _ _ _ _).mono ?_;rintro e w' ⟨rfl,rfl⟩)|(go_at_call 54;(with_reducible refine CR.out.mono ?_);rintro e w' ⟨rfl,rfl⟩)|(go_at_call 54;(with_reducible refine CM.out.mono ?_);rintro e w' ⟨rfl,rfl⟩));refine bodyPost_ret (v:= .tuple #[.agg #[.int .i64 0, .int .i64 0, .int .i64 0, .int .i64 0, .int .i64 0, .int .i64 0, .int .i64 0, .int .i64 0, .int .i64 0, .slice none 0 0, .slice none 0 0], .int .i64 2]) (by simp[results,Tryz.results98,go_sem,q0,q1,q2,q3,q4,q5,q6,q7,q8,q9,q10]) rfl (RunPost.no (n:=2) HE.out (by omega) rfl (layL_below hgo0 [.int .i64 0, .int .i64 0, .int .i64 0, .int .i64 0, .int .i64 0, .int .i64 0, .int .i64 0, .int .i64 0, .int .i64 0, .slice none 0 0, .slice none 0 0] 0 _ hbw))
    | false=>
      cases ham:mem.any oddW with
      | true=>
        have HE:Hid (runErr l [r0,r1,r2,r3,r4,r5,r6,r7] mem fuel=2):=by
         show _=_;rw[runErr,if_pos HC.out,if_neg hbig,if_pos (.inr (.inr (by rw[List.any_append];simp only[har,ham];simp)))]
        clear hbig hf;have HAR:=Lib.hid har;clear har;have HAM:=Lib.hid ham;clear ham;go_enter Tryz.func98,Tryz.ntmps98;go_wp2_with fail;obtain⟨V,hV,hB0,hRB,hOB⟩:=run_box w r0 r1 r2 r3 r4 r5 r6 r7;rw[hV];clear hV;refine(CodeFault_any A c l V ((hr.below hB0).more hB0.size) HL.out).mono ?_;rw[HC.out];rintro e w1 ⟨rfl,hb1⟩;have hbw:=hB0.trans (hb1.mono hB0.size);have hR1:=hRB.below hb1 hRB.lt;have hO1:=hOB.below hb1 hOB.lt;obtain⟨gr,hgr⟩:∃ gr,gr=w.heap.size:=⟨_,rfl⟩;obtain⟨gO,hgo⟩:∃ gO,gO=w.heap.size+1:=⟨_,rfl⟩;have hgr0:w.heap.size≤gr:=by omega
        have hgo0:w.heap.size≤gO:=by omega
        have hgg:gr≠gO:=by omega
        rw[←hgo] at hO1 ⊢;rw[←hgr] at hR1 ⊢;clear hgr hgo hRB hOB hB0 hb1 V;have p0:=hR1.cell 0;simp at p0;have hgrl:=hR1.lt;have hrr:RdN w1 w1.heap.size (some ⟨gr,0,none⟩) [r0,r1,r2,r3,r4,r5,r6,r7]:=fun _=>⟨gr,0,rfl,hgrl,fun k hk=>by
         rw[Nat.zero_add,hR1.cell];simp at hk;have:k=0∨k=1∨k=2∨k=3∨k=4∨k=5∨k=6∨k=7:=by omega
         rcases this with h|h|h|h|h|h|h|h<;>subst h<;>rfl⟩
        have HRR:=Lib.hid hrr;have HRM:=Lib.hid ((hm.below hbw).more hbw.size);clear hrr;have CR:Hid (Calls Tryz.prog 54 #[.slice (some ⟨gr,0,none⟩) 8 8] w1 fun e w'=>e= .returned (.bool true)∧w1=w'):=by
         have h:=allWords_any (some ⟨gr,0,none⟩) 8 [r0,r1,r2,r3,r4,r5,r6,r7] w1 HRR.out (by simp[maxLen]);rw[HAR.out] at h;exact h
        have CM:Hid (Calls Tryz.prog 54 #[.slice Am mem.length cm] w1 fun e w'=>e= .returned (.bool false)∧w1=w'):=by
         have h:=allWords_any Am cm mem w1 HRM.out HML.out;rw[HAM.out] at h;exact h
        obtain⟨q0,q1,q2,q3,q4,q5,q6,q7,q8,q9,q10, -⟩:=hO1.a11;have p0':=hO1.frozen 0;obtain⟨-, -, -, -, -, -, -, -, -, -, -, -,p1,p2,p3,p4,p5,p6,p7,p8,p9,p10, -⟩:=hO1.a11;simp at q0 q1 q2 q3 q4 q5 q6 q7 q8 q9 q10;go_wp2_with (first|(go_at_call 17;refine(In_any _ _ _ _).mono ?_;rintro e w' ⟨rfl,rfl⟩)|(go_at_call 54;(with_reducible refine CR.out.mono ?_);rintro e w' ⟨rfl,rfl⟩)|(go_at_call 54;(with_reducible refine CM.out.mono ?_);rintro e w' ⟨rfl,rfl⟩));refine bodyPost_ret (v:= .tuple #[.agg #[.int .i64 0, .int .i64 0, .int .i64 0, .int .i64 0, .int .i64 0, .int .i64 0, .int .i64 0, .int .i64 0, .int .i64 0, .slice none 0 0, .slice none 0 0], .int .i64 2]) (by simp[results,Tryz.results98,go_sem,q0,q1,q2,q3,q4,q5,q6,q7,q8,q9,q10]) rfl (RunPost.no (n:=2) HE.out (by omega) rfl (layL_below hgo0 [.int .i64 0, .int .i64 0, .int .i64 0, .int .i64 0, .int .i64 0, .int .i64 0, .int .i64 0, .int .i64 0, .int .i64 0, .slice none 0 0, .slice none 0 0] 0 _ hbw))
      | false=>
        have HE:Hid (runErr l [r0,r1,r2,r3,r4,r5,r6,r7] mem fuel=0):=by
         show _=_;rw[runErr,if_pos HC.out,if_neg hbig,if_neg (by rw[List.any_append,har,ham];intro h;rcases h with h|h|h;exact absurd h (by omega);exact absurd h (by omega);cases h)]
        exact absurd HE.out hbad
 ·have HC:=Lib.hid hc0
  have hc1:(check l == 0)=false:=by rw[beq_eq_false_iff_ne];exact hc0
  have hc2:(check l != 0)=true:=by rw[bne_iff_ne];exact hc0
  have HE:Hid (runErr l [r0,r1,r2,r3,r4,r5,r6,r7] mem fuel=check l):=by
   show _=_;rw[runErr,if_neg HC.out]
  clear hc0;go_enter Tryz.func98,Tryz.ntmps98;go_wp2_with fail;obtain⟨V,hV,hB0,hRB,hOB⟩:=run_box w r0 r1 r2 r3 r4 r5 r6 r7;rw[hV];clear hV;refine(CodeFault_any A c l V ((hr.below hB0).more hB0.size) HL.out).mono ?_;rintro e w1 ⟨rfl,hb1⟩;have hbw:=hB0.trans (hb1.mono hB0.size);have hR1:=hRB.below hb1 hRB.lt;have hO1:=hOB.below hb1 hOB.lt;obtain⟨gr,hgr⟩:∃ gr,gr=w.heap.size:=⟨_,rfl⟩;obtain⟨gO,hgo⟩:∃ gO,gO=w.heap.size+1:=⟨_,rfl⟩;have hgr0:w.heap.size≤gr:=by omega
  have hgo0:w.heap.size≤gO:=by omega
  have hgg:gr≠gO:=by omega
  rw[←hgo] at hO1 ⊢;rw[←hgr] at hR1 ⊢;clear hgr hgo hRB hOB hB0 hb1 V;have p0:=hR1.cell 0;simp at p0;have hgrl:=hR1.lt;clear p0;obtain⟨q0,q1,q2,q3,q4,q5,q6,q7,q8,q9,q10,p0,p1,p2,p3,p4,p5,p6,p7,p8,p9,p10, -⟩:=hO1.a11;simp at q0 q1 q2 q3 q4 q5 q6 q7 q8 q9 q10;go_wp2;refine bodyPost_ret (v:= .tuple #[.agg #[.int .i64 0, .int .i64 0, .int .i64 0, .int .i64 0, .int .i64 0, .int .i64 0, .int .i64 0, .int .i64 0, .int .i64 0, .slice none 0 0, .slice none 0 0], .int .i64 (check l)]) (by simp[results,Tryz.results98,go_sem,q0,q1,q2,q3,q4,q5,q6,q7,q8,q9,q10]) rfl (RunPost.no (n:=(check l)) HE.out HC.out rfl (layL_below hgo0 [.int .i64 0, .int .i64 0, .int .i64 0, .int .i64 0, .int .i64 0, .int .i64 0, .int .i64 0, .int .i64 0, .int .i64 0, .slice none 0 0, .slice none 0 0] 0 _ hbw))
end Go.Proofs.YtdjamdbamkhblabGreatDoor
namespace Go.Proofs.YtdjamdbamkhblabGreatDoor
open Go.RowKit
set_option linter.unusedVariables false
set_option linter.unusedSimpArgs false
theorem RunOf_any (A Am:Option Addr) (c cm:Nat) (l:List Ins) (r0 r1 r2 r3 r4 r5 r6 r7:Int) (mem:List Int) (fuel:Int) (w:World) (hr:RdI w w.heap.size A l) (hl:l.length≤maxLen)
  (hm:RdN w w.heap.size Am mem) (hml:mem.length≤maxLen):
  Calls Tryz.prog 98 #[.slice A l.length c, .agg #[.int .i64 r0, .int .i64 r1, .int .i64 r2, .int .i64 r3, .int .i64 r4, .int .i64 r5, .int .i64 r6, .int .i64 r7], .slice Am mem.length cm, .int .i64 fuel] w
   (RunPost w (runRes l [r0,r1,r2,r3,r4,r5,r6,r7] mem fuel) (runErr l [r0,r1,r2,r3,r4,r5,r6,r7] mem fuel)):=by
 by_cases h:runErr l [r0,r1,r2,r3,r4,r5,r6,r7] mem fuel=0
 ·have h0:=h
  unfold runErr at h;by_cases hc:check l=0
  ·rw[if_pos hc] at h
   by_cases hb:1024<mem.length
   ·rw[if_pos hb] at h;cases h
   ·rw[if_neg hb] at h
    by_cases hf:fuel<0∨20000<fuel∨([r0,r1,r2,r3,r4,r5,r6,r7]++mem).any oddW=true
    ·rw[if_pos hf] at h;cases h
    ·have hodd:([r0,r1,r2,r3,r4,r5,r6,r7]++mem).any oddW=false:=by
      rw[←Bool.not_eq_true];exact fun e=>hf (.inr (.inr e))
     rw[List.any_append,Bool.or_eq_false_iff] at hodd;exact RunOf_good A Am c cm l r0 r1 r2 r3 r4 r5 r6 r7 mem fuel w hr hl hm hml hc (by omega) (by omega) (by omega) hodd.1 hodd.2
  ·rw[if_neg hc] at h;exact absurd h hc
 ·exact RunOf_bad A Am c cm l r0 r1 r2 r3 r4 r5 r6 r7 mem fuel w hr hl hm hml h
end Go.Proofs.YtdjamdbamkhblabGreatDoor
namespace Go.Proofs.YtdjamdbamkhblabGreatDoor
open Go.RowKit
set_option linter.unusedVariables false
theorem runC_RunOf:RunC 98:=fun A Am c cm l n e mem W h1 h2 h3 h4 h5 h6=>RunOf_any A Am c cm l n 0 0 0 e e 63 0 mem 2000 W h1 h3 h4 h5
end Go.Proofs.YtdjamdbamkhblabGreatDoor
namespace Go.Proofs.YtdjamdbamkhblabGreatDoor
open Go.RowKit Go.WideShapes Go.ChangeShapes Go.ChangeAt Go.Deep Go.Joins
section
variable {H:Type} {enc:TypeId × Value→H} {P:Program}
def Light (P:Program) (t:TypeId) (d:DataW H):Prop:=∀ x∈d.weights P t,x≤140737488351232
theorem Light_all {e:TypeId} {D:Nat→DataW H} (l:List Nat) (h:∀ x∈DataW.weightsAll P e (l.map D),x≤140737488351232):∀ i∈l,Light P e (D i):=by
 induction l with
 | nil=>intro i hi;cases hi
 | cons a r ih=>
   simp only[List.map_cons,DataW.weightsAll,List.mem_append] at h;intro i hi;rcases List.mem_cons.1 hi with rfl|hi
   ·exact fun x hx=>h x (.inl hx)
   ·exact ih (fun x hx=>h x (.inr hx)) i hi
theorem Light_each:∀ (ts:List TypeId) (ds:List (DataW H)),(∀ x∈DataW.weightsEach P ts ds,x≤140737488351232)→∀ (i:Nat) t d,ts[i]? =some t→ds[i]? =some d→Light P t d
 | [],_,_,i,t,d,ht,_=>by simp at ht
 | _::_,[],_,i,t,d,_,hd=>by simp at hd
 | t0::ts,d0::ds,h,i,t,d,ht,hd=>by
   simp only[DataW.weightsEach,List.mem_append] at h;cases i with
   | zero=>
     obtain rfl:t0=t:=by simpa using ht
     obtain rfl:d0=d:=by simpa using hd
     exact fun x hx=>h x (.inl hx)
   | succ i=>exact Light_each ts ds (fun x hx=>h x (.inr hx)) i t d (by simpa using ht) (by simpa using hd)
theorem Light_arg {ts:List TypeId} {ds:List (DataW H)} (hsz:(DataW.weightsEach P ts ds).all (· ≤reachBytes)=true) (i:Nat) {t:TypeId} {d:DataW H} (ht:ts[i]? =some t) (hd:ds[i]? =some d):Light P t d:=
 Light_each ts ds (fun x hx=>by have:=List.all_eq_true.1 hsz x hx;have:=of_decide_eq_true this;simpa [reachBytes] using this) i t d ht hd
theorem open_rowsW {W:World} {base:Nat} {held:Bool} {t e:TypeId} {C:Nat} {v:Value} {y:DataW H × List MemPlace} {fuel:Nat}
  (ht:P.underlying t=some (.slice e)) (hC:P.cellsOf e=C) (hC0:0<C) (hf:DataW.trod enc P W base (fun _=>true) held fuel t [v]=some y) (hL:Light P t y.1):
  ∃ (A:Option Addr) (n c:Nat),v= .slice A n c∧n≤c∧c≤maxLen∧(A=none→n=0∧c=0)∧c*P.bytesOf e≤140737488351232∧
   (0<n→∃ b o,A=some ⟨b,o,none⟩∧b<W.heap.size∧∀ i,i<n→∃ (cs:List Value) (fuel:Nat) (y:DataW H × List MemPlace),cs.length=C∧(∀ j,j<C→W.cell? ⟨b,o+i*C+j,none⟩=cs[j]?)∧
     DataW.trod enc P W base (fun _=>true) held fuel e cs=some y∧Light P e y.1):=by
 rcases open_slice ht hf with⟨hcs,_⟩|⟨a,len,cap,m,n',D,Pl,hcs,_,hl,hm,hmm,hy,hi⟩
 ·obtain rfl:v= .slice none 0 0:=by simpa using hcs
  exact⟨none,0,0,rfl,Nat.le_refl _,Nat.zero_le _,fun _=>⟨rfl,rfl⟩,by simp,fun h=>absurd h (by omega)⟩
 ·obtain rfl:v= .slice (some a) len cap:=by simpa using hcs
  obtain⟨n,rfl⟩:∃ n,n=len:=⟨_,rfl⟩;obtain⟨c,rfl⟩:∃ c,c=cap:=⟨_,rfl⟩;have hmc:m=c:=by simpa using hmm
  subst hmc;subst hy;have hL':=hL;unfold Light at hL';simp only[DataW.weights,ht,List.mem_cons,List.mem_append,List.length_map,List.length_range] at hL';have hw:m*P.bytesOf e≤140737488351232:=by
   have:=hL' _ (.inl rfl)
   rwa [show n+(m - n)=m by omega] at this
  have hel:=Light_all (List.range n) (fun x hx=>hL' x (.inr (.inl hx)));refine⟨some a,n,m,rfl,hl,hm,fun h=>(nomatch h),hw,fun hn=>?_⟩;have spot:∀ (q:Addr) (u:Value),W.cell? q=some u→q=⟨q.block,q.off,none⟩:=by
   rintro⟨b,o,sp⟩ u hq;cases sp with
   | none=>rfl
   | some x=>simp[World.cell?] at hq;split at hq<;>simp at hq
  have key:∀ i,i<n→∃ cs',cs'.length=C∧(∀ j,j<C→W.cell? (a.add (i*C+j))=cs'[j]?)∧DataW.trod enc P W base (fun _=>true) held n' e cs'=some (D i,Pl i):=by
   intro i hin;obtain⟨cs',h1,h2⟩:=hi i (by omega);rw[hC] at h1;obtain⟨_,hlen,hat⟩:=World.cells?_some h1;exact⟨cs',hlen,fun j hj=>by rw[←Go.Deep.add_add];exact hat j hj,h2⟩
  obtain⟨cs0,hl0,hc0,_⟩:=key 0 hn;have h00:=hc0 0 hC0;rw[List.getElem?_eq_getElem (by omega),show a.add (0*C+0)=a by simp[Addr.add]] at h00;have ha:=spot _ _ h00;have hlt:=World.block_lt_of_cell? W _ h00;refine⟨a.block,a.off,congrArg some ha,hlt,fun i hin=>?_⟩;obtain⟨cs',h1,h2,h3⟩:=key i hin;refine⟨cs',n',_,h1,fun j hj=>?_,h3,hel i (List.mem_range.2 hin)⟩;rw[←h2 j hj];by_cases hz:i*C+j=0
  ·rw[Nat.add_assoc,hz,show a.add 0=a by simp[Addr.add],Nat.add_zero, ←ha]
  ·unfold Addr.add
   rw[if_neg hz,Nat.add_assoc]
theorem reach_slice {W:World} {base:Nat} {held:Bool} {t e:TypeId} {C:Nat} {A:Option Addr} {n c:Nat} {y:DataW H × List MemPlace} {fuel:Nat}
  (ht:P.underlying t=some (.slice e)) (hC:P.cellsOf e=C) (hC0:0<C) (hf:DataW.trod enc P W base (fun _=>true) held fuel t [.slice A n c]=some y) (hL:Light P t y.1):c*P.bytesOf e≤140737488351232:=by
 obtain⟨A',n',c',hv,_,_,_,h,_⟩:=open_rowsW ht hC hC0 hf hL;cases hv
 exact h
theorem open_fields {W:World} {base:Nat} {held:Bool} {t:TypeId} {fs:Array Field} {cs:List Value} {y:DataW H × List MemPlace} {fuel:Nat}
  (ht:P.underlying t=some (.struct fs)) (hone:oneCellFields P fs=true) (hlen:cs.length=fs.size) (h:DataW.trod enc P W base (fun _=>true) held fuel t cs=some y) (hL:Light P t y.1):
  ∃ n,∀ (i:Nat) f,fs[i]? =some f→∃ u z,cs[i]? =some u∧DataW.trod enc P W base (fun _=>true) held n f.type [u]=some z∧Light P f.type z.1:=by
 obtain⟨xs,n,_,hx,_,hl,hg⟩:=DataW.trod_struct ht h;refine⟨n,fun i f hf=>?_⟩;have hi:i<fs.size:=(Array.getElem?_eq_some_iff.1 hf).1;obtain⟨o0,k0⟩:=hone_of hone i f hf;have hg':=hg i f hf;rw[o0,k0,List.getElem?_eq_getElem (show i<xs.length by omega)] at hg';have hcs:(cs.drop i).take 1=[cs[i]'(by omega)]:=by
  rw[List.drop_eq_getElem_cons (by omega)];rfl
 rw[hcs] at hg';refine⟨cs[i]'(by omega),xs[i]'(by omega),List.getElem?_eq_getElem (by omega),hg',?_⟩;subst hx;unfold Light at hL;simp only[DataW.weights,ht] at hL;exact Light_each _ _ hL i _ _ (by simp[hf]) (by simp[List.getElem?_map,List.getElem?_eq_getElem (show i<xs.length by omega)])
theorem fields_of_agg {W:World} {base:Nat} {held:Bool} {t:TypeId} {fs:Array Field} {v:Value} {d:DataW H} {p:List MemPlace} {r:Reach} {b0:Nat}
  (ht:P.underlying t=some (.struct fs)) (hone:oneCellFields P fs=true) (hC:P.cellsOf t=fs.size) (hv:Value.okWide P W r b0 t v) (h:DataW.Trod enc P W base (fun _=>true) held t v d p) (hL:Light P t d):
  ∃ cs n,v= .agg cs∧cs.size=fs.size∧∀ (i:Nat) f,fs[i]? =some f→∃ u z,cs[i]? =some u∧DataW.trod enc P W base (fun _=>true) held n f.type [u]=some z∧Light P f.type z.1:=by
 obtain⟨cs,rfl,hsz⟩:=okWide_struct ht hv;obtain⟨fuel,hf⟩:=h;have hlen:(Value.agg cs).cells.toList.length=fs.size:=by simp[Value.cells];omega
 obtain⟨n,hn⟩:=open_fields (y:=(d,p)) ht hone hlen hf hL;exact⟨cs,n,rfl,by omega,fun i f hf=>by simpa [Value.cells] using hn i f hf⟩
end
end Go.Proofs.YtdjamdbamkhblabGreatDoor
namespace Go.Proofs.YtdjamdbamkhblabGreatDoor
open Go.RowKit Go.WideShapes Go.ChangeShapes Go.ChangeAt Go.Deep Go.Joins
theorem cells_Module':Tryz.prog.cellsOf 41=3:=by kernel_rfl
theorem bytes_int:Tryz.prog.bytesOf 3=8:=by kernel_rfl
theorem bytes_Instr:Tryz.prog.bytesOf 98=32:=by kernel_rfl
theorem bytes_Module:Tryz.prog.bytesOf 41=64:=by kernel_rfl
section
variable {H:Type} {enc:TypeId × Value→H}
theorem open_mod1 {W:World} {base fuel:Nat} {held:Bool} {cs:List Value} {y:DataW H × List MemPlace} (hlen:cs.length=3)
  (h:DataW.trod enc Tryz.prog W base (fun _=>true) held fuel 41 cs=some y) (hL:Light Tryz.prog 41 y.1):
  ∃ (m:Mod) (A:Option Addr) (c:Nat) (A':Option Addr) (c':Nat),cs=[.string m.name, .slice A m.code.length c, .slice A' m.data.length c']∧ModAt W W.heap.size A c A' c' m∧(∀ i∈m.code,i.wf)∧∀ n∈m.data,wf64 n:=by
 obtain⟨n,hf⟩:=open_fields Tryz.underlying41 (by kernel_rfl) hlen h hL;obtain⟨u0,z0,k0,g0,L0⟩:=hf 0 _ rfl;obtain⟨u1,z1,k1,g1,L1⟩:=hf 1 _ rfl;obtain⟨u2,z2,k2,g2,L2⟩:=hf 2 _ rfl;obtain⟨s,e0,rfl,hs⟩:=DataW.trod_string Tryz.underlying9 g0;obtain⟨A,c,l,rfl,hlc,hcm,hnil,hr,hw⟩:=open_code' Tryz.underlying39 Tryz.underlying98 (by kernel_rfl) cells_Instr Tryz.underlying3 Tryz.underlying3 Tryz.underlying3 Tryz.underlying3 g1;obtain⟨A',c',l',rfl,hlc',hcm',hnil',hr',hw'⟩:=open_intlist' Tryz.underlying23 Tryz.underlying3 cells_int g2;have w1:=reach_slice Tryz.underlying39 cells_Instr (by omega) g1 L1;have w2:=reach_slice Tryz.underlying23 cells_int (by omega) g2 L2;rw[bytes_Instr] at w1;rw[bytes_int] at w2;obtain rfl:u0= .string s:=by simpa using e0
 have hS:s.size≤140737488351232:=by
  have:=L0 s.data.toList.length (by simp[DataW.weights])
  simpa using this
 refine⟨⟨s,l,l'⟩,A,c,A',c',?_,⟨hr,hr',hS,by show l.length*32≤_;omega,by show l'.length*8≤_;omega,hnil,hnil'⟩,hw,hw'⟩
 match cs,hlen with
 | [x0,x1,x2],_=>
   simp at k0 k1 k2;subst k0;subst k1;subst k2;rfl
theorem open_mods {W:World} {base fuel:Nat} {held:Bool} {v:Value} {y:DataW H × List MemPlace}
  (h:DataW.trod enc Tryz.prog W base (fun _=>true) held fuel 22 [v]=some y) (hL:Light Tryz.prog 22 y.1):
  ∃ (A:Option Addr) (c:Nat) (l:List Mod),v= .slice A l.length c∧l.length≤c∧(A=none→l.length=0∧c=0)∧c*64≤140737488351232∧RdM W W.heap.size A l∧∀ m∈l,(∀ i∈m.code,i.wf)∧∀ n∈m.data,wf64 n:=by
 obtain⟨A,n,c,rfl,hn,_,hnil,hby,hx⟩:=open_rowsW Tryz.underlying22 cells_Module' (by omega) h hL;rw[bytes_Module] at hby
 by_cases hn0:0<n
 ·obtain⟨b,o,rfl,hb,hi⟩:=hx hn0
  obtain⟨l,hl,hp⟩:=choose_list (α:=Mod) (n:=n) (p:=fun i m=>((∀ i∈m.code,i.wf)∧∀ n∈m.data,wf64 n)∧∃ A1 c1 A2 c2,
    W.cell? ⟨b,o+i*3,none⟩=some (.string m.name)∧W.cell? ⟨b,o+i*3+1,none⟩=some (.slice A1 m.code.length c1)∧
    W.cell? ⟨b,o+i*3+2,none⟩=some (.slice A2 m.data.length c2)∧ModAt W W.heap.size A1 c1 A2 c2 m) (fun i hin=>by
   obtain⟨cs,fuel,y,hlen,hcell,htr,hLe⟩:=hi i hin;obtain⟨m,A1,c1,A2,c2,rfl,h1,h2⟩:=open_mod1 hlen htr hLe;exact⟨m,h2,A1,c1,A2,c2,hcell 0 (by omega),hcell 1 (by omega),hcell 2 (by omega),h1⟩)
  subst hl;refine⟨_,c,l,rfl,hn,hnil,hby,fun _=>⟨b,o,rfl,hb,fun k hk=>(hp k hk).2⟩,fun i hi'=>?_⟩;obtain⟨k,hk,rfl⟩:=List.mem_iff_getElem.1 hi';exact(hp k hk).1
 ·obtain rfl:n=0:=by omega
  exact⟨A,c,[],rfl,hn,hnil,hby,fun h=>absurd h (by simp),fun i hi=>by cases hi⟩
end
end Go.Proofs.YtdjamdbamkhblabGreatDoor
namespace Go.Proofs.YtdjamdbamkhblabGreatDoor
open Go.RowKit Go.WideShapes Go.ChangeShapes Go.ChangeAt Go.Deep Go.Joins
theorem kcells_Node:Tryz.prog.cellsOf 54=4:=by kernel_rfl
theorem kcells_End:Tryz.prog.cellsOf 68=3:=by kernel_rfl
theorem kcells_Proc:Tryz.prog.cellsOf 45=2:=by kernel_rfl
theorem kcells_str:Tryz.prog.cellsOf 9=1:=by kernel_rfl
theorem kcells_Kernel:Tryz.prog.cellsOf 28=5:=by kernel_rfl
theorem kbytes_Node:Tryz.prog.bytesOf 54=48:=by kernel_rfl
theorem kbytes_End:Tryz.prog.bytesOf 68=24:=by kernel_rfl
theorem kbytes_Proc:Tryz.prog.bytesOf 45=32:=by kernel_rfl
theorem kbytes_str:Tryz.prog.bytesOf 9=16:=by kernel_rfl
section
variable {H:Type} {enc:TypeId × Value→H}
theorem open_strs {W:World} {base fuel:Nat} {held:Bool} {v:Value} {y:DataW H × List MemPlace}
  (h:DataW.trod enc Tryz.prog W base (fun _=>true) held fuel 25 [v]=some y) (hL:Light Tryz.prog 25 y.1):
  ∃ (A:Option Addr) (c:Nat) (l:List ByteArray),v= .slice A l.length c∧l.length≤c∧(A=none→l.length=0∧c=0)∧c*16≤140737488351232∧RdS W W.heap.size A l∧∀ s∈l,s.size≤maxLen:=by
 obtain⟨A,n,c,rfl,hn,_,hnil,hby,hx⟩:=open_rowsW Tryz.underlying25 kcells_str (by omega) h hL;rw[kbytes_str] at hby
 by_cases hn0:0<n
 ·obtain⟨b,o,rfl,hb,hi⟩:=hx hn0
  obtain⟨l,hl,hp⟩:=choose_list (α:=ByteArray) (n:=n) (p:=fun i s=>s.size≤maxLen∧W.cell? ⟨b,o+i,none⟩=some (.string s)) (fun i hin=>by
   obtain⟨cs,fuel,y,hlen,hcell,htr,_⟩:=hi i hin;obtain⟨s,rfl,_,hs⟩:=DataW.trod_string Tryz.underlying9 htr;have:=hcell 0 (by omega);simp at this;exact⟨s,hs,this⟩)
  subst hl;refine⟨_,c,l,rfl,hn,hnil,hby,fun _=>⟨b,o,rfl,hb,fun k hk=>(hp k hk).2⟩,fun i hi'=>?_⟩;obtain⟨k,hk,rfl⟩:=List.mem_iff_getElem.1 hi';exact(hp k hk).1
 ·obtain rfl:n=0:=by omega
  exact⟨A,c,[],rfl,hn,hnil,hby,fun h=>absurd h (by simp),fun i hi=>by cases hi⟩
theorem open_nodes {W:World} {base fuel:Nat} {held:Bool} {v:Value} {y:DataW H × List MemPlace}
  (h:DataW.trod enc Tryz.prog W base (fun _=>true) held fuel 24 [v]=some y) (hL:Light Tryz.prog 24 y.1):
  ∃ (A:Option Addr) (c:Nat) (l:List Nod),v= .slice A l.length c∧l.length≤c∧(A=none→l.length=0∧c=0)∧c*48≤140737488351232∧RdD W W.heap.size A l∧∀ x∈l,wf64 x.kind∧wf64 x.unit∧x.name.size≤maxLen∧x.data.size≤maxLen:=by
 obtain⟨A,n,c,rfl,hn,_,hnil,hby,hx⟩:=open_rowsW Tryz.underlying24 kcells_Node (by omega) h hL;rw[kbytes_Node] at hby
 by_cases hn0:0<n
 ·obtain⟨b,o,rfl,hb,hi⟩:=hx hn0
  obtain⟨l,hl,hp⟩:=choose_list (α:=Nod) (n:=n) (p:=fun i x=>(wf64 x.kind∧wf64 x.unit∧x.name.size≤maxLen∧x.data.size≤maxLen)∧
    W.cell? ⟨b,o+i*4,none⟩=some (.string x.name)∧W.cell? ⟨b,o+i*4+1,none⟩=some (.int .i64 x.kind)∧W.cell? ⟨b,o+i*4+2,none⟩=some (.string x.data)∧W.cell? ⟨b,o+i*4+3,none⟩=some (.int .i64 x.unit)) (fun i hin=>by
   obtain⟨cs,fuel,y,hlen,hcell,htr,hLe⟩:=hi i hin;obtain⟨m,hf⟩:=open_fields Tryz.underlying54 (by kernel_rfl) (by simpa using hlen) htr hLe;obtain⟨u0,r0,k0,g0,_⟩:=hf 0 _ rfl;obtain⟨u1,r1,k1,g1,_⟩:=hf 1 _ rfl;obtain⟨u2,r2,k2,g2,_⟩:=hf 2 _ rfl;obtain⟨u3,r3,k3,g3,_⟩:=hf 3 _ rfl;obtain⟨s,e0,_,hs⟩:=DataW.trod_string Tryz.underlying9 g0;obtain⟨q,e1,_,hq⟩:=DataW.trod_int Tryz.underlying3 g1;obtain⟨d,e2,_,hd⟩:=DataW.trod_string Tryz.underlying9 g2;obtain⟨r,e3,_,hr⟩:=DataW.trod_int Tryz.underlying3 g3;simp at e0 e1 e2 e3;subst e0;subst e1;subst e2;subst e3;exact⟨⟨s,q,d,r⟩,⟨wf64_of hq,wf64_of hr,hs,hd⟩,(hcell 0 (by omega)).trans k0,(hcell 1 (by omega)).trans k1,(hcell 2 (by omega)).trans k2,(hcell 3 (by omega)).trans k3⟩)
  subst hl;refine⟨_,c,l,rfl,hn,hnil,hby,fun _=>⟨b,o,rfl,hb,fun k hk=>(hp k hk).2⟩,fun i hi'=>?_⟩;obtain⟨k,hk,rfl⟩:=List.mem_iff_getElem.1 hi';exact(hp k hk).1
 ·obtain rfl:n=0:=by omega
  exact⟨A,c,[],rfl,hn,hnil,hby,fun h=>absurd h (by simp),fun i hi=>by cases hi⟩
theorem open_ends {W:World} {base fuel:Nat} {held:Bool} {v:Value} {y:DataW H × List MemPlace}
  (h:DataW.trod enc Tryz.prog W base (fun _=>true) held fuel 43 [v]=some y) (hL:Light Tryz.prog 43 y.1):
  ∃ (A:Option Addr) (c:Nat) (l:List Opn),v= .slice A l.length c∧l.length≤c∧(A=none→l.length=0∧c=0)∧c*24≤140737488351232∧RdE W W.heap.size A l∧∀ x∈l,wf64 x.kind∧wf64 x.node∧wf64 x.pos:=by
 obtain⟨A,n,c,rfl,hn,_,hnil,hby,hx⟩:=open_rowsW Tryz.underlying43 kcells_End (by omega) h hL;rw[kbytes_End] at hby
 by_cases hn0:0<n
 ·obtain⟨b,o,rfl,hb,hi⟩:=hx hn0
  obtain⟨l,hl,hp⟩:=choose_list (α:=Opn) (n:=n) (p:=fun i x=>(wf64 x.kind∧wf64 x.node∧wf64 x.pos)∧
    W.cell? ⟨b,o+i*3,none⟩=some (.int .i64 x.kind)∧W.cell? ⟨b,o+i*3+1,none⟩=some (.int .i64 x.node)∧W.cell? ⟨b,o+i*3+2,none⟩=some (.int .i64 x.pos)) (fun i hin=>by
   obtain⟨cs,fuel,y,hlen,hcell,htr,hLe⟩:=hi i hin;obtain⟨m,hf⟩:=open_fields Tryz.underlying68 (by kernel_rfl) (by simpa using hlen) htr hLe;obtain⟨u0,r0,k0,g0,_⟩:=hf 0 _ rfl;obtain⟨u1,r1,k1,g1,_⟩:=hf 1 _ rfl;obtain⟨u2,r2,k2,g2,_⟩:=hf 2 _ rfl;obtain⟨q,e0,_,hq⟩:=DataW.trod_int Tryz.underlying3 g0;obtain⟨d,e1,_,hd⟩:=DataW.trod_int Tryz.underlying3 g1;obtain⟨r,e2,_,hr⟩:=DataW.trod_int Tryz.underlying3 g2;simp at e0 e1 e2;subst e0;subst e1;subst e2;exact⟨⟨q,d,r⟩,⟨wf64_of hq,wf64_of hd,wf64_of hr⟩,(hcell 0 (by omega)).trans k0,(hcell 1 (by omega)).trans k1,(hcell 2 (by omega)).trans k2⟩)
  subst hl;refine⟨_,c,l,rfl,hn,hnil,hby,fun _=>⟨b,o,rfl,hb,fun k hk=>(hp k hk).2⟩,fun i hi'=>?_⟩;obtain⟨k,hk,rfl⟩:=List.mem_iff_getElem.1 hi';exact(hp k hk).1
 ·obtain rfl:n=0:=by omega
  exact⟨A,c,[],rfl,hn,hnil,hby,fun h=>absurd h (by simp),fun i hi=>by cases hi⟩
theorem open_procs {W:World} {base fuel:Nat} {held:Bool} {v:Value} {y:DataW H × List MemPlace}
  (h:DataW.trod enc Tryz.prog W base (fun _=>true) held fuel 26 [v]=some y) (hL:Light Tryz.prog 26 y.1):
  ∃ (A:Option Addr) (c:Nat) (l:List Prc),v= .slice A l.length c∧l.length≤c∧(A=none→l.length=0∧c=0)∧c*32≤140737488351232∧RdP W W.heap.size A l∧∀ p∈l,∀ x∈p.ends,wf64 x.kind∧wf64 x.node∧wf64 x.pos:=by
 obtain⟨A,n,c,rfl,hn,_,hnil,hby,hx⟩:=open_rowsW Tryz.underlying26 kcells_Proc (by omega) h hL;rw[kbytes_Proc] at hby
 by_cases hn0:0<n
 ·obtain⟨b,o,rfl,hb,hi⟩:=hx hn0
  obtain⟨l,hl,hp⟩:=choose_list (α:=Prc) (n:=n) (p:=fun i x=>(∀ y∈x.ends,wf64 y.kind∧wf64 y.node∧wf64 y.pos)∧∃ A1 c1,
    W.cell? ⟨b,o+i*2,none⟩=some (.bool x.live)∧W.cell? ⟨b,o+i*2+1,none⟩=some (.slice A1 x.ends.length c1)∧PrcAt W W.heap.size A1 c1 x) (fun i hin=>by
   obtain⟨cs,fuel,y,hlen,hcell,htr,hLe⟩:=hi i hin;obtain⟨m,hf⟩:=open_fields Tryz.underlying45 (by kernel_rfl) (by simpa using hlen) htr hLe;obtain⟨u0,r0,k0,g0,_⟩:=hf 0 _ rfl;obtain⟨u1,r1,k1,g1,L1⟩:=hf 1 _ rfl;obtain⟨q,e0,_⟩:=DataW.trod_bool Tryz.underlying4 g0;obtain⟨A1,c1,l1,rfl,hlc,hnil1,hby1,hr1,hw1⟩:=open_ends g1 L1;simp at e0;subst e0;exact⟨⟨q,l1⟩,hw1,A1,c1,(hcell 0 (by omega)).trans k0,(hcell 1 (by omega)).trans k1,⟨hr1,by show l1.length*24≤_;omega,hnil1⟩⟩)
  subst hl;refine⟨_,c,l,rfl,hn,hnil,hby,fun _=>⟨b,o,rfl,hb,fun k hk=>(hp k hk).2⟩,fun i hi'=>?_⟩;obtain⟨k,hk,rfl⟩:=List.mem_iff_getElem.1 hi';exact(hp k hk).1
 ·obtain rfl:n=0:=by omega
  exact⟨A,c,[],rfl,hn,hnil,hby,fun h=>absurd h (by simp),fun i hi=>by cases hi⟩
set_option maxRecDepth 100000 in
theorem open_kernelW {W:World} {base:Nat} {held:Bool} {v:Value} {d:DataW H} {p:List MemPlace} {r:Reach} {b0:Nat}
  (hv:Value.okWide Tryz.prog W r b0 28 v) (h:DataW.Trod enc Tryz.prog W base (fun _=>true) held 28 v d p) (hL:Light Tryz.prog 28 d):
  ∃ (k:Krn) (a:KA),v= .agg (a.cells k)∧KrnAt W W.heap.size a k∧k.wf∧a.caps k:=by
 obtain⟨cs,n,rfl,hsz,hf⟩:=fields_of_agg Tryz.underlying28 (by kernel_rfl) kcells_Kernel hv h hL;obtain⟨u0,r0,k0,g0,L0⟩:=hf 0 _ rfl;obtain⟨u1,r1,k1,g1,L1⟩:=hf 1 _ rfl;obtain⟨u2,r2,k2,g2,L2⟩:=hf 2 _ rfl;obtain⟨u3,r3,k3,g3,L3⟩:=hf 3 _ rfl;obtain⟨u4,r4,k4,g4,L4⟩:=hf 4 _ rfl;obtain⟨A0,c0,l0,rfl,h00,n0,y0,q0,w0⟩:=open_mods g0 L0;obtain⟨A1,c1,l1,rfl,h01,_,n1,q1,w1⟩:=open_intlist' Tryz.underlying23 Tryz.underlying3 cells_int g1;have y1:=reach_slice Tryz.underlying23 cells_int (by omega) g1 L1;rw[bytes_int] at y1;obtain⟨A2,c2,l2,rfl,h02,n2,y2,q2,w2⟩:=open_nodes g2 L2;obtain⟨A3,c3,l3,rfl,h03,n3,y3,q3,w3⟩:=open_strs g3 L3;obtain⟨A4,c4,l4,rfl,h04,n4,y4,q4,w4⟩:=open_procs g4 L4;refine⟨⟨l0,l1,l2,l3,l4⟩,⟨A0,c0,A1,c1,A2,c2,A3,c3,A4,c4⟩,?_,⟨q0,q1,q2,q3,q4,by show l0.length*64≤_;omega,by show l1.length*8≤_;omega,by show l2.length*48≤_;omega,by show l3.length*16≤_;omega,by show l4.length*32≤_;omega,n0,n1,n2,n3,n4⟩,
  ⟨fun m hm=>(w0 m hm).1,fun m hm=>(w0 m hm).2,w1,w2,w3,w4⟩,⟨h00,h02⟩⟩
 have e5:cs.size=5:=hsz
 match cs,e5 with
 | ⟨[x0,x1,x2,x3,x4]⟩,_=>
  simp at k0 k1 k2 k3 k4;subst k0;subst k1;subst k2;subst k3;subst k4;rfl
end
end Go.Proofs.YtdjamdbamkhblabGreatDoor
namespace Go.Proofs.YtdjamdbamkhblabGreatDoor
open Go.RowKit Go.WideShapes Go.ChangeShapes Go.ChangeAt Go.Deep Go.Joins
theorem kcells_Act:Tryz.prog.cellsOf 30=6:=by kernel_rfl
section
variable {H:Type} {enc:TypeId × Value→H}
set_option maxRecDepth 100000 in
theorem open_actW {W:World} {base:Nat} {held:Bool} {v:Value} {d:DataW H} {p:List MemPlace} {r:Reach} {b0:Nat}
  (hv:Value.okWide Tryz.prog W r b0 30 v) (h:DataW.Trod enc Tryz.prog W base (fun _=>true) held 30 v d p) (hL:Light Tryz.prog 30 d):
  ∃ x:Akt,v= .agg x.cells∧wf64 x.kind∧wf64 x.p∧wf64 x.n∧wf64 x.m∧x.name.size≤maxLen∧x.data.size≤maxLen:=by
 obtain⟨cs,n,rfl,hsz,hf⟩:=fields_of_agg Tryz.underlying30 (by kernel_rfl) kcells_Act hv h hL;obtain⟨u0,r0,k0,g0,_⟩:=hf 0 _ rfl;obtain⟨u1,r1,k1,g1,_⟩:=hf 1 _ rfl;obtain⟨u2,r2,k2,g2,_⟩:=hf 2 _ rfl;obtain⟨u3,r3,k3,g3,_⟩:=hf 3 _ rfl;obtain⟨u4,r4,k4,g4,_⟩:=hf 4 _ rfl;obtain⟨u5,r5,k5,g5,_⟩:=hf 5 _ rfl;obtain⟨q0,e0,_,w0⟩:=DataW.trod_int Tryz.underlying3 g0;obtain⟨q1,e1,_,w1⟩:=DataW.trod_int Tryz.underlying3 g1;obtain⟨q2,e2,_,w2⟩:=DataW.trod_int Tryz.underlying3 g2;obtain⟨q3,e3,_,w3⟩:=DataW.trod_int Tryz.underlying3 g3;obtain⟨s4,e4,_,w4⟩:=DataW.trod_string Tryz.underlying9 g4;obtain⟨s5,e5,_,w5⟩:=DataW.trod_string Tryz.underlying9 g5;simp at e0 e1 e2 e3 e4 e5;subst e0;subst e1;subst e2;subst e3;subst e4;subst e5;refine⟨⟨q0,q1,q2,q3,s4,s5⟩,?_,wf64_of w0,wf64_of w1,wf64_of w2,wf64_of w3,w4,w5⟩;have e5:cs.size=6:=hsz
 match cs,e5 with
 | ⟨[x0,x1,x2,x3,x4,x5]⟩,_=>
  simp at k0 k1 k2 k3 k4 k5;subst k0;subst k1;subst k2;subst k3;subst k4;subst k5;rfl
end
end Go.Proofs.YtdjamdbamkhblabGreatDoor
