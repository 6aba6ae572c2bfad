/- The walk of the reference's RunOf where it refuses. No condition. The walk of the reference's RunOf: what it returns, for every code, registers, words and fuel. No condition. The run's contract, put in for the reference's RunOf. Condition: the listed table. Arguments opened, with what a machine can reach of them: no condition. Modules and kernels that came in, opened, with what a machine can reach: no condition. A kernel that came in, opened, with what a machine can reach of it: no condition. An act that came in, opened. No condition. A row of acts that came in, opened. No condition. What the cards' proofs of this seat share: the table that the rows list, and a world in which it lies. -/
import Derived.Test.YtdjamdbamkhblacGreatDoorG34
set_option maxRecDepth 100000
namespace Go.Proofs.YtdjamdbamkhblacGreatDoor
open Go.RowKit
set_option linter.unusedVariables false
set_option linter.unusedSimpArgs false
set_option maxHeartbeats 40000000 in
theorem Mzs (A Am:Option Addr) (c cm:Nat) (l:List Ins) (r0 r1 r2 r3 r4 r5 r6 r7:Int) (mem:List Int) (fuel:Int) (w:World) (hr:RdI w w.heap.size A l) (hl:l.length≤maxLen)
  (hm:RdN w w.heap.size Am mem) (hml:mem.length≤maxLen) (hbad:Azv l [r0,r1,r2,r3,r4,r5,r6,r7] mem fuel≠0):
  Calls Tryz.prog 102 #[.slice A l.length c, .agg #[.int .i64 r0, .int .i64 r1, .int .i64 r2, .int .i64 r3, .int .i64 r4, .int .i64 r5, .int .i64 r6, .int .i64 r7], .slice Am mem.length cm, .int .i64 fuel] w
   (RunPost w (Czq l [r0,r1,r2,r3,r4,r5,r6,r7] mem fuel) (Azv l [r0,r1,r2,r3,r4,r5,r6,r7] mem fuel)):=by
 have HL:=Lib.hid hl;have HML:=Lib.hid hml;unfold maxLen at hl hml;by_cases hc0:check l=0
 ·have HC:=Lib.hid hc0
  clear hc0;by_cases hbig:1024<mem.length
  ·have hbig2:(1024:Int)<(mem.length:Int):=by omega
   have HE:Hid (Azv l [r0,r1,r2,r3,r4,r5,r6,r7] mem fuel=1):=by
    show _=_;rw[Azv,if_pos HC.out,if_pos hbig]
   clear hbig;go_enter Tryz.func102,Tryz.ntmps102;go_wp2_with fail;obtain⟨V,hV,hB0,hRB,hOB⟩:=Czr w r0 r1 r2 r3 r4 r5 r6 r7;rw[hV];clear hV;refine(Bz2 A c l V ((hr.below hB0).more hB0.size) HL.out).mono ?_;rw[HC.out];rintro e w1 ⟨rfl,hb1⟩;have hbw:=hB0.trans (hb1.mono hB0.size);have hR1:=hRB.below hb1 hRB.lt;have hO1:=hOB.below hb1 hOB.lt;obtain⟨gr,hgr⟩:∃ gr,gr=w.heap.size:=⟨_,rfl⟩;obtain⟨gO,hgo⟩:∃ gO,gO=w.heap.size+1:=⟨_,rfl⟩;have hgr0:w.heap.size≤gr:=by omega
   have hgo0:w.heap.size≤gO:=by omega
   have hgg:gr≠gO:=by omega
   rw[←hgo] at hO1 ⊢;rw[←hgr] at hR1 ⊢;clear hgr hgo hRB hOB hB0 hb1 V;have p0:=hR1.cell 0;simp at p0;have hgrl:=hR1.lt;clear p0;obtain⟨q0,q1,q2,q3,q4,q5,q6,q7,q8,q9,q10,p0,p1,p2,p3,p4,p5,p6,p7,p8,p9,p10, -⟩:=hO1.a11;simp at q0 q1 q2 q3 q4 q5 q6 q7 q8 q9 q10;go_wp2;refine bodyPost_ret (v:= .tuple #[.agg #[.int .i64 0, .int .i64 0, .int .i64 0, .int .i64 0, .int .i64 0, .int .i64 0, .int .i64 0, .int .i64 0, .int .i64 0, .slice none 0 0, .slice none 0 0], .int .i64 1]) (by simp[results,Tryz.results102,go_sem,q0,q1,q2,q3,q4,q5,q6,q7,q8,q9,q10]) rfl (RunPost.no (n:=1) HE.out (by omega) rfl (Bz3 hgo0 [.int .i64 0, .int .i64 0, .int .i64 0, .int .i64 0, .int .i64 0, .int .i64 0, .int .i64 0, .int .i64 0, .int .i64 0, .slice none 0 0, .slice none 0 0] 0 _ hbw))
  ·have hbig2:(mem.length:Int)≤1024:=by omega
   by_cases hf:fuel<0∨20000<fuel
   ·have HE:Hid (Azv l [r0,r1,r2,r3,r4,r5,r6,r7] mem fuel=2):=by
     show _=_;rw[Azv,if_pos HC.out,if_neg hbig,if_pos (by rcases hf with h|h<;>simp[h])]
    have hin:inB fuel 0 20000=false:=Azp hf;clear hbig hf;go_enter Tryz.func102,Tryz.ntmps102;go_wp2_with fail;obtain⟨V,hV,hB0,hRB,hOB⟩:=Czr w r0 r1 r2 r3 r4 r5 r6 r7;rw[hV];clear hV;refine(Bz2 A c l V ((hr.below hB0).more hB0.size) HL.out).mono ?_;rw[HC.out];rintro e w1 ⟨rfl,hb1⟩;have hbw:=hB0.trans (hb1.mono hB0.size);have hR1:=hRB.below hb1 hRB.lt;have hO1:=hOB.below hb1 hOB.lt;obtain⟨gr,hgr⟩:∃ gr,gr=w.heap.size:=⟨_,rfl⟩;obtain⟨gO,hgo⟩:∃ gO,gO=w.heap.size+1:=⟨_,rfl⟩;have hgr0:w.heap.size≤gr:=by omega
    have hgo0:w.heap.size≤gO:=by omega
    have hgg:gr≠gO:=by omega
    rw[←hgo] at hO1 ⊢;rw[←hgr] at hR1 ⊢;clear hgr hgo hRB hOB hB0 hb1 V;have p0:=hR1.cell 0;simp at p0;have hgrl:=hR1.lt;clear p0;obtain⟨q0,q1,q2,q3,q4,q5,q6,q7,q8,q9,q10,p0,p1,p2,p3,p4,p5,p6,p7,p8,p9,p10, -⟩:=hO1.a11;simp at q0 q1 q2 q3 q4 q5 q6 q7 q8 q9 q10;go_wp2_with (first|(go_at_call 21;refine(Azi _ _ _ _).mono ?_;rintro e w' ⟨rfl,rfl⟩));refine bodyPost_ret (v:= .tuple #[.agg #[.int .i64 0, .int .i64 0, .int .i64 0, .int .i64 0, .int .i64 0, .int .i64 0, .int .i64 0, .int .i64 0, .int .i64 0, .slice none 0 0, .slice none 0 0], .int .i64 2]) (by simp[results,Tryz.results102,go_sem,q0,q1,q2,q3,q4,q5,q6,q7,q8,q9,q10]) rfl (RunPost.no (n:=2) HE.out (by omega) rfl (Bz3 hgo0 [.int .i64 0, .int .i64 0, .int .i64 0, .int .i64 0, .int .i64 0, .int .i64 0, .int .i64 0, .int .i64 0, .int .i64 0, .slice none 0 0, .slice none 0 0] 0 _ hbw))
   ·have hf1:0≤fuel:=by omega
    have hf2:fuel≤20000:=by omega
    have hin:inB fuel 0 20000=true:=Azl hf1 hf2;cases har:[r0,r1,r2,r3,r4,r5,r6,r7].any oddW with
    | true=>
      have HE:Hid (Azv l [r0,r1,r2,r3,r4,r5,r6,r7] mem fuel=2):=by
       show _=_;rw[Azv,if_pos HC.out,if_neg hbig,if_pos (.inr (.inr (by rw[List.any_append];simp only[har];simp)))]
      clear hbig hf;have HAR:=Lib.hid har;clear har;go_enter Tryz.func102,Tryz.ntmps102;go_wp2_with fail;obtain⟨V,hV,hB0,hRB,hOB⟩:=Czr w r0 r1 r2 r3 r4 r5 r6 r7;rw[hV];clear hV;refine(Bz2 A c l V ((hr.below hB0).more hB0.size) HL.out).mono ?_;rw[HC.out];rintro e w1 ⟨rfl,hb1⟩;have hbw:=hB0.trans (hb1.mono hB0.size);have hR1:=hRB.below hb1 hRB.lt;have hO1:=hOB.below hb1 hOB.lt;obtain⟨gr,hgr⟩:∃ gr,gr=w.heap.size:=⟨_,rfl⟩;obtain⟨gO,hgo⟩:∃ gO,gO=w.heap.size+1:=⟨_,rfl⟩;have hgr0:w.heap.size≤gr:=by omega
      have hgo0:w.heap.size≤gO:=by omega
      have hgg:gr≠gO:=by omega
      rw[←hgo] at hO1 ⊢;rw[←hgr] at hR1 ⊢;clear hgr hgo hRB hOB hB0 hb1 V;have p0:=hR1.cell 0;simp at p0;have hgrl:=hR1.lt;have hrr:RdN w1 w1.heap.size (some ⟨gr,0,none⟩) [r0,r1,r2,r3,r4,r5,r6,r7]:=fun _=>⟨gr,0,rfl,hgrl,fun k hk=>by
       rw[Nat.zero_add,hR1.cell];simp at hk;have:k=0∨k=1∨k=2∨k=3∨k=4∨k=5∨k=6∨k=7:=by omega
       rcases this with h|h|h|h|h|h|h|h<;>subst h<;>rfl⟩
      have HRR:=Lib.hid hrr;have HRM:=Lib.hid ((hm.below hbw).more hbw.size);clear hrr;have CR:Hid (Calls Tryz.prog 58 #[.slice (some ⟨gr,0,none⟩) 8 8] w1 fun e w'=>e= .returned (.bool false)∧w1=w'):=by
       have h:=Bzr (some ⟨gr,0,none⟩) 8 [r0,r1,r2,r3,r4,r5,r6,r7] w1 HRR.out (by simp[maxLen]);rw[HAR.out] at h;exact h
      obtain⟨q0,q1,q2,q3,q4,q5,q6,q7,q8,q9,q10, -⟩:=hO1.a11;have p0':=hO1.frozen 0;obtain⟨-, -, -, -, -, -, -, -, -, -, -, -,p1,p2,p3,p4,p5,p6,p7,p8,p9,p10, -⟩:=hO1.a11;simp at q0 q1 q2 q3 q4 q5 q6 q7 q8 q9 q10;go_wp2_with (first|(go_at_call 21;refine(Azi _ _ _ _).mono ?_;rintro e w' ⟨rfl,rfl⟩)|(go_at_call 58;(with_reducible refine CR.out.mono ?_);rintro e w' ⟨rfl,rfl⟩)|(go_at_call 58;(with_reducible refine CM.out.mono ?_);rintro e w' ⟨rfl,rfl⟩));refine bodyPost_ret (v:= .tuple #[.agg #[.int .i64 0, .int .i64 0, .int .i64 0, .int .i64 0, .int .i64 0, .int .i64 0, .int .i64 0, .int .i64 0, .int .i64 0, .slice none 0 0, .slice none 0 0], .int .i64 2]) (by simp[results,Tryz.results102,go_sem,q0,q1,q2,q3,q4,q5,q6,q7,q8,q9,q10]) rfl (RunPost.no (n:=2) HE.out (by omega) rfl (Bz3 hgo0 [.int .i64 0, .int .i64 0, .int .i64 0, .int .i64 0, .int .i64 0, .int .i64 0, .int .i64 0, .int .i64 0, .int .i64 0, .slice none 0 0, .slice none 0 0] 0 _ hbw))
    | false=>
      cases ham:mem.any oddW with
      | true=>
        have HE:Hid (Azv l [r0,r1,r2,r3,r4,r5,r6,r7] mem fuel=2):=by
         show _=_;rw[Azv,if_pos HC.out,if_neg hbig,if_pos (.inr (.inr (by rw[List.any_append];simp only[har,ham];simp)))]
        clear hbig hf;have HAR:=Lib.hid har;clear har;have HAM:=Lib.hid ham;clear ham;go_enter Tryz.func102,Tryz.ntmps102;go_wp2_with fail;obtain⟨V,hV,hB0,hRB,hOB⟩:=Czr w r0 r1 r2 r3 r4 r5 r6 r7;rw[hV];clear hV;refine(Bz2 A c l V ((hr.below hB0).more hB0.size) HL.out).mono ?_;rw[HC.out];rintro e w1 ⟨rfl,hb1⟩;have hbw:=hB0.trans (hb1.mono hB0.size);have hR1:=hRB.below hb1 hRB.lt;have hO1:=hOB.below hb1 hOB.lt;obtain⟨gr,hgr⟩:∃ gr,gr=w.heap.size:=⟨_,rfl⟩;obtain⟨gO,hgo⟩:∃ gO,gO=w.heap.size+1:=⟨_,rfl⟩;have hgr0:w.heap.size≤gr:=by omega
        have hgo0:w.heap.size≤gO:=by omega
        have hgg:gr≠gO:=by omega
        rw[←hgo] at hO1 ⊢;rw[←hgr] at hR1 ⊢;clear hgr hgo hRB hOB hB0 hb1 V;have p0:=hR1.cell 0;simp at p0;have hgrl:=hR1.lt;have hrr:RdN w1 w1.heap.size (some ⟨gr,0,none⟩) [r0,r1,r2,r3,r4,r5,r6,r7]:=fun _=>⟨gr,0,rfl,hgrl,fun k hk=>by
         rw[Nat.zero_add,hR1.cell];simp at hk;have:k=0∨k=1∨k=2∨k=3∨k=4∨k=5∨k=6∨k=7:=by omega
         rcases this with h|h|h|h|h|h|h|h<;>subst h<;>rfl⟩
        have HRR:=Lib.hid hrr;have HRM:=Lib.hid ((hm.below hbw).more hbw.size);clear hrr;have CR:Hid (Calls Tryz.prog 58 #[.slice (some ⟨gr,0,none⟩) 8 8] w1 fun e w'=>e= .returned (.bool true)∧w1=w'):=by
         have h:=Bzr (some ⟨gr,0,none⟩) 8 [r0,r1,r2,r3,r4,r5,r6,r7] w1 HRR.out (by simp[maxLen]);rw[HAR.out] at h;exact h
        have CM:Hid (Calls Tryz.prog 58 #[.slice Am mem.length cm] w1 fun e w'=>e= .returned (.bool false)∧w1=w'):=by
         have h:=Bzr Am cm mem w1 HRM.out HML.out;rw[HAM.out] at h;exact h
        obtain⟨q0,q1,q2,q3,q4,q5,q6,q7,q8,q9,q10, -⟩:=hO1.a11;have p0':=hO1.frozen 0;obtain⟨-, -, -, -, -, -, -, -, -, -, -, -,p1,p2,p3,p4,p5,p6,p7,p8,p9,p10, -⟩:=hO1.a11;simp at q0 q1 q2 q3 q4 q5 q6 q7 q8 q9 q10;go_wp2_with (first|(go_at_call 21;refine(Azi _ _ _ _).mono ?_;rintro e w' ⟨rfl,rfl⟩)|(go_at_call 58;(with_reducible refine CR.out.mono ?_);rintro e w' ⟨rfl,rfl⟩)|(go_at_call 58;(with_reducible refine CM.out.mono ?_);rintro e w' ⟨rfl,rfl⟩));refine bodyPost_ret (v:= .tuple #[.agg #[.int .i64 0, .int .i64 0, .int .i64 0, .int .i64 0, .int .i64 0, .int .i64 0, .int .i64 0, .int .i64 0, .int .i64 0, .slice none 0 0, .slice none 0 0], .int .i64 2]) (by simp[results,Tryz.results102,go_sem,q0,q1,q2,q3,q4,q5,q6,q7,q8,q9,q10]) rfl (RunPost.no (n:=2) HE.out (by omega) rfl (Bz3 hgo0 [.int .i64 0, .int .i64 0, .int .i64 0, .int .i64 0, .int .i64 0, .int .i64 0, .int .i64 0, .int .i64 0, .int .i64 0, .slice none 0 0, .slice none 0 0] 0 _ hbw))
      | false=>
        have HE:Hid (Azv l [r0,r1,r2,r3,r4,r5,r6,r7] mem fuel=0):=by
         show _=_;rw[Azv,if_pos HC.out,if_neg hbig,if_neg (by rw[List.any_append,har,ham];intro h;rcases h with h|h|h;exact absurd h (by omega);exact absurd h (by omega);cases h)]
        exact absurd HE.out hbad
 ·have HC:=Lib.hid hc0
  have hc1:(check l == 0)=false:=by rw[beq_eq_false_iff_ne];exact hc0
  have hc2:(check l != 0)=true:=by rw[bne_iff_ne];exact hc0
  have HE:Hid (Azv l [r0,r1,r2,r3,r4,r5,r6,r7] mem fuel=check l):=by
   show _=_;rw[Azv,if_neg HC.out]
  clear hc0;go_enter Tryz.func102,Tryz.ntmps102;go_wp2_with fail;obtain⟨V,hV,hB0,hRB,hOB⟩:=Czr w r0 r1 r2 r3 r4 r5 r6 r7;rw[hV];clear hV;refine(Bz2 A c l V ((hr.below hB0).more hB0.size) HL.out).mono ?_;rintro e w1 ⟨rfl,hb1⟩;have hbw:=hB0.trans (hb1.mono hB0.size);have hR1:=hRB.below hb1 hRB.lt;have hO1:=hOB.below hb1 hOB.lt;obtain⟨gr,hgr⟩:∃ gr,gr=w.heap.size:=⟨_,rfl⟩;obtain⟨gO,hgo⟩:∃ gO,gO=w.heap.size+1:=⟨_,rfl⟩;have hgr0:w.heap.size≤gr:=by omega
  have hgo0:w.heap.size≤gO:=by omega
  have hgg:gr≠gO:=by omega
  rw[←hgo] at hO1 ⊢;rw[←hgr] at hR1 ⊢;clear hgr hgo hRB hOB hB0 hb1 V;have p0:=hR1.cell 0;simp at p0;have hgrl:=hR1.lt;clear p0;obtain⟨q0,q1,q2,q3,q4,q5,q6,q7,q8,q9,q10,p0,p1,p2,p3,p4,p5,p6,p7,p8,p9,p10, -⟩:=hO1.a11;simp at q0 q1 q2 q3 q4 q5 q6 q7 q8 q9 q10;go_wp2;refine bodyPost_ret (v:= .tuple #[.agg #[.int .i64 0, .int .i64 0, .int .i64 0, .int .i64 0, .int .i64 0, .int .i64 0, .int .i64 0, .int .i64 0, .int .i64 0, .slice none 0 0, .slice none 0 0], .int .i64 (check l)]) (by simp[results,Tryz.results102,go_sem,q0,q1,q2,q3,q4,q5,q6,q7,q8,q9,q10]) rfl (RunPost.no (n:=(check l)) HE.out HC.out rfl (Bz3 hgo0 [.int .i64 0, .int .i64 0, .int .i64 0, .int .i64 0, .int .i64 0, .int .i64 0, .int .i64 0, .int .i64 0, .int .i64 0, .slice none 0 0, .slice none 0 0] 0 _ hbw))
theorem Mzq (A Am:Option Addr) (c cm:Nat) (l:List Ins) (r0 r1 r2 r3 r4 r5 r6 r7:Int) (mem:List Int) (fuel:Int) (w:World) (hr:RdI w w.heap.size A l) (hl:l.length≤maxLen)
  (hm:RdN w w.heap.size Am mem) (hml:mem.length≤maxLen):
  Calls Tryz.prog 102 #[.slice A l.length c, .agg #[.int .i64 r0, .int .i64 r1, .int .i64 r2, .int .i64 r3, .int .i64 r4, .int .i64 r5, .int .i64 r6, .int .i64 r7], .slice Am mem.length cm, .int .i64 fuel] w
   (RunPost w (Czq l [r0,r1,r2,r3,r4,r5,r6,r7] mem fuel) (Azv l [r0,r1,r2,r3,r4,r5,r6,r7] mem fuel)):=by
 by_cases h:Azv l [r0,r1,r2,r3,r4,r5,r6,r7] mem fuel=0
 ·have h0:=h
  unfold Azv at h;by_cases hc:check l=0
  ·rw[if_pos hc] at h
   by_cases hb:1024<mem.length
   ·rw[if_pos hb] at h;cases h
   ·rw[if_neg hb] at h
    by_cases hf:fuel<0∨20000<fuel∨([r0,r1,r2,r3,r4,r5,r6,r7]++mem).any oddW=true
    ·rw[if_pos hf] at h;cases h
    ·have hodd:([r0,r1,r2,r3,r4,r5,r6,r7]++mem).any oddW=false:=by
      rw[←Bool.not_eq_true];exact fun e=>hf (.inr (.inr e))
     rw[List.any_append,Bool.or_eq_false_iff] at hodd;exact Lzq A Am c cm l r0 r1 r2 r3 r4 r5 r6 r7 mem fuel w hr hl hm hml hc (by omega) (by omega) (by omega) hodd.1 hodd.2
  ·rw[if_neg hc] at h;exact absurd h hc
 ·exact Mzs A Am c cm l r0 r1 r2 r3 r4 r5 r6 r7 mem fuel w hr hl hm hml h
theorem Sz4:RunC 102:=fun A Am c cm l n e mem W h1 h2 h3 h4 h5 h6=>Mzq A Am c cm l n 0 0 0 e e 63 0 mem 2000 W h1 h3 h4 h5
open Go.RowKit Go.WideShapes Go.ChangeShapes Go.ChangeAt Go.Deep Go.Joins
section
variable {H:Type} {enc:TypeId × Value→H} {P:Program}
def Light (P:Program) (t:TypeId) (d:DataW H):Prop:=∀ x∈d.weights P t,x≤140737488351232
theorem Mzo {e:TypeId} {D:Nat→DataW H} (l:List Nat) (h:∀ x∈DataW.weightsAll P e (l.map D),x≤140737488351232):∀ i∈l,Light P e (D i):=by
 induction l with
 | nil=>intro i hi;cases hi
 | cons a r ih=>
   simp only[List.map_cons,DataW.weightsAll,List.mem_append] at h;intro i hi;rcases List.mem_cons.1 hi with rfl|hi
   ·exact fun x hx=>h x (.inl hx)
   ·exact ih (fun x hx=>h x (.inr hx)) i hi
theorem Ezw:∀ (ts:List TypeId) (ds:List (DataW H)),(∀ x∈DataW.weightsEach P ts ds,x≤140737488351232)→∀ (i:Nat) t d,ts[i]? =some t→ds[i]? =some d→Light P t d
 | [],_,_,i,t,d,ht,_=>by simp at ht
 | _::_,[],_,i,t,d,_,hd=>by simp at hd
 | t0::ts,d0::ds,h,i,t,d,ht,hd=>by
   simp only[DataW.weightsEach,List.mem_append] at h;cases i with
   | zero=>
     obtain rfl:t0=t:=by simpa using ht
     obtain rfl:d0=d:=by simpa using hd
     exact fun x hx=>h x (.inl hx)
   | succ i=>exact Ezw ts ds (fun x hx=>h x (.inr hx)) i t d (by simpa using ht) (by simpa using hd)
theorem Sz9 {ts:List TypeId} {ds:List (DataW H)} (hsz:(DataW.weightsEach P ts ds).all (· ≤reachBytes)=true) (i:Nat) {t:TypeId} {d:DataW H} (ht:ts[i]? =some t) (hd:ds[i]? =some d):Light P t d:=
 Ezw ts ds (fun x hx=>by have:=List.all_eq_true.1 hsz x hx;have:=of_decide_eq_true this;simpa [reachBytes] using this) i t d ht hd
theorem Mz4 {W:World} {base:Nat} {held:Bool} {t e:TypeId} {C:Nat} {v:Value} {y:DataW H × List MemPlace} {fuel:Nat}
  (ht:P.underlying t=some (.slice e)) (hC:P.cellsOf e=C) (hC0:0<C) (hf:DataW.trod enc P W base (fun _=>true) held fuel t [v]=some y) (hL:Light P t y.1):
  ∃ (A:Option Addr) (n c:Nat),v= .slice A n c∧n≤c∧c≤maxLen∧(A=none→n=0∧c=0)∧c*P.bytesOf e≤140737488351232∧
   (0<n→∃ b o,A=some ⟨b,o,none⟩∧b<W.heap.size∧∀ i,i<n→∃ (cs:List Value) (fuel:Nat) (y:DataW H × List MemPlace),cs.length=C∧(∀ j,j<C→W.cell? ⟨b,o+i*C+j,none⟩=cs[j]?)∧
     DataW.trod enc P W base (fun _=>true) held fuel e cs=some y∧Light P e y.1):=by
 rcases open_slice ht hf with⟨hcs,_⟩|⟨a,len,cap,m,n',D,Pl,hcs,_,hl,hm,hmm,hy,hi⟩
 ·obtain rfl:v= .slice none 0 0:=by simpa using hcs
  exact⟨none,0,0,rfl,Nat.le_refl _,Nat.zero_le _,fun _=>⟨rfl,rfl⟩,by simp,fun h=>absurd h (by omega)⟩
 ·obtain rfl:v= .slice (some a) len cap:=by simpa using hcs
  obtain⟨n,rfl⟩:∃ n,n=len:=⟨_,rfl⟩;obtain⟨c,rfl⟩:∃ c,c=cap:=⟨_,rfl⟩;have hmc:m=c:=by simpa using hmm
  subst hmc;subst hy;have hL':=hL;unfold Light at hL';simp only[DataW.weights,ht,List.mem_cons,List.mem_append,List.length_map,List.length_range] at hL';have hw:m*P.bytesOf e≤140737488351232:=by
   have:=hL' _ (.inl rfl)
   rwa [show n+(m - n)=m by omega] at this
  have hel:=Mzo (List.range n) (fun x hx=>hL' x (.inr (.inl hx)));refine⟨some a,n,m,rfl,hl,hm,fun h=>(nomatch h),hw,fun hn=>?_⟩;have spot:∀ (q:Addr) (u:Value),W.cell? q=some u→q=⟨q.block,q.off,none⟩:=by
   rintro⟨b,o,sp⟩ u hq;cases sp with
   | none=>rfl
   | some x=>simp[World.cell?] at hq;split at hq<;>simp at hq
  have key:∀ i,i<n→∃ cs',cs'.length=C∧(∀ j,j<C→W.cell? (a.add (i*C+j))=cs'[j]?)∧DataW.trod enc P W base (fun _=>true) held n' e cs'=some (D i,Pl i):=by
   intro i hin;obtain⟨cs',h1,h2⟩:=hi i (by omega);rw[hC] at h1;obtain⟨_,hlen,hat⟩:=World.cells?_some h1;exact⟨cs',hlen,fun j hj=>by rw[←Go.Deep.add_add];exact hat j hj,h2⟩
  obtain⟨cs0,hl0,hc0,_⟩:=key 0 hn;have h00:=hc0 0 hC0;rw[List.getElem?_eq_getElem (by omega),show a.add (0*C+0)=a by simp[Addr.add]] at h00;have ha:=spot _ _ h00;have hlt:=World.block_lt_of_cell? W _ h00;refine⟨a.block,a.off,congrArg some ha,hlt,fun i hin=>?_⟩;obtain⟨cs',h1,h2,h3⟩:=key i hin;refine⟨cs',n',_,h1,fun j hj=>?_,h3,hel i (List.mem_range.2 hin)⟩;rw[←h2 j hj];by_cases hz:i*C+j=0
  ·rw[Nat.add_assoc,hz,show a.add 0=a by simp[Addr.add],Nat.add_zero, ←ha]
  ·unfold Addr.add
   rw[if_neg hz,Nat.add_assoc]
theorem Kz2 {W:World} {base:Nat} {held:Bool} {t:TypeId} {fs:Array Field} {cs:List Value} {y:DataW H × List MemPlace} {fuel:Nat}
  (ht:P.underlying t=some (.struct fs)) (hone:oneCellFields P fs=true) (hlen:cs.length=fs.size) (h:DataW.trod enc P W base (fun _=>true) held fuel t cs=some y) (hL:Light P t y.1):
  ∃ n,∀ (i:Nat) f,fs[i]? =some f→∃ u z,cs[i]? =some u∧DataW.trod enc P W base (fun _=>true) held n f.type [u]=some z∧Light P f.type z.1:=by
 obtain⟨xs,n,_,hx,_,hl,hg⟩:=DataW.trod_struct ht h;refine⟨n,fun i f hf=>?_⟩;have hi:i<fs.size:=(Array.getElem?_eq_some_iff.1 hf).1;obtain⟨o0,k0⟩:=hone_of hone i f hf;have hg':=hg i f hf;rw[o0,k0,List.getElem?_eq_getElem (show i<xs.length by omega)] at hg';have hcs:(cs.drop i).take 1=[cs[i]'(by omega)]:=by
  rw[List.drop_eq_getElem_cons (by omega)];rfl
 rw[hcs] at hg';refine⟨cs[i]'(by omega),xs[i]'(by omega),List.getElem?_eq_getElem (by omega),hg',?_⟩;subst hx;unfold Light at hL;simp only[DataW.weights,ht] at hL;exact Ezw _ _ hL i _ _ (by simp[hf]) (by simp[List.getElem?_map,List.getElem?_eq_getElem (show i<xs.length by omega)])
end
section
variable {H:Type} {enc:TypeId × Value→H}
end
section
variable {H:Type} {enc:TypeId × Value→H}
end
theorem Mz0:Tryz.prog.cellsOf 40=6:=by kernel_rfl
theorem Lzz:Tryz.prog.bytesOf 40=64:=by kernel_rfl
section
variable {H:Type} {enc:TypeId × Value→H}
end
section
variable {H:Type} {enc:TypeId × Value→H}
theorem Sz3 {W:World} {base:Nat} {held:Bool} {v:Value} {d:DataW H} {p:List MemPlace} {r:Reach} {b0:Nat}
  (hv:Value.okWide Tryz.prog W r b0 22 v) (h:DataW.Trod enc Tryz.prog W base (fun _=>true) held 22 v d p) (hL:Light Tryz.prog 22 d):
  ∃ (A:Option Addr) (c:Nat) (l:List Akt),v= .slice A l.length c∧l.length≤c∧(A=none→l.length=0∧c=0)∧c*64≤140737488351232∧RdA W W.heap.size A l∧∀ x∈l,x.name.size≤maxLen∧x.data.size≤maxLen:=by
 obtain⟨fuel,h⟩:=Izg Tryz.underlying22 hv h;obtain⟨A,n,c,rfl,hn,_,hnil,hby,hx⟩:=Mz4 Tryz.underlying22 Mz0 (by omega) h hL;rw[Lzz] at hby
 by_cases hn0:0<n
 ·obtain⟨b,o,rfl,hb,hi⟩:=hx hn0
  obtain⟨l,hl,hp⟩:=Jzs (α:=Akt) (n:=n) (p:=fun i x=>(x.name.size≤maxLen∧x.data.size≤maxLen)∧
    W.cell? ⟨b,o+i*6,none⟩=some (.int .i64 x.kind)∧W.cell? ⟨b,o+i*6+1,none⟩=some (.int .i64 x.p)∧W.cell? ⟨b,o+i*6+2,none⟩=some (.int .i64 x.n)∧W.cell? ⟨b,o+i*6+3,none⟩=some (.int .i64 x.m)∧W.cell? ⟨b,o+i*6+4,none⟩=some (.string x.name)∧W.cell? ⟨b,o+i*6+5,none⟩=some (.string x.data)) (fun i hin=>by
   obtain⟨cs,fuel,y,hlen,hcell,htr,hLe⟩:=hi i hin;obtain⟨m,hf⟩:=Kz2 Tryz.underlying40 (by kernel_rfl) (by simpa using hlen) htr hLe;obtain⟨u0,r0,k0,g0,_⟩:=hf 0 _ rfl;obtain⟨u1,r1,k1,g1,_⟩:=hf 1 _ rfl;obtain⟨u2,r2,k2,g2,_⟩:=hf 2 _ rfl;obtain⟨u3,r3,k3,g3,_⟩:=hf 3 _ rfl;obtain⟨u4,r4,k4,g4,_⟩:=hf 4 _ rfl;obtain⟨u5,r5,k5,g5,_⟩:=hf 5 _ rfl;obtain⟨q0,e0,_,w0⟩:=DataW.trod_int Tryz.underlying3 g0;obtain⟨q1,e1,_,w1⟩:=DataW.trod_int Tryz.underlying3 g1;obtain⟨q2,e2,_,w2⟩:=DataW.trod_int Tryz.underlying3 g2;obtain⟨q3,e3,_,w3⟩:=DataW.trod_int Tryz.underlying3 g3;obtain⟨s4,e4,_,w4⟩:=DataW.trod_string Tryz.underlying9 g4;obtain⟨s5,e5,_,w5⟩:=DataW.trod_string Tryz.underlying9 g5;simp at e0 e1 e2 e3 e4 e5;subst e0;subst e1;subst e2;subst e3;subst e4;subst e5;exact⟨⟨q0,q1,q2,q3,s4,s5⟩,⟨w4,w5⟩,(hcell 0 (by omega)).trans k0,(hcell 1 (by omega)).trans k1,(hcell 2 (by omega)).trans k2,(hcell 3 (by omega)).trans k3,(hcell 4 (by omega)).trans k4,(hcell 5 (by omega)).trans k5⟩)
  subst hl;refine⟨_,c,l,rfl,hn,hnil,hby,fun _=>⟨b,o,rfl,hb,fun k hk=>(hp k hk).2⟩,fun i hi'=>?_⟩;obtain⟨k,hk,rfl⟩:=List.mem_iff_getElem.1 hi';exact(hp k hk).1
 ·obtain rfl:n=0:=by omega
  exact⟨A,c,[],rfl,hn,hnil,hby,fun h=>absurd h (by simp),fun i hi=>by cases hi⟩
end
open Go.RowKit Go.WideShapes Go.ChangeShapes Go.ChangeAt Go.Deep
theorem Pz2:Tryz.prog.globalNamed "curfew/code.shapes" =some 0:=by kernel_rfl
theorem Izo:(Tryz.prog.globals[0]?).map (·.type)=some 137:=by kernel_rfl
theorem Izh:Tryz.prog.cellsOf 137=16:=by kernel_rfl
theorem Izi:Tryz.prog.cellsOf 9=1:=by kernel_rfl
def shapesL:List (List UInt8):=[[],[114,45,119],[114,114,114],[114,114,114],[114,114,114],[114,114,114],[114,114,114],[114,114,114],[114,114,45],[114,114,45],[45,45,112],[114,45,112],[45,45,112],[45,45,45],[114,45,45],[45,45,45]]
theorem Sz1 {W:World} (h:laidMet Tryz.prog [("curfew/code.shapes",Rows.laid_curfew_code_shapes)] W):Tab W:=by
 have hc:∀ k:Nat,k<16→W.cell? ⟨0,k,none⟩=some (.string (shp k)):=fun k hk=>by
  have hz:shapesL[k]? =some (shp k).data.toList:=by
   have:k=0∨k=1∨k=2∨k=3∨k=4∨k=5∨k=6∨k=7∨k=8∨k=9∨k=10∨k=11∨k=12∨k=13∨k=14∨k=15:=by omega
   rcases this with h|h|h|h|h|h|h|h|h|h|h|h|h|h|h|h<;>subst h<;>rfl
  exact Jza Pz2 Izo Tryz.underlying137 Tryz.underlying9 Izi Izh (zs:=shapesL) h k _ hz
 exact⟨World.block_lt_of_cell? W _ (hc 0 (by omega)),hc⟩
noncomputable def laidWorld (os:Os):World:=
 { World.holding Tryz.prog os ⟨#[], #[],[]⟩ with heap:=(World.holding Tryz.prog os ⟨#[], #[],[]⟩).heap.modify 0 fun
   | .cells _ t frozen=> .cells (shapesL.map fun z=>Value.string ⟨z.toArray⟩).toArray t frozen
   | o=>o }
end Go.Proofs.YtdjamdbamkhblacGreatDoor
