/- The walks of kern.has and of the reference's HasEnd: has any process such an end? The walks of kern.node and kern.end: a file, an open end that may be. The walks of slices.IndexFunc and slices.ContainsFunc at one element type: for every predicate whose calls leave old memory as it was. The walks of slices.IndexFunc and slices.ContainsFunc at one element type: for every predicate whose calls leave old memory as it was. -/
import Derived.Test.YtdjamdbamkhblacDoorG15
set_option maxHeartbeats 4000000
namespace Go.Proofs.YtdjamdbamkhblacDoor
open Go.RowKit
set_option linter.unusedVariables false
set_option linter.unusedSimpArgs false
theorem Azc (w:World) (o:Obj):Below w.heap.size w (w.alloc o):=(Below.refl _ _).alloc (Nat.le_refl _) o
theorem Jzb:∀ args w,(callFunc 91 args).run Tryd.prog w= .ok (.enter 91 args) w:=fun args w=>by
 simp only[callFunc,run_program,Sem.run_bind,Result.andThen_ok,Tryd.func91];rfl
theorem Kzz:∀ args w,(callFunc 90 args).run Tryd.prog w= .ok (.enter 90 args) w:=fun args w=>by
 simp only[callFunc,run_program,Sem.run_bind,Result.andThen_ok,Tryd.func90];rfl
theorem Mzv (x:Opn) (b1 b2:Nat) (kind pl:Int) (w:World) (h1:b1<w.heap.size) (h2:b2<w.heap.size) (c1:w.cell? ⟨b1,0,none⟩=some (.int .i64 kind)) (c2:w.cell? ⟨b2,0,none⟩=some (.int .i64 pl)):
  Calls Tryd.prog 91 #[.agg #[.int .i64 x.kind, .int .i64 x.node, .int .i64 x.pos], .pointer (some ⟨b1,0,none⟩), .pointer (some ⟨b2,0,none⟩)] w fun e w'=>e= .returned (.bool ((x.kind == kind) && (x.node == pl)))∧Below w.heap.size w w':=by
 cases hk:(x.kind == kind)
 all_goals
  go_enter Tryd.func91,Tryd.ntmps91;go_wp2;go_ret;exact⟨Aza (by simp),Azc w _⟩
theorem Ozz (x:Prc) (A:Option Addr) (c:Nat) (b1 b2:Nat) (kind pl:Int) (w:World) (hA:PrcAt w w.heap.size A c x) (h1:b1<w.heap.size) (h2:b2<w.heap.size) (c1:w.cell? ⟨b1,0,none⟩=some (.int .i64 kind)) (c2:w.cell? ⟨b2,0,none⟩=some (.int .i64 pl)):
  Calls Tryd.prog 90 #[.agg #[.bool x.live, .slice A x.ends.length c], .pointer (some ⟨b1,0,none⟩), .pointer (some ⟨b2,0,none⟩)] w fun e w'=>e= .returned (.bool (hasP kind pl x))∧Below w.heap.size w w':=by
 have hb:=Azc w (.cells #[.bool x.live, .slice A x.ends.length c] 79);have HA:=Lib.hid ((hA.ends.below hb).more hb.size);have HL:=Lib.hid (show x.ends.length≤maxLen by have:=hA.el;unfold maxLen;omega);have C1:=Lib.hid (show ∀ w2,Below (w.alloc (.cells #[.bool x.live, .slice A x.ends.length c] 79)).heap.size (w.alloc (.cells #[.bool x.live, .slice A x.ends.length c] 79)) w2→b1<w2.heap.size∧b2<w2.heap.size∧w2.cell? ⟨b1,0,none⟩=some (.int .i64 kind)∧w2.cell? ⟨b2,0,none⟩=some (.int .i64 pl) from fun w2 h=>by
  have h3:=hb.trans (h.mono hb.size);exact⟨Nat.lt_of_lt_of_le h1 h3.size,Nat.lt_of_lt_of_le h2 h3.size,(h3.cell (p:=⟨b1,0,none⟩) h1).trans c1,(h3.cell (p:=⟨b2,0,none⟩) h2).trans c2⟩)
 clear hA;go_enter Tryd.func90,Tryd.ntmps90;go_wp2_with fail;refine(Dz0 91 #[.pointer (some ⟨b1,0,none⟩), .pointer (some ⟨b2,0,none⟩)] (fun y=>(y.kind == kind) && (y.node == pl)) A c x.ends _ HA.out HL.out Jzb (fun y _ w2 hw2=>?_)).mono ?_
 ·obtain⟨q1,q2,q3,q4⟩:=C1.out w2 hw2
  exact Mzv y b1 b2 kind pl w2 q1 q2 q3 q4
 rintro e w1 ⟨rfl,hb1⟩;go_wp2;go_ret;exact⟨rfl,hb.trans (hb1.mono hb.size)⟩
theorem Dzr (V0 V1 V2 V3:Value) (A:Option Addr) (c:Nat) (ps:List Prc) (kind pl:Int) (w:World) (hr:RdP w w.heap.size A ps) (hl:ps.length≤maxLen):
  Calls Tryd.prog 50 #[.agg #[V0,V1,V2,V3, .slice A ps.length c], .int .i64 kind, .int .i64 pl] w fun e w'=>e= .returned (.bool (hasE ps kind pl))∧Below w.heap.size w w':=by
 have hb1:=Azc w (.cells #[V0,V1,V2,V3, .slice A ps.length c] 36);have hb2:=hb1.alloc hb1.size (.cells #[.int .i64 kind] 3);have hb3:=hb2.alloc hb2.size (.cells #[.int .i64 pl] 3);have HR:=Lib.hid ((hr.below hb3).more hb3.size);have HL:=Lib.hid hl;have HB:=Lib.hid hb3;have C1:=Lib.hid (show ∀ w2,Below (((w.alloc (.cells #[V0,V1,V2,V3, .slice A ps.length c] 36)).alloc (.cells #[.int .i64 kind] 3)).alloc (.cells #[.int .i64 pl] 3)).heap.size (((w.alloc (.cells #[V0,V1,V2,V3, .slice A ps.length c] 36)).alloc (.cells #[.int .i64 kind] 3)).alloc (.cells #[.int .i64 pl] 3)) w2→w.heap.size+1<w2.heap.size∧w.heap.size+1+1<w2.heap.size∧w2.cell? ⟨w.heap.size+1,0,none⟩=some (.int .i64 kind)∧w2.cell? ⟨w.heap.size+1+1,0,none⟩=some (.int .i64 pl) from fun w2 h=>by
  have hs:=h.size;have N1:Blk ((w.alloc (.cells #[V0,V1,V2,V3, .slice A ps.length c] 36)).alloc (.cells #[.int .i64 kind] 3)) (w.heap.size+1) 3 #[.int .i64 kind]:=Blk.new' (by simp);have N2:Blk (((w.alloc (.cells #[V0,V1,V2,V3, .slice A ps.length c] 36)).alloc (.cells #[.int .i64 kind] 3)).alloc (.cells #[.int .i64 pl] 3)) (w.heap.size+1+1) 3 #[.int .i64 pl]:=Blk.new' (by simp);simp at hs;exact⟨by omega,by omega,((N1.alloc _).below h (N1.alloc _).lt).cell 0,(N2.below h N2.lt).cell 0⟩)
 clear hr hl hb1 hb2 hb3;go_enter Tryd.func50,Tryd.ntmps50;go_wp2_with fail;refine(Fzm 90 #[.pointer (some ⟨w.heap.size+1,0,none⟩), .pointer (some ⟨w.heap.size+1+1,0,none⟩)] (hasP kind pl) A c ps _ HR.out HL.out Kzz (fun y _ w2 A1 c1 hw2 hz=>?_)).mono ?_
 ·obtain⟨q1,q2,q3,q4⟩:=C1.out w2 hw2
  exact Ozz y A1 c1 _ _ kind pl w2 hz q1 q2 q3 q4
 rintro e w1 ⟨rfl,hb1⟩;go_wp2;go_ret;exact⟨rfl,HB.out.trans (hb1.mono HB.out.size)⟩
theorem Bzr (s:ByteArray):empS s=decide (s.toList=[]):=by
 obtain⟨⟨l⟩⟩:=s;rw[show (⟨⟨l⟩⟩:ByteArray).toList=l from ByteArray.toList_mk l];cases l<;>simp[empS,ByteArray.size]
theorem Pze (V1 V3 V4:Value) (A0:Option Addr) (n0 c0:Nat) (A:Option Addr) (c:Nat) (l:List Nod) (i:Nat) (w:World) (hr:RdD w w.heap.size A l) (hl:l.length≤maxLen) (hi:i<l.length) (hn:n0≤maxLen) (hs:l[i].data.size≤maxLen):
  Calls Tryd.prog 46 #[.agg #[.slice A0 n0 c0,V1, .slice A l.length c,V3,V4], .int .i64 (i:Int)] w fun e w'=>e= .returned (.bool (Bzh n0 l[i]))∧Below w.heap.size w w':=by
 unfold maxLen at hl hn hs;have hb1:=Azc w (.cells #[.slice A0 n0 c0,V1, .slice A l.length c,V3,V4] 36);obtain⟨b,o,rfl,hbB,hcell⟩:=hr (by omega);obtain⟨x,hx⟩:∃ x,x=l[i]:=⟨_,rfl⟩;obtain⟨q0,q1,q2,q3⟩:=hcell i hi;rw[←hx] at q0 q1 q2 q3 hs ⊢;have HB:=Lib.hid (fun o=>hb1.alloc hb1.size o);clear hcell hr hb1 hx;obtain⟨nm,kd,dt,un⟩:=x;simp only at q0 q1 q2 q3 hs;by_cases k0:kd=0
 ·subst k0
  go_enter Tryd.func46,Tryd.ntmps46;go_wp2
  all_goals go_ret
  all_goals refine⟨Aza ?_,HB.out _⟩
  all_goals simp[Bzh,Bzr, *]
 by_cases k1:kd=1
 ·subst k1
  clear k0;go_enter Tryd.func46,Tryd.ntmps46;go_wp2
  all_goals go_ret
  all_goals refine⟨Aza ?_,HB.out _⟩
  all_goals simp[Bzh,Bzr, *]
  all_goals (try omega)
 by_cases k2:kd=2
 ·subst k2
  clear k0 k1;go_enter Tryd.func46,Tryd.ntmps46;go_wp2
  all_goals go_ret
  all_goals refine⟨Aza ?_,HB.out _⟩
  all_goals simp[Bzh,Bzr, *]
  all_goals (try omega)
 ·have t0:(kd == 0)=false:=by rw[beq_eq_false_iff_ne];exact k0
  have t1:(kd == 1)=false:=by rw[beq_eq_false_iff_ne];exact k1
  have t2:(kd == 2)=false:=by rw[beq_eq_false_iff_ne];exact k2
  have HN:Hid (Bzh n0 ⟨nm,kd,dt,un⟩=false):=by show _=_;simp[Bzh,k0,k1,k2]
  clear k0 k1 k2;go_enter Tryd.func46,Tryd.ntmps46;go_wp2;go_ret;exact⟨Aza HN.out.symm,HB.out _⟩
theorem Qzu (V0 V1 V3 V4:Value) (A:Option Addr) (c:Nat) (k:Krn) (x:Opn) (w:World) (hr:RdD w w.heap.size A k.nodes) (hl:k.nodes.length=8):
  Calls Tryd.prog 53 #[.agg #[V0,V1, .slice A k.nodes.length c,V3,V4], .agg #[.int .i64 x.kind, .int .i64 x.node, .int .i64 x.pos]] w fun e w'=>e= .returned (.bool (endOk k x))∧Below w.heap.size w w':=by
 rw[hl];have hb1:=Azc w (.cells #[V0,V1, .slice A 8 c,V3,V4] 36);have HB:=Lib.hid (fun o=>hb1.alloc hb1.size o);obtain⟨b,o,rfl,hbB,hcell⟩:=hr (by omega);obtain⟨kd,nd,ps⟩:=x;simp only;by_cases k0:kd=0
 ·subst k0
  clear hr hcell;go_enter Tryd.func53,Tryd.ntmps53;go_wp2
  all_goals go_ret
  all_goals refine⟨Aza ?_,HB.out _⟩
  all_goals simp[endOk, *]
 by_cases k1:kd=1
 ·subst k1
  clear k0;have HE:∀ B:Bool,endOk k ⟨1,nd,ps⟩=B→Hid (endOk k ⟨1,nd,ps⟩=B):=fun _ h=>h
  by_cases hn:0≤nd∧nd<8
  ·obtain⟨j,rfl⟩:=Int.eq_ofNat_of_zero_le hn.1
   have hj:j<k.nodes.length:=by omega
   obtain⟨q0,q1,q2,q3⟩:=hcell j hj;obtain⟨y,hy⟩:∃ y,y=k.nodes[j]:=⟨_,rfl⟩;rw[←hy] at q1;have hg:k.nodes[j]?.getD default=y:=by rw[hy];simp[hj]
   have hj8:(j:Int)<8:=hn.2;clear hr hcell q0 q2 q3 hy hn;by_cases hk:y.kind=0
   ·have HV:=HE false (by simp[endOk,hg,hk])
    rw[hk] at q1;clear hk hg HE;go_enter Tryd.func53,Tryd.ntmps53;go_wp2
    all_goals go_ret
    all_goals exact⟨Aza HV.out.symm,HB.out _⟩
   ·have hk':(y.kind != 0)=true:=by rw[bne_iff_ne];exact hk
    have HV:=HE (decide (0≤ps∧ps≤100)) (by simp[endOk,hg,hk,hj8]);clear hk hg HE;go_enter Tryd.func53,Tryd.ntmps53;go_wp2
    all_goals go_ret
    all_goals refine⟨Aza ?_,HB.out _⟩
    all_goals rw[HV.out]
    all_goals simp[*]
    all_goals (try omega)
  ·have HV:=HE false (by simp[endOk];omega)
   clear hr hcell HE;by_cases h0:nd<0
   ·clear hn
    go_enter Tryd.func53,Tryd.ntmps53;go_wp2
    all_goals go_ret
    all_goals exact⟨Aza HV.out.symm,HB.out _⟩
   ·have h8:8≤nd:=by omega
    have h00:0≤nd:=by omega
    clear hn h0;go_enter Tryd.func53,Tryd.ntmps53;go_wp2
    all_goals go_ret
    all_goals exact⟨Aza HV.out.symm,HB.out _⟩
 by_cases k2:kd=2∨kd=3
 ·have HV:Hid (endOk k ⟨kd,nd,ps⟩=(decide (0≤nd∧nd<6) && (ps == 0))):=by show _=_;unfold endOk;rw[if_neg k0,if_neg k1,if_pos k2]
  clear hr hcell k0 k1;rcases k2 with rfl|rfl
  all_goals
   go_enter Tryd.func53,Tryd.ntmps53;go_wp2
   all_goals go_ret
   all_goals refine⟨Aza ?_,HB.out _⟩
   all_goals rw[HV.out]
   all_goals simp[*]
   all_goals (try omega)
 ·have t0:(kd == 0)=false:=by rw[beq_eq_false_iff_ne];exact k0
  have t1:(kd == 1)=false:=by rw[beq_eq_false_iff_ne];exact k1
  have t2:(kd == 2)=false:=by rw[beq_eq_false_iff_ne];omega
  have t3:(kd == 3)=false:=by rw[beq_eq_false_iff_ne];omega
  have HV:Hid (endOk k ⟨kd,nd,ps⟩=false):=by show _=_;unfold endOk;rw[if_neg k0,if_neg k1,if_neg k2]
  clear hr hcell k0 k1 k2;go_enter Tryd.func53,Tryd.ntmps53;go_wp2;go_ret;exact⟨Aza HV.out.symm,HB.out _⟩
theorem Gzu (F:FuncId) (cp:Array Value) (p:Mod→Bool) (A:Option Addr) (c:Nat) (l:List Mod) (w:World) (hr:RdM w w.heap.size A l) (hl:l.length≤maxLen)
  (eg:∀ args w,(callFunc F args).run Tryd.prog w= .ok (.enter F args) w)
  (hp:∀ x∈l,∀ (w1:World) (A1:Option Addr) (c1:Nat) (A2:Option Addr) (c2:Nat),Below w.heap.size w w1→ModAt w1 w1.heap.size A1 c1 A2 c2 x→Calls Tryd.prog F (#[.agg #[.string x.name, .slice A1 x.code.length c1, .slice A2 x.data.length c2]]++cp) w1 fun e w'=>e= .returned (.bool (p x))∧Below w1.heap.size w1 w'):
  Calls Tryd.prog 84 #[.slice A l.length c, .func (.func F) #[] cp] w fun e w'=>e= .returned (.int .i64 (idxF p l 0))∧Below w.heap.size w w':=by
 unfold maxLen at hl;have HP:=Lib.hid hp;clear hp;go_enter Tryd.func84,Tryd.ntmps84;go_wp2;go_loopw [8] (fun i wr=>Cnt l.length i fun k=>Below w.heap.size w wr∧Hid (idxF p l 0=idxF p (l.drop k) k)) (fun i _=>l.length - (intOf i).toNat)
 case atStart=>exact⟨0,Nat.zero_le _,rfl,Below.refl _ _,rfl⟩
 case round=>
  obtain⟨k,hk,rfl,hb,HV⟩:=hrel;by_cases hlt:k<l.length
  ·obtain⟨b,o,rfl,hbB,hcell⟩:=hr (by omega)
   obtain⟨A1,c1,A2,c2,c0,c1',c2',hz⟩:=hcell k hlt;rw[←hb.cell (p:=⟨b,_,none⟩) hbB] at c0 c1' c2';have HZ:=Lib.hid ((hz.keep (w':=wr) (fun _ hp=>hb.cell hp)).more hb.size);have HD:=Lib.hid (Cz8 (p:=p) hlt);have HM:=Lib.hid (List.getElem_mem hlt);clear hr hcell hz;cases hpk:p l[k] with
   | true=>
     have HK:=Lib.hid hpk;clear hpk;go_wp2_with fail;refine(HP.out _ HM.out _ _ _ _ _ hb HZ.out).mono ?_;rw[HK.out];rintro e w1 ⟨rfl,hb1⟩;go_wp2;go_ret;exact⟨Azb (by rw[HV.out,HD.out,if_pos HK.out]),hb.trans (hb1.mono hb.size)⟩
   | false=>
     have HK:=Lib.hid hpk;clear hpk;go_wp2_with fail;refine(HP.out _ HM.out _ _ _ _ _ hb HZ.out).mono ?_;rw[HK.out];rintro e w1 ⟨rfl,hb1⟩;go_wp2;go_roundw
     case rel=>exact⟨k+1,by omega,by go_num,hb.trans (hb1.mono hb.size),by show _=_;rw[HV.out,HD.out,if_neg (by rw[HK.out];decide)]⟩
     case measure=>simp[intOf];omega
  ·go_wp2
   go_ret;exact⟨Azb (by rw[HV.out,List.drop_of_length_le (by omega)];rfl),hb⟩
theorem Czz (F:FuncId) (cp:Array Value) (p:Mod→Bool) (A:Option Addr) (c:Nat) (l:List Mod) (w:World) (hr:RdM w w.heap.size A l) (hl:l.length≤maxLen)
  (eg:∀ args w,(callFunc F args).run Tryd.prog w= .ok (.enter F args) w)
  (hp:∀ x∈l,∀ (w1:World) (A1:Option Addr) (c1:Nat) (A2:Option Addr) (c2:Nat),Below w.heap.size w w1→ModAt w1 w1.heap.size A1 c1 A2 c2 x→Calls Tryd.prog F (#[.agg #[.string x.name, .slice A1 x.code.length c1, .slice A2 x.data.length c2]]++cp) w1 fun e w'=>e= .returned (.bool (p x))∧Below w1.heap.size w1 w'):
  Calls Tryd.prog 42 #[.slice A l.length c, .func (.func F) #[] cp] w fun e w'=>e= .returned (.bool (l.any p))∧Below w.heap.size w w':=by
 have HP:=Lib.hid hp;have HE:=Lib.hid eg;clear hp eg;go_enter Tryd.func42,Tryd.ntmps42;go_wp2_with fail;refine(Gzu F cp p A c l w hr hl HE.out HP.out).mono ?_;rintro e w1 ⟨rfl,hb1⟩;go_wp2
 all_goals go_ret
 all_goals refine⟨Aza ?_,hb1⟩
 all_goals rw[←Czg p l 0]
theorem Czq (F:FuncId) (cp:Array Value) (p:Nod→Bool) (A:Option Addr) (c:Nat) (l:List Nod) (w:World) (hr:RdD w w.heap.size A l) (hl:l.length≤maxLen)
  (eg:∀ args w,(callFunc F args).run Tryd.prog w= .ok (.enter F args) w)
  (hp:∀ x∈l,∀ (w1:World),Below w.heap.size w w1→Calls Tryd.prog F (#[.agg #[.string x.name, .int .i64 x.kind, .string x.data, .int .i64 x.unit]]++cp) w1 fun e w'=>e= .returned (.bool (p x))∧Below w1.heap.size w1 w'):
  Calls Tryd.prog 88 #[.slice A l.length c, .func (.func F) #[] cp] w fun e w'=>e= .returned (.int .i64 (idxF p l 0))∧Below w.heap.size w w':=by
 unfold maxLen at hl;have HP:=Lib.hid hp;clear hp;go_enter Tryd.func88,Tryd.ntmps88;go_wp2;go_loopw [8] (fun i wr=>Cnt l.length i fun k=>Below w.heap.size w wr∧Hid (idxF p l 0=idxF p (l.drop k) k)) (fun i _=>l.length - (intOf i).toNat)
 case atStart=>exact⟨0,Nat.zero_le _,rfl,Below.refl _ _,rfl⟩
 case round=>
  obtain⟨k,hk,rfl,hb,HV⟩:=hrel;by_cases hlt:k<l.length
  ·obtain⟨b,o,rfl,hbB,hcell⟩:=hr (by omega)
   obtain⟨c0,c1,c2,c3⟩:=hcell k hlt;rw[←hb.cell (p:=⟨b,_,none⟩) hbB] at c0 c1 c2 c3;have HD:=Lib.hid (Cz8 (p:=p) hlt);have HM:=Lib.hid (List.getElem_mem hlt);clear hr hcell;cases hpk:p l[k] with
   | true=>
     have HK:=Lib.hid hpk;clear hpk;go_wp2_with fail;refine(HP.out _ HM.out _ hb).mono ?_;rw[HK.out];rintro e w1 ⟨rfl,hb1⟩;go_wp2;go_ret;exact⟨Azb (by rw[HV.out,HD.out,if_pos HK.out]),hb.trans (hb1.mono hb.size)⟩
   | false=>
     have HK:=Lib.hid hpk;clear hpk;go_wp2_with fail;refine(HP.out _ HM.out _ hb).mono ?_;rw[HK.out];rintro e w1 ⟨rfl,hb1⟩;go_wp2;go_roundw
     case rel=>exact⟨k+1,by omega,by go_num,hb.trans (hb1.mono hb.size),by show _=_;rw[HV.out,HD.out,if_neg (by rw[HK.out];decide)]⟩
     case measure=>simp[intOf];omega
  ·go_wp2
   go_ret;exact⟨Azb (by rw[HV.out,List.drop_of_length_le (by omega)];rfl),hb⟩
theorem Fzl (F:FuncId) (cp:Array Value) (p:Nod→Bool) (A:Option Addr) (c:Nat) (l:List Nod) (w:World) (hr:RdD w w.heap.size A l) (hl:l.length≤maxLen)
  (eg:∀ args w,(callFunc F args).run Tryd.prog w= .ok (.enter F args) w)
  (hp:∀ x∈l,∀ (w1:World),Below w.heap.size w w1→Calls Tryd.prog F (#[.agg #[.string x.name, .int .i64 x.kind, .string x.data, .int .i64 x.unit]]++cp) w1 fun e w'=>e= .returned (.bool (p x))∧Below w1.heap.size w1 w'):
  Calls Tryd.prog 48 #[.slice A l.length c, .func (.func F) #[] cp] w fun e w'=>e= .returned (.bool (l.any p))∧Below w.heap.size w w':=by
 have HP:=Lib.hid hp;have HE:=Lib.hid eg;clear hp eg;go_enter Tryd.func48,Tryd.ntmps48;go_wp2_with fail;refine(Czq F cp p A c l w hr hl HE.out HP.out).mono ?_;rintro e w1 ⟨rfl,hb1⟩;go_wp2
 all_goals go_ret
 all_goals refine⟨Aza ?_,hb1⟩
 all_goals rw[←Czg p l 0]
end Go.Proofs.YtdjamdbamkhblacDoor
