/- The walks of kern.has and of the reference's HasEnd: has any process such an end? The walks of kern.node and kern.end: a file, an open end that may be. The walks of slices.IndexFunc and slices.ContainsFunc at one element type: for every predicate whose calls leave old memory as it was. The walks of slices.IndexFunc and slices.ContainsFunc at one element type: for every predicate whose calls leave old memory as it was. The walk of kern.Check: what it answers, for every kernel. Condition: the listed tables. A region that draws its order, whose operations only read old memory and whose callees leave old memory as it was: one walk, in the order of the text. No condition. The walk of the reference's HasEnd. The walks of the kernel's small searches: find, place, make's and by's; the reference's nodeAt, freeEnd. No condition. -/
import Derived.Test.YtdjamdbamkhblabGreatDoorG06
import Derived.Test.YtdjamdbamkhblabGreatDoorG07
import Derived.Test.YtdjamdbamkhblabGreatDoorG02
import Derived.Test.YtdjamdbamkhblabGreatDoorG05
import Derived.Test.YtdjamdbamkhblabGreatDoorG03
import Derived.Test.YtdjamdbamkhblabGreatDoorG01
namespace Go.Proofs.YtdjamdbamkhblabGreatDoor
open Go.RowKit
set_option linter.unusedVariables false
set_option linter.unusedSimpArgs false
theorem below_box (w:World) (o:Obj):Below w.heap.size w (w.alloc o):=(Below.refl _ _).alloc (Nat.le_refl _) o
theorem has11_enter:∀ args w,(callFunc 73 args).run Tryz.prog w= .ok (.enter 73 args) w:=fun args w=>by
 simp only[callFunc,run_program,Sem.run_bind,Result.andThen_ok,Tryz.func73];rfl
theorem has1_enter:∀ args w,(callFunc 72 args).run Tryz.prog w= .ok (.enter 72 args) w:=fun args w=>by
 simp only[callFunc,run_program,Sem.run_bind,Result.andThen_ok,Tryz.func72];rfl
set_option maxHeartbeats 400000 in
theorem has11_any (x:Opn) (b1 b2:Nat) (kind pl:Int) (w:World) (h1:b1<w.heap.size) (h2:b2<w.heap.size) (c1:w.cell? ⟨b1,0,none⟩=some (.int .i64 kind)) (c2:w.cell? ⟨b2,0,none⟩=some (.int .i64 pl)):
  Calls Tryz.prog 73 #[.agg #[.int .i64 x.kind, .int .i64 x.node, .int .i64 x.pos], .pointer (some ⟨b1,0,none⟩), .pointer (some ⟨b2,0,none⟩)] w fun e w'=>e= .returned (.bool ((x.kind == kind) && (x.node == pl)))∧Below w.heap.size w w':=by
 cases hk:(x.kind == kind)
 all_goals
  go_enter Tryz.func73,Tryz.ntmps73;go_wp2;go_ret;exact⟨ret_bool (by simp),below_box w _⟩
set_option maxHeartbeats 400000 in
theorem has1_any (x:Prc) (A:Option Addr) (c:Nat) (b1 b2:Nat) (kind pl:Int) (w:World) (hA:PrcAt w w.heap.size A c x) (h1:b1<w.heap.size) (h2:b2<w.heap.size) (c1:w.cell? ⟨b1,0,none⟩=some (.int .i64 kind)) (c2:w.cell? ⟨b2,0,none⟩=some (.int .i64 pl)):
  Calls Tryz.prog 72 #[.agg #[.bool x.live, .slice A x.ends.length c], .pointer (some ⟨b1,0,none⟩), .pointer (some ⟨b2,0,none⟩)] w fun e w'=>e= .returned (.bool (hasP kind pl x))∧Below w.heap.size w w':=by
 have hb:=below_box w (.cells #[.bool x.live, .slice A x.ends.length c] 45);have HA:=Lib.hid ((hA.ends.below hb).more hb.size);have HL:=Lib.hid (show x.ends.length≤maxLen by have:=hA.el;unfold maxLen;omega);have C1:=Lib.hid (show ∀ w2,Below (w.alloc (.cells #[.bool x.live, .slice A x.ends.length c] 45)).heap.size (w.alloc (.cells #[.bool x.live, .slice A x.ends.length c] 45)) w2→b1<w2.heap.size∧b2<w2.heap.size∧w2.cell? ⟨b1,0,none⟩=some (.int .i64 kind)∧w2.cell? ⟨b2,0,none⟩=some (.int .i64 pl) from fun w2 h=>by
  have h3:=hb.trans (h.mono hb.size);exact⟨Nat.lt_of_lt_of_le h1 h3.size,Nat.lt_of_lt_of_le h2 h3.size,(h3.cell (p:=⟨b1,0,none⟩) h1).trans c1,(h3.cell (p:=⟨b2,0,none⟩) h2).trans c2⟩)
 clear hA;go_enter Tryz.func72,Tryz.ntmps72;go_wp2_with fail;refine(ContainsFunc_opn 73 #[.pointer (some ⟨b1,0,none⟩), .pointer (some ⟨b2,0,none⟩)] (fun y=>(y.kind == kind) && (y.node == pl)) A c x.ends _ HA.out HL.out has11_enter (fun y _ w2 hw2=>?_)).mono ?_
 ·obtain⟨q1,q2,q3,q4⟩:=C1.out w2 hw2
  exact has11_any y b1 b2 kind pl w2 q1 q2 q3 q4
 rintro e w1 ⟨rfl,hb1⟩;go_wp2;go_ret;exact⟨rfl,hb.trans (hb1.mono hb.size)⟩
set_option maxHeartbeats 1000000 in
theorem has_any (V0 V1 V2 V3:Value) (A:Option Addr) (c:Nat) (ps:List Prc) (kind pl:Int) (w:World) (hr:RdP w w.heap.size A ps) (hl:ps.length≤maxLen):
  Calls Tryz.prog 34 #[.agg #[V0,V1,V2,V3, .slice A ps.length c], .int .i64 kind, .int .i64 pl] w fun e w'=>e= .returned (.bool (hasE ps kind pl))∧Below w.heap.size w w':=by
 have hb1:=below_box w (.cells #[V0,V1,V2,V3, .slice A ps.length c] 28);have hb2:=hb1.alloc hb1.size (.cells #[.int .i64 kind] 3);have hb3:=hb2.alloc hb2.size (.cells #[.int .i64 pl] 3);have HR:=Lib.hid ((hr.below hb3).more hb3.size);have HL:=Lib.hid hl;have HB:=Lib.hid hb3;have C1:=Lib.hid (show ∀ w2,Below (((w.alloc (.cells #[V0,V1,V2,V3, .slice A ps.length c] 28)).alloc (.cells #[.int .i64 kind] 3)).alloc (.cells #[.int .i64 pl] 3)).heap.size (((w.alloc (.cells #[V0,V1,V2,V3, .slice A ps.length c] 28)).alloc (.cells #[.int .i64 kind] 3)).alloc (.cells #[.int .i64 pl] 3)) w2→w.heap.size+1<w2.heap.size∧w.heap.size+1+1<w2.heap.size∧w2.cell? ⟨w.heap.size+1,0,none⟩=some (.int .i64 kind)∧w2.cell? ⟨w.heap.size+1+1,0,none⟩=some (.int .i64 pl) from fun w2 h=>by
  have hs:=h.size;have N1:Blk ((w.alloc (.cells #[V0,V1,V2,V3, .slice A ps.length c] 28)).alloc (.cells #[.int .i64 kind] 3)) (w.heap.size+1) 3 #[.int .i64 kind]:=Blk.new' (by simp);have N2:Blk (((w.alloc (.cells #[V0,V1,V2,V3, .slice A ps.length c] 28)).alloc (.cells #[.int .i64 kind] 3)).alloc (.cells #[.int .i64 pl] 3)) (w.heap.size+1+1) 3 #[.int .i64 pl]:=Blk.new' (by simp);simp at hs;exact⟨by omega,by omega,((N1.alloc _).below h (N1.alloc _).lt).cell 0,(N2.below h N2.lt).cell 0⟩)
 clear hr hl hb1 hb2 hb3;go_enter Tryz.func34,Tryz.ntmps34;go_wp2_with fail;refine(ContainsFunc_prc 72 #[.pointer (some ⟨w.heap.size+1,0,none⟩), .pointer (some ⟨w.heap.size+1+1,0,none⟩)] (hasP kind pl) A c ps _ HR.out HL.out has1_enter (fun y _ w2 A1 c1 hw2 hz=>?_)).mono ?_
 ·obtain⟨q1,q2,q3,q4⟩:=C1.out w2 hw2
  exact has1_any y A1 c1 _ _ kind pl w2 hz q1 q2 q3 q4
 rintro e w1 ⟨rfl,hb1⟩;go_wp2;go_ret;exact⟨rfl,HB.out.trans (hb1.mono HB.out.size)⟩
end Go.Proofs.YtdjamdbamkhblabGreatDoor
namespace Go.Proofs.YtdjamdbamkhblabGreatDoor
open Go.RowKit
set_option linter.unusedVariables false
set_option linter.unusedSimpArgs false
theorem empS_l (s:ByteArray):empS s=decide (s.toList=[]):=by
 obtain⟨⟨l⟩⟩:=s;rw[show (⟨⟨l⟩⟩:ByteArray).toList=l from ByteArray.toList_mk l];cases l<;>simp[empS,ByteArray.size]
set_option maxHeartbeats 1000000 in
theorem node_any (V1 V3 V4:Value) (A0:Option Addr) (n0 c0:Nat) (A:Option Addr) (c:Nat) (l:List Nod) (i:Nat) (w:World) (hr:RdD w w.heap.size A l) (hl:l.length≤maxLen) (hi:i<l.length) (hn:n0≤maxLen) (hs:l[i].data.size≤maxLen):
  Calls Tryz.prog 30 #[.agg #[.slice A0 n0 c0,V1, .slice A l.length c,V3,V4], .int .i64 (i:Int)] w fun e w'=>e= .returned (.bool (nodOk n0 l[i]))∧Below w.heap.size w w':=by
 unfold maxLen at hl hn hs;have hb1:=below_box w (.cells #[.slice A0 n0 c0,V1, .slice A l.length c,V3,V4] 28);obtain⟨b,o,rfl,hbB,hcell⟩:=hr (by omega);obtain⟨x,hx⟩:∃ x,x=l[i]:=⟨_,rfl⟩;obtain⟨q0,q1,q2,q3⟩:=hcell i hi;rw[←hx] at q0 q1 q2 q3 hs ⊢;have HB:=Lib.hid (fun o=>hb1.alloc hb1.size o);clear hcell hr hb1 hx;obtain⟨nm,kd,dt,un⟩:=x;simp only at q0 q1 q2 q3 hs;by_cases k0:kd=0
 ·subst k0
  go_enter Tryz.func30,Tryz.ntmps30;go_wp2
  all_goals go_ret
  all_goals refine⟨ret_bool ?_,HB.out _⟩
  all_goals simp[nodOk,empS_l, *]
 by_cases k1:kd=1
 ·subst k1
  clear k0;go_enter Tryz.func30,Tryz.ntmps30;go_wp2
  all_goals go_ret
  all_goals refine⟨ret_bool ?_,HB.out _⟩
  all_goals simp[nodOk,empS_l, *]
  all_goals (try omega)
 by_cases k2:kd=2
 ·subst k2
  clear k0 k1;go_enter Tryz.func30,Tryz.ntmps30;go_wp2
  all_goals go_ret
  all_goals refine⟨ret_bool ?_,HB.out _⟩
  all_goals simp[nodOk,empS_l, *]
  all_goals (try omega)
 ·have t0:(kd == 0)=false:=by rw[beq_eq_false_iff_ne];exact k0
  have t1:(kd == 1)=false:=by rw[beq_eq_false_iff_ne];exact k1
  have t2:(kd == 2)=false:=by rw[beq_eq_false_iff_ne];exact k2
  have HN:Hid (nodOk n0 ⟨nm,kd,dt,un⟩=false):=by show _=_;simp[nodOk,k0,k1,k2]
  clear k0 k1 k2;go_enter Tryz.func30,Tryz.ntmps30;go_wp2;go_ret;exact⟨ret_bool HN.out.symm,HB.out _⟩
set_option maxHeartbeats 4000000 in
theorem end_any (V0 V1 V3 V4:Value) (A:Option Addr) (c:Nat) (k:Krn) (x:Opn) (w:World) (hr:RdD w w.heap.size A k.nodes) (hl:k.nodes.length=8):
  Calls Tryz.prog 37 #[.agg #[V0,V1, .slice A k.nodes.length c,V3,V4], .agg #[.int .i64 x.kind, .int .i64 x.node, .int .i64 x.pos]] w fun e w'=>e= .returned (.bool (endOk k x))∧Below w.heap.size w w':=by
 rw[hl];have hb1:=below_box w (.cells #[V0,V1, .slice A 8 c,V3,V4] 28);have HB:=Lib.hid (fun o=>hb1.alloc hb1.size o);obtain⟨b,o,rfl,hbB,hcell⟩:=hr (by omega);obtain⟨kd,nd,ps⟩:=x;simp only;by_cases k0:kd=0
 ·subst k0
  clear hr hcell;go_enter Tryz.func37,Tryz.ntmps37;go_wp2
  all_goals go_ret
  all_goals refine⟨ret_bool ?_,HB.out _⟩
  all_goals simp[endOk, *]
 by_cases k1:kd=1
 ·subst k1
  clear k0;have HE:∀ B:Bool,endOk k ⟨1,nd,ps⟩=B→Hid (endOk k ⟨1,nd,ps⟩=B):=fun _ h=>h
  by_cases hn:0≤nd∧nd<8
  ·obtain⟨j,rfl⟩:=Int.eq_ofNat_of_zero_le hn.1
   have hj:j<k.nodes.length:=by omega
   obtain⟨q0,q1,q2,q3⟩:=hcell j hj;obtain⟨y,hy⟩:∃ y,y=k.nodes[j]:=⟨_,rfl⟩;rw[←hy] at q1;have hg:k.nodes[j]?.getD default=y:=by rw[hy];simp[hj]
   have hj8:(j:Int)<8:=hn.2;clear hr hcell q0 q2 q3 hy hn;by_cases hk:y.kind=0
   ·have HV:=HE false (by simp[endOk,hg,hk])
    rw[hk] at q1;clear hk hg HE;go_enter Tryz.func37,Tryz.ntmps37;go_wp2
    all_goals go_ret
    all_goals exact⟨ret_bool HV.out.symm,HB.out _⟩
   ·have hk':(y.kind != 0)=true:=by rw[bne_iff_ne];exact hk
    have HV:=HE (decide (0≤ps∧ps≤100)) (by simp[endOk,hg,hk,hj8]);clear hk hg HE;go_enter Tryz.func37,Tryz.ntmps37;go_wp2
    all_goals go_ret
    all_goals refine⟨ret_bool ?_,HB.out _⟩
    all_goals rw[HV.out]
    all_goals simp[*]
    all_goals (try omega)
  ·have HV:=HE false (by simp[endOk];omega)
   clear hr hcell HE;by_cases h0:nd<0
   ·clear hn
    go_enter Tryz.func37,Tryz.ntmps37;go_wp2
    all_goals go_ret
    all_goals exact⟨ret_bool HV.out.symm,HB.out _⟩
   ·have h8:8≤nd:=by omega
    have h00:0≤nd:=by omega
    clear hn h0;go_enter Tryz.func37,Tryz.ntmps37;go_wp2
    all_goals go_ret
    all_goals exact⟨ret_bool HV.out.symm,HB.out _⟩
 by_cases k2:kd=2∨kd=3
 ·have HV:Hid (endOk k ⟨kd,nd,ps⟩=(decide (0≤nd∧nd<6) && (ps == 0))):=by show _=_;unfold endOk;rw[if_neg k0,if_neg k1,if_pos k2]
  clear hr hcell k0 k1;rcases k2 with rfl|rfl
  all_goals
   go_enter Tryz.func37,Tryz.ntmps37;go_wp2
   all_goals go_ret
   all_goals refine⟨ret_bool ?_,HB.out _⟩
   all_goals rw[HV.out]
   all_goals simp[*]
   all_goals (try omega)
 ·have t0:(kd == 0)=false:=by rw[beq_eq_false_iff_ne];exact k0
  have t1:(kd == 1)=false:=by rw[beq_eq_false_iff_ne];exact k1
  have t2:(kd == 2)=false:=by rw[beq_eq_false_iff_ne];omega
  have t3:(kd == 3)=false:=by rw[beq_eq_false_iff_ne];omega
  have HV:Hid (endOk k ⟨kd,nd,ps⟩=false):=by show _=_;unfold endOk;rw[if_neg k0,if_neg k1,if_neg k2]
  clear hr hcell k0 k1 k2;go_enter Tryz.func37,Tryz.ntmps37;go_wp2;go_ret;exact⟨ret_bool HV.out.symm,HB.out _⟩
end Go.Proofs.YtdjamdbamkhblabGreatDoor
namespace Go.Proofs.YtdjamdbamkhblabGreatDoor
open Go.RowKit
set_option maxHeartbeats 1000000 in
theorem IndexFunc_mod (F:FuncId) (cp:Array Value) (p:Mod→Bool) (A:Option Addr) (c:Nat) (l:List Mod) (w:World) (hr:RdM w w.heap.size A l) (hl:l.length≤maxLen)
  (eg:∀ args w,(callFunc F args).run Tryz.prog w= .ok (.enter F args) w)
  (hp:∀ x∈l,∀ (w1:World) (A1:Option Addr) (c1:Nat) (A2:Option Addr) (c2:Nat),Below w.heap.size w w1→ModAt w1 w1.heap.size A1 c1 A2 c2 x→Calls Tryz.prog F (#[.agg #[.string x.name, .slice A1 x.code.length c1, .slice A2 x.data.length c2]]++cp) w1 fun e w'=>e= .returned (.bool (p x))∧Below w1.heap.size w1 w'):
  Calls Tryz.prog 67 #[.slice A l.length c, .func (.func F) #[] cp] w fun e w'=>e= .returned (.int .i64 (idxF p l 0))∧Below w.heap.size w w':=by
 unfold maxLen at hl;have HP:=Lib.hid hp;clear hp;go_enter Tryz.func67,Tryz.ntmps67;go_wp2;go_loopw [8] (fun i wr=>Cnt l.length i fun k=>Below w.heap.size w wr∧Hid (idxF p l 0=idxF p (l.drop k) k)) (fun i _=>l.length - (intOf i).toNat)
 case atStart=>exact⟨0,Nat.zero_le _,rfl,Below.refl _ _,rfl⟩
 case round=>
  obtain⟨k,hk,rfl,hb,HV⟩:=hrel;by_cases hlt:k<l.length
  ·obtain⟨b,o,rfl,hbB,hcell⟩:=hr (by omega)
   obtain⟨A1,c1,A2,c2,c0,c1',c2',hz⟩:=hcell k hlt;rw[←hb.cell (p:=⟨b,_,none⟩) hbB] at c0 c1' c2';have HZ:=Lib.hid ((hz.keep (w':=wr) (fun _ hp=>hb.cell hp)).more hb.size);have HD:=Lib.hid (idxF_drop (p:=p) hlt);have HM:=Lib.hid (List.getElem_mem hlt);clear hr hcell hz;cases hpk:p l[k] with
   | true=>
     have HK:=Lib.hid hpk;clear hpk;go_wp2_with fail;refine(HP.out _ HM.out _ _ _ _ _ hb HZ.out).mono ?_;rw[HK.out];rintro e w1 ⟨rfl,hb1⟩;go_wp2;go_ret;exact⟨ret_int (by rw[HV.out,HD.out,if_pos HK.out]),hb.trans (hb1.mono hb.size)⟩
   | false=>
     have HK:=Lib.hid hpk;clear hpk;go_wp2_with fail;refine(HP.out _ HM.out _ _ _ _ _ hb HZ.out).mono ?_;rw[HK.out];rintro e w1 ⟨rfl,hb1⟩;go_wp2;go_roundw
     case rel=>exact⟨k+1,by omega,by go_num,hb.trans (hb1.mono hb.size),by show _=_;rw[HV.out,HD.out,if_neg (by rw[HK.out];decide)]⟩
     case measure=>simp[intOf];omega
  ·go_wp2
   go_ret;exact⟨ret_int (by rw[HV.out,List.drop_of_length_le (by omega)];rfl),hb⟩
set_option maxHeartbeats 400000 in
theorem ContainsFunc_mod (F:FuncId) (cp:Array Value) (p:Mod→Bool) (A:Option Addr) (c:Nat) (l:List Mod) (w:World) (hr:RdM w w.heap.size A l) (hl:l.length≤maxLen)
  (eg:∀ args w,(callFunc F args).run Tryz.prog w= .ok (.enter F args) w)
  (hp:∀ x∈l,∀ (w1:World) (A1:Option Addr) (c1:Nat) (A2:Option Addr) (c2:Nat),Below w.heap.size w w1→ModAt w1 w1.heap.size A1 c1 A2 c2 x→Calls Tryz.prog F (#[.agg #[.string x.name, .slice A1 x.code.length c1, .slice A2 x.data.length c2]]++cp) w1 fun e w'=>e= .returned (.bool (p x))∧Below w1.heap.size w1 w'):
  Calls Tryz.prog 26 #[.slice A l.length c, .func (.func F) #[] cp] w fun e w'=>e= .returned (.bool (l.any p))∧Below w.heap.size w w':=by
 have HP:=Lib.hid hp;have HE:=Lib.hid eg;clear hp eg;go_enter Tryz.func26,Tryz.ntmps26;go_wp2_with fail;refine(IndexFunc_mod F cp p A c l w hr hl HE.out HP.out).mono ?_;rintro e w1 ⟨rfl,hb1⟩;go_wp2
 all_goals go_ret
 all_goals refine⟨ret_bool ?_,hb1⟩
 all_goals rw[←idxF_any p l 0]
end Go.Proofs.YtdjamdbamkhblabGreatDoor
namespace Go.Proofs.YtdjamdbamkhblabGreatDoor
open Go.RowKit
set_option maxHeartbeats 1000000 in
theorem IndexFunc_nod (F:FuncId) (cp:Array Value) (p:Nod→Bool) (A:Option Addr) (c:Nat) (l:List Nod) (w:World) (hr:RdD w w.heap.size A l) (hl:l.length≤maxLen)
  (eg:∀ args w,(callFunc F args).run Tryz.prog w= .ok (.enter F args) w)
  (hp:∀ x∈l,∀ (w1:World),Below w.heap.size w w1→Calls Tryz.prog F (#[.agg #[.string x.name, .int .i64 x.kind, .string x.data, .int .i64 x.unit]]++cp) w1 fun e w'=>e= .returned (.bool (p x))∧Below w1.heap.size w1 w'):
  Calls Tryz.prog 45 #[.slice A l.length c, .func (.func F) #[] cp] w fun e w'=>e= .returned (.int .i64 (idxF p l 0))∧Below w.heap.size w w':=by
 unfold maxLen at hl;have HP:=Lib.hid hp;clear hp;go_enter Tryz.func45,Tryz.ntmps45;go_wp2;go_loopw [8] (fun i wr=>Cnt l.length i fun k=>Below w.heap.size w wr∧Hid (idxF p l 0=idxF p (l.drop k) k)) (fun i _=>l.length - (intOf i).toNat)
 case atStart=>exact⟨0,Nat.zero_le _,rfl,Below.refl _ _,rfl⟩
 case round=>
  obtain⟨k,hk,rfl,hb,HV⟩:=hrel;by_cases hlt:k<l.length
  ·obtain⟨b,o,rfl,hbB,hcell⟩:=hr (by omega)
   obtain⟨c0,c1,c2,c3⟩:=hcell k hlt;rw[←hb.cell (p:=⟨b,_,none⟩) hbB] at c0 c1 c2 c3;have HD:=Lib.hid (idxF_drop (p:=p) hlt);have HM:=Lib.hid (List.getElem_mem hlt);clear hr hcell;cases hpk:p l[k] with
   | true=>
     have HK:=Lib.hid hpk;clear hpk;go_wp2_with fail;refine(HP.out _ HM.out _ hb).mono ?_;rw[HK.out];rintro e w1 ⟨rfl,hb1⟩;go_wp2;go_ret;exact⟨ret_int (by rw[HV.out,HD.out,if_pos HK.out]),hb.trans (hb1.mono hb.size)⟩
   | false=>
     have HK:=Lib.hid hpk;clear hpk;go_wp2_with fail;refine(HP.out _ HM.out _ hb).mono ?_;rw[HK.out];rintro e w1 ⟨rfl,hb1⟩;go_wp2;go_roundw
     case rel=>exact⟨k+1,by omega,by go_num,hb.trans (hb1.mono hb.size),by show _=_;rw[HV.out,HD.out,if_neg (by rw[HK.out];decide)]⟩
     case measure=>simp[intOf];omega
  ·go_wp2
   go_ret;exact⟨ret_int (by rw[HV.out,List.drop_of_length_le (by omega)];rfl),hb⟩
set_option maxHeartbeats 400000 in
theorem ContainsFunc_nod (F:FuncId) (cp:Array Value) (p:Nod→Bool) (A:Option Addr) (c:Nat) (l:List Nod) (w:World) (hr:RdD w w.heap.size A l) (hl:l.length≤maxLen)
  (eg:∀ args w,(callFunc F args).run Tryz.prog w= .ok (.enter F args) w)
  (hp:∀ x∈l,∀ (w1:World),Below w.heap.size w w1→Calls Tryz.prog F (#[.agg #[.string x.name, .int .i64 x.kind, .string x.data, .int .i64 x.unit]]++cp) w1 fun e w'=>e= .returned (.bool (p x))∧Below w1.heap.size w1 w'):
  Calls Tryz.prog 32 #[.slice A l.length c, .func (.func F) #[] cp] w fun e w'=>e= .returned (.bool (l.any p))∧Below w.heap.size w w':=by
 have HP:=Lib.hid hp;have HE:=Lib.hid eg;clear hp eg;go_enter Tryz.func32,Tryz.ntmps32;go_wp2_with fail;refine(IndexFunc_nod F cp p A c l w hr hl HE.out HP.out).mono ?_;rintro e w1 ⟨rfl,hb1⟩;go_wp2
 all_goals go_ret
 all_goals refine⟨ret_bool ?_,hb1⟩
 all_goals rw[←idxF_any p l 0]
end Go.Proofs.YtdjamdbamkhblabGreatDoor
namespace Go.Proofs.YtdjamdbamkhblabGreatDoor
open Go.RowKit
set_option linter.unusedVariables false
set_option linter.unusedSimpArgs false
theorem bs_l (a b:ByteArray):(a.toList == b.toList)=(a == b):=by
 obtain⟨⟨x⟩⟩:=a;obtain⟨⟨y⟩⟩:=b;rw[show (⟨⟨x⟩⟩:ByteArray).toList=x from ByteArray.toList_mk x,show (⟨⟨y⟩⟩:ByteArray).toList=y from ByteArray.toList_mk y];show (x == y)=((⟨x⟩:Array UInt8) == ⟨y⟩);simp
theorem RdM.take {w:World} {B:Nat} {A:Option Addr} {l:List Mod} (h:RdM w B A l) (n:Nat):RdM w B A (l.take n):=fun hl=>by
 obtain⟨b,o,e,hb,hc⟩:=h (by rw[List.length_take] at hl;omega);refine⟨b,o,e,hb,fun k hk=>?_⟩;have:=hc k (by rw[List.length_take] at hk;omega);rw[List.getElem_take];exact this
theorem RdD.take {w:World} {B:Nat} {A:Option Addr} {l:List Nod} (h:RdD w B A l) (n:Nat):RdD w B A (l.take n):=fun hl=>by
 obtain⟨b,o,e,hb,hc⟩:=h (by rw[List.length_take] at hl;omega);refine⟨b,o,e,hb,fun k hk=>?_⟩;have:=hc k (by rw[List.length_take] at hk;omega);rw[List.getElem_take];exact this
structure Krn.small (k:Krn):Prop where
 nodes:∀ x∈k.nodes,x.name.size≤maxLen∧x.data.size≤maxLen
 pipes:∀ s∈k.pipes,s.size≤maxLen
theorem Blk.c5 {w:World} {g:Nat} {t:TypeId} {u0 u1 u2 u3 u4:Value} (h:Blk w g t #[u0,u1,u2,u3,u4]):w.cell? ⟨g,0,none⟩=some u0∧w.cell? ⟨g,1,none⟩=some u1∧w.cell? ⟨g,2,none⟩=some u2∧w.cell? ⟨g,3,none⟩=some u3∧w.cell? ⟨g,4,none⟩=some u4:=⟨h.cell 0,h.cell 1,h.cell 2,h.cell 3,h.cell 4⟩
theorem Blk.c4 {w:World} {g:Nat} {t:TypeId} {u0 u1 u2 u3:Value} (h:Blk w g t #[u0,u1,u2,u3]):w.cell? ⟨g,0,none⟩=some u0∧w.cell? ⟨g,1,none⟩=some u1∧w.cell? ⟨g,2,none⟩=some u2∧w.cell? ⟨g,3,none⟩=some u3:=⟨h.cell 0,h.cell 1,h.cell 2,h.cell 3⟩
theorem nodBad_of {k:Krn} {i:Nat} {x:Nod} (h1:nodOk k.mods.length x=false):nodBad k i x=true:=by unfold nodBad;rw[h1];rfl
theorem nodBad_named {k:Krn} {i:Nat} {x:Nod} (h1:nodOk k.mods.length x=true) (h2:empS x.name=false):nodBad k i x=(!nameOk x.name || (x.kind == 0) || dupN (k.nodes.take i) x.name):=by unfold nodBad;rw[h1,h2];simp
theorem nodBad_bare {k:Krn} {i:Nat} {x:Nod} (h1:nodOk k.mods.length x=true) (h2:empS x.name=true):nodBad k i x=((x.kind != 0) && !hasE k.procs 1 i):=by unfold nodBad;rw[h1,h2];simp
theorem modsE_drop {l:List Mod} {n:Nat} (h:n<l.length):modsE (l.take n) (l.drop n)=if modCheck l[n]=0 then (if (l.take n).any (fun x=>x.name == l[n].name) then 7 else modsE (l.take (n+1)) (l.drop (n+1))) else modCheck l[n]:=by
 rw[List.drop_eq_getElem_cons h,modsE,List.take_succ_eq_append_getElem h]
theorem anyI_drop {α:Type} {p:Nat→α→Bool} {l:List α} {n:Nat} (h:n<l.length):anyI p (l.drop n) n=(p n l[n] || anyI p (l.drop (n+1)) (n+1)):=by
 rw[List.drop_eq_getElem_cons h,anyI]
theorem KCheck1_enter:∀ args w,(callFunc 27 args).run Tryz.prog w= .ok (.enter 27 args) w:=fun args w=>by
 simp only[callFunc,run_program,Sem.run_bind,Result.andThen_ok,Tryz.func27];rfl
theorem KCheck2_enter:∀ args w,(callFunc 29 args).run Tryz.prog w= .ok (.enter 29 args) w:=fun args w=>by
 simp only[callFunc,run_program,Sem.run_bind,Result.andThen_ok,Tryz.func29];rfl
theorem KCheck3_enter:∀ args w,(callFunc 33 args).run Tryz.prog w= .ok (.enter 33 args) w:=fun args w=>by
 simp only[callFunc,run_program,Sem.run_bind,Result.andThen_ok,Tryz.func33];rfl
theorem KCheck4_enter:∀ args w,(callFunc 36 args).run Tryz.prog w= .ok (.enter 36 args) w:=fun args w=>by
 simp only[callFunc,run_program,Sem.run_bind,Result.andThen_ok,Tryz.func36];rfl
set_option maxHeartbeats 400000 in
theorem KCheck1_any (n:ByteArray) (V1 V2:Value) (b:Nat) (s:ByteArray) (w:World) (h1:b<w.heap.size) (c1:w.cell? ⟨b,0,none⟩=some (.string s)):
  Calls Tryz.prog 27 #[.agg #[.string n,V1,V2], .pointer (some ⟨b,0,none⟩)] w fun e w'=>e= .returned (.bool (n == s))∧Below w.heap.size w w':=by
 go_enter Tryz.func27,Tryz.ntmps27;go_wp2;go_ret;exact⟨ret_bool (bs_l _ _),below_box w _⟩
set_option maxHeartbeats 400000 in
theorem KCheck2_any (n:Int) (w:World):
  Calls Tryz.prog 29 #[.int .i64 n] w fun e w'=>e= .returned (.bool (oddW n))∧w=w':=by
 go_enter Tryz.func29,Tryz.ntmps29;go_wp2
 all_goals go_ret
 all_goals refine⟨ret_bool ?_,rfl⟩
 all_goals (rw[Bool.eq_iff_iff];simp[oddW];try omega)
set_option maxHeartbeats 400000 in
theorem KCheck3_any (n:ByteArray) (V1 V2 V3:Value) (b:Nat) (s:ByteArray) (w:World) (h1:b<w.heap.size) (c1:w.cell? ⟨b,0,none⟩=some (.string s)):
  Calls Tryz.prog 33 #[.agg #[.string n,V1,V2,V3], .pointer (some ⟨b,0,none⟩)] w fun e w'=>e= .returned (.bool (n == s))∧Below w.heap.size w w':=by
 go_enter Tryz.func33,Tryz.ntmps33;go_wp2;go_ret;exact⟨ret_bool (bs_l _ _),below_box w _⟩
set_option maxHeartbeats 400000 in
theorem KCheck4_any (k:Krn) (x:Opn) (V0 V1 V3 V4 VE:Value) (A:Option Addr) (c:Nat) (b1 b2:Nat) (lv:Bool) (w:World) (h1:b1<w.heap.size) (h2:b2<w.heap.size)
  (c0:w.cell? ⟨b1,0,none⟩=some V0) (c1:w.cell? ⟨b1,1,none⟩=some V1) (c2:w.cell? ⟨b1,2,none⟩=some (.slice A k.nodes.length c)) (c3:w.cell? ⟨b1,3,none⟩=some V3) (c4:w.cell? ⟨b1,4,none⟩=some V4)
  (d0:w.cell? ⟨b2,0,none⟩=some (.bool lv)) (hr:RdD w w.heap.size A k.nodes) (hl:k.nodes.length=8):
  Calls Tryz.prog 36 #[.agg #[.int .i64 x.kind, .int .i64 x.node, .int .i64 x.pos], .pointer (some ⟨b1,0,none⟩), .pointer (some ⟨b2,0,none⟩)] w fun e w'=>e= .returned (.bool (!endOk k x || (!lv && (x.kind != 0))))∧Below w.heap.size w w':=by
 have hb:=below_box w (.cells #[.int .i64 x.kind, .int .i64 x.node, .int .i64 x.pos] 68);have HE:=Lib.hid (end_any V0 V1 V3 V4 A c k x (w.alloc (.cells #[.int .i64 x.kind, .int .i64 x.node, .int .i64 x.pos] 68)) ((hr.below hb).more hb.size) hl);clear hr hl;cases he:endOk k x with
 | false=>
   rw[he] at HE;have H:=Lib.hid he;clear he;go_enter Tryz.func36,Tryz.ntmps36;go_wp2_with fail;refine HE.out.mono ?_;rintro e w1 ⟨rfl,hb1⟩;go_wp2;go_ret;exact⟨ret_bool (by simp),hb.trans (hb1.mono hb.size)⟩
 | true=>
   rw[he] at HE;have H:=Lib.hid he;clear he;cases lv
   all_goals
    go_enter Tryz.func36,Tryz.ntmps36;go_wp2_with fail;refine HE.out.mono ?_;rintro e w1 ⟨rfl,hb1⟩;obtain⟨hc1,hf1⟩:=bcell hb1;have hbw:=hb.trans (hb1.mono hb.size);have hz1:w.heap.size<w1.heap.size:=Nat.lt_of_lt_of_le (by simp) hb1.size;have e0:=(hbw.cell (p:=⟨b2,0,none⟩) h2).trans d0;go_wp2
    all_goals go_ret
    all_goals exact⟨ret_bool (by simp),hbw⟩
end Go.Proofs.YtdjamdbamkhblabGreatDoor
namespace Go.Proofs.YtdjamdbamkhblabGreatDoor
open Go.RowKit
structure After (w:World) where
 w':World
 h:Below w.heap.size w w'
instance (w:World):Nonempty (After w):=⟨⟨w,Below.refl _ w⟩⟩
theorem After.cell {w:World} (x:After w) (b o:Nat) (h:b<w.heap.size):x.w'.cell? ⟨b,o,none⟩=w.cell? ⟨b,o,none⟩:=x.h.cell (p:=⟨b,o,none⟩) h
theorem wp_region_calm {P:Program} {id:Nat} {Q:Exit→Act→World→Prop} {a:Act} {w:World} {l:List Oper} (hm:P.follows .mixedOrders=true) (hB:Region.lexB .any l.toArray=true)
  (h:wpQuiet P l.toArray (fun w'=>∃ x:After w,w'=x.w') (fun a'=>∀ w',(∃ x:After w,w'=x.w')→Q .normal a' w') l a):(Code.region id l.toArray true).wp P Q a w:=
 wp_region_quiet (C:=fun w'=>∃ x:After w,w'=x.w') hm hB ⟨⟨_,Below.drewN' (Below.refl _ w) 1⟩,rfl⟩ (by simpa using h)
theorem Calls.calm {P:Program} {f:FuncId} {args:Array Value} {w:World} {x:After w} {v:Value}
  (h:Calls P f args x.w' fun e w'=>e= .returned v∧Below x.w'.heap.size x.w' w'):Calls P f args x.w' fun e w''=>e= .returned v∧∃ y:After w,w''=y.w':=
 h.mono fun _ _ ⟨he,hb⟩=>⟨he,⟨⟨_,x.h.trans (hb.mono x.h.size)⟩,rfl⟩⟩
theorem Calls.calm_same {P:Program} {f:FuncId} {args:Array Value} {w:World} {x:After w} {v:Value}
  (h:Calls P f args x.w' fun e w'=>e= .returned v∧x.w'=w'):Calls P f args x.w' fun e w''=>e= .returned v∧∃ y:After w,w''=y.w':=
 h.mono fun _ _ ⟨he,hb⟩=>⟨he,⟨x,hb.symm⟩⟩
end Go.Proofs.YtdjamdbamkhblabGreatDoor
namespace Go.Proofs.YtdjamdbamkhblabGreatDoor
open Go.RowKit
set_option linter.unusedVariables false
set_option linter.unusedSimpArgs false
theorem any_drop {α:Type} {p:α→Bool} {l:List α} {n:Nat} (h:n<l.length):(l.drop n).any p=(p l[n] || (l.drop (n+1)).any p):=by
 rw[List.drop_eq_getElem_cons h,List.any_cons]
set_option maxHeartbeats 1000000 in
theorem HasEnd_any (V0 V1 V2 V3:Value) (A:Option Addr) (c:Nat) (ps:List Prc) (kind pl:Int) (w:World) (hr:RdP w w.heap.size A ps) (hl:ps.length≤maxLen):
  Calls Tryz.prog 57 #[.agg #[V0,V1,V2,V3, .slice A ps.length c], .int .i64 kind, .int .i64 pl] w fun e w'=>e= .returned (.bool (hasE ps kind pl))∧Below w.heap.size w w':=by
 unfold maxLen at hl;have hB0:=below_box w (.cells #[V0,V1,V2,V3, .slice A ps.length c] 28);have HR:=Lib.hid ((hr.below hB0).more hB0.size);have HX:=Lib.hid (Blk.new w 28 #[V0,V1,V2,V3, .slice A ps.length c]);have hlt0:=HX.out.lt;have HB:=Lib.hid hB0;clear hr hB0;go_enter Tryz.func57,Tryz.ntmps57;go_wp2;generalize w.alloc (.cells #[V0,V1,V2,V3, .slice A ps.length c] 28)=W0 at*;go_loopw [7] (fun i wr=>Cnt ps.length i fun n=>Below W0.heap.size W0 wr∧Hid (hasE ps kind pl=(ps.drop n).any (hasP kind pl))) (fun i _=>ps.length - (intOf i).toNat)
 case atStart=>exact⟨0,Nat.zero_le _,rfl,Below.refl _ _,rfl⟩
 case round=>
  obtain⟨n,hn,rfl,hb,HE⟩:=hrel;have c4:=(HX.out.below hb hlt0).cell 4;simp at c4;by_cases hlt:n<ps.length
  ·obtain⟨b,o,rfl,hbB,hcell⟩:=(HR.out.below hb) (by omega)
   obtain⟨A1,c1,z0,z1,hz⟩:=hcell n hlt;obtain⟨x,hx⟩:∃ x,x=ps[n]:=⟨_,rfl⟩;have HD:=Lib.hid (any_drop (p:=hasP kind pl) hlt);rw[←hx] at z0 z1 hz HD;have hbs:b<wr.heap.size:=Nat.lt_of_lt_of_le hbB hb.size;have hel:x.ends.length≤9223372036854775807:=by have:=hz.el;omega
   have HZ:=Lib.hid ((hz.ends.more hb.size));have HW:=Lib.hid hb;have hkw:w.heap.size<wr.heap.size:=Nat.lt_of_lt_of_le hlt0 hb.size;clear hcell hz hb hx;go_wp2;obtain⟨wo,rfl⟩:∃ wo,wo=wr:=⟨_,rfl⟩;go_loopw [8] (fun i wq=>Cnt x.ends.length i fun m=>Below wo.heap.size wo wq∧Hid (hasP kind pl x=(x.ends.drop m).any fun y=>(y.kind == kind) && (y.node == pl))) (fun i _=>x.ends.length - (intOf i).toNat)
   case atStart=>exact⟨0,Nat.zero_le _,rfl,Below.refl _ _,rfl⟩
   case round=>
    obtain⟨m,hm,rfl,hbq,HQ⟩:=hrel;have c4q:=(hbq.cell (p:=⟨w.heap.size,4,none⟩) hkw).trans c4;have z1q:=(hbq.cell (p:=⟨b,_,none⟩) hbs).trans z1;have hbs':b<wr.heap.size:=Nat.lt_of_lt_of_le hbs hbq.size;have hkw':w.heap.size<wr.heap.size:=Nat.lt_of_lt_of_le hkw hbq.size;by_cases hlm:m<x.ends.length
    ·obtain⟨b',o',rfl,hbB',hcell'⟩:=(HZ.out.below hbq) (by omega)
     obtain⟨y0,y1,y2⟩:=hcell' m hlm;obtain⟨y,hy⟩:∃ y,y=x.ends[m]:=⟨_,rfl⟩;have HDQ:=Lib.hid (any_drop (p:=fun y=>(y.kind == kind) && (y.node == pl)) hlm);rw[←hy] at y0 y1 y2 HDQ;have hbs2:b'<wr.heap.size:=Nat.lt_of_lt_of_le hbB' hbq.size;have hbx:=below_box wr (.cells #[.int .i64 y.kind, .int .i64 y.node, .int .i64 y.pos] 68);have HW2:=Lib.hid (hbq.trans (hbx.mono hbq.size));clear hcell' hbq hy hbx c4 z1 z0;cases hk:((y.kind == kind) && (y.node == pl)) with
     | true=>
       have HF:Hid (hasE ps kind pl=true):=by show _=_;rw[HE.out,HD.out,HQ.out,HDQ.out,hk];rfl
       obtain⟨hk1,hk2⟩:=Bool.and_eq_true_iff.1 hk;have hf:=HB.out.trans ((HW.out.trans (HW2.out.mono HW.out.size)).mono (Nat.le_of_lt hlt0));clear hk;go_wp2;go_ret;exact⟨ret_bool HF.out.symm,hf⟩
     | false=>
       have HG:Hid (hasP kind pl x=(x.ends.drop (m+1)).any fun y=>(y.kind == kind) && (y.node == pl)):=by show _=_;rw[HQ.out,HDQ.out,hk];rfl
       cases hk1:(y.kind == kind) with
       | false=>
         clear hk;go_wp2;go_roundw
         case rel=>exact⟨m+1,by omega,by go_num,HW2.out,HG⟩
         case measure=>simp[intOf];omega
       | true=>
         have hk2:(y.node == pl)=false:=by rw[hk1] at hk;simpa using hk
         clear hk;go_wp2;go_roundw
         case rel=>exact⟨m+1,by omega,by go_num,HW2.out,HG⟩
         case measure=>simp[intOf];omega
    ·have HG:Hid (hasE ps kind pl=(ps.drop (n+1)).any (hasP kind pl)):=by
      show _=_;rw[HE.out,HD.out,HQ.out,List.drop_of_length_le (by omega)];rfl
     have HF:=HW.out.trans (hbq.mono HW.out.size);clear HQ hbq;go_wp2;go_roundw
     case rel=>exact⟨n+1,by omega,by go_num,HF,HG⟩
     case measure=>simp[intOf];omega
  ·have HF:Hid (hasE ps kind pl=false):=by show _=_;rw[HE.out,List.drop_of_length_le (by omega)];rfl
   have hf:=HB.out.trans (hb.mono (Nat.le_of_lt hlt0));clear HE hb;go_wp2;go_ret;exact⟨ret_bool HF.out.symm,hf⟩
end Go.Proofs.YtdjamdbamkhblabGreatDoor
namespace Go.Proofs.YtdjamdbamkhblabGreatDoor
open Go.RowKit
set_option linter.unusedVariables false
set_option linter.unusedSimpArgs false
attribute [local go_sem] After.cell
theorem find1_enter:∀ args w,(callFunc 47 args).run Tryz.prog w= .ok (.enter 47 args) w:=fun args w=>by
 simp only[callFunc,run_program,Sem.run_bind,Result.andThen_ok,Tryz.func47];rfl
theorem place1_enter:∀ args w,(callFunc 79 args).run Tryz.prog w= .ok (.enter 79 args) w:=fun args w=>by
 simp only[callFunc,run_program,Sem.run_bind,Result.andThen_ok,Tryz.func79];rfl
theorem make1_enter:∀ args w,(callFunc 46 args).run Tryz.prog w= .ok (.enter 46 args) w:=fun args w=>by
 simp only[callFunc,run_program,Sem.run_bind,Result.andThen_ok,Tryz.func46];rfl
theorem by1_enter:∀ args w,(callFunc 50 args).run Tryz.prog w= .ok (.enter 50 args) w:=fun args w=>by
 simp only[callFunc,run_program,Sem.run_bind,Result.andThen_ok,Tryz.func50];rfl
set_option maxHeartbeats 400000 in
theorem find1_any (x:Nod) (b:Nat) (s:ByteArray) (w:World) (h1:b<w.heap.size) (c1:w.cell? ⟨b,0,none⟩=some (.string s)):
  Calls Tryz.prog 47 #[.agg #[.string x.name, .int .i64 x.kind, .string x.data, .int .i64 x.unit], .pointer (some ⟨b,0,none⟩)] w fun e w'=>e= .returned (.bool ((x.kind != 0) && (x.name == s)))∧Below w.heap.size w w':=by
 cases hk:(x.kind != 0)
 all_goals
  go_enter Tryz.func47,Tryz.ntmps47;go_wp2;go_ret;exact⟨ret_bool (by first|rfl|exact bs_l _ _),below_box w _⟩
set_option maxHeartbeats 400000 in
theorem place1_any (x:Opn) (w:World):
  Calls Tryz.prog 79 #[.agg #[.int .i64 x.kind, .int .i64 x.node, .int .i64 x.pos]] w fun e w'=>e= .returned (.bool (x.kind == 0))∧Below w.heap.size w w':=by
 go_enter Tryz.func79,Tryz.ntmps79;go_wp2;go_ret;exact⟨rfl,below_box w _⟩
set_option maxHeartbeats 400000 in
theorem make1_any (x:Nod) (w:World):
  Calls Tryz.prog 46 #[.agg #[.string x.name, .int .i64 x.kind, .string x.data, .int .i64 x.unit]] w fun e w'=>e= .returned (.bool (x.kind == 0))∧Below w.heap.size w w':=by
 go_enter Tryz.func46,Tryz.ntmps46;go_wp2;go_ret;exact⟨rfl,below_box w _⟩
set_option maxHeartbeats 400000 in
theorem by1_any (x:Prc) (A:Option Addr) (c:Nat) (w:World):
  Calls Tryz.prog 50 #[.agg #[.bool x.live, .slice A x.ends.length c]] w fun e w'=>e= .returned (.bool (!x.live))∧Below w.heap.size w w':=by
 go_enter Tryz.func50,Tryz.ntmps50;go_wp2;go_ret;exact⟨rfl,below_box w _⟩
section
variable {B g:Nat} {a:KA} {k:Krn} {ms:List (Value × Value)} {es:List Value}
set_option maxHeartbeats 1000000 in
theorem find_any (s:ByteArray) (w:World) (h:KS B w g a k ms es) (hl:k.nodes.length=8):
  Calls Tryz.prog 13 #[.agg #[.pointer (some ⟨g,0,none⟩)], .string s] w fun e w'=>e= .returned (.int .i64 (findK k s))∧Below w.heap.size w w':=by
 have hb1:=below_box w (.cells #[.pointer (some ⟨g,0,none⟩)] 49);have hb2:=hb1.alloc hb1.size (.cells #[.string s] 9);have HR:=Lib.hid ((h.krn.nodes.below hb2).more hb2.size);have HB:=Lib.hid hb2;obtain⟨_,_,c2,_,_⟩:=h.c5;have hg:=h.blk.lt;have C1:=Lib.hid (show ∀ w2,Below ((w.alloc (.cells #[.pointer (some ⟨g,0,none⟩)] 49)).alloc (.cells #[.string s] 9)).heap.size ((w.alloc (.cells #[.pointer (some ⟨g,0,none⟩)] 49)).alloc (.cells #[.string s] 9)) w2→w.heap.size+1<w2.heap.size∧w2.cell? ⟨w.heap.size+1,0,none⟩=some (.string s) from fun w2 h2=>by
  have N:Blk ((w.alloc (.cells #[.pointer (some ⟨g,0,none⟩)] 49)).alloc (.cells #[.string s] 9)) (w.heap.size+1) 9 #[.string s]:=Blk.new' (by simp);exact⟨Nat.lt_of_lt_of_le N.lt h2.size,(N.below h2 N.lt).cell 0⟩)
 rw[hl] at c2;clear hb1 hb2 h;go_enter Tryz.func13,Tryz.ntmps13;go_wp2_with fail;have hi:=IndexFunc_nod 47 #[.pointer (some ⟨w.heap.size+1,0,none⟩)] (fun x:Nod=>(x.kind != 0) && (x.name == s)) a.a2 a.c2 k.nodes _ HR.out (by rw[hl];unfold maxLen;omega) find1_enter (fun y _ w2 hw2=>by
  obtain⟨q1,q2⟩:=C1.out w2 hw2;exact find1_any y _ s w2 q1 q2)
 rw[hl] at hi;refine hi.mono ?_;rintro e w1 ⟨rfl,hb1⟩;go_wp2;go_ret;exact⟨rfl,HB.out.trans (hb1.mono HB.out.size)⟩
set_option maxHeartbeats 1000000 in
theorem place_any (b o:Nat) (A:Option Addr) (c:Nat) (l:List Opn) (w:World) (hb:b<w.heap.size) (hc:w.cell? ⟨b,o+1,none⟩=some (.slice A l.length c)) (hr:RdE w w.heap.size A l) (hl:l.length=6):
  Calls Tryz.prog 48 #[.pointer (some ⟨b,o,none⟩)] w fun e w'=>e= .returned (.int .i64 (freeE l))∧Below w.heap.size w w':=by
 have HR:=Lib.hid hr;rw[hl] at hc;clear hr;go_enter Tryz.func48,Tryz.ntmps48;go_wp2_with fail;have hi:=IndexFunc_opn 79 #[] (fun x:Opn=>x.kind == 0) A c l w HR.out (by rw[hl];unfold maxLen;omega) place1_enter (fun y _ w2 _=>place1_any y w2);rw[hl] at hi;refine hi.mono ?_;rintro e w1 ⟨rfl,hb1⟩;go_wp2;go_ret;exact⟨rfl,hb1⟩
end
end Go.Proofs.YtdjamdbamkhblabGreatDoor
