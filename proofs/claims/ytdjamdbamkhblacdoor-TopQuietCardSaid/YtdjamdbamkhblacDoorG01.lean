/- Small words for memory and plain data that the walks of this seat use: no condition. The machine as plain mathematics: a step, and so many steps: no program in sight. The walk of the reference's In. The walks of code.Check and of its reference: what they return, for every code. The walk of the reference's CodeFault: what it returns, for every code. The walks of safe.Verify and of its reference: what they return, for every code. -/
import Derived.Test.YtdjamdbamkhblacDoorRows
import Derived.WalkKit
import Derived.WalkSpells
import Derived.WalkLawsBesides
import Derived.Lib.Hide
import Derived.Deep.LoopGhost
import Derived.LoopN
import Derived.Handy
import Derived.PlainAid
import Derived.Deep.RegionHeld3
import Derived.BigQuiet
import Derived.Deep.QuietTactic
import Derived.Deep.DeepCutAuto
import Derived.Deep.Slices
import Derived.Deep.Fields
import Derived.Deep.Draws
import Derived.Deep.AppendLies
import Derived.Maps.AppendAt
import Derived.Laws.OwnMore
import Derived.Laws.BitsAllLaws
import Derived.Laws.BitsLemmas
import Derived.ChangeSame
import Derived.ProofKit
import Derived.OpenShut
import Derived.Lib.SmallJoins
set_option maxHeartbeats 1000000
namespace Go.Proofs.YtdjamdbamkhblacDoor
open Go.RowKit
theorem Hzy {W w1:World} (hb:Below W.heap.size W w1):(∀ b o,b<W.heap.size→w1.cell? ⟨b,o,none⟩=W.cell? ⟨b,o,none⟩)∧(∀ b o,b<W.heap.size→w1.frozen? ⟨b,o,none⟩=W.frozen? ⟨b,o,none⟩):=
 ⟨fun b o h=>hb.cell (p:=⟨b,o,none⟩) h,fun b o h=>hb.frozen (p:=⟨b,o,none⟩) h⟩
theorem Below.drewN' {B:Nat} {a w:World} (h:Below B a w) (n:Nat):Below B a (w.drewN n):=⟨h.os,h.tape,h.output,h.size,h.block⟩
theorem Azb {k:IntKind} {a b:Int} (h:a=b):Ending.returned (.int k a)= .returned (.int k b):=by rw[h]
theorem Aza {a b:Bool} (h:a=b):Ending.returned (.bool a)= .returned (.bool b):=by rw[h]
def Cnt (n:Nat) (i:Value) (p:Nat→Prop):Prop:=∃ k:Nat,k≤n∧i= .int .i64 k∧p k
structure Ins where
 op:Int
 a:Int
 b:Int
 c:Int
theorem Ins.ext' {i j:Ins} (h0:i.op=j.op) (h1:i.a=j.a) (h2:i.b=j.b) (h3:i.c=j.c):i=j:=by
 cases i;cases j;simp_all
instance : DecidableEq Ins := fun i j =>
 if h:i.op=j.op∧i.a=j.a∧i.b=j.b∧i.c=j.c then .isTrue (Ins.ext' h.1 h.2.1 h.2.2.1 h.2.2.2)
 else .isFalse (fun e=>h (by subst e;exact⟨rfl,rfl,rfl,rfl⟩))
instance : Inhabited Ins := ⟨⟨0, 0, 0, 0⟩⟩
def Ins.val (i:Ins):Value:= .agg #[.int .i64 i.op, .int .i64 i.a, .int .i64 i.b, .int .i64 i.c]
def RdI (w:World) (B:Nat) (A:Option Addr) (l:List Ins):Prop:=
 0<l.length→∃ b o,A=some ⟨b,o,none⟩∧b<B∧∀ k (h:k<l.length),
  w.cell? ⟨b,o+k*4,none⟩=some (.int .i64 l[k].op)∧w.cell? ⟨b,o+k*4+1,none⟩=some (.int .i64 l[k].a)∧
  w.cell? ⟨b,o+k*4+2,none⟩=some (.int .i64 l[k].b)∧w.cell? ⟨b,o+k*4+3,none⟩=some (.int .i64 l[k].c)
def RdN (w:World) (B:Nat) (A:Option Addr) (l:List Int):Prop:=
 0<l.length→∃ b o,A=some ⟨b,o,none⟩∧b<B∧∀ k (h:k<l.length),w.cell? ⟨b,o+k,none⟩=some (.int .i64 l[k])
theorem RdI.keep {w w':World} {B:Nat} {A:Option Addr} {l:List Ins} (h:RdI w B A l) (hk:∀ p:Addr,p.block<B→w'.cell? p=w.cell? p):RdI w' B A l:=fun hl=>by
 obtain⟨b,o,e,hb,hc⟩:=h hl;refine⟨b,o,e,hb,fun k hk'=>?_⟩;obtain⟨h0,h1,h2,h3⟩:=hc k hk';exact⟨(hk _ hb).trans h0,(hk _ hb).trans h1,(hk _ hb).trans h2,(hk _ hb).trans h3⟩
theorem RdI.below {w w':World} {B:Nat} {A:Option Addr} {l:List Ins} (h:RdI w B A l) (hb:Below B w w'):RdI w' B A l:=h.keep fun _ hp=>hb.cell hp
theorem RdI.more {w:World} {B B':Nat} {A:Option Addr} {l:List Ins} (h:RdI w B A l) (hB:B≤B'):RdI w B' A l:=fun hl=>by
 obtain⟨b,o,e,hb,hc⟩:=h hl;exact⟨b,o,e,by omega,hc⟩
theorem RdN.keep {w w':World} {B:Nat} {A:Option Addr} {l:List Int} (h:RdN w B A l) (hk:∀ p:Addr,p.block<B→w'.cell? p=w.cell? p):RdN w' B A l:=fun hl=>by
 obtain⟨b,o,e,hb,hc⟩:=h hl;exact⟨b,o,e,hb,fun k hk'=>(hk _ hb).trans (hc k hk')⟩
theorem RdN.below {w w':World} {B:Nat} {A:Option Addr} {l:List Int} (h:RdN w B A l) (hb:Below B w w'):RdN w' B A l:=h.keep fun _ hp=>hb.cell hp
theorem RdN.more {w:World} {B B':Nat} {A:Option Addr} {l:List Int} (h:RdN w B A l) (hB:B≤B'):RdN w B' A l:=fun hl=>by
 obtain⟨b,o,e,hb,hc⟩:=h hl;exact⟨b,o,e,by omega,hc⟩
structure Mc where
 pos:Nat
 back:List Nat
 regs:List Nat
 told:List Nat
 mem:List Nat
def rg (s:Mc) (i:Int):Nat:=s.regs.getD i.toNat 0
def reck (x y op c:Nat):Nat:=
 if op=2 then (x+y) % 65536 else if op=3 then (x+65536 - y) % 65536 else if op=4 then x &&& y else if op=5 then x |||y else if op=6 then x ^^^ y
 else if op=7 then (if x<y then 1 else 0) else c
def step (l:List Ins) (s:Mc):Mc × Nat:=
 match l[s.pos]? with
 | none=>(s,3)
 | some i=>
   if i.op=8 then (if rg s i.b<s.mem.length then ({ s with pos:=s.pos+1,regs:=s.regs.set i.a.toNat (s.mem.getD (rg s i.b) 0) },0) else ({ s with pos:=s.pos+1 },3))
   else if i.op=9 then (if rg s i.b<s.mem.length then ({ s with pos:=s.pos+1,mem:=s.mem.set (rg s i.b) (rg s i.a) },0) else ({ s with pos:=s.pos+1 },3))
   else if i.op=10 then ({ s with pos:=i.c.toNat },0)
   else if i.op=11 then ({ s with pos:=if rg s i.a=0 then i.c.toNat else s.pos+1 },0)
   else if i.op=12 then (if s.back.length=16 then ({ s with pos:=s.pos+1 },4) else ({ s with pos:=i.c.toNat,back:=s.back++ [s.pos+1] },0))
   else if i.op=13 then (if s.back.length=0 then ({ s with pos:=s.pos+1 },1) else ({ s with pos:=s.back.getD (s.back.length - 1) 0,back:=s.back.take (s.back.length - 1) },0))
   else if i.op=14 then (if s.told.length=100 then ({ s with pos:=s.pos+1 },5) else ({ s with pos:=s.pos+1,told:=s.told++ [rg s i.a] },0))
   else if i.op=15 then ({ s with pos:=s.pos+1 },1)
   else ({ s with pos:=s.pos+1,regs:=s.regs.set i.a.toNat (reck (rg s i.b) (rg s (i.c % 8)) i.op.toNat i.c.toNat) },0)
def runs (l:List Ins):Nat→Mc→Mc × Nat
 | 0,s=>(s,2)
 | n+1,s=>if (step l s).2=0 then runs l n (step l s).1 else step l s
theorem Gz9 {l:List Ins} {n:Nat} {s:Mc} (h:(step l s).2=0):runs l (n+1) s=runs l n (step l s).1:=by simp[runs,h]
theorem Dza {l:List Ins} {n:Nat} {s:Mc} (h:(step l s).2≠0):runs l (n+1) s=step l s:=by simp[runs,h]
structure InsOk (i:Ins):Prop where
 op1:1≤i.op
 op2:i.op≤15
 a0:0≤i.a
 a7:i.a≤7
 b0:0≤i.b
 b7:i.b≤7
 c0:0≤i.c
 cw:i.c≤65535
 c7:2≤i.op→i.op≤7→i.c≤7
def Fz4 (l:List Ins):Prop:=∀ i∈l,InsOk i
structure McOk (s:Mc):Prop where
 regs:s.regs.length=8
 rw:∀ x∈s.regs,x≤65535
 mw:∀ x∈s.mem,x≤65535
 back:s.back.length≤16
 told:s.told.length≤100
theorem Jza {l:List Nat} {b:Nat} (h:∀ x∈l,x≤b) (k:Nat):l.getD k 0≤b:=by
 rw[List.getD_eq_getElem?_getD];cases hk:l[k]? with
 | none=>simp
 | some v=>exact h v (List.mem_of_getElem? hk)
theorem Nzt {l:List Nat} {b:Nat} (h:∀ x∈l,x≤b) (k v:Nat) (hv:v≤b):∀ x∈l.set k v,x≤b:=fun x hx=>by
 rcases List.mem_or_eq_of_mem_set hx with h1|h1
 ·exact h x h1
 ·omega
theorem Nzq {s:Mc} (h:McOk s) (i:Int):rg s i≤65535:=Jza h.rw _
theorem Rzf {x y op c:Nat} (hx:x≤65535) (hy:y≤65535) (hc:c≤65535):reck x y op c≤65535:=by
 unfold reck;have h1:x &&& y<2 ^ 16:=Nat.and_lt_two_pow x (by omega);have h2:x |||y<2 ^ 16:=Nat.or_lt_two_pow (by omega) (by omega);have h3:x ^^^ y<2 ^ 16:=Nat.xor_lt_two_pow (by omega) (by omega)
 repeat' split
 all_goals omega
theorem step_ok {l:List Ins} {s:Mc} (hl:Fz4 l) (h:McOk s):McOk (step l s).1:=by
 unfold step;cases hi:l[s.pos]? with
 | none=>exact h
 | some i=>
   have hk:=hl i (List.mem_of_getElem? hi);have hcc:i.c.toNat≤65535:=by have:=hk.cw;omega
   have hm:=Jza h.mw (rg s i.b);have hra:=Nzq h i.a;have hrk:=Rzf (op:=i.op.toNat) (Nzq h i.b) (Nzq h (i.c % 8)) hcc;simp only
   repeat' split
   all_goals first
    | exact⟨h.regs,h.rw,h.mw,h.back,h.told⟩
    | exact⟨by simpa using h.regs,Nzt h.rw _ _ hm,h.mw,h.back,h.told⟩
    | exact⟨h.regs,h.rw,Nzt h.mw _ _ hra,h.back,h.told⟩
    | exact⟨by simpa using h.regs,Nzt h.rw _ _ hrk,h.mw,h.back,h.told⟩
    | exact⟨h.regs,h.rw,h.mw,by have:=h.back;simp;omega,h.told⟩
    | exact⟨h.regs,h.rw,h.mw,h.back,by have:=h.told;simp;omega⟩
theorem step_mem {l:List Ins} {s:Mc}:(step l s).1.mem.length=s.mem.length:=by
 unfold step;cases l[s.pos]? with
 | none=>rfl
 | some i=>
   simp only
   repeat' split
   all_goals simp
theorem Ezi {l:List Ins}:∀ (n:Nat) (s:Mc),(runs l n s).1.mem.length=s.mem.length
 | 0,s=>rfl
 | n+1,s=>by
   by_cases h:(step l s).2=0
   ·rw[Gz9 h,Ezi n,step_mem]
   ·rw[Dza h,step_mem]
theorem Nzs {l:List Ins} (hl:Fz4 l):∀ (n:Nat) (s:Mc),McOk s→McOk (runs l n s).1
 | 0,s,h=>h
 | n+1,s,h=>by
   by_cases h0:(step l s).2=0
   ·rw[Gz9 h0];exact Nzs hl n _ (step_ok hl h)
   ·rw[Dza h0];exact step_ok hl h
def grt (c:Int):Int:=if c == 114 then 7 else if c == 119 then 65535 else if c == 112 then 199 else 0
def shp (q:Nat):ByteArray:=
 match q with
 | 1=>⟨#[114,45,119]⟩|2=>⟨#[114,114,114]⟩|3=>⟨#[114,114,114]⟩|4=>⟨#[114,114,114]⟩|5=>⟨#[114,114,114]⟩|6=>⟨#[114,114,114]⟩|7=>⟨#[114,114,114]⟩
 | 8=>⟨#[114,114,45]⟩|9=>⟨#[114,114,45]⟩|10=>⟨#[45,45,112]⟩|11=>⟨#[114,45,112]⟩|12=>⟨#[45,45,112]⟩|13=>⟨#[45,45,45]⟩|14=>⟨#[114,45,45]⟩|15=>⟨#[45,45,45]⟩
 | _=>⟨#[]⟩
def gA (op:Int):Int:=if op=10∨op=12∨op=13∨op=15 then 0 else 7
def gB (op:Int):Int:=if 2≤op∧op≤9 then 7 else 0
def gC (op:Int):Int:=if op=1 then 65535 else if 2≤op∧op≤7 then 7 else if op=10∨op=11∨op=12 then 199 else 0
theorem Nzo {q:Nat} (h1:1≤q) (h2:q≤15):q=1∨q=2∨q=3∨q=4∨q=5∨q=6∨q=7∨q=8∨q=9∨q=10∨q=11∨q=12∨q=13∨q=14∨q=15:=by omega
theorem Pzr {q:Nat} (h1:1≤q) (h2:q≤15):(shp q).size=3:=by
 rcases Nzo h1 h2 with h|h|h|h|h|h|h|h|h|h|h|h|h|h|h<;>subst h<;>rfl
theorem Nzu {q:Nat} (h1:1≤q) (h2:q≤15) (h:(shp q).size=3):grt ((shp q)[0]'(by omega)).toNat=gA q∧grt ((shp q)[1]'(by omega)).toNat=gB q∧grt ((shp q)[2]'(by omega)).toNat=gC q:=by
 rcases Nzo h1 h2 with h|h|h|h|h|h|h|h|h|h|h|h|h|h|h<;>subst h<;>exact⟨rfl,rfl,rfl⟩
def Tab (w:World):Prop:=1<w.heap.size∧∀ k:Nat,k<16→w.cell? ⟨1,k,none⟩=some (.string (shp k))
theorem Tab.below {w w':World} (h:Tab w) (hb:Below w.heap.size w w'):Tab w':=
 ⟨Nat.lt_of_lt_of_le h.1 hb.size,fun k hk=>(hb.cell (p:=⟨_,k,none⟩) h.1).trans (h.2 k hk)⟩
def okI (i:Ins):Bool:=decide (0≤i.a∧i.a≤gA i.op) && decide (0≤i.b∧i.b≤gB i.op) && decide (0≤i.c∧i.c≤gC i.op)
def chk:List Ins→Int
 | []=>0
 | i::r=>if i.op<1∨15<i.op then 3 else if okI i then chk r else 2
def check (l:List Ins):Int:=if 200<l.length then 1 else chk l
theorem Ozm {l:List Ins} {k:Nat} (h:k<l.length):chk (l.drop k)=if l[k].op<1∨15<l[k].op then 3 else if okI l[k] then chk (l.drop (k+1)) else 2:=by
 rw[List.drop_eq_getElem_cons h];rfl
theorem Bz0 (c:Int) (w:World):
  Calls Tryd.prog 104 #[.int .u8 c] w fun e w'=>e= .returned (.int .i64 (grt c))∧w=w':=by
 go_enter Tryd.func104,Tryd.ntmps104;go_wp2
 all_goals go_ret
 all_goals simp[grt, *]
theorem Bzc (A:Option Addr) (c:Nat) (l:List Ins) (w:World) (hr:RdI w w.heap.size A l) (ht:Tab w) (hl:l.length≤maxLen):
  Calls Tryd.prog 62 #[.slice A l.length c] w fun e w'=>e= .returned (.int .i64 (check l))∧Below w.heap.size w w':=by
 unfold maxLen at hl;by_cases h200:200<l.length
 ·go_enter Tryd.func62,Tryd.ntmps62
  go_wp2;go_ret;exact⟨Azb (by rw[check,if_pos h200]),Below.refl _ _⟩
 ·have hck:check l=chk (l.drop 0):=by rw[check,if_neg h200];rfl
  have HC:=Lib.hid hck;clear hck;obtain⟨h0,ht⟩:=ht;go_enter Tryd.func62,Tryd.ntmps62;go_wp2;go_loopw [12] (fun i wr=>∃ k:Nat,k≤l.length∧i= .int .i64 k∧Below w.heap.size w wr∧Hid (check l=chk (l.drop k))) (fun i _=>l.length - (intOf i).toNat)
  case atStart=>exact⟨0,Nat.zero_le _,rfl,Below.refl _ _,HC⟩
  case round=>
   clear HC;obtain⟨k,hk,rfl,hb,HC⟩:=hrel;by_cases hlt:k<l.length
   ·obtain⟨b,o,rfl,hbB,hcell⟩:=hr (by omega)
    obtain⟨c0,c1,c2,c3⟩:=hcell k hlt;rw[←hb.cell (p:=⟨b,_,none⟩) hbB] at c0 c1 c2 c3;have HD:=Lib.hid (Ozm hlt);have hz0:1<wr.heap.size:=Nat.lt_of_lt_of_le h0 hb.size;have hz1:1<wr.heap.size+1:=by omega
    have hz2:1<wr.heap.size+1+1:=by omega
    have hzb:b<wr.heap.size:=Nat.lt_of_lt_of_le hbB hb.size;have hzb1:b<wr.heap.size+1:=by omega
    have hbz:=hb.size;clear hr hcell;by_cases hop:1≤l[k].op∧l[k].op≤15
    ·obtain⟨hop1,hop2⟩:=hop
     obtain⟨q,hq⟩:∃ q:Nat,l[k].op=q:=⟨l[k].op.toNat,by omega⟩;rw[hq] at c0 hop1 hop2;have tq:=ht q (by omega);rw[←hb.cell (p:=⟨1,_,none⟩) h0] at tq;have hs:(shp q).size=3:=Pzr (by omega) (by omega);obtain⟨hpa,hpb,hpc⟩:=Nzu (q:=q) (by omega) (by omega) hs;have HE:Hid (okI l[k]=(decide (0≤l[k].a∧l[k].a≤grt ((shp q)[0]'(by omega)).toNat) && decide (0≤l[k].b∧l[k].b≤grt ((shp q)[1]'(by omega)).toNat) && decide (0≤l[k].c∧l[k].c≤grt ((shp q)[2]'(by omega)).toNat))):=by
      rw[hpa,hpb,hpc];unfold okI;rw[hq];exact rfl
     have HF:Hid (¬ (l[k].op<1∨15<l[k].op)):=by show ¬ _;omega
     clear ht hq hpa hpb hpc;generalize hx:l[k].a=x at*;generalize hy:l[k].b=y at*;generalize hz:l[k].c=z at*;clear hx hy hz;go_wp2;refine wp_loop_rounds 4 ?_;rw[rounds_succ];by_cases hxx:0≤x∧x≤grt ((shp q)[0]'(by omega)).toNat
     ·obtain⟨hx1,hx2⟩:=hxx
      go_wp2_with (go_at_call 104;refine(Bz0 _ _).mono ?_;rintro e w' ⟨rfl,rfl⟩);rw[rounds_succ];by_cases hxx:0≤y∧y≤grt ((shp q)[1]'(by omega)).toNat
      ·obtain⟨hy1,hy2⟩:=hxx
       go_wp2_with (go_at_call 104;refine(Bz0 _ _).mono ?_;rintro e w' ⟨rfl,rfl⟩);rw[rounds_succ];by_cases hxx:0≤z∧z≤grt ((shp q)[2]'(by omega)).toNat
       ·obtain⟨hz1,hz2⟩:=hxx
        go_wp2_with (go_at_call 104;refine(Bz0 _ _).mono ?_;rintro e w' ⟨rfl,rfl⟩);rw[rounds_succ];go_wp2;go_roundw
        case rel=>
         refine⟨k+1,by omega,by go_num,(hb.alloc hbz _).alloc (by simp;omega) _,?_⟩;show _=_;rw[HC.out,HD.out,if_neg HF.out,HE.out];simp[hx1,hx2,hy1,hy2,hz1,hz2]
        case measure=>simp[intOf];omega
       ·have HG:Hid (check l=2):=by
         show _=_;rw[HC.out,HD.out,if_neg HF.out,HE.out];simp[hxx]
        by_cases hz0:z<0
        ·go_wp2_with (go_at_call 104;refine(Bz0 _ _).mono ?_;rintro e w' ⟨rfl,rfl⟩)
         go_ret;exact⟨Azb HG.out.symm,(hb.alloc hbz _).alloc (by simp;omega) _⟩
        ·have hz1:grt ((shp q)[2]'(by omega)).toNat<z:=by omega
         go_wp2_with (go_at_call 104;refine(Bz0 _ _).mono ?_;rintro e w' ⟨rfl,rfl⟩);go_ret;exact⟨Azb HG.out.symm,(hb.alloc hbz _).alloc (by simp;omega) _⟩
      ·have HG:Hid (check l=2):=by
        show _=_;rw[HC.out,HD.out,if_neg HF.out,HE.out];simp[hxx]
       by_cases hy0:y<0
       ·go_wp2_with (go_at_call 104;refine(Bz0 _ _).mono ?_;rintro e w' ⟨rfl,rfl⟩)
        go_ret;exact⟨Azb HG.out.symm,(hb.alloc hbz _).alloc (by simp;omega) _⟩
       ·have hy1:grt ((shp q)[1]'(by omega)).toNat<y:=by omega
        go_wp2_with (go_at_call 104;refine(Bz0 _ _).mono ?_;rintro e w' ⟨rfl,rfl⟩);go_ret;exact⟨Azb HG.out.symm,(hb.alloc hbz _).alloc (by simp;omega) _⟩
     ·have HG:Hid (check l=2):=by
       show _=_;rw[HC.out,HD.out,if_neg HF.out,HE.out];simp[hxx]
      by_cases hx0:x<0
      ·go_wp2_with (go_at_call 104;refine(Bz0 _ _).mono ?_;rintro e w' ⟨rfl,rfl⟩)
       go_ret;exact⟨Azb HG.out.symm,(hb.alloc hbz _).alloc (by simp;omega) _⟩
      ·have hx1:grt ((shp q)[0]'(by omega)).toNat<x:=by omega
       go_wp2_with (go_at_call 104;refine(Bz0 _ _).mono ?_;rintro e w' ⟨rfl,rfl⟩);go_ret;exact⟨Azb HG.out.symm,(hb.alloc hbz _).alloc (by simp;omega) _⟩
    ·have HG:Hid (check l=3):=by
      show _=_;rw[HC.out,HD.out,if_pos (by omega)]
     generalize l[k].op=q at*;by_cases hop1:q<1
     ·go_wp2
      go_ret;exact⟨Azb HG.out.symm,hb.alloc hbz _⟩
     ·have hop2:15<q:=by omega
      go_wp2;go_ret;exact⟨Azb HG.out.symm,hb.alloc hbz _⟩
   ·go_wp2
    go_ret;exact⟨Azb (by rw[HC.out,List.drop_of_length_le (by omega)];rfl),hb⟩
set_option maxRecDepth 100000
def wrB (i:Ins):Bool:=decide (1≤i.op∧i.op≤8)
def fstB (i:Ins):Bool:=decide (i.op=4∧i.a=4∧i.c=6)
def sndB (i:Ins):Bool:=decide (i.op=5∧i.a=4∧i.b=4∧i.c=5)
def endB (i:Ins):Bool:=decide (i.op=10∨i.op=13∨i.op=15)
def jmpB (i:Ins):Bool:=decide (i.op=10∨i.op=11∨i.op=12)
theorem Fz3 (x y z u:Int) (w:World):
  Calls Tryd.prog 124 #[.agg #[.int .i64 x, .int .i64 y, .int .i64 z, .int .i64 u]] w fun e w'=>e= .returned (.bool (wrB ⟨x,y,z,u⟩))∧w.alloc (.cells #[.int .i64 x, .int .i64 y, .int .i64 z, .int .i64 u] 65)=w':=by
 go_enter Tryd.func124,Tryd.ntmps124;go_wp2
 all_goals go_ret
 all_goals refine⟨Aza ?_,by simp[*]⟩
 all_goals (simp[wrB];omega)
theorem Ezz (x y z u:Int) (w:World):
  Calls Tryd.prog 125 #[.agg #[.int .i64 x, .int .i64 y, .int .i64 z, .int .i64 u]] w fun e w'=>e= .returned (.bool (sndB ⟨x,y,z,u⟩))∧w.alloc (.cells #[.int .i64 x, .int .i64 y, .int .i64 z, .int .i64 u] 65)=w':=by
 have k1:Tryd.prog.stoodInHeld 65=false:=by kernel_rfl
 have k2:Tryd.prog.eqGuardType Tryd.prog.depth 65=false:=by kernel_rfl
 go_enter Tryd.func125,Tryd.ntmps125;go_wp2
 all_goals go_ret
 all_goals refine⟨Aza ?_,by simp[*]⟩
 all_goals (rw[Bool.eq_iff_iff];simp[sndB];omega)
theorem first_any (x y z u:Int) (w:World):
  Calls Tryd.prog 126 #[.agg #[.int .i64 x, .int .i64 y, .int .i64 z, .int .i64 u]] w fun e w'=>e= .returned (.bool (fstB ⟨x,y,z,u⟩))∧w.alloc (.cells #[.int .i64 x, .int .i64 y, .int .i64 z, .int .i64 u] 65)=w':=by
 go_enter Tryd.func126,Tryd.ntmps126;go_wp2
 all_goals go_ret
 all_goals refine⟨Aza ?_,by simp[*]⟩
 all_goals (rw[Bool.eq_iff_iff];simp[fstB];omega)
theorem Fzo (x y z u:Int) (w:World):
  Calls Tryd.prog 123 #[.agg #[.int .i64 x, .int .i64 y, .int .i64 z, .int .i64 u]] w fun e w'=>e= .returned (.bool (endB ⟨x,y,z,u⟩))∧w.alloc (.cells #[.int .i64 x, .int .i64 y, .int .i64 z, .int .i64 u] 65)=w':=by
 go_enter Tryd.func123,Tryd.ntmps123;go_wp2
 all_goals go_ret
 all_goals refine⟨Aza ?_,by simp[*]⟩
 all_goals (rw[Bool.eq_iff_iff];simp[endB];omega)
def badB (n:Nat) (i j:Ins):Bool:=
 (wrB i && (i.a == 5 || i.a == 6)) || (wrB i && i.a == 4 && !sndB i && !(fstB i && sndB j)) || ((i.op == 8 || i.op == 9) && i.b != 4) || (jmpB i && decide (n≤i.c))
def vrf (n:Nat):List Ins→Int
 | []=>0
 | i::r=>if badB n i (r.headD default) then 10 else vrf n r
def Dz3 (l:List Ins):Bool:=match l.getLast? with|none=>false|some i=>endB i
def verify (l:List Ins):Int:=if check l=0 then (if Dz3 l then vrf l.length l else 10) else check l
theorem Pzx {n:Nat} {l:List Ins} {k:Nat} (h:k<l.length):vrf n (l.drop k)=if badB n l[k] (l.getD (k+1) default) then 10 else vrf n (l.drop (k+1)):=by
 rw[List.drop_eq_getElem_cons h];show (if badB n l[k] ((l.drop (k+1)).headD default) then 10 else _)=_;rw[List.headD_eq_head?_getD,List.head?_drop,List.getD_eq_getElem?_getD]
theorem Sz2 {l:List Ins} (h:chk l=0):∀ k (hk:k<l.length),1≤l[k].op∧l[k].op≤15:=by
 induction l with
 | nil=>intro k hk;cases hk
 | cons i r ih=>
   rw[chk] at h;by_cases h1:i.op<1∨15<i.op
   ·rw[if_pos h1] at h;cases h
   ·rw[if_neg h1] at h
    by_cases h2:okI i=true
    ·rw[if_pos h2] at h
     intro k hk;cases k with
     | zero=>simp;omega
     | succ k=>exact ih h k (by simpa using hk)
    ·rw[if_neg h2] at h;cases h
end Go.Proofs.YtdjamdbamkhblacDoor
