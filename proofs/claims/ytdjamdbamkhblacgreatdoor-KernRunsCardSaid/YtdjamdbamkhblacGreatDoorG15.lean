/- The walks of the kernel's ask and of the reference's answered: what a module says to a word. Condition: the run's contract (RunC). By an AI agent (mkask.py). The region of the kernel's read that loads the node. No condition. By an AI agent (xread.py). The walks of two bytes of a word and of the seal, and of the reference's seal. No condition. -/
import Derived.Test.YtdjamdbamkhblacGreatDoorG14
import Derived.Laws.BytesArg
set_option maxHeartbeats 8000000
set_option maxRecDepth 1000000
namespace Go.Proofs.YtdjamdbamkhblacGreatDoor
open Go.RowKit
set_option linter.unusedVariables false
set_option linter.unusedSimpArgs false
theorem ModRows.data_lt {w:World} {B:Nat}:∀ {l:List Mod} {ms:List (Value × Value)},ModRows w B l ms→∀ x∈ms,∀ q,x.2.ownBlock=some q→q<w.heap.size
 | [],[],_,x,hx,_,_=>by cases hx
 | _::_,y::s,h,x,hx,q,hq=>by
   rcases List.mem_cons.1 hx with rfl|hx
   ·exact(h.1.2.lt q hq).2
   ·exact ModRows.data_lt h.2 x hx q hq
 | [],_::_,h,_,_,_,_=>h.elim
 | _::_,[],h,_,_,_,_=>h.elim
theorem KS.mem {B g:Nat} {w0 w:World} {a:KA} {k:Krn} {ms:List (Value × Value)} {es:List Value} {A:Option Addr} {c:Nat} {m:List Int} (h0:KS B w0 g a k ms es) (hb:Below w0.heap.size w0 w)
  (ho:w.ownsRow w0.heap.size 3 1 (.slice A m.length c) m.length (intCells m)) (hl:m.length=k.mem.length):
  KS B (w.setCell ⟨g,1,none⟩ (.slice A m.length c)) g { a with a1:=A,c1:=c } { k with mem:=m } ms es:=by
 have h:=h0.below hb;have ht:=Tch.of_set (p:=⟨g,1,none⟩) h.blk (.slice A m.length c);have hc:=h.cp.tch ht (by decide) (by decide) (by decide) (by decide) (by decide) (by decide) (by decide);refine⟨h.lo,h.blk.set_ 1 _,⟨hc.mods,hc.rows,Az4 (own_base ho (Nat.le_of_lt h0.lt)) ht (by decide),hc.nodes,hc.pipes,hc.procs,hc.ends,fun x hx=>?_,hc.each⟩,Dzy h.fits rfl h.fits.p hl rfl rfl rfl⟩;cases hq:x.2.ownBlock with
 | none=>exact .inl rfl
 | some q=>
   refine .inr fun e=>?_
   have h1:=h0.cp.rows.data_lt x hx q hq;have h2:=(ho.lt q e.symm).1;omega
theorem Jzo {k:Krn} (hk:KOk k) {u n:Nat} (hn:n≤65535) (hu:u<k.mods.length):Azv k.mods[u].code [(n:Int),0,0,0,(u:Int)*64,(u:Int)*64,63,0] k.mem 2000=0:=by
 have hc:=((Czw _).1 (Hzu (hk.mods _ (List.getElem_mem hu)))).1;have h0:=hk.l0;unfold Azv;rw[if_pos hc,if_neg (by rw[hk.l1];decide),if_neg];rintro (h|h|h)
 ·omega
 ·omega
 ·rw[List.any_append,hk.mem,Bool.or_false] at h
  simp[oddW] at h;omega
theorem Mzy {k:Krn} (hk:KOk k) {u n:Nat} (hn:n≤65535) (hu:u<k.mods.length):Czq k.mods[u].code [(n:Int),0,0,0,(u:Int)*64,(u:Int)*64,63,0] k.mem 2000=runs k.mods[u].code 2000 ⟨0,[],[n,0,0,0,64*u,64*u,63,0],[],k.mem.map Int.toNat⟩:=by
 have h:((u:Int)*64).toNat=64*u:=by omega
 unfold Czq;rw[if_pos (Jzo hk hn hu)];have e:toMc [(n:Int),0,0,0,(u:Int)*64,(u:Int)*64,63,0] k.mem=⟨0,[],[n,0,0,0,64*u,64*u,63,0],[],k.mem.map Int.toNat⟩:=by
  simp[toMc,h]
 rw[e];rfl
theorem Mzx {k:Krn} {u n:Nat} (hu:u<k.mods.length) {r:Mc × Nat} (hr:runs k.mods[u].code 2000 ⟨0,[],[n,0,0,0,64*u,64*u,63,0],[],k.mem.map Int.toNat⟩=r):
  askK k u n=if r.2=1 then some (r.1.regs.getD 0 0, { k with mem:=r.1.mem.map fun (x:Nat)=>(x:Int) }) else none:=by
 unfold askK;rw[Az3 hu,hr]
theorem Izu (l:List Nat):intCells (l.map fun (x:Nat)=>(x:Int))=Azx l:=by
 unfold intCells Azx;rw[List.map_map];rfl
def RunC (f:FuncId):Prop:=∀ (A Am:Option Addr) (c cm:Nat) (l:List Ins) (n e:Int) (mem:List Int) (W:World),RdI W W.heap.size A l→Tab W→l.length≤maxLen→RdN W W.heap.size Am mem→mem.length≤maxLen→(Am=none→mem.length=0∧cm=0)→
 Calls Tryz.prog f #[.slice A l.length c, .agg #[.int .i64 n, .int .i64 0, .int .i64 0, .int .i64 0, .int .i64 e, .int .i64 e, .int .i64 63, .int .i64 0], .slice Am mem.length cm, .int .i64 2000] W
  (RunPost W (Czq l [n,0,0,0,e,e,63,0] mem 2000) (Azv l [n,0,0,0,e,e,63,0] mem 2000))
theorem Calls.run_eq {P:Program} {f:FuncId} {args:Array Value} {W:World} {r r':Mc × Nat} {e e':Int} (h:Calls P f args W (RunPost W r e)) (h1:r=r') (h2:e=e'):Calls P f args W (RunPost W r' e'):=by
 subst h1 h2;exact h
theorem Qz6 {B:Nat} {w W:World} {g:Nat} {a:KA} {k:Krn} {ms:List (Value × Value)} {es:List Value} (hb:Below w.heap.size w W) (hK:KS B W g a k ms es) (hB:B<w.heap.size) (i:Nat) (u:Value):
  Fr B w (W.setCell ⟨g,i,none⟩ u)∧Tch 30 w (W.setCell ⟨g,i,none⟩ u):=by
 have ht:=(Tch.of_below (t:=30) hb).trans (Tch.of_set (p:=⟨g,i,none⟩) hK.blk u);exact⟨(Fr.low hb (Nat.le_of_lt hB)).trans (.kset hK.lo hK.blk i u),ht⟩
def Hz9 (B:Nat) (w:World) (g:Nat) (ms:List (Value × Value)) (es:List Value) (a:KA) (k:Krn) (r:Option (Nat × Krn)) (e:Ending) (w':World):Prop:=
 Fr B w w'∧Tch 30 w w'∧((r=none∧e= .returned (.tuple #[.int .i64 0, .bool false])∧KS B w' g a k ms es)∨
  ∃ v k' a',r=some (v,k')∧e= .returned (.tuple #[.int .i64 ((v:Nat):Int), .bool true])∧KS B w' g a' k' ms es∧a'.a0=a.a0∧a'.c0=a.c0∧a'.a2=a.a2∧a'.c2=a.c2∧a'.a3=a.a3∧a'.c3=a.c3∧a'.a4=a.a4∧a'.c4=a.c4)
theorem Nz5 {u n:Nat} (hu:u<8) (hn:n≤65535):entV (u:Int) (n:Int)= .tuple #[.agg #[.int .i64 n, .int .i64 0, .int .i64 0, .int .i64 0, .int .i64 ((u:Int)*64), .int .i64 ((u:Int)*64), .int .i64 63, .int .i64 0], .int .i64 0]:=by
 have:Dzx (u:Int) (n:Int)=false:=by
  unfold Dzx;simp;omega
 unfold entV;rw[this];rfl
section
variable {B g:Nat} {a:KA} {k:Krn} {ms:List (Value × Value)} {es:List Value}
theorem KS.mod {w:World} {u:Nat} (h:KS B w g a k ms es) (hu:u<k.mods.length):∃ b0 Ac cc Ad cd,a.a0=some ⟨b0,0,none⟩∧b0<w.heap.size∧w.cell? ⟨b0,u*3+1,none⟩=some (.slice Ac k.mods[u].code.length cc)∧ModAt w w.heap.size Ac cc Ad cd k.mods[u]:=by
 obtain⟨b0,ha,_,hlt⟩:=Azf h.cp.mods (by omega);obtain⟨b,o,e,hb,hc⟩:=h.krn.mods (by omega);rw[ha] at e;cases e
 obtain⟨A1,c1,A2,c2,_,h1,_,h3⟩:=hc u hu;rw[Nat.zero_add] at h1;exact⟨_,_,_,_,_,ha,hlt,h1,h3⟩
end
section
variable {B g:Nat} {a:KA} {k:Krn} {ms:List (Value × Value)} {es:List Value}
theorem Kzh (HR:RunC 96) (u n:Nat) (w:World) (h:KS B w g a k ms es) (hk:KOk k) (ht:Tab w) (hu:u<k.mods.length) (hn:n≤65535):
  Calls Tryz.prog 84 #[.agg #[.pointer (some ⟨g,0,none⟩)], .int .i64 (u:Int), .int .i64 (n:Int)] w (Hz9 B w g ms es a k (askK k u n)):=by
 have hu8:u<8:=Nat.lt_of_lt_of_le hu hk.l0;have HV:=Lib.hid (Nz5 hu8 hn);have HR':=Lib.hid HR;have HE:=Lib.hid (Jzo hk hn hu);have HRS:=Lib.hid (Mzy hk hn hu);have HK:=Lib.hid hk;have HU:=Lib.hid hu;have hb0:=Az6 w (.cells #[.pointer (some ⟨g,0,none⟩)] 59);have H0:=Lib.hid h;have HB0:=Lib.hid hb0;have HT:=Lib.hid ht;have HX:=Lib.hid (Blk.new w 59 #[.pointer (some ⟨g,0,none⟩)]);clear hb0 h ht hk hn HR;have HEN:=Lib.hid (fun W=>Mzn (u:Int) (n:Int) W);generalize hW0:w.alloc (.cells #[.pointer (some ⟨g,0,none⟩)] 59)=W0 at*;have HW0:=Lib.hid hW0;clear hW0;go_enter Tryz.func84,Tryz.ntmps84;go_wp2_with fail;rw[HW0.out];refine(HEN.out _).mono ?_;rintro e w1 ⟨rfl,hb1⟩;rw[HV.out];have hb2:=HB0.out.trans (hb1.mono HB0.out.size);have HB2:=Lib.hid hb2;have HX1:=Lib.hid (HX.out.below hb1 HX.out.lt);clear hb1 hb2;go_wp2;have hbA:=HB2.out.alloc HB2.out.size (.cells #[.int .i64 (n:Int), .int .i64 0, .int .i64 0, .int .i64 0, .int .i64 ((u:Int)*64), .int .i64 ((u:Int)*64), .int .i64 63, .int .i64 0] 129);have hA:=Blk.new w1 129 #[.int .i64 (n:Int), .int .i64 0, .int .i64 0, .int .i64 0, .int .i64 ((u:Int)*64), .int .i64 ((u:Int)*64), .int .i64 63, .int .i64 0];have hX:=HX1.out.alloc (.cells #[.int .i64 (n:Int), .int .i64 0, .int .i64 0, .int .i64 0, .int .i64 ((u:Int)*64), .int .i64 ((u:Int)*64), .int .i64 63, .int .i64 0] 129);generalize w1.alloc (.cells #[.int .i64 (n:Int), .int .i64 0, .int .i64 0, .int .i64 0, .int .i64 ((u:Int)*64), .int .i64 ((u:Int)*64), .int .i64 63, .int .i64 0] 129)=Wr at*;have hK:=H0.out.below hbA;obtain⟨b0,Ac,cc,Ad,cd,ha0,hlb,hm1,hma⟩:=hK.mod HU.out;obtain⟨c0,c1,_,_,_⟩:=hK.c5;rw[ha0] at c0;obtain⟨b1,ha1,_,hlt1⟩:=Azf hK.cp.mem (by rw[HK.out.l1];decide);have hgl:=hK.blk.lt;obtain⟨r,hr⟩:∃ r,r=runs k.mods[u].code 2000 ⟨0,[],[n,0,0,0,64*u,64*u,63,0],[],k.mem.map Int.toNat⟩:=⟨_,rfl⟩;have HASK:=Lib.hid (Mzx HU.out hr.symm);have HM:Hid (r.1.mem.length=k.mem.length):=by
  have:=Gz2 (l:=k.mods[u].code) 2000 ⟨0,[],[n,0,0,0,64*u,64*u,63,0],[],k.mem.map Int.toNat⟩;rw[←hr] at this;show _=_
  simpa using this
 have hm9:=HK.out.l1;have hcl:=hma.cl;have hcall:∀ W:World,Below Wr.heap.size Wr W→Calls Tryz.prog 96 #[.slice Ac k.mods[u].code.length cc, .agg #[.int .i64 (n:Int), .int .i64 0, .int .i64 0, .int .i64 0, .int .i64 ((u:Int)*64), .int .i64 ((u:Int)*64), .int .i64 63, .int .i64 0], .slice a.a1 k.mem.length a.c1, .int .i64 2000] W (RunPost W r 0):=fun W hW=>by
  have:=HR'.out Ac a.a1 cc a.c1 k.mods[u].code (n:Int) ((u:Int)*64) k.mem W ((hma.code.below hW).more hW.size) ((HT.out.below hbA).below hW) (by unfold maxLen;omega) ((hK.krn.mem.below hW).more hW.size) (by rw[hm9];decide) (fun e=>by rw[ha1] at e;cases e);exact Calls.run_eq this (HRS.out.trans hr.symm) HE.out
 have hreg:∀ W:World,Below Wr.heap.size Wr W→W.cell? ⟨w1.heap.size,0,none⟩=some (.int .i64 (n:Int))∧W.cell? ⟨w1.heap.size,1,none⟩=some (.int .i64 0)∧W.cell? ⟨w1.heap.size,2,none⟩=some (.int .i64 0)∧W.cell? ⟨w1.heap.size,3,none⟩=some (.int .i64 0)∧W.cell? ⟨w1.heap.size,4,none⟩=some (.int .i64 ((u:Int)*64))∧W.cell? ⟨w1.heap.size,5,none⟩=some (.int .i64 ((u:Int)*64))∧W.cell? ⟨w1.heap.size,6,none⟩=some (.int .i64 63)∧W.cell? ⟨w1.heap.size,7,none⟩=some (.int .i64 0):=fun W hW=>by
  have hA':=hA.below hW hA.lt;exact⟨hA'.cell 0,hA'.cell 1,hA'.cell 2,hA'.cell 3,hA'.cell 4,hA'.cell 5,hA'.cell 6,hA'.cell 7⟩
 have HBA:=Lib.hid hbA;clear hr hm9 hcl;refine Szb Wr w.heap.size g b0 a.c0 u k.mods.length w1.heap.size (n:Int) ((u:Int)*64) k.mods[u].code k.mem Ac a.a1 cc a.c1 r 0 Wr _ (Bz4 _) hX.lt (hX.cell 0) hgl c0 c1 hlb hm1 HU.out hreg hcall ?_;intro listed W y10 y11 y18 y19 y20 y21 y22 y23 y24 y25 y26 y27 y28 y29 y30 y31 y32 y33 y34 y35 y36 hall hJ;obtain⟨s,T,M,rfl,hge,hbl,hro⟩:=hJ.f20 (hall 20 (by decide));obtain rfl:=hJ.f21 (hall 21 (by decide));have hw:=hJ.w;clear hJ hcall hreg hma c0 c1 ha1 hlt1 hm1;have hro2:W.ownsRow Wr.heap.size 3 1 M r.1.mem.length (Azx r.1.mem):=hro.2;clear hro;obtain⟨AM,cM,rfl⟩:=Az1 hro2;have hbw:=HBA.out.trans (hw.mono HBA.out.size);have hK2:=H0.out.below hbw;have m0:W.cell? ⟨s,0,none⟩=some (.int .i64 (r.2:Int)):=hbl.cell 0;have m1:W.cell? ⟨s,1,none⟩=some (.int .i64 ((r.1.regs.getD 0 0:Nat):Int)):=hbl.cell 1;have m10:W.cell? ⟨s,10,none⟩=some (.slice AM r.1.mem.length cM):=hbl.cell 10;have sl:=hbl.lt;obtain⟨-, -, -,gf,gl2⟩:=hK2.blk.a2;have gc1:=hK2.c5.2.1;have hne1:¬ s=g:=by omega
 have hne2:¬ g=s:=by omega
 obtain⟨x0, -, -, -,xl⟩:=(hX.below hw hX.lt).a2;simp at x0;clear hX;have HRO:=Lib.hid (own_base hro2 HBA.out.size);have HBW:=Lib.hid hbw;have HK2:=Lib.hid hK2;obtain⟨v,hv⟩:∃ v,v=r.1.regs.getD 0 0:=⟨_,rfl⟩;rw[←hv] at m1 HASK;clear hro2 hbw hK2 hw hbl hA hK hv;by_cases h1:r.2=1
 ·have HA:Hid (askK k u n=some (v, { k with mem:=r.1.mem.map fun (x:Nat)=>(x:Int) })):=by
   show _=_;rw[HASK.out,if_pos h1]
  have hlen:(r.1.mem.map fun (x:Nat)=>(x:Int)).length=r.1.mem.length:=List.length_map _;have HKM:Hid (KS B (W.setCell ⟨g,1,none⟩ (.slice AM r.1.mem.length cM)) g { a with a1:=AM,c1:=cM } { k with mem:=r.1.mem.map fun (x:Nat)=>(x:Int) } ms es):=by
   have:=KS.mem (A:=AM) (c:=cM) (m:=r.1.mem.map fun (x:Nat)=>(x:Int)) H0.out HBW.out (by rw[hlen,Izu];exact HRO.out) (by rw[hlen];exact HM.out);rw[hlen] at this;exact this
  have HBF:=Lib.hid (Qz6 HBW.out HK2.out H0.out.lt 1 (.slice AM r.1.mem.length cM));rw[h1] at m0;clear HASK hlen h1;go_wp2;go_ret2;exact⟨HBF.out.1,HBF.out.2, .inr ⟨_,_,_,HA.out,rfl,HKM.out,rfl,rfl,rfl,rfl,rfl,rfl,rfl,rfl⟩⟩
 ·have HA:Hid (askK k u n=none):=by
   show _=_;rw[HASK.out,if_neg h1]
  have h2:¬ (r.2:Int)=1:=by omega
  have h3:((r.2:Int) == 1)=false:=by simpa using h2
  have HBF:=Lib.hid (And.intro (Fr.low HBW.out (Nat.le_of_lt H0.out.lt)) (Tch.of_below (t:=30) HBW.out));clear HASK h1;go_wp2;go_ret2;exact⟨HBF.out.1,HBF.out.2, .inl ⟨HA.out,rfl,HK2.out⟩⟩
theorem Ezb (HR:RunC 102) (u n:Nat) (w:World) (h:KS B w g a k ms es) (hk:KOk k) (ht:Tab w) (hu:u<k.mods.length) (hn:n≤65535):
  Calls Tryz.prog 87 #[.pointer (some ⟨g,0,none⟩), .int .i64 (u:Int), .int .i64 (n:Int)] w (Hz9 B w g ms es a k (askK k u n)):=by
 have hu8:u<8:=Nat.lt_of_lt_of_le hu hk.l0;have HV:=Lib.hid (Nz5 hu8 hn);have HR':=Lib.hid HR;have HE:=Lib.hid (Jzo hk hn hu);have HRS:=Lib.hid (Mzy hk hn hu);have HK:=Lib.hid hk;have HU:=Lib.hid hu;have hb0:=Below.refl w.heap.size w;have H0:=Lib.hid h;have HB0:=Lib.hid hb0;have HT:=Lib.hid ht;clear hb0 h ht hk hn HR;have HEN:=Lib.hid (fun W=>Hza (u:Int) (n:Int) W);go_enter Tryz.func87,Tryz.ntmps87;go_wp2_with fail;refine(HEN.out _).mono ?_;rintro e w1 ⟨rfl,hb1⟩;rw[HV.out];have hb2:=HB0.out.trans (hb1.mono HB0.out.size);have HB2:=Lib.hid hb2;clear hb1 hb2;go_wp2;have hbA:=HB2.out.alloc HB2.out.size (.cells #[.int .i64 (n:Int), .int .i64 0, .int .i64 0, .int .i64 0, .int .i64 ((u:Int)*64), .int .i64 ((u:Int)*64), .int .i64 63, .int .i64 0] 129);have hA:=Blk.new w1 129 #[.int .i64 (n:Int), .int .i64 0, .int .i64 0, .int .i64 0, .int .i64 ((u:Int)*64), .int .i64 ((u:Int)*64), .int .i64 63, .int .i64 0];generalize w1.alloc (.cells #[.int .i64 (n:Int), .int .i64 0, .int .i64 0, .int .i64 0, .int .i64 ((u:Int)*64), .int .i64 ((u:Int)*64), .int .i64 63, .int .i64 0] 129)=Wr at*;have hK:=H0.out.below hbA;obtain⟨b0,Ac,cc,Ad,cd,ha0,hlb,hm1,hma⟩:=hK.mod HU.out;obtain⟨c0,c1,_,_,_⟩:=hK.c5;rw[ha0] at c0;obtain⟨b1,ha1,_,hlt1⟩:=Azf hK.cp.mem (by rw[HK.out.l1];decide);have hgl:=hK.blk.lt;obtain⟨r,hr⟩:∃ r,r=runs k.mods[u].code 2000 ⟨0,[],[n,0,0,0,64*u,64*u,63,0],[],k.mem.map Int.toNat⟩:=⟨_,rfl⟩;have HASK:=Lib.hid (Mzx HU.out hr.symm);have HM:Hid (r.1.mem.length=k.mem.length):=by
  have:=Gz2 (l:=k.mods[u].code) 2000 ⟨0,[],[n,0,0,0,64*u,64*u,63,0],[],k.mem.map Int.toNat⟩;rw[←hr] at this;show _=_
  simpa using this
 have hm9:=HK.out.l1;have hcl:=hma.cl;have hcall:∀ W:World,Below Wr.heap.size Wr W→Calls Tryz.prog 102 #[.slice Ac k.mods[u].code.length cc, .agg #[.int .i64 (n:Int), .int .i64 0, .int .i64 0, .int .i64 0, .int .i64 ((u:Int)*64), .int .i64 ((u:Int)*64), .int .i64 63, .int .i64 0], .slice a.a1 k.mem.length a.c1, .int .i64 2000] W (RunPost W r 0):=fun W hW=>by
  have:=HR'.out Ac a.a1 cc a.c1 k.mods[u].code (n:Int) ((u:Int)*64) k.mem W ((hma.code.below hW).more hW.size) ((HT.out.below hbA).below hW) (by unfold maxLen;omega) ((hK.krn.mem.below hW).more hW.size) (by rw[hm9];decide) (fun e=>by rw[ha1] at e;cases e);exact Calls.run_eq this (HRS.out.trans hr.symm) HE.out
 have hreg:∀ W:World,Below Wr.heap.size Wr W→W.cell? ⟨w1.heap.size,0,none⟩=some (.int .i64 (n:Int))∧W.cell? ⟨w1.heap.size,1,none⟩=some (.int .i64 0)∧W.cell? ⟨w1.heap.size,2,none⟩=some (.int .i64 0)∧W.cell? ⟨w1.heap.size,3,none⟩=some (.int .i64 0)∧W.cell? ⟨w1.heap.size,4,none⟩=some (.int .i64 ((u:Int)*64))∧W.cell? ⟨w1.heap.size,5,none⟩=some (.int .i64 ((u:Int)*64))∧W.cell? ⟨w1.heap.size,6,none⟩=some (.int .i64 63)∧W.cell? ⟨w1.heap.size,7,none⟩=some (.int .i64 0):=fun W hW=>by
  have hA':=hA.below hW hA.lt;exact⟨hA'.cell 0,hA'.cell 1,hA'.cell 2,hA'.cell 3,hA'.cell 4,hA'.cell 5,hA'.cell 6,hA'.cell 7⟩
 have HBA:=Lib.hid hbA;clear hr hm9 hcl;refine Tz7 Wr 0 g b0 a.c0 u k.mods.length w1.heap.size (n:Int) ((u:Int)*64) k.mods[u].code k.mem Ac a.a1 cc a.c1 r 0 Wr _ (Bz4 _) hgl c0 c1 hlb hm1 HU.out hreg hcall ?_;intro listed W y10 y11 y18 y19 y20 y21 y22 y23 y24 y25 y26 y27 y28 y29 y30 y31 y32 y33 y34 hall hJ;obtain⟨s,T,M,rfl,hge,hbl,hro⟩:=hJ.f18 (hall 18 (by decide));obtain rfl:=hJ.f19 (hall 19 (by decide));have hw:=hJ.w;clear hJ hcall hreg hma c0 c1 ha1 hlt1 hm1;have hro2:W.ownsRow Wr.heap.size 3 1 M r.1.mem.length (Azx r.1.mem):=hro.2;clear hro;obtain⟨AM,cM,rfl⟩:=Az1 hro2;have hbw:=HBA.out.trans (hw.mono HBA.out.size);have hK2:=H0.out.below hbw;have m0:W.cell? ⟨s,0,none⟩=some (.int .i64 (r.2:Int)):=hbl.cell 0;have m1:W.cell? ⟨s,1,none⟩=some (.int .i64 ((r.1.regs.getD 0 0:Nat):Int)):=hbl.cell 1;have m10:W.cell? ⟨s,10,none⟩=some (.slice AM r.1.mem.length cM):=hbl.cell 10;have sl:=hbl.lt;obtain⟨-, -, -,gf,gl2⟩:=hK2.blk.a2;have gc1:=hK2.c5.2.1;have hne1:¬ s=g:=by omega
 have hne2:¬ g=s:=by omega
 have HRO:=Lib.hid (own_base hro2 HBA.out.size);have HBW:=Lib.hid hbw;have HK2:=Lib.hid hK2;obtain⟨v,hv⟩:∃ v,v=r.1.regs.getD 0 0:=⟨_,rfl⟩;rw[←hv] at m1 HASK;clear hro2 hbw hK2 hw hbl hA hK hv;by_cases h1:r.2=1
 ·have HA:Hid (askK k u n=some (v, { k with mem:=r.1.mem.map fun (x:Nat)=>(x:Int) })):=by
   show _=_;rw[HASK.out,if_pos h1]
  have hlen:(r.1.mem.map fun (x:Nat)=>(x:Int)).length=r.1.mem.length:=List.length_map _;have HKM:Hid (KS B (W.setCell ⟨g,1,none⟩ (.slice AM r.1.mem.length cM)) g { a with a1:=AM,c1:=cM } { k with mem:=r.1.mem.map fun (x:Nat)=>(x:Int) } ms es):=by
   have:=KS.mem (A:=AM) (c:=cM) (m:=r.1.mem.map fun (x:Nat)=>(x:Int)) H0.out HBW.out (by rw[hlen,Izu];exact HRO.out) (by rw[hlen];exact HM.out);rw[hlen] at this;exact this
  have HBF:=Lib.hid (Qz6 HBW.out HK2.out H0.out.lt 1 (.slice AM r.1.mem.length cM));rw[h1] at m0;clear HASK hlen h1;go_wp2;go_ret2;exact⟨HBF.out.1,HBF.out.2, .inr ⟨_,_,_,HA.out,rfl,HKM.out,rfl,rfl,rfl,rfl,rfl,rfl,rfl,rfl⟩⟩
 ·have HA:Hid (askK k u n=none):=by
   show _=_;rw[HASK.out,if_neg h1]
  have h2:¬ (r.2:Int)=1:=by omega
  have h3:((r.2:Int) == 1)=false:=by simpa using h2
  have HBF:=Lib.hid (And.intro (Fr.low HBW.out (Nat.le_of_lt H0.out.lt)) (Tch.of_below (t:=30) HBW.out));clear HASK h1;go_wp2;go_ret2;exact⟨HBF.out.1,HBF.out.2, .inl ⟨HA.out,rfl,HK2.out⟩⟩
end
theorem Nzc {W:World} {B s:Nat} {c0 c1 c2 c3:Value} (hB:B≤s) (h:Blk W s 49 #[c0,c1,c2,c3]) (v0 v1 v2 v3:Value):
  Blk ((((W.setCell ⟨s,0,none⟩ v0).setCell ⟨s,1,none⟩ v1).setCell ⟨s,2,none⟩ v2).setCell ⟨s,3,none⟩ v3) s 49 #[v0,v1,v2,v3]∧Below B W ((((W.setCell ⟨s,0,none⟩ v0).setCell ⟨s,1,none⟩ v1).setCell ⟨s,2,none⟩ v2).setCell ⟨s,3,none⟩ v3):=by
 have h0:Blk (W.setCell ⟨s,0,none⟩ v0) s 49 #[v0,c1,c2,c3]:=h.set_ 0 v0;have h1:Blk ((W.setCell ⟨s,0,none⟩ v0).setCell ⟨s,1,none⟩ v1) s 49 #[v0,v1,c2,c3]:=h0.set_ 1 v1;have h2:Blk (((W.setCell ⟨s,0,none⟩ v0).setCell ⟨s,1,none⟩ v1).setCell ⟨s,2,none⟩ v2) s 49 #[v0,v1,v2,c3]:=h1.set_ 2 v2;refine⟨h2.set_ 3 v3,?_⟩;exact(((Czt (w:=W) hB 0 v0).setCell (p:=⟨s,1,none⟩) hB v1).setCell (p:=⟨s,2,none⟩) hB v2).setCell (p:=⟨s,3,none⟩) hB v3
structure ReadJ (w0:World) (bw g b2 c2 nn be i nd:Nat) (y:Nod) (t0t t1t t2t t3t t4t t5t t6t t7t t8t t9t t10t t11t t12t:Bool) (W:World) (y9 y68 y69 y70 y71 y72 y73 y74 y75 y76 y77 y78:Value):Prop where
 f0:t0t=true→y68= .pointer (some ⟨bw,0,none⟩)
 f1:t1t=true→y69= .pointer (some ⟨g,0,none⟩)
 f2:t2t=true→y70= .pointer (some ⟨g,0,none⟩)
 f3:t3t=true→y71= .pointer (some ⟨g,2,none⟩)
 f4:t4t=true→y72= .slice (some ⟨b2,0,none⟩) nn c2
 f5:t5t=true→y73= .pointer (some ⟨be,i*3,none⟩)
 f6:t6t=true→y74= .pointer (some ⟨be,i*3,none⟩)
 f7:t7t=true→y75= .pointer (some ⟨be,i*3+1,none⟩)
 f8:t8t=true→y76= .int .i64 (nd:Int)
 f9:t9t=true→y77= .pointer (some ⟨b2,nd*4,none⟩)
 f10:t10t=true→y78= .agg #[.string y.name, .int .i64 y.kind, .string y.data, .int .i64 y.unit]
 f11:t11t=true→∃ s:Nat,y9= .pointer (some ⟨s,0,none⟩)∧w0.heap.size≤s∧(t12t=false→Blk W s 49 #[.string ⟨#[]⟩, .int .i64 0, .string ⟨#[]⟩, .int .i64 0])
 f12:t12t=true→∃ s:Nat,y9= .pointer (some ⟨s,0,none⟩)∧w0.heap.size≤s∧Blk W s 49 #[.string y.name, .int .i64 y.kind, .string y.data, .int .i64 y.unit]
 q12_11:t12t=true→t11t=true
 w:Below w0.heap.size w0 W
noncomputable def Pzp:Code:=((Tryz.f55.body.bind (Czf 12)).getD .skip)
theorem Rzu (w0:World) (bw g b2 c2 nn be i nd:Nat) (y:Nod) {v0 v2 v4 v5 v6 v7 v8 v9 v10 v11 v12 v13 v14 v15 v16 v17 v18 v19 v20 v21 v22 v23 v24 v25 v26 v27 v28 v29 v30 v31 v32 v33 v34 v35 v36 v37 v38 v39 v40 v41 v42 v43 v44 v45 v46 v47 v48 v49 v50 v51 v52 v53 v54 v55 v56 v57 v58 v59 v60 v61 v62 v63 v64 v65 v66 v67 v68 v69 v70 v71 v72 v73 v74 v75 v76 v77 v78 v79 v80 v81 v82 v83 v84 v85 v86 v87 v88 v89 v90 v91 v92 v93 v94 v95 v96 v97 v98 v99 v100 v101 v102 v103 v104 v105 v106 v107 v108 v109 v110 v111 v112 v113 v114 v115 v116 v117 v118 v119 v120 v121 v122 v123 v124 v125 v126 v127 v128 v129:Value} (wr:World) (Q:Exit→Act→World→Prop) (hbs:Below w0.heap.size w0 wr.drew) (hlw:bw<w0.heap.size) (hw0:w0.cell? ⟨bw,0,none⟩=some (.pointer (some ⟨g,0,none⟩))) (hlg:g<w0.heap.size) (hg2:w0.cell? ⟨g,2,none⟩=some (.slice (some ⟨b2,0,none⟩) nn c2)) (hle:be<w0.heap.size) (he1:w0.cell? ⟨be,i*3+1,none⟩=some (.int .i64 (nd:Int))) (hlb:b2<w0.heap.size) (hn0:w0.cell? ⟨b2,nd*4,none⟩=some (.string y.name)) (hn1:w0.cell? ⟨b2,nd*4+1,none⟩=some (.int .i64 y.kind)) (hn2:w0.cell? ⟨b2,nd*4+2,none⟩=some (.string y.data)) (hn3:w0.cell? ⟨b2,nd*4+3,none⟩=some (.int .i64 y.unit)) (hnd:nd<nn)
  (hQ:∀ (listed:Array Bool) (W:World) (y9 y68 y69 y70 y71 y72 y73 y74 y75 y76 y77 y78:Value),(∀ i,i<13→listed.getD i true=true)→ReadJ w0 bw g b2 c2 nn be i nd y (listed.getD 0 true) (listed.getD 1 true) (listed.getD 2 true) (listed.getD 3 true) (listed.getD 4 true) (listed.getD 5 true) (listed.getD 6 true) (listed.getD 7 true) (listed.getD 8 true) (listed.getD 9 true) (listed.getD 10 true) (listed.getD 11 true) (listed.getD 12 true) W y9 y68 y69 y70 y71 y72 y73 y74 y75 y76 y77 y78→Q .normal ⟨#[v0, .pointer (some ⟨be,i*3,none⟩),v2, .pointer (some ⟨bw,0,none⟩),v4,v5,v6,v7,v8,y9,v10,v11,v12,v13,v14,v15,v16,v17,v18,v19,v20,v21,v22,v23,v24,v25,v26,v27,v28,v29,v30,v31,v32,v33,v34,v35,v36,v37,v38,v39,v40,v41,v42,v43,v44,v45,v46,v47,v48,v49,v50,v51,v52,v53,v54,v55,v56,v57,v58,v59,v60,v61,v62,v63,v64,v65,v66,v67,y68,y69,y70,y71,y72,y73,y74,y75,y76,y77,y78,v79,v80,v81,v82,v83,v84,v85,v86,v87,v88,v89,v90,v91,v92,v93,v94,v95,v96,v97,v98,v99,v100,v101,v102,v103,v104,v105,v106,v107,v108,v109,v110,v111,v112,v113,v114,v115,v116,v117,v118,v119,v120,v121,v122,v123,v124,v125,v126,v127,v128,v129],[]⟩ W):
  Code.wp Tryz.prog Pzp Q ⟨#[v0, .pointer (some ⟨be,i*3,none⟩),v2, .pointer (some ⟨bw,0,none⟩),v4,v5,v6,v7,v8,v9,v10,v11,v12,v13,v14,v15,v16,v17,v18,v19,v20,v21,v22,v23,v24,v25,v26,v27,v28,v29,v30,v31,v32,v33,v34,v35,v36,v37,v38,v39,v40,v41,v42,v43,v44,v45,v46,v47,v48,v49,v50,v51,v52,v53,v54,v55,v56,v57,v58,v59,v60,v61,v62,v63,v64,v65,v66,v67,v68,v69,v70,v71,v72,v73,v74,v75,v76,v77,v78,v79,v80,v81,v82,v83,v84,v85,v86,v87,v88,v89,v90,v91,v92,v93,v94,v95,v96,v97,v98,v99,v100,v101,v102,v103,v104,v105,v106,v107,v108,v109,v110,v111,v112,v113,v114,v115,v116,v117,v118,v119,v120,v121,v122,v123,v124,v125,v126,v127,v128,v129],[]⟩ wr:=by
 have HQ:=Lib.hid hQ;clear hQ;conv=>arg 2;whnf
 refine Azw (fun listed a W=>∃ y9 y68 y69 y70 y71 y72 y73 y74 y75 y76 y77 y78,ReadJ w0 bw g b2 c2 nn be i nd y (listed.getD 0 true) (listed.getD 1 true) (listed.getD 2 true) (listed.getD 3 true) (listed.getD 4 true) (listed.getD 5 true) (listed.getD 6 true) (listed.getD 7 true) (listed.getD 8 true) (listed.getD 9 true) (listed.getD 10 true) (listed.getD 11 true) (listed.getD 12 true) W y9 y68 y69 y70 y71 y72 y73 y74 y75 y76 y77 y78∧a=⟨#[v0, .pointer (some ⟨be,i*3,none⟩),v2, .pointer (some ⟨bw,0,none⟩),v4,v5,v6,v7,v8,y9,v10,v11,v12,v13,v14,v15,v16,v17,v18,v19,v20,v21,v22,v23,v24,v25,v26,v27,v28,v29,v30,v31,v32,v33,v34,v35,v36,v37,v38,v39,v40,v41,v42,v43,v44,v45,v46,v47,v48,v49,v50,v51,v52,v53,v54,v55,v56,v57,v58,v59,v60,v61,v62,v63,v64,v65,v66,v67,y68,y69,y70,y71,y72,y73,y74,y75,y76,y77,y78,v79,v80,v81,v82,v83,v84,v85,v86,v87,v88,v89,v90,v91,v92,v93,v94,v95,v96,v97,v98,v99,v100,v101,v102,v103,v104,v105,v106,v107,v108,v109,v110,v111,v112,v113,v114,v115,v116,v117,v118,v119,v120,v121,v122,v123,v124,v125,v126,v127,v128,v129],[]⟩) (by kernel_rfl) (Fzs (by kernel_rfl)) ?start ?step ?fin
 case start=>
  refine⟨_,_,_,_,_,_,_,_,_,_,_,_,?_,rfl⟩;constructor
  all_goals first|exact hbs|exact fun _=>rfl|exact fun h=>absurd h (by decide)
 case step=>
  intro i o ho listed a W hl haf hI K hK;obtain⟨y9,y68,y69,y70,y71,y72,y73,y74,y75,y76,y77,y78,hJ,rfl⟩:=hI;have hK:=fun (W':World) z9 z68 z69 z70 z71 z72 z73 z74 z75 z76 z77 z78 h=>hK _ W' ⟨z9,z68,z69,z70,z71,z72,z73,z74,z75,z76,z77,z78,h,rfl⟩
  simp only[Az2] at hK;have hi:i<13:=(Array.getElem?_eq_some_iff.1 ho).1;have h16:i=0∨i=1∨i=2∨i=3∨i=4∨i=5∨i=6∨i=7∨i=8∨i=9∨i=10∨i=11∨i=12:=by omega
  rcases h16 with rfl|rfl|rfl|rfl|rfl|rfl|rfl|rfl|rfl|rfl|rfl|rfl|rfl
  all_goals
   have ho:=Option.some.inj ho;subst ho
   try simp[Region.binds] at haf
  ·
    go_simp;apply hK;exact { hJ with f0:=fun _=>rfl }
  ·
    obtain rfl:=hJ.f0 (Az0 (by simp[haf]));have e1:=(hJ.w.cell (p:=⟨bw,0,none⟩) hlw).trans hw0;go_simp;apply hK;exact { hJ with f1:=fun _=>rfl }
  ·
    obtain rfl:=hJ.f1 (Az0 (by simp[haf]));go_simp;apply hK;exact { hJ with f2:=fun _=>rfl }
  ·
    obtain rfl:=hJ.f2 (Az0 (by simp[haf]));go_simp;apply hK;exact { hJ with f3:=fun _=>rfl }
  ·
    obtain rfl:=hJ.f3 (Az0 (by simp[haf]));have e1:=(hJ.w.cell (p:=⟨g,2,none⟩) hlg).trans hg2;go_simp;apply hK;exact { hJ with f4:=fun _=>rfl }
  ·
    go_simp;apply hK;exact { hJ with f5:=fun _=>rfl }
  ·
    obtain rfl:=hJ.f5 (Az0 (by simp[haf]));go_simp;apply hK;exact { hJ with f6:=fun _=>rfl }
  ·
    obtain rfl:=hJ.f6 (Az0 (by simp[haf]));go_simp;apply hK;exact { hJ with f7:=fun _=>rfl }
  ·
    obtain rfl:=hJ.f7 (Az0 (by simp[haf]));have e1:=(hJ.w.cell (p:=⟨be,i*3+1,none⟩) hle).trans he1;go_simp;apply hK;exact { hJ with f8:=fun _=>rfl }
  ·
    obtain rfl:=hJ.f4 (Az0 (by simp[haf]));obtain rfl:=hJ.f8 (Az0 (by simp[haf]));have hu1:(nd:Int)<(nn:Int):=by omega
    go_simp;apply hK;exact { hJ with f9:=fun _=>rfl }
  ·
    obtain rfl:=hJ.f9 (Az0 (by simp[haf]));have e0:=(hJ.w.cell (p:=⟨b2,nd*4,none⟩) hlb).trans hn0;have e1:=(hJ.w.cell (p:=⟨b2,nd*4+1,none⟩) hlb).trans hn1;have e2:=(hJ.w.cell (p:=⟨b2,nd*4+2,none⟩) hlb).trans hn2;have e3:=(hJ.w.cell (p:=⟨b2,nd*4+3,none⟩) hlb).trans hn3;go_simp;apply hK;exact { hJ with f10:=fun _=>rfl }
  ·
    go_simp;apply hK;exact { hJ with f11:=fun _=>⟨W.heap.size,rfl,hJ.w.size,fun _=>Blk.new _ _ _⟩,f12:=fun x=>by have e:=hJ.q12_11 x;rw[hl] at e;exact absurd e (by decide),q12_11:=fun _=>rfl,w:=hJ.w.alloc hJ.w.size _ }
  ·
    have p11:listed.getD 11 true=true:=Az0 (by simp[haf]);obtain⟨s11,rfl,hE11⟩:=hJ.f11 p11;obtain rfl:=hJ.f10 (Az0 (by simp[haf]));obtain⟨hge,hbl⟩:=hE11;have hbl:=hbl hl;obtain⟨m0,m1,m2,m3,fz0,fz1,fz2,fz3,hlt⟩:=hbl.a4;simp at m0 m1 m2 m3;have HL:=Lib.hid (Nzc (B:=w0.heap.size) hge hbl (.string y.name) (.int .i64 y.kind) (.string y.data) (.int .i64 y.unit));go_simp;have L:=HL.out;apply hK;exact { hJ with f11:=fun x=>by obtain⟨s,e1,e2⟩:=hJ.f11 x;exact⟨s,e1,⟨e2.1,tfR⟩⟩,f12:=fun _=>⟨s11,rfl,hge,L.1⟩,q12_11:=fun _=>p11,w:=hJ.w.trans L.2 }
 case fin=>
  intro listed a W hall hI;obtain⟨y9,y68,y69,y70,y71,y72,y73,y74,y75,y76,y77,y78,hJ,rfl⟩:=hI;exact HQ.out listed W _ _ _ _ _ _ _ _ _ _ _ _ hall hJ
def ba (l:List UInt8):ByteArray:=⟨l.toArray⟩
theorem Szf (a b:List UInt8):ba a++ba b=ba (a++b):=by
 apply ByteArray.ext;simp[ba]
theorem Izk (W:World) (xs:List Int) (C:Array Value) (hC:C=(xs.map (Value.int .u8)).toArray) (n:Nat) (hn:xs.length=n) (cap:Nat):
  (convert 112 9 (.slice (some ⟨W.heap.size,0,none⟩) n cap)).run Tryz.prog (W.alloc (.cells C 5))= .ok (.string (strOfNums xs)) (W.alloc (.cells C 5)):=by
 refine run_convert_bytes_arg _ 112 5 Tryz.underlying112 Tryz.underlying5 W.heap.size 0 n cap xs hn (fun i hi=>?_) 9 Tryz.underlying9;subst hC;simp[List.getD,List.getElem?_eq_getElem (show i<xs.length by omega)]
theorem Tz8 (W:World) (x y:Int) (cap:Nat):(convert 112 9 (.slice (some ⟨W.heap.size,0,none⟩) 2 cap)).run Tryz.prog (W.alloc (.cells #[.int .u8 x, .int .u8 y] 5))= .ok (.string (strOfNums [x,y])) (W.alloc (.cells #[.int .u8 x, .int .u8 y] 5)):=Izk W [x,y] _ rfl 2 rfl cap
theorem Tz9 (W:World) (x y z u:Int) (cap:Nat):(convert 112 9 (.slice (some ⟨W.heap.size,0,none⟩) 4 cap)).run Tryz.prog (W.alloc (.cells #[.int .u8 x, .int .u8 y, .int .u8 z, .int .u8 u] 5))= .ok (.string (strOfNums [x,y,z,u])) (W.alloc (.cells #[.int .u8 x, .int .u8 y, .int .u8 z, .int .u8 u] 5)):=Izk W [x,y,z,u] _ rfl 4 rfl cap
theorem Hzv (xs:List Int):strOfNums xs=ba (xs.map fun n=>u8 n.toNat):=by
 simp[strOfNums,ba,u8]
theorem Tz1 (n:Nat):u8 (n % 256)=u8 n:=by
 apply UInt8.toNat_inj.1;rw[Lze,Lze];omega
theorem Hzw (n:Nat):strOfNums [(n:Int) / 256,(n:Int) % 256]=ba (two n):=by
 rw[Hzv];simp only[List.map_cons,List.map_nil];rw[show ((n:Int) / 256).toNat=n / 256 by omega,show ((n:Int) % 256).toNat=n % 256 by omega,Tz1];rfl
theorem Kzg {l:List UInt8} {k:Nat} (h:k<l.length) (a b:Nat):adl (l.drop k) a b=adl (l.drop (k+1)) ((a+l[k].toNat) % 65521) ((b+(a+l[k].toNat) % 65521) % 65521):=by
 rw[List.drop_eq_getElem_cons h];rfl
theorem Mzu {l:List UInt8} {k:Nat} (h:l.length≤k) (a b:Nat):adl (l.drop k) a b=(a,b):=by
 rw[List.drop_of_length_le h];rfl
theorem two_any (n:Nat) (w:World) (hn:n≤65535):
  Calls Tryz.prog 94 #[.int .i64 (n:Int)] w fun e w'=>e= .returned (.string (ba (two n)))∧Below w.heap.size w w':=by
 have k2:=Tz8;go_enter Tryz.func94,Tryz.ntmps94;go_wp2;go_ret;exact⟨by rw[←Hzw];rfl,(Below.refl _ _).alloc (Nat.le_refl _) _⟩
theorem Pzs (s:ByteArray) (w:World) (hs:s.size≤maxLen):
  Calls Tryz.prog 80 #[.string s] w fun e w'=>e= .returned (.string (ba (Dzn s.data.toList)))∧Below w.heap.size w w':=by
 unfold maxLen at hs;have hsz:s.data.toList.length=s.size:=by simp
 go_enter Tryz.func80,Tryz.ntmps80;go_wp2;go_loop [3,4,8] (fun x y i=>Cnt s.size i fun k=>∃ a b:Nat,x= .int .i64 (a:Int)∧y= .int .i64 (b:Int)∧a<65521∧b<65521∧Hid (adl s.data.toList 1 0=adl (s.data.toList.drop k) a b)) (fun _ _ i=>s.size - (intOf i).toNat)
 case atStart=>exact⟨0,Nat.zero_le _,rfl,1,0,rfl,rfl,by decide,by decide,rfl⟩
 case round=>
  obtain⟨k,hk,rfl,a,b,rfl,rfl,ha,hb,HV⟩:=hrel;by_cases hlt:k<s.size
  ·have HD:Hid (adl (s.data.toList.drop k) a b=adl (s.data.toList.drop (k+1)) ((a+s[k].toNat) % 65521) ((b+(a+s[k].toNat) % 65521) % 65521)):=by
    show _=_;have h':k<s.data.toList.length:=by omega
    exact Kzg h' a b
   have hx:(s[k].toNat:Int)≤255:=by have:=s[k].toNat_lt;omega
   clear hsz;go_wp2;refine⟨⟨k+1,by omega,by go_num,(a+s[k].toNat) % 65521,(b+(a+s[k].toNat) % 65521) % 65521,by simp,by simp,Nat.mod_lt _ (by omega),Nat.mod_lt _ (by omega),?_⟩,by simp[intOf];omega⟩;show _=_;rw[HV.out,HD.out]
  ·have HF:Hid (adl s.data.toList 1 0=(a,b)):=by
    show _=_;rw[HV.out,Mzu (by omega)]
   clear hsz;go_wp2_with (first|(go_at_call 94;(with_reducible refine(two_any a _ (by omega)).mono ?_);rintro e w1 ⟨rfl,hb1⟩)|(go_at_call 94;(with_reducible refine(two_any b _ (by omega)).mono ?_);rintro e w2 ⟨rfl,hb2⟩));go_ret;refine⟨?_,hb2.trans (hb1.mono hb2.size)⟩;show Ending.returned (.string (ba (two b)++ba (two a)))=_;rw[Szf,Dzn,HF.out]
theorem Lzr (s:ByteArray) (w:World) (hs:s.size≤maxLen):
  Calls Tryz.prog 63 #[.string s] w fun e w'=>e= .returned (.string (ba (Dzn s.data.toList)))∧Below w.heap.size w w':=by
 have k4:=Tz9;unfold maxLen at hs;have hsz:s.data.toList.length=s.size:=by simp
 go_enter Tryz.func63,Tryz.ntmps63;go_wp2;go_loop [3,4,5] (fun x y i=>Cnt s.size i fun k=>∃ a b:Nat,x= .int .i64 (a:Int)∧y= .int .i64 (b:Int)∧a<65521∧b<65521∧Hid (adl s.data.toList 1 0=adl (s.data.toList.drop k) a b)) (fun _ _ i=>s.size - (intOf i).toNat)
 case atStart=>exact⟨0,Nat.zero_le _,rfl,1,0,rfl,rfl,by decide,by decide,rfl⟩
 case round=>
  obtain⟨k,hk,rfl,a,b,rfl,rfl,ha,hb,HV⟩:=hrel;by_cases hlt:k<s.size
  ·have HD:Hid (adl (s.data.toList.drop k) a b=adl (s.data.toList.drop (k+1)) ((a+s[k].toNat) % 65521) ((b+(a+s[k].toNat) % 65521) % 65521)):=by
    show _=_;have h':k<s.data.toList.length:=by omega
    exact Kzg h' a b
   have hx:(s[k].toNat:Int)≤255:=by have:=s[k].toNat_lt;omega
   clear hsz;go_wp2;refine⟨⟨k+1,by omega,by go_num,(a+s[k].toNat) % 65521,(b+(a+s[k].toNat) % 65521) % 65521,by simp,by simp,Nat.mod_lt _ (by omega),Nat.mod_lt _ (by omega),?_⟩,by simp[intOf];omega⟩;show _=_;rw[HV.out,HD.out]
  ·have HF:Hid (adl s.data.toList 1 0=(a,b)):=by
    show _=_;rw[HV.out,Mzu (by omega)]
   clear hsz;go_wp2;go_ret;refine⟨?_,(Below.refl _ _).alloc (Nat.le_refl _) _⟩;show Ending.returned (.string (strOfNums [(b:Int) / 256,(b:Int) % 256,(a:Int) / 256,(a:Int) % 256]))=_;have e:=Hzw b;have e':=Hzw a;rw[Hzv] at e e' ⊢;unfold Dzn;rw[HF.out];have h2:∀ {x y:List UInt8},ba x=ba y→x=y:=fun h=>by simpa [ba] using h
   rw[←h2 e, ←h2 e'];rfl
end Go.Proofs.YtdjamdbamkhblacGreatDoor
