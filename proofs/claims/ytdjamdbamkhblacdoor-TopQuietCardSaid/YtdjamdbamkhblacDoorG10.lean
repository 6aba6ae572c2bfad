/- The walk of module.Encode: what it returns, for every module. Files, open ends, processes, kernels and acts as plain data, and as what memory reads: no condition. -/
import Derived.Test.YtdjamdbamkhblacDoorG09
namespace Go.Proofs.YtdjamdbamkhblacDoor
open Go.RowKit
set_option linter.unusedVariables false
set_option linter.unusedSimpArgs false
theorem Hzc {m:Mod} (h:Az7 m=0):Azu m.name=true∧m.data.length≤64∧m.data.any oddW=false∧verify m.code=0:=by
 unfold Az7 at h;cases hn:Azu m.name with
 | false=>rw[hn] at h;cases h
 | true=>
   rw[hn,if_pos rfl] at h;by_cases h1:64<m.data.length
   ·rw[if_pos h1] at h;cases h
   ·rw[if_neg h1] at h
    cases ho:m.data.any oddW with
    | true=>rw[ho,if_pos rfl] at h;cases h
    | false=>rw[ho] at h;exact⟨rfl,by omega,rfl,by simpa using h⟩
theorem Fzi {l:List Ins} (h:verify l=0):check l=0:=by
 unfold verify at h;by_cases hc:check l=0
 ·exact hc
 ·rw[if_neg hc] at h;exact absurd h hc
def encR (m:Mod):ByteArray × Int:=if Az7 m=0 then (ba (encB m),0) else (⟨#[]⟩,Az7 m)
theorem Mzl {W:World} {s:Nat} {x y:Int} (h:Blk W s 5 #[.int .u8 x, .int .u8 y]) (cap:Nat):(convert 84 9 (.slice (some ⟨s,0,none⟩) 2 cap)).run Tryd.prog W= .ok (.string (ba [u8 x.toNat,u8 y.toNat])) W:=by
 have e:=run_convert_bytes_arg W 84 5 Tryd.underlying84 Tryd.underlying5 s 0 2 cap [x,y] rfl (fun i hi=>by
  rw[Nat.zero_add,h.cell];have:i=0∨i=1:=by omega
  rcases this with rfl|rfl<;>rfl) 9 Tryd.underlying9
 rw[e,Gz5];rfl
theorem wrap_u8 {n:Int} (h1:0≤n) (h2:n≤255):IntKind.u8.wrap n=n:=by
 simp[IntKind.wrap,IntKind.bits,IntKind.signed];omega
theorem Tz2 (qa qb:Nat) (h:qa≤7) (h':qb≤7):bits BinOp.or IntKind.i64 (16*(qa:Int)) (qb:Int)=16*(qa:Int)+(qb:Int):=by
 have:∀ a:Fin 8,∀ b:Fin 8,bits BinOp.or IntKind.i64 (16*((a.val:Nat):Int)) ((b.val:Nat):Int)=16*((a.val:Nat):Int)+((b.val:Nat):Int):=by decide
 exact this ⟨qa,by omega⟩ ⟨qb,by omega⟩
def insQ (qo qa qb qc:Nat):List UInt8:=[u8 qo,u8 (16*qa+qb)]++two qc
structure EJ (w1:World) (P:List UInt8) (g qo qa qb qc:Nat) (listed:Array Bool) (W:World) (y5 y38 y39 y40 y41 y42 y43 y44 y45 y46 y47 y48 y49 y50 y51 y52 y53 y54 y55:Value):Prop where
 f0:listed.getD 0 true=true→y38= .string (ba P)
 f1:listed.getD 1 true=true→y39= .pointer (some ⟨g,0,none⟩)
 f2:listed.getD 2 true=true→y40= .int .i64 (qo:Int)
 f3:listed.getD 3 true=true→y41= .int .u8 (qo:Int)
 f4:listed.getD 4 true=true→y42= .pointer (some ⟨g,1,none⟩)
 f5:listed.getD 5 true=true→y43= .int .i64 (qa:Int)
 f6:listed.getD 6 true=true→y44= .int .i64 (16*(qa:Int))
 f7:listed.getD 7 true=true→y45= .pointer (some ⟨g,2,none⟩)
 f8:listed.getD 8 true=true→y46= .int .i64 (qb:Int)
 f9:listed.getD 9 true=true→y47= .int .i64 (16*(qa:Int)+(qb:Int))
 f10:listed.getD 10 true=true→y48= .int .u8 (16*(qa:Int)+(qb:Int))
 f11:listed.getD 11 true=true→∃ s:Nat,y49= .slice (some ⟨s,0,none⟩) 2 2∧Blk W s 5 #[.int .u8 (qo:Int), .int .u8 (16*(qa:Int)+(qb:Int))]
 f12:listed.getD 12 true=true→y50= .string (ba [u8 qo,u8 (16*qa+qb)])
 f13:listed.getD 13 true=true→y51= .pointer (some ⟨g,3,none⟩)
 f14:listed.getD 14 true=true→y52= .int .i64 (qc:Int)
 f15:listed.getD 15 true=true→y53= .string (ba (two qc))
 f16:listed.getD 16 true=true→y54= .string (ba (insQ qo qa qb qc))
 f17:listed.getD 17 true=true→y55= .string (ba (P++insQ qo qa qb qc))
 f18:listed.getD 18 true=true→y5= .string (ba (P++insQ qo qa qb qc))
 b:listed.getD 18 true=false→y5= .string (ba P)
 o18:listed.getD 18 true=true→listed.getD 17 true=true
 o17:listed.getD 17 true=true→listed.getD 0 true=true
 w:Below w1.heap.size w1 W∧Blk W g 65 #[.int .i64 (qo:Int), .int .i64 (qa:Int), .int .i64 (qb:Int), .int .i64 (qc:Int)]
set_option maxRecDepth 100000 in
set_option maxHeartbeats 40000000 in
theorem Kzm (m:Mod) (A A':Option Addr) (c c':Nat) (w:World) (hn:m.name.size≤maxLen) (hr:RdI w w.heap.size A m.code) (hr':RdN w w.heap.size A' m.data) (ht:Tab w) (hl:m.code.length≤maxLen) (hl':m.data.length≤maxLen):
  Calls Tryd.prog 72 #[.agg #[.string m.name, .slice A m.code.length c, .slice A' m.data.length c']] w fun e w'=>e= .returned (.tuple #[.string (encR m).1, .int .i64 (encR m).2])∧Below w.heap.size w w':=by
 have HL:=Lib.hid hl;have HL':=Lib.hid hl';have ha:∀ o,Below w.heap.size w (w.alloc o):=fun o=>(Below.refl _ _).alloc (Nat.le_refl _) o
 have CK:=Lib.hid (fun W hW=>Dz6 m A A' c c' W hn ((hr.below hW).more (Below.size hW)) ((hr'.below hW).more (Below.size hW)) (ht.below hW) hl hl');by_cases h0:Az7 m=0
 ·have HC:=Lib.hid h0
  obtain⟨hnm,h64,hod,hv⟩:=Hzc h0;have h200:=((Azo m.code).1 (Fzi hv)).1;have hk:=Bz4 (Fzi hv);have k1:=Sz3;have h6:m.name.size≤6:=by
   unfold Azu at hnm;simp at hnm;omega
  have z1:∀ x:UInt8,(ba [x]).size=1:=fun _=>rfl
  unfold maxLen at hn;clear h0 hv;go_enter Tryd.func72,Tryd.ntmps72;go_wp2_with fail;refine(CK.out _ (ha _)).mono ?_;rw[HC.out];rintro e w1 ⟨rfl,hb1⟩;obtain⟨hc1,hf1⟩:=Hzy hb1;have hz:=hb1.size;simp at hz;have hz1:w.heap.size<w1.heap.size:=by omega
  have HBX:=Lib.hid ((Blk.new w 90 #[.string m.name, .slice A m.code.length c, .slice A' m.data.length c']).below hb1 (by simp));have hbw1:=Lib.hid ((ha (.cells #[.string m.name, .slice A m.code.length c, .slice A' m.data.length c'] 90)).trans (hb1.mono (Nat.le_of_lt (by simp))));clear hb1;go_wp2;go_loopw [5,34] (fun s i wr=>Cnt m.code.length i fun k=>∃ P:List UInt8,s= .string (ba P)∧(ba P).size≤8+4*k∧Below w1.heap.size w1 wr∧Hid (P=[u8 m.name.size]++m.name.data.toList++ [u8 m.code.length]++(m.code.take k).flatMap insB)) (fun _ i _=>m.code.length - (intOf i).toNat)
  case atStart=>exact⟨0,Nat.zero_le _,rfl,[u8 m.name.size]++m.name.data.toList++ [u8 m.code.length],by rw[←Dz1, ←Dz1];rfl,by show ([u8 m.name.size]++m.name.data.toList++ [u8 m.code.length]).toArray.size≤_;simp;omega,(Below.refl _ _ |>.alloc (Nat.le_refl _) _).alloc (by simp) _,by show _=_;simp⟩
  case round=>
   obtain⟨k,hk',rfl,P,rfl,hP,hbr,HP⟩:=hrel;by_cases hlt:k<m.code.length
   ·obtain⟨b,o,rfl,hbB,hcell⟩:=hr (by omega)
    obtain⟨c0,c1,c2,c3⟩:=hcell k hlt;have hbw:=hbw1.out.trans (hbr.mono hbw1.out.size);rw[←hbw.cell (p:=⟨b,_,none⟩) hbB] at c0 c1 c2 c3;have hbs:=Nat.lt_of_lt_of_le hbB hbw.size;have hik:=hk _ (List.getElem_mem hlt);have HG:Hid ((m.code.take (k+1)).flatMap insB=(m.code.take k).flatMap insB++insB m.code[k]):=by
     show _=_;rw[List.take_succ_eq_append_getElem hlt,List.flatMap_append];simp
    obtain⟨x,hx⟩:∃ x,x=m.code[k]:=⟨_,rfl⟩;rw[←hx] at c0 c1 c2 c3 hik HG;obtain⟨op,a,bb,cc⟩:=x;obtain⟨i1,i2,i3,i4,i5,i6,i7,i8⟩:=hik;simp only at c0 c1 c2 c3 i1 i2 i3 i4 i5 i6 i7 i8;obtain⟨qo,rfl⟩:∃ q:Nat,op=(q:Int):=⟨op.toNat,by omega⟩;obtain⟨qa,rfl⟩:∃ q:Nat,a=(q:Int):=⟨a.toNat,by omega⟩;obtain⟨qb,rfl⟩:∃ q:Nat,bb=(q:Int):=⟨bb.toNat,by omega⟩;obtain⟨qc,rfl⟩:∃ q:Nat,cc=(q:Int):=⟨cc.toNat,by omega⟩;clear hx hcell hr;go_wp2_with fail;refine Azj (fun listed a W=>∃ y5 y38 y39 y40 y41 y42 y43 y44 y45 y46 y47 y48 y49 y50 y51 y52 y53 y54 y55,EJ w1 P wr.heap.size qo qa qb qc listed W y5 y38 y39 y40 y41 y42 y43 y44 y45 y46 y47 y48 y49 y50 y51 y52 y53 y54 y55∧a=⟨#[.agg #[.string m.name, .slice (some ⟨b,o,none⟩) m.code.length c, .slice A' m.data.length c'], .pointer (some ⟨w.heap.size,0,none⟩), .string ⟨#[]⟩, .int .i64 0, .int .i64 0,y5,undef, .pointer (some ⟨wr.heap.size,0,none⟩),undef,undef, .agg #[.string m.name, .slice (some ⟨b,o,none⟩) m.code.length c, .slice A' m.data.length c'], .int .i64 0, .int .i64 0, .bool false,undef, .pointer (some ⟨w.heap.size,0,none⟩), .string m.name, .int .i64 (m.name.size:Int), .int .u8 (m.name.size:Int), .slice (some ⟨w1.heap.size,0,none⟩) 1 1, .string (ba [u8 m.name.size]), .pointer (some ⟨w.heap.size,0,none⟩), .string m.name, .string (ba [u8 m.name.size]++m.name), .pointer (some ⟨w.heap.size,1,none⟩), .slice (some ⟨b,o,none⟩) m.code.length c, .int .i64 (m.code.length:Int), .int .u8 (m.code.length:Int), .slice (some ⟨w1.heap.size+1,0,none⟩) 1 1, .string (ba [u8 m.code.length]), .string (ba [u8 m.name.size]++m.name++ba [u8 m.code.length]), .pointer (some ⟨w.heap.size,1,none⟩), .slice (some ⟨b,o,none⟩) m.code.length c, .int .i64 (m.code.length:Int), .int .i64 (k:Int), .bool true, .pointer (some ⟨b,o+k*4,none⟩), .agg #[.int .i64 (qo:Int), .int .i64 (qa:Int), .int .i64 (qb:Int), .int .i64 (qc:Int)],y38,y39,y40,y41,y42,y43,y44,y45,y46,y47,y48,y49,y50,y51,y52,y53,y54,y55,u56,undef,undef,undef,undef,undef,undef,undef,undef,undef,undef,undef,undef,undef,undef,undef,undef,undef,undef,undef,undef,undef,undef,undef,undef],[]⟩) (by kernel_rfl) (Ez9 (by kernel_rfl)) ?start ?step ?fin
    case start=>exact⟨_,_,_,_,_,_,_,_,_,_,_,_,_,_,_,_,_,_,_,⟨fun h=>absurd h (by decide),fun h=>absurd h (by decide),fun h=>absurd h (by decide),fun h=>absurd h (by decide),fun h=>absurd h (by decide),fun h=>absurd h (by decide),fun h=>absurd h (by decide),fun h=>absurd h (by decide),fun h=>absurd h (by decide),fun h=>absurd h (by decide),fun h=>absurd h (by decide),fun h=>absurd h (by decide),fun h=>absurd h (by decide),fun h=>absurd h (by decide),fun h=>absurd h (by decide),fun h=>absurd h (by decide),fun h=>absurd h (by decide),fun h=>absurd h (by decide),fun h=>absurd h (by decide),fun _=>rfl,fun h=>absurd h (by decide),fun h=>absurd h (by decide),⟨(hbr.alloc hbr.size _).drew,Blk.drew (Blk.new wr _ _)⟩⟩,rfl⟩
    case step=>
     generalize wr.heap.size=g at*;intro i o ho listed a W hl haf hI K hK;obtain⟨y5,y38,y39,y40,y41,y42,y43,y44,y45,y46,y47,y48,y49,y50,y51,y52,y53,y54,y55,hJ,rfl⟩:=hI;have hi:i<19:=(Array.getElem?_eq_some_iff.1 ho).1;have h16:i=0∨i=1∨i=2∨i=3∨i=4∨i=5∨i=6∨i=7∨i=8∨i=9∨i=10∨i=11∨i=12∨i=13∨i=14∨i=15∨i=16∨i=17∨i=18:=by omega
     have hwo:IntKind.u8.wrap (qo:Int)=(qo:Int):=wrap_u8 (by omega) (by omega);have hwa:IntKind.i64.wrap ((qa:Int)*16)=16*(qa:Int):=by rw[Go.IntWalk.i64_in _ (by omega)];omega
     have hor:=Tz2 qa qb (by omega) (by omega);have hwb:IntKind.u8.wrap (16*(qa:Int)+(qb:Int))=16*(qa:Int)+(qb:Int):=wrap_u8 (by omega) (by omega);rcases h16 with rfl|rfl|rfl|rfl|rfl|rfl|rfl|rfl|rfl|rfl|rfl|rfl|rfl|rfl|rfl|rfl|rfl|rfl|rfl
     ·have ho':=Option.some.inj ho
      subst ho';obtain rfl:=hJ.b (by
       rw[←Bool.not_eq_true];intro e;have e:=hJ.o18 e;have e:=hJ.o17 e;rw[hl] at e;cases e)
      have HJ:=Lib.hid hJ;clear hJ haf
      try unfold pt
      go_simp;have hJ:=HJ.out;exact hK _ _ ⟨_,_,_,_,_,_,_,_,_,_,_,_,_,_,_,_,_,_,_,⟨fun _=>rfl,fun x=>hJ.f1 (Az0 (by decide) x),fun x=>hJ.f2 (Az0 (by decide) x),fun x=>hJ.f3 (Az0 (by decide) x),fun x=>hJ.f4 (Az0 (by decide) x),fun x=>hJ.f5 (Az0 (by decide) x),fun x=>hJ.f6 (Az0 (by decide) x),fun x=>hJ.f7 (Az0 (by decide) x),fun x=>hJ.f8 (Az0 (by decide) x),fun x=>hJ.f9 (Az0 (by decide) x),fun x=>hJ.f10 (Az0 (by decide) x),fun x=>hJ.f11 (Az0 (by decide) x),fun x=>hJ.f12 (Az0 (by decide) x),fun x=>hJ.f13 (Az0 (by decide) x),fun x=>hJ.f14 (Az0 (by decide) x),fun x=>hJ.f15 (Az0 (by decide) x),fun x=>hJ.f16 (Az0 (by decide) x),fun x=>hJ.f17 (Az0 (by decide) x),fun x=>hJ.f18 (Az0 (by decide) x),fun x=>hJ.b (by rw[Azn (by decide)] at x;exact x),fun x=>by rw[Azn (by decide)];exact hJ.o18 (Az0 (by decide) x),fun _=>Jzp,hJ.w⟩,rfl⟩
     ·have ho':=Option.some.inj ho
      subst ho';have HJ:=Lib.hid hJ;clear hJ haf
      try unfold pt
      go_simp;have hJ:=HJ.out;exact hK _ _ ⟨_,_,_,_,_,_,_,_,_,_,_,_,_,_,_,_,_,_,_,⟨fun x=>hJ.f0 (Az0 (by decide) x),fun _=>rfl,fun x=>hJ.f2 (Az0 (by decide) x),fun x=>hJ.f3 (Az0 (by decide) x),fun x=>hJ.f4 (Az0 (by decide) x),fun x=>hJ.f5 (Az0 (by decide) x),fun x=>hJ.f6 (Az0 (by decide) x),fun x=>hJ.f7 (Az0 (by decide) x),fun x=>hJ.f8 (Az0 (by decide) x),fun x=>hJ.f9 (Az0 (by decide) x),fun x=>hJ.f10 (Az0 (by decide) x),fun x=>hJ.f11 (Az0 (by decide) x),fun x=>hJ.f12 (Az0 (by decide) x),fun x=>hJ.f13 (Az0 (by decide) x),fun x=>hJ.f14 (Az0 (by decide) x),fun x=>hJ.f15 (Az0 (by decide) x),fun x=>hJ.f16 (Az0 (by decide) x),fun x=>hJ.f17 (Az0 (by decide) x),fun x=>hJ.f18 (Az0 (by decide) x),fun x=>hJ.b (by rw[Azn (by decide)] at x;exact x),fun x=>by rw[Azn (by decide)];exact hJ.o18 (Az0 (by decide) x),fun x=>by rw[Azn (by decide)];exact hJ.o17 (Az0 (by decide) x),hJ.w⟩,rfl⟩
     ·have ho':=Option.some.inj ho
      subst ho';simp[Region.binds] at haf;have p1:listed.getD 1 true=true:=Az3 (by simp[haf]);obtain rfl:=hJ.f1 p1;have cc0:=hJ.w.2.cell 0;simp at cc0;have HJ:=Lib.hid hJ;clear hJ haf
      try unfold pt
      go_simp;have hJ:=HJ.out;exact hK _ _ ⟨_,_,_,_,_,_,_,_,_,_,_,_,_,_,_,_,_,_,_,⟨fun x=>hJ.f0 (Az0 (by decide) x),fun x=>hJ.f1 (Az0 (by decide) x),fun _=>rfl,fun x=>hJ.f3 (Az0 (by decide) x),fun x=>hJ.f4 (Az0 (by decide) x),fun x=>hJ.f5 (Az0 (by decide) x),fun x=>hJ.f6 (Az0 (by decide) x),fun x=>hJ.f7 (Az0 (by decide) x),fun x=>hJ.f8 (Az0 (by decide) x),fun x=>hJ.f9 (Az0 (by decide) x),fun x=>hJ.f10 (Az0 (by decide) x),fun x=>hJ.f11 (Az0 (by decide) x),fun x=>hJ.f12 (Az0 (by decide) x),fun x=>hJ.f13 (Az0 (by decide) x),fun x=>hJ.f14 (Az0 (by decide) x),fun x=>hJ.f15 (Az0 (by decide) x),fun x=>hJ.f16 (Az0 (by decide) x),fun x=>hJ.f17 (Az0 (by decide) x),fun x=>hJ.f18 (Az0 (by decide) x),fun x=>hJ.b (by rw[Azn (by decide)] at x;exact x),fun x=>by rw[Azn (by decide)];exact hJ.o18 (Az0 (by decide) x),fun x=>by rw[Azn (by decide)];exact hJ.o17 (Az0 (by decide) x),hJ.w⟩,rfl⟩
     ·have ho':=Option.some.inj ho
      subst ho';simp[Region.binds] at haf;have p2:listed.getD 2 true=true:=Az3 (by simp[haf]);obtain rfl:=hJ.f2 p2;have HJ:=Lib.hid hJ;clear hJ haf
      try unfold pt
      go_simp;have hJ:=HJ.out;exact hK _ _ ⟨_,_,_,_,_,_,_,_,_,_,_,_,_,_,_,_,_,_,_,⟨fun x=>hJ.f0 (Az0 (by decide) x),fun x=>hJ.f1 (Az0 (by decide) x),fun x=>hJ.f2 (Az0 (by decide) x),fun _=>rfl,fun x=>hJ.f4 (Az0 (by decide) x),fun x=>hJ.f5 (Az0 (by decide) x),fun x=>hJ.f6 (Az0 (by decide) x),fun x=>hJ.f7 (Az0 (by decide) x),fun x=>hJ.f8 (Az0 (by decide) x),fun x=>hJ.f9 (Az0 (by decide) x),fun x=>hJ.f10 (Az0 (by decide) x),fun x=>hJ.f11 (Az0 (by decide) x),fun x=>hJ.f12 (Az0 (by decide) x),fun x=>hJ.f13 (Az0 (by decide) x),fun x=>hJ.f14 (Az0 (by decide) x),fun x=>hJ.f15 (Az0 (by decide) x),fun x=>hJ.f16 (Az0 (by decide) x),fun x=>hJ.f17 (Az0 (by decide) x),fun x=>hJ.f18 (Az0 (by decide) x),fun x=>hJ.b (by rw[Azn (by decide)] at x;exact x),fun x=>by rw[Azn (by decide)];exact hJ.o18 (Az0 (by decide) x),fun x=>by rw[Azn (by decide)];exact hJ.o17 (Az0 (by decide) x),hJ.w⟩,rfl⟩
     ·have ho':=Option.some.inj ho
      subst ho';have HJ:=Lib.hid hJ;clear hJ haf
      try unfold pt
      go_simp;have hJ:=HJ.out;exact hK _ _ ⟨_,_,_,_,_,_,_,_,_,_,_,_,_,_,_,_,_,_,_,⟨fun x=>hJ.f0 (Az0 (by decide) x),fun x=>hJ.f1 (Az0 (by decide) x),fun x=>hJ.f2 (Az0 (by decide) x),fun x=>hJ.f3 (Az0 (by decide) x),fun _=>rfl,fun x=>hJ.f5 (Az0 (by decide) x),fun x=>hJ.f6 (Az0 (by decide) x),fun x=>hJ.f7 (Az0 (by decide) x),fun x=>hJ.f8 (Az0 (by decide) x),fun x=>hJ.f9 (Az0 (by decide) x),fun x=>hJ.f10 (Az0 (by decide) x),fun x=>hJ.f11 (Az0 (by decide) x),fun x=>hJ.f12 (Az0 (by decide) x),fun x=>hJ.f13 (Az0 (by decide) x),fun x=>hJ.f14 (Az0 (by decide) x),fun x=>hJ.f15 (Az0 (by decide) x),fun x=>hJ.f16 (Az0 (by decide) x),fun x=>hJ.f17 (Az0 (by decide) x),fun x=>hJ.f18 (Az0 (by decide) x),fun x=>hJ.b (by rw[Azn (by decide)] at x;exact x),fun x=>by rw[Azn (by decide)];exact hJ.o18 (Az0 (by decide) x),fun x=>by rw[Azn (by decide)];exact hJ.o17 (Az0 (by decide) x),hJ.w⟩,rfl⟩
     ·have ho':=Option.some.inj ho
      subst ho';simp[Region.binds] at haf;have p4:listed.getD 4 true=true:=Az3 (by simp[haf]);obtain rfl:=hJ.f4 p4;have cc1:=hJ.w.2.cell 1;simp at cc1;have HJ:=Lib.hid hJ;clear hJ haf
      try unfold pt
      go_simp;have hJ:=HJ.out;exact hK _ _ ⟨_,_,_,_,_,_,_,_,_,_,_,_,_,_,_,_,_,_,_,⟨fun x=>hJ.f0 (Az0 (by decide) x),fun x=>hJ.f1 (Az0 (by decide) x),fun x=>hJ.f2 (Az0 (by decide) x),fun x=>hJ.f3 (Az0 (by decide) x),fun x=>hJ.f4 (Az0 (by decide) x),fun _=>rfl,fun x=>hJ.f6 (Az0 (by decide) x),fun x=>hJ.f7 (Az0 (by decide) x),fun x=>hJ.f8 (Az0 (by decide) x),fun x=>hJ.f9 (Az0 (by decide) x),fun x=>hJ.f10 (Az0 (by decide) x),fun x=>hJ.f11 (Az0 (by decide) x),fun x=>hJ.f12 (Az0 (by decide) x),fun x=>hJ.f13 (Az0 (by decide) x),fun x=>hJ.f14 (Az0 (by decide) x),fun x=>hJ.f15 (Az0 (by decide) x),fun x=>hJ.f16 (Az0 (by decide) x),fun x=>hJ.f17 (Az0 (by decide) x),fun x=>hJ.f18 (Az0 (by decide) x),fun x=>hJ.b (by rw[Azn (by decide)] at x;exact x),fun x=>by rw[Azn (by decide)];exact hJ.o18 (Az0 (by decide) x),fun x=>by rw[Azn (by decide)];exact hJ.o17 (Az0 (by decide) x),hJ.w⟩,rfl⟩
     ·have ho':=Option.some.inj ho
      subst ho';simp[Region.binds] at haf;have p5:listed.getD 5 true=true:=Az3 (by simp[haf]);obtain rfl:=hJ.f5 p5;have HJ:=Lib.hid hJ;clear hJ haf
      try unfold pt
      go_simp;have hJ:=HJ.out;exact hK _ _ ⟨_,_,_,_,_,_,_,_,_,_,_,_,_,_,_,_,_,_,_,⟨fun x=>hJ.f0 (Az0 (by decide) x),fun x=>hJ.f1 (Az0 (by decide) x),fun x=>hJ.f2 (Az0 (by decide) x),fun x=>hJ.f3 (Az0 (by decide) x),fun x=>hJ.f4 (Az0 (by decide) x),fun x=>hJ.f5 (Az0 (by decide) x),fun _=>rfl,fun x=>hJ.f7 (Az0 (by decide) x),fun x=>hJ.f8 (Az0 (by decide) x),fun x=>hJ.f9 (Az0 (by decide) x),fun x=>hJ.f10 (Az0 (by decide) x),fun x=>hJ.f11 (Az0 (by decide) x),fun x=>hJ.f12 (Az0 (by decide) x),fun x=>hJ.f13 (Az0 (by decide) x),fun x=>hJ.f14 (Az0 (by decide) x),fun x=>hJ.f15 (Az0 (by decide) x),fun x=>hJ.f16 (Az0 (by decide) x),fun x=>hJ.f17 (Az0 (by decide) x),fun x=>hJ.f18 (Az0 (by decide) x),fun x=>hJ.b (by rw[Azn (by decide)] at x;exact x),fun x=>by rw[Azn (by decide)];exact hJ.o18 (Az0 (by decide) x),fun x=>by rw[Azn (by decide)];exact hJ.o17 (Az0 (by decide) x),hJ.w⟩,rfl⟩
     ·have ho':=Option.some.inj ho
      subst ho';have HJ:=Lib.hid hJ;clear hJ haf
      try unfold pt
      go_simp;have hJ:=HJ.out;exact hK _ _ ⟨_,_,_,_,_,_,_,_,_,_,_,_,_,_,_,_,_,_,_,⟨fun x=>hJ.f0 (Az0 (by decide) x),fun x=>hJ.f1 (Az0 (by decide) x),fun x=>hJ.f2 (Az0 (by decide) x),fun x=>hJ.f3 (Az0 (by decide) x),fun x=>hJ.f4 (Az0 (by decide) x),fun x=>hJ.f5 (Az0 (by decide) x),fun x=>hJ.f6 (Az0 (by decide) x),fun _=>rfl,fun x=>hJ.f8 (Az0 (by decide) x),fun x=>hJ.f9 (Az0 (by decide) x),fun x=>hJ.f10 (Az0 (by decide) x),fun x=>hJ.f11 (Az0 (by decide) x),fun x=>hJ.f12 (Az0 (by decide) x),fun x=>hJ.f13 (Az0 (by decide) x),fun x=>hJ.f14 (Az0 (by decide) x),fun x=>hJ.f15 (Az0 (by decide) x),fun x=>hJ.f16 (Az0 (by decide) x),fun x=>hJ.f17 (Az0 (by decide) x),fun x=>hJ.f18 (Az0 (by decide) x),fun x=>hJ.b (by rw[Azn (by decide)] at x;exact x),fun x=>by rw[Azn (by decide)];exact hJ.o18 (Az0 (by decide) x),fun x=>by rw[Azn (by decide)];exact hJ.o17 (Az0 (by decide) x),hJ.w⟩,rfl⟩
     ·have ho':=Option.some.inj ho
      subst ho';simp[Region.binds] at haf;have p7:listed.getD 7 true=true:=Az3 (by simp[haf]);obtain rfl:=hJ.f7 p7;have cc2:=hJ.w.2.cell 2;simp at cc2;have HJ:=Lib.hid hJ;clear hJ haf
      try unfold pt
      go_simp;have hJ:=HJ.out;exact hK _ _ ⟨_,_,_,_,_,_,_,_,_,_,_,_,_,_,_,_,_,_,_,⟨fun x=>hJ.f0 (Az0 (by decide) x),fun x=>hJ.f1 (Az0 (by decide) x),fun x=>hJ.f2 (Az0 (by decide) x),fun x=>hJ.f3 (Az0 (by decide) x),fun x=>hJ.f4 (Az0 (by decide) x),fun x=>hJ.f5 (Az0 (by decide) x),fun x=>hJ.f6 (Az0 (by decide) x),fun x=>hJ.f7 (Az0 (by decide) x),fun _=>rfl,fun x=>hJ.f9 (Az0 (by decide) x),fun x=>hJ.f10 (Az0 (by decide) x),fun x=>hJ.f11 (Az0 (by decide) x),fun x=>hJ.f12 (Az0 (by decide) x),fun x=>hJ.f13 (Az0 (by decide) x),fun x=>hJ.f14 (Az0 (by decide) x),fun x=>hJ.f15 (Az0 (by decide) x),fun x=>hJ.f16 (Az0 (by decide) x),fun x=>hJ.f17 (Az0 (by decide) x),fun x=>hJ.f18 (Az0 (by decide) x),fun x=>hJ.b (by rw[Azn (by decide)] at x;exact x),fun x=>by rw[Azn (by decide)];exact hJ.o18 (Az0 (by decide) x),fun x=>by rw[Azn (by decide)];exact hJ.o17 (Az0 (by decide) x),hJ.w⟩,rfl⟩
     ·have ho':=Option.some.inj ho
      subst ho';simp[Region.binds] at haf;have p6:listed.getD 6 true=true:=Az3 (by simp[haf]);have p8:listed.getD 8 true=true:=Az3 (by simp[haf]);obtain rfl:=hJ.f6 p6;obtain rfl:=hJ.f8 p8;have HJ:=Lib.hid hJ;clear hJ haf
      try unfold pt
      go_simp;have hJ:=HJ.out;exact hK _ _ ⟨_,_,_,_,_,_,_,_,_,_,_,_,_,_,_,_,_,_,_,⟨fun x=>hJ.f0 (Az0 (by decide) x),fun x=>hJ.f1 (Az0 (by decide) x),fun x=>hJ.f2 (Az0 (by decide) x),fun x=>hJ.f3 (Az0 (by decide) x),fun x=>hJ.f4 (Az0 (by decide) x),fun x=>hJ.f5 (Az0 (by decide) x),fun x=>hJ.f6 (Az0 (by decide) x),fun x=>hJ.f7 (Az0 (by decide) x),fun x=>hJ.f8 (Az0 (by decide) x),fun _=>rfl,fun x=>hJ.f10 (Az0 (by decide) x),fun x=>hJ.f11 (Az0 (by decide) x),fun x=>hJ.f12 (Az0 (by decide) x),fun x=>hJ.f13 (Az0 (by decide) x),fun x=>hJ.f14 (Az0 (by decide) x),fun x=>hJ.f15 (Az0 (by decide) x),fun x=>hJ.f16 (Az0 (by decide) x),fun x=>hJ.f17 (Az0 (by decide) x),fun x=>hJ.f18 (Az0 (by decide) x),fun x=>hJ.b (by rw[Azn (by decide)] at x;exact x),fun x=>by rw[Azn (by decide)];exact hJ.o18 (Az0 (by decide) x),fun x=>by rw[Azn (by decide)];exact hJ.o17 (Az0 (by decide) x),hJ.w⟩,rfl⟩
     ·have ho':=Option.some.inj ho
      subst ho';simp[Region.binds] at haf;have p9:listed.getD 9 true=true:=Az3 (by simp[haf]);obtain rfl:=hJ.f9 p9;have HJ:=Lib.hid hJ;clear hJ haf
      try unfold pt
      go_simp;have hJ:=HJ.out;exact hK _ _ ⟨_,_,_,_,_,_,_,_,_,_,_,_,_,_,_,_,_,_,_,⟨fun x=>hJ.f0 (Az0 (by decide) x),fun x=>hJ.f1 (Az0 (by decide) x),fun x=>hJ.f2 (Az0 (by decide) x),fun x=>hJ.f3 (Az0 (by decide) x),fun x=>hJ.f4 (Az0 (by decide) x),fun x=>hJ.f5 (Az0 (by decide) x),fun x=>hJ.f6 (Az0 (by decide) x),fun x=>hJ.f7 (Az0 (by decide) x),fun x=>hJ.f8 (Az0 (by decide) x),fun x=>hJ.f9 (Az0 (by decide) x),fun _=>rfl,fun x=>hJ.f11 (Az0 (by decide) x),fun x=>hJ.f12 (Az0 (by decide) x),fun x=>hJ.f13 (Az0 (by decide) x),fun x=>hJ.f14 (Az0 (by decide) x),fun x=>hJ.f15 (Az0 (by decide) x),fun x=>hJ.f16 (Az0 (by decide) x),fun x=>hJ.f17 (Az0 (by decide) x),fun x=>hJ.f18 (Az0 (by decide) x),fun x=>hJ.b (by rw[Azn (by decide)] at x;exact x),fun x=>by rw[Azn (by decide)];exact hJ.o18 (Az0 (by decide) x),fun x=>by rw[Azn (by decide)];exact hJ.o17 (Az0 (by decide) x),hJ.w⟩,rfl⟩
     ·have ho':=Option.some.inj ho
      subst ho';simp[Region.binds] at haf;have p3:listed.getD 3 true=true:=Az3 (by simp[haf]);have p10:listed.getD 10 true=true:=Az3 (by simp[haf]);obtain rfl:=hJ.f3 p3;obtain rfl:=hJ.f10 p10;have HJ:=Lib.hid hJ;clear hJ haf
      try unfold pt
      go_simp;have hJ:=HJ.out;exact hK _ _ ⟨_,_,_,_,_,_,_,_,_,_,_,_,_,_,_,_,_,_,_,⟨fun x=>hJ.f0 (Az0 (by decide) x),fun x=>hJ.f1 (Az0 (by decide) x),fun x=>hJ.f2 (Az0 (by decide) x),fun x=>hJ.f3 (Az0 (by decide) x),fun x=>hJ.f4 (Az0 (by decide) x),fun x=>hJ.f5 (Az0 (by decide) x),fun x=>hJ.f6 (Az0 (by decide) x),fun x=>hJ.f7 (Az0 (by decide) x),fun x=>hJ.f8 (Az0 (by decide) x),fun x=>hJ.f9 (Az0 (by decide) x),fun x=>hJ.f10 (Az0 (by decide) x),fun _=>⟨_,rfl,Blk.new _ _ _⟩,fun x=>hJ.f12 (Az0 (by decide) x),fun x=>hJ.f13 (Az0 (by decide) x),fun x=>hJ.f14 (Az0 (by decide) x),fun x=>hJ.f15 (Az0 (by decide) x),fun x=>hJ.f16 (Az0 (by decide) x),fun x=>hJ.f17 (Az0 (by decide) x),fun x=>hJ.f18 (Az0 (by decide) x),fun x=>hJ.b (by rw[Azn (by decide)] at x;exact x),fun x=>by rw[Azn (by decide)];exact hJ.o18 (Az0 (by decide) x),fun x=>by rw[Azn (by decide)];exact hJ.o17 (Az0 (by decide) x),⟨hJ.w.1.alloc hJ.w.1.size _,hJ.w.2.alloc _⟩⟩,rfl⟩
     ·have ho':=Option.some.inj ho
      subst ho';simp[Region.binds] at haf;have p11:listed.getD 11 true=true:=Az3 (by simp[haf]);obtain⟨s11,rfl,hE11⟩:=hJ.f11 p11;have kc:=Mzl hE11 2;rw[show (16*(qa:Int)+(qb:Int)).toNat=16*qa+qb by omega,Int.toNat_natCast] at kc;have HJ:=Lib.hid hJ;clear hJ haf
      try unfold pt
      go_simp;have hJ:=HJ.out;exact hK _ _ ⟨_,_,_,_,_,_,_,_,_,_,_,_,_,_,_,_,_,_,_,⟨fun x=>hJ.f0 (Az0 (by decide) x),fun x=>hJ.f1 (Az0 (by decide) x),fun x=>hJ.f2 (Az0 (by decide) x),fun x=>hJ.f3 (Az0 (by decide) x),fun x=>hJ.f4 (Az0 (by decide) x),fun x=>hJ.f5 (Az0 (by decide) x),fun x=>hJ.f6 (Az0 (by decide) x),fun x=>hJ.f7 (Az0 (by decide) x),fun x=>hJ.f8 (Az0 (by decide) x),fun x=>hJ.f9 (Az0 (by decide) x),fun x=>hJ.f10 (Az0 (by decide) x),fun x=>hJ.f11 (Az0 (by decide) x),fun _=>rfl,fun x=>hJ.f13 (Az0 (by decide) x),fun x=>hJ.f14 (Az0 (by decide) x),fun x=>hJ.f15 (Az0 (by decide) x),fun x=>hJ.f16 (Az0 (by decide) x),fun x=>hJ.f17 (Az0 (by decide) x),fun x=>hJ.f18 (Az0 (by decide) x),fun x=>hJ.b (by rw[Azn (by decide)] at x;exact x),fun x=>by rw[Azn (by decide)];exact hJ.o18 (Az0 (by decide) x),fun x=>by rw[Azn (by decide)];exact hJ.o17 (Az0 (by decide) x),hJ.w⟩,rfl⟩
     ·have ho':=Option.some.inj ho
      subst ho';have HJ:=Lib.hid hJ;clear hJ haf
      try unfold pt
      go_simp;have hJ:=HJ.out;exact hK _ _ ⟨_,_,_,_,_,_,_,_,_,_,_,_,_,_,_,_,_,_,_,⟨fun x=>hJ.f0 (Az0 (by decide) x),fun x=>hJ.f1 (Az0 (by decide) x),fun x=>hJ.f2 (Az0 (by decide) x),fun x=>hJ.f3 (Az0 (by decide) x),fun x=>hJ.f4 (Az0 (by decide) x),fun x=>hJ.f5 (Az0 (by decide) x),fun x=>hJ.f6 (Az0 (by decide) x),fun x=>hJ.f7 (Az0 (by decide) x),fun x=>hJ.f8 (Az0 (by decide) x),fun x=>hJ.f9 (Az0 (by decide) x),fun x=>hJ.f10 (Az0 (by decide) x),fun x=>hJ.f11 (Az0 (by decide) x),fun x=>hJ.f12 (Az0 (by decide) x),fun _=>rfl,fun x=>hJ.f14 (Az0 (by decide) x),fun x=>hJ.f15 (Az0 (by decide) x),fun x=>hJ.f16 (Az0 (by decide) x),fun x=>hJ.f17 (Az0 (by decide) x),fun x=>hJ.f18 (Az0 (by decide) x),fun x=>hJ.b (by rw[Azn (by decide)] at x;exact x),fun x=>by rw[Azn (by decide)];exact hJ.o18 (Az0 (by decide) x),fun x=>by rw[Azn (by decide)];exact hJ.o17 (Az0 (by decide) x),hJ.w⟩,rfl⟩
     ·have ho':=Option.some.inj ho
      subst ho';simp[Region.binds] at haf;have p13:listed.getD 13 true=true:=Az3 (by simp[haf]);obtain rfl:=hJ.f13 p13;have cc3:=hJ.w.2.cell 3;simp at cc3;have HJ:=Lib.hid hJ;clear hJ haf
      try unfold pt
      go_simp;have hJ:=HJ.out;exact hK _ _ ⟨_,_,_,_,_,_,_,_,_,_,_,_,_,_,_,_,_,_,_,⟨fun x=>hJ.f0 (Az0 (by decide) x),fun x=>hJ.f1 (Az0 (by decide) x),fun x=>hJ.f2 (Az0 (by decide) x),fun x=>hJ.f3 (Az0 (by decide) x),fun x=>hJ.f4 (Az0 (by decide) x),fun x=>hJ.f5 (Az0 (by decide) x),fun x=>hJ.f6 (Az0 (by decide) x),fun x=>hJ.f7 (Az0 (by decide) x),fun x=>hJ.f8 (Az0 (by decide) x),fun x=>hJ.f9 (Az0 (by decide) x),fun x=>hJ.f10 (Az0 (by decide) x),fun x=>hJ.f11 (Az0 (by decide) x),fun x=>hJ.f12 (Az0 (by decide) x),fun x=>hJ.f13 (Az0 (by decide) x),fun _=>rfl,fun x=>hJ.f15 (Az0 (by decide) x),fun x=>hJ.f16 (Az0 (by decide) x),fun x=>hJ.f17 (Az0 (by decide) x),fun x=>hJ.f18 (Az0 (by decide) x),fun x=>hJ.b (by rw[Azn (by decide)] at x;exact x),fun x=>by rw[Azn (by decide)];exact hJ.o18 (Az0 (by decide) x),fun x=>by rw[Azn (by decide)];exact hJ.o17 (Az0 (by decide) x),hJ.w⟩,rfl⟩
     ·have ho':=Option.some.inj ho
      subst ho';simp[Region.binds] at haf;have p14:listed.getD 14 true=true:=Az3 (by simp[haf]);obtain rfl:=hJ.f14 p14;have HJ:=Lib.hid hJ;clear hJ haf
      try unfold pt
      go_simp;go_at_call 112;refine(two_any qc _ (by omega)).mono ?_;rintro e w2 ⟨rfl,hb2⟩;have hJ:=HJ.out;exact hK _ _ ⟨_,_,_,_,_,_,_,_,_,_,_,_,_,_,_,_,_,_,_,⟨fun x=>hJ.f0 (Az0 (by decide) x),fun x=>hJ.f1 (Az0 (by decide) x),fun x=>hJ.f2 (Az0 (by decide) x),fun x=>hJ.f3 (Az0 (by decide) x),fun x=>hJ.f4 (Az0 (by decide) x),fun x=>hJ.f5 (Az0 (by decide) x),fun x=>hJ.f6 (Az0 (by decide) x),fun x=>hJ.f7 (Az0 (by decide) x),fun x=>hJ.f8 (Az0 (by decide) x),fun x=>hJ.f9 (Az0 (by decide) x),fun x=>hJ.f10 (Az0 (by decide) x),fun x=>by obtain⟨s,e1,e2⟩:=hJ.f11 (Az0 (by decide) x);exact⟨s,e1,e2.below hb2 e2.lt⟩,fun x=>hJ.f12 (Az0 (by decide) x),fun x=>hJ.f13 (Az0 (by decide) x),fun x=>hJ.f14 (Az0 (by decide) x),fun _=>rfl,fun x=>hJ.f16 (Az0 (by decide) x),fun x=>hJ.f17 (Az0 (by decide) x),fun x=>hJ.f18 (Az0 (by decide) x),fun x=>hJ.b (by rw[Azn (by decide)] at x;exact x),fun x=>by rw[Azn (by decide)];exact hJ.o18 (Az0 (by decide) x),fun x=>by rw[Azn (by decide)];exact hJ.o17 (Az0 (by decide) x),⟨hJ.w.1.trans (hb2.mono hJ.w.1.size),hJ.w.2.below hb2 hJ.w.2.lt⟩⟩,rfl⟩
     ·have ho':=Option.some.inj ho
      subst ho';simp[Region.binds] at haf;have p12:listed.getD 12 true=true:=Az3 (by simp[haf]);have p15:listed.getD 15 true=true:=Az3 (by simp[haf]);obtain rfl:=hJ.f12 p12;obtain rfl:=hJ.f15 p15;have zz:=hP;have zh:(ba [u8 qo,u8 (16*qa+qb)]).size=2:=rfl;have zt:(ba (two qc)).size=2:=rfl;have HJ:=Lib.hid hJ;clear hJ haf
      try unfold pt
      go_simp;have hJ:=HJ.out;exact hK _ _ ⟨_,_,_,_,_,_,_,_,_,_,_,_,_,_,_,_,_,_,_,⟨fun x=>hJ.f0 (Az0 (by decide) x),fun x=>hJ.f1 (Az0 (by decide) x),fun x=>hJ.f2 (Az0 (by decide) x),fun x=>hJ.f3 (Az0 (by decide) x),fun x=>hJ.f4 (Az0 (by decide) x),fun x=>hJ.f5 (Az0 (by decide) x),fun x=>hJ.f6 (Az0 (by decide) x),fun x=>hJ.f7 (Az0 (by decide) x),fun x=>hJ.f8 (Az0 (by decide) x),fun x=>hJ.f9 (Az0 (by decide) x),fun x=>hJ.f10 (Az0 (by decide) x),fun x=>hJ.f11 (Az0 (by decide) x),fun x=>hJ.f12 (Az0 (by decide) x),fun x=>hJ.f13 (Az0 (by decide) x),fun x=>hJ.f14 (Az0 (by decide) x),fun x=>hJ.f15 (Az0 (by decide) x),fun _=>congrArg Value.string (Dz1 [u8 qo,u8 (16*qa+qb)] (two qc)),fun x=>hJ.f17 (Az0 (by decide) x),fun x=>hJ.f18 (Az0 (by decide) x),fun x=>hJ.b (by rw[Azn (by decide)] at x;exact x),fun x=>by rw[Azn (by decide)];exact hJ.o18 (Az0 (by decide) x),fun x=>by rw[Azn (by decide)];exact hJ.o17 (Az0 (by decide) x),hJ.w⟩,rfl⟩
     ·have ho':=Option.some.inj ho
      subst ho';simp[Region.binds] at haf;have p0:listed.getD 0 true=true:=Az3 (by simp[haf]);have p16:listed.getD 16 true=true:=Az3 (by simp[haf]);obtain rfl:=hJ.f0 p0;obtain rfl:=hJ.f16 p16;have zz:=hP;have zh:(ba [u8 qo,u8 (16*qa+qb)]).size=2:=rfl;have zt:(ba (two qc)).size=2:=rfl;have zu:(ba (insQ qo qa qb qc)).size=4:=rfl;have zw:¬ 9223372036854775807<(ba P).size+4:=by omega
      have HJ:=Lib.hid hJ;clear hJ haf
      try unfold pt
      go_simp;have hJ:=HJ.out;exact hK _ _ ⟨_,_,_,_,_,_,_,_,_,_,_,_,_,_,_,_,_,_,_,⟨fun x=>hJ.f0 (Az0 (by decide) x),fun x=>hJ.f1 (Az0 (by decide) x),fun x=>hJ.f2 (Az0 (by decide) x),fun x=>hJ.f3 (Az0 (by decide) x),fun x=>hJ.f4 (Az0 (by decide) x),fun x=>hJ.f5 (Az0 (by decide) x),fun x=>hJ.f6 (Az0 (by decide) x),fun x=>hJ.f7 (Az0 (by decide) x),fun x=>hJ.f8 (Az0 (by decide) x),fun x=>hJ.f9 (Az0 (by decide) x),fun x=>hJ.f10 (Az0 (by decide) x),fun x=>hJ.f11 (Az0 (by decide) x),fun x=>hJ.f12 (Az0 (by decide) x),fun x=>hJ.f13 (Az0 (by decide) x),fun x=>hJ.f14 (Az0 (by decide) x),fun x=>hJ.f15 (Az0 (by decide) x),fun x=>hJ.f16 (Az0 (by decide) x),fun _=>congrArg Value.string (Dz1 P (insQ qo qa qb qc)),fun x=>hJ.f18 (Az0 (by decide) x),fun x=>hJ.b (by rw[Azn (by decide)] at x;exact x),fun _=>Jzp,fun _=>by rw[Azn (by decide)];exact p0,hJ.w⟩,rfl⟩
     ·have ho':=Option.some.inj ho
      subst ho';simp[Region.binds] at haf;have p17:listed.getD 17 true=true:=Az3 (by simp[haf]);obtain rfl:=hJ.f17 p17;have HJ:=Lib.hid hJ;clear hJ haf
      try unfold pt
      go_simp;have hJ:=HJ.out;exact hK _ _ ⟨_,_,_,_,_,_,_,_,_,_,_,_,_,_,_,_,_,_,_,⟨fun x=>hJ.f0 (Az0 (by decide) x),fun x=>hJ.f1 (Az0 (by decide) x),fun x=>hJ.f2 (Az0 (by decide) x),fun x=>hJ.f3 (Az0 (by decide) x),fun x=>hJ.f4 (Az0 (by decide) x),fun x=>hJ.f5 (Az0 (by decide) x),fun x=>hJ.f6 (Az0 (by decide) x),fun x=>hJ.f7 (Az0 (by decide) x),fun x=>hJ.f8 (Az0 (by decide) x),fun x=>hJ.f9 (Az0 (by decide) x),fun x=>hJ.f10 (Az0 (by decide) x),fun x=>hJ.f11 (Az0 (by decide) x),fun x=>hJ.f12 (Az0 (by decide) x),fun x=>hJ.f13 (Az0 (by decide) x),fun x=>hJ.f14 (Az0 (by decide) x),fun x=>hJ.f15 (Az0 (by decide) x),fun x=>hJ.f16 (Az0 (by decide) x),fun x=>hJ.f17 (Az0 (by decide) x),fun _=>rfl,fun x=>absurd x (by rw[Jzp];decide),fun _=>by rw[Azn (by decide)];exact p17,fun x=>by rw[Azn (by decide)];exact hJ.o17 (Az0 (by decide) x),hJ.w⟩,rfl⟩
    case fin=>
     intro listed a W hall hI;obtain⟨y5,y38,y39,y40,y41,y42,y43,y44,y45,y46,y47,y48,y49,y50,y51,y52,y53,y54,y55,hJ,rfl⟩:=hI;have e5:=hJ.f18 (hall 18 (by decide));subst e5;have hw:=hJ.w.1;clear hJ;go_wp2_with fail;go_roundw
     case rel=>exact⟨k+1,by omega,by go_num,P++insQ qo qa qb qc,rfl,by rw[←Dz1];have:(ba (insQ qo qa qb qc)).size=4:=rfl;simp;omega,hw,by show _=_;rw[HP.out,HG.out,List.append_assoc];rfl⟩
     case measure=>simp[intOf];omega
   ·have hkk:k=m.code.length:=by omega
    subst hkk;have hbw:=hbw1.out.trans (hbr.mono hbw1.out.size);have hBX:=HBX.out.below hbr HBX.out.lt;have m2:=hBX.cell 2;simp at m2;have hbl:=hBX.lt;have zd:∀ x:UInt8,(ba P++ba [x]).size=(ba P).size+1:=fun x=>by rw[Dz1];simp[ba,ByteArray.size]
    have HPP:Hid (P++ [u8 m.data.length]=[u8 m.name.size]++m.name.data.toList++ [u8 m.code.length]++m.code.flatMap insB++ [u8 m.data.length]):=by
     show _=_;rw[HP.out,List.take_length]
    go_wp2_with fail;go_loopw [5,68] (fun s i wq=>Cnt m.data.length i fun j=>∃ R:List UInt8,s= .string (ba R)∧(ba R).size≤900+2*j∧Below wr.heap.size wr wq∧Hid (R=P++ [u8 m.data.length]++(m.data.take j).flatMap Gzd)) (fun _ i _=>m.data.length - (intOf i).toNat)
    case atStart=>exact⟨0,Nat.zero_le _,rfl,P++ [u8 m.data.length],congrArg Value.string (Dz1 _ _),by rw[←Dz1,zd];omega,(Below.refl _ _).alloc (Nat.le_refl _) _,by show _=_;simp⟩
    case round=>
     obtain⟨j,hj',rfl,R,rfl,hR,hbq,HR⟩:=hrel;have hb2:=hbw.trans (hbq.mono hbw.size);by_cases hjl:j<m.data.length
     ·obtain⟨b,o,rfl,hbB,hcell⟩:=hr' (by omega)
      have c0:=hcell j hjl;rw[←hb2.cell (p:=⟨b,_,none⟩) hbB] at c0;have hbs:=Nat.lt_of_lt_of_le hbB hb2.size;have HG:Hid ((m.data.take (j+1)).flatMap Gzd=(m.data.take j).flatMap Gzd++Gzd m.data[j]):=by
       show _=_;rw[List.take_succ_eq_append_getElem hjl,List.flatMap_append];simp
      have hin:oddW m.data[j]=false:=by
       rw[List.any_eq_false] at hod
       simpa using hod _ (List.getElem_mem hjl)
      obtain⟨x,hx⟩:∃ x,x=m.data[j]:=⟨_,rfl⟩;rw[←hx] at c0 HG hin;unfold oddW at hin;simp at hin;obtain⟨q,rfl⟩:∃ q:Nat,x=(q:Int):=⟨x.toNat,by omega⟩;have zt:(ba (two q)).size=2:=rfl;clear hx hcell hr';go_wp2_with (go_at_call 112;refine(two_any q _ (by omega)).mono ?_;rintro e w2 ⟨rfl,hb3⟩);go_roundw
      case rel=>
       exact⟨j+1,by omega,by go_num,R++two q,congrArg Value.string (Dz1 _ _),by rw[←Dz1];simp;omega,hbq.trans (hb3.mono hbq.size),by show _=_;rw[HR.out,HG.out,List.append_assoc];rfl⟩
      case measure=>simp[intOf];omega
     ·have hjj:j=m.data.length:=by omega
      have HB:Hid (R=Fzt m):=by
       show _=_;rw[HR.out,HPP.out,hjj,List.take_length];rfl
      have HE:Hid (encR m=(ba (encB m),0)):=by
       show _=_;rw[encR,if_pos HC.out]
      clear hr hr';have zs:∀ l,(ba (Dzx l)).size=4:=fun _=>rfl
      go_wp2_with (go_at_call 113;refine(Kzg (ba R) _ (by unfold maxLen;omega)).mono ?_;rintro e w2 ⟨rfl,hb3⟩);refine bodyPost_ret (v:= .tuple #[.string (ba (Dzx (ba R).data.toList)++ba R), .int .i64 0]) (by simp[results,Tryd.results72,go_sem]) rfl ?_;rw[HE.out];exact⟨by rw[Dz1,encB,HB.out];rfl,hb2.trans (hb3.mono hb2.size)⟩
 ·have HC:=Lib.hid h0
  have h1:((Az7 m) == 0)=false:=by rw[beq_eq_false_iff_ne];exact h0
  have HE:Hid (encR m=(⟨#[]⟩,Az7 m)):=by show _=_;rw[encR,if_neg h0]
  go_enter Tryd.func72,Tryd.ntmps72;go_wp2_with fail;refine(CK.out _ (ha _)).mono ?_;rintro e w1 ⟨rfl,hb1⟩;go_wp2;refine bodyPost_ret (v:= .tuple #[.string ⟨#[]⟩, .int .i64 (Az7 m)]) (by simp[results,Tryd.results72,go_sem]) rfl ?_;exact⟨by rw[HE.out],(ha _).trans (hb1.mono (by simp))⟩
structure Nod where
 name:ByteArray
 kind:Int
 data:ByteArray
 unit:Int
instance : Inhabited Nod := ⟨⟨⟨#[]⟩, 0, ⟨#[]⟩, 0⟩⟩
structure Opn where
 kind:Int
 node:Int
 pos:Int
instance : Inhabited Opn := ⟨⟨0, 0, 0⟩⟩
structure Prc where
 live:Bool
 ends : List Opn
instance : Inhabited Prc := ⟨⟨false, []⟩⟩
instance : Inhabited Mod := ⟨⟨⟨#[]⟩, [], []⟩⟩
structure Krn where
 mods:List Mod
 mem:List Int
 nodes:List Nod
 pipes:List ByteArray
 procs:List Prc
structure Akt where
 kind:Int
 p:Int
 n:Int
 m:Int
 name:ByteArray
 data:ByteArray
instance : Inhabited Akt := ⟨⟨0, 0, 0, 0, ⟨#[]⟩, ⟨#[]⟩⟩⟩
def RdS (w:World) (B:Nat) (A:Option Addr) (l:List ByteArray):Prop:=
 0<l.length→∃ b o,A=some ⟨b,o,none⟩∧b<B∧∀ k (h:k<l.length),w.cell? ⟨b,o+k,none⟩=some (.string l[k])
def RdD (w:World) (B:Nat) (A:Option Addr) (l:List Nod):Prop:=
 0<l.length→∃ b o,A=some ⟨b,o,none⟩∧b<B∧∀ k (h:k<l.length),
  w.cell? ⟨b,o+k*4,none⟩=some (.string l[k].name)∧w.cell? ⟨b,o+k*4+1,none⟩=some (.int .i64 l[k].kind)∧
  w.cell? ⟨b,o+k*4+2,none⟩=some (.string l[k].data)∧w.cell? ⟨b,o+k*4+3,none⟩=some (.int .i64 l[k].unit)
def RdE (w:World) (B:Nat) (A:Option Addr) (l:List Opn):Prop:=
 0<l.length→∃ b o,A=some ⟨b,o,none⟩∧b<B∧∀ k (h:k<l.length),
  w.cell? ⟨b,o+k*3,none⟩=some (.int .i64 l[k].kind)∧w.cell? ⟨b,o+k*3+1,none⟩=some (.int .i64 l[k].node)∧
  w.cell? ⟨b,o+k*3+2,none⟩=some (.int .i64 l[k].pos)
def RdA (w:World) (B:Nat) (A:Option Addr) (l:List Akt):Prop:=
 0<l.length→∃ b o,A=some ⟨b,o,none⟩∧b<B∧∀ k (h:k<l.length),
  w.cell? ⟨b,o+k*6,none⟩=some (.int .i64 l[k].kind)∧w.cell? ⟨b,o+k*6+1,none⟩=some (.int .i64 l[k].p)∧
  w.cell? ⟨b,o+k*6+2,none⟩=some (.int .i64 l[k].n)∧w.cell? ⟨b,o+k*6+3,none⟩=some (.int .i64 l[k].m)∧
  w.cell? ⟨b,o+k*6+4,none⟩=some (.string l[k].name)∧w.cell? ⟨b,o+k*6+5,none⟩=some (.string l[k].data)
structure ModAt (w:World) (B:Nat) (A:Option Addr) (c:Nat) (A':Option Addr) (c':Nat) (m:Mod):Prop where
 code:RdI w B A m.code
 data:RdN w B A' m.data
 nm:m.name.size≤140737488351232
 cl:m.code.length*32≤140737488351232
 dl:m.data.length*8≤140737488351232
 nil:A=none→m.code.length=0∧c=0
 nil':A'=none→m.data.length=0∧c'=0
def RdM (w:World) (B:Nat) (A:Option Addr) (l:List Mod):Prop:=
 0<l.length→∃ b o,A=some ⟨b,o,none⟩∧b<B∧∀ k (h:k<l.length),∃ A1 c1 A2 c2,
  w.cell? ⟨b,o+k*3,none⟩=some (.string l[k].name)∧w.cell? ⟨b,o+k*3+1,none⟩=some (.slice A1 l[k].code.length c1)∧
  w.cell? ⟨b,o+k*3+2,none⟩=some (.slice A2 l[k].data.length c2)∧ModAt w B A1 c1 A2 c2 l[k]
structure PrcAt (w:World) (B:Nat) (A:Option Addr) (c:Nat) (p:Prc):Prop where
 ends : RdE w B A p.ends
 el:p.ends.length*24≤140737488351232
 nil:A=none→p.ends.length=0∧c=0
def RdP (w:World) (B:Nat) (A:Option Addr) (l:List Prc):Prop:=
 0<l.length→∃ b o,A=some ⟨b,o,none⟩∧b<B∧∀ k (h:k<l.length),∃ A1 c1,
  w.cell? ⟨b,o+k*2,none⟩=some (.bool l[k].live)∧w.cell? ⟨b,o+k*2+1,none⟩=some (.slice A1 l[k].ends.length c1)∧PrcAt w B A1 c1 l[k]
section
variable {w w':World} {B B':Nat} {A A':Option Addr} {c c':Nat}
theorem RdS.keep {l:List ByteArray} (h:RdS w B A l) (hk:∀ p:Addr,p.block<B→w'.cell? p=w.cell? p):RdS w' B A l:=fun hl=>by
 obtain⟨b,o,e,hb,hc⟩:=h hl;exact⟨b,o,e,hb,fun k hk'=>(hk _ hb).trans (hc k hk')⟩
theorem RdS.more {l:List ByteArray} (h:RdS w B A l) (hB:B≤B'):RdS w B' A l:=fun hl=>by
 obtain⟨b,o,e,hb,hc⟩:=h hl;exact⟨b,o,e,by omega,hc⟩
theorem RdD.keep {l:List Nod} (h:RdD w B A l) (hk:∀ p:Addr,p.block<B→w'.cell? p=w.cell? p):RdD w' B A l:=fun hl=>by
 obtain⟨b,o,e,hb,hc⟩:=h hl;refine⟨b,o,e,hb,fun k hk'=>?_⟩;obtain⟨h0,h1,h2,h3⟩:=hc k hk';exact⟨(hk _ hb).trans h0,(hk _ hb).trans h1,(hk _ hb).trans h2,(hk _ hb).trans h3⟩
theorem RdD.more {l:List Nod} (h:RdD w B A l) (hB:B≤B'):RdD w B' A l:=fun hl=>by
 obtain⟨b,o,e,hb,hc⟩:=h hl;exact⟨b,o,e,by omega,hc⟩
theorem RdE.keep {l:List Opn} (h:RdE w B A l) (hk:∀ p:Addr,p.block<B→w'.cell? p=w.cell? p):RdE w' B A l:=fun hl=>by
 obtain⟨b,o,e,hb,hc⟩:=h hl;refine⟨b,o,e,hb,fun k hk'=>?_⟩;obtain⟨h0,h1,h2⟩:=hc k hk';exact⟨(hk _ hb).trans h0,(hk _ hb).trans h1,(hk _ hb).trans h2⟩
theorem RdE.more {l:List Opn} (h:RdE w B A l) (hB:B≤B'):RdE w B' A l:=fun hl=>by
 obtain⟨b,o,e,hb,hc⟩:=h hl;exact⟨b,o,e,by omega,hc⟩
theorem RdA.keep {l:List Akt} (h:RdA w B A l) (hk:∀ p:Addr,p.block<B→w'.cell? p=w.cell? p):RdA w' B A l:=fun hl=>by
 obtain⟨b,o,e,hb,hc⟩:=h hl;refine⟨b,o,e,hb,fun k hk'=>?_⟩;obtain⟨h0,h1,h2,h3,h4,h5⟩:=hc k hk';exact⟨(hk _ hb).trans h0,(hk _ hb).trans h1,(hk _ hb).trans h2,(hk _ hb).trans h3,(hk _ hb).trans h4,(hk _ hb).trans h5⟩
theorem RdA.more {l:List Akt} (h:RdA w B A l) (hB:B≤B'):RdA w B' A l:=fun hl=>by
 obtain⟨b,o,e,hb,hc⟩:=h hl;exact⟨b,o,e,by omega,hc⟩
theorem ModAt.keep {m:Mod} (h:ModAt w B A c A' c' m) (hk:∀ p:Addr,p.block<B→w'.cell? p=w.cell? p):ModAt w' B A c A' c' m:=
 { h with code:=h.code.keep hk,data:=h.data.keep hk }
theorem ModAt.more {m:Mod} (h:ModAt w B A c A' c' m) (hB:B≤B'):ModAt w B' A c A' c' m:=
 { h with code:=h.code.more hB,data:=h.data.more hB }
theorem PrcAt.keep {p:Prc} (h:PrcAt w B A c p) (hk:∀ p:Addr,p.block<B→w'.cell? p=w.cell? p):PrcAt w' B A c p:= { h with ends:=h.ends.keep hk }
theorem PrcAt.more {p:Prc} (h:PrcAt w B A c p) (hB:B≤B'):PrcAt w B' A c p:= { h with ends:=h.ends.more hB }
theorem RdM.keep {l:List Mod} (h:RdM w B A l) (hk:∀ p:Addr,p.block<B→w'.cell? p=w.cell? p):RdM w' B A l:=fun hl=>by
 obtain⟨b,o,e,hb,hc⟩:=h hl;refine⟨b,o,e,hb,fun k hk'=>?_⟩;obtain⟨A1,c1,A2,c2,h0,h1,h2,h3⟩:=hc k hk';exact⟨A1,c1,A2,c2,(hk _ hb).trans h0,(hk _ hb).trans h1,(hk _ hb).trans h2,h3.keep hk⟩
theorem RdM.more {l:List Mod} (h:RdM w B A l) (hB:B≤B'):RdM w B' A l:=fun hl=>by
 obtain⟨b,o,e,hb,hc⟩:=h hl;refine⟨b,o,e,by omega,fun k hk'=>?_⟩;obtain⟨A1,c1,A2,c2,h0,h1,h2,h3⟩:=hc k hk';exact⟨A1,c1,A2,c2,h0,h1,h2,h3.more hB⟩
theorem RdP.keep {l:List Prc} (h:RdP w B A l) (hk:∀ p:Addr,p.block<B→w'.cell? p=w.cell? p):RdP w' B A l:=fun hl=>by
 obtain⟨b,o,e,hb,hc⟩:=h hl;refine⟨b,o,e,hb,fun k hk'=>?_⟩;obtain⟨A1,c1,h0,h1,h2⟩:=hc k hk';exact⟨A1,c1,(hk _ hb).trans h0,(hk _ hb).trans h1,h2.keep hk⟩
theorem RdP.more {l:List Prc} (h:RdP w B A l) (hB:B≤B'):RdP w B' A l:=fun hl=>by
 obtain⟨b,o,e,hb,hc⟩:=h hl;refine⟨b,o,e,by omega,fun k hk'=>?_⟩;obtain⟨A1,c1,h0,h1,h2⟩:=hc k hk';exact⟨A1,c1,h0,h1,h2.more hB⟩
theorem RdS.below {l:List ByteArray} (h:RdS w B A l) (hb:Below B w w'):RdS w' B A l:=h.keep fun _ hp=>hb.cell hp
theorem RdD.below {l:List Nod} (h:RdD w B A l) (hb:Below B w w'):RdD w' B A l:=h.keep fun _ hp=>hb.cell hp
theorem RdE.below {l:List Opn} (h:RdE w B A l) (hb:Below B w w'):RdE w' B A l:=h.keep fun _ hp=>hb.cell hp
theorem RdA.below {l:List Akt} (h:RdA w B A l) (hb:Below B w w'):RdA w' B A l:=h.keep fun _ hp=>hb.cell hp
theorem RdM.below {l:List Mod} (h:RdM w B A l) (hb:Below B w w'):RdM w' B A l:=h.keep fun _ hp=>hb.cell hp
theorem RdP.below {l:List Prc} (h:RdP w B A l) (hb:Below B w w'):RdP w' B A l:=h.keep fun _ hp=>hb.cell hp
end
structure KA where
 a0:Option Addr
 c0:Nat
 a1:Option Addr
 c1:Nat
 a2:Option Addr
 c2:Nat
 a3:Option Addr
 c3:Nat
 a4:Option Addr
 c4:Nat
def KA.cells (a:KA) (k:Krn):Array Value:= #[.slice a.a0 k.mods.length a.c0, .slice a.a1 k.mem.length a.c1, .slice a.a2 k.nodes.length a.c2, .slice a.a3 k.pipes.length a.c3, .slice a.a4 k.procs.length a.c4]
structure KrnAt (w:World) (B:Nat) (a:KA) (k:Krn):Prop where
 mods:RdM w B a.a0 k.mods
 mem:RdN w B a.a1 k.mem
 nodes:RdD w B a.a2 k.nodes
 pipes:RdS w B a.a3 k.pipes
 procs:RdP w B a.a4 k.procs
 l0:k.mods.length*64≤140737488351232
 l1:k.mem.length*8≤140737488351232
 l2:k.nodes.length*48≤140737488351232
 l3:k.pipes.length*16≤140737488351232
 l4:k.procs.length*32≤140737488351232
 n0:a.a0=none→k.mods.length=0∧a.c0=0
 n1:a.a1=none→k.mem.length=0∧a.c1=0
 n2:a.a2=none→k.nodes.length=0∧a.c2=0
 n3:a.a3=none→k.pipes.length=0∧a.c3=0
 n4:a.a4=none→k.procs.length=0∧a.c4=0
structure KA.caps (a:KA) (k:Krn):Prop where
 m:k.mods.length≤a.c0
 d:k.nodes.length≤a.c2
 w:k.mem.length≤a.c1
theorem KrnAt.keep {w w':World} {B:Nat} {a:KA} {k:Krn} (h:KrnAt w B a k) (hk:∀ p:Addr,p.block<B→w'.cell? p=w.cell? p):KrnAt w' B a k:=
 { h with mods:=h.mods.keep hk,mem:=h.mem.keep hk,nodes:=h.nodes.keep hk,pipes:=h.pipes.keep hk,procs:=h.procs.keep hk }
theorem KrnAt.below {w w':World} {B:Nat} {a:KA} {k:Krn} (h:KrnAt w B a k) (hb:Below B w w'):KrnAt w' B a k:=h.keep fun _ hp=>hb.cell hp
theorem KrnAt.more {w:World} {B B':Nat} {a:KA} {k:Krn} (h:KrnAt w B a k) (hB:B≤B'):KrnAt w B' a k:=
 { h with mods:=h.mods.more hB,mem:=h.mem.more hB,nodes:=h.nodes.more hB,pipes:=h.pipes.more hB,procs:=h.procs.more hB }
def BoxK (w:World) (b:Nat) (a:KA) (k:Krn):Prop:=
 w.cell? ⟨b,0,none⟩=some (.slice a.a0 k.mods.length a.c0)∧w.cell? ⟨b,1,none⟩=some (.slice a.a1 k.mem.length a.c1)∧w.cell? ⟨b,2,none⟩=some (.slice a.a2 k.nodes.length a.c2)∧
 w.cell? ⟨b,3,none⟩=some (.slice a.a3 k.pipes.length a.c3)∧w.cell? ⟨b,4,none⟩=some (.slice a.a4 k.procs.length a.c4)
theorem BoxK.below {w w':World} {b B:Nat} {a:KA} {k:Krn} (h:BoxK w b a k) (hb:Below B w w') (hlt:b<B):BoxK w' b a k:=
 ⟨(hb.cell (p:=⟨b,0,none⟩) hlt).trans h.1,(hb.cell (p:=⟨b,1,none⟩) hlt).trans h.2.1,(hb.cell (p:=⟨b,2,none⟩) hlt).trans h.2.2.1,(hb.cell (p:=⟨b,3,none⟩) hlt).trans h.2.2.2.1,(hb.cell (p:=⟨b,4,none⟩) hlt).trans h.2.2.2.2⟩
structure Krn.wf (k:Krn):Prop where
 code:∀ m∈k.mods,∀ i∈m.code,i.wf
 data:∀ m∈k.mods,∀ n∈m.data,wf64 n
 mem:∀ n∈k.mem,wf64 n
 nodes:∀ x∈k.nodes,wf64 x.kind∧wf64 x.unit∧x.name.size≤maxLen∧x.data.size≤maxLen
 pipes:∀ s∈k.pipes,s.size≤maxLen
 ends : ∀ p ∈ k.procs, ∀ x ∈ p.ends, wf64 x.kind ∧ wf64 x.node ∧ wf64 x.pos
structure Akt.wf (a:Akt):Prop where
 kind:wf64 a.kind
 p:wf64 a.p
 n:wf64 a.n
 m:wf64 a.m
 name:a.name.size≤140737488351232
 data:a.data.size≤140737488351232
def Akt.cells (a:Akt):Array Value:= #[.int .i64 a.kind, .int .i64 a.p, .int .i64 a.n, .int .i64 a.m, .string a.name, .string a.data]
end Go.Proofs.YtdjamdbamkhblacDoor
