/- The walks of module.Check and of its reference: what they return, for every module. Modules as bytes, and back: what decoding an encoding answers, and that a byte that is changed is seen: plain mathematics. The walks of two bytes of a word and of the seal, and of the reference's seal. No condition. Small words for the use of wp_region_inv: no condition. -/
import Derived.Test.YtdjamdbamkhblacDoorG08
import Derived.Test.YtdjamdbamkhblacDoorG07
import Derived.Laws.BytesArg
set_option maxHeartbeats 1000000
namespace Go.Proofs.YtdjamdbamkhblacDoor
open Go.RowKit
def Az7 (m:Mod):Int:=if Azu m.name then (if 64<m.data.length then 1 else if m.data.any oddW then 2 else verify m.code) else 4
theorem Kzk (n:Int) (w:World):
  Calls Tryd.prog 82 #[.int .i64 n] w fun e w'=>e= .returned (.bool (oddW n))∧w=w':=by
 go_enter Tryd.func82,Tryd.ntmps82;go_wp2
 all_goals go_ret
 all_goals refine⟨Aza ?_,rfl⟩
 all_goals (rw[Bool.eq_iff_iff];simp[oddW];try omega)
theorem Hzo:∀ args w,(callFunc 82 args).run Tryd.prog w= .ok (.enter 82 args) w:=fun args w=>by
 simp only[callFunc,run_program,Sem.run_bind,Result.andThen_ok,Tryd.func82];rfl
theorem Dz6 (m:Mod) (A A':Option Addr) (c c':Nat) (w:World) (hn:m.name.size≤maxLen) (hr:RdI w w.heap.size A m.code) (hr':RdN w w.heap.size A' m.data) (ht:Tab w) (hl:m.code.length≤maxLen) (hl':m.data.length≤maxLen):
  Calls Tryd.prog 41 #[.agg #[.string m.name, .slice A m.code.length c, .slice A' m.data.length c']] w fun e w'=>e= .returned (.int .i64 (Az7 m))∧Below w.heap.size w w':=by
 have HL:=Lib.hid hl;have HL':=Lib.hid hl';unfold maxLen at hl hl';have ha:∀ o,Below w.heap.size w (w.alloc o):=fun o=>(Below.refl _ _).alloc (Nat.le_refl _) o
 cases hnm:Azu m.name with
 | false=>
   have HN:=Lib.hid hnm;clear hnm;go_enter Tryd.func41,Tryd.ntmps41;go_wp2_with fail;refine(Dze m.name _ hn).mono ?_;rw[HN.out];rintro e w1 ⟨rfl,hb1⟩;go_wp2;go_ret;exact⟨Azb (by rw[Az7,HN.out];rfl),(ha _).trans (hb1.mono (by simp))⟩
 | true=>
   have HN:=Lib.hid hnm;clear hnm;by_cases h64:64<m.data.length
   ·have h65:(64:Int)<(m.data.length:Int):=by omega
    go_enter Tryd.func41,Tryd.ntmps41;go_wp2_with fail;refine(Dze m.name _ hn).mono ?_;rw[HN.out];rintro e w1 ⟨rfl,hb1⟩;obtain⟨hc1,hf1⟩:=Hzy hb1;go_wp2;go_ret;exact⟨Azb (by rw[Az7,HN.out,if_pos rfl,if_pos h64]),(ha _).trans (hb1.mono (by simp))⟩
   ·have h65:(m.data.length:Int)≤64:=by omega
    go_enter Tryd.func41,Tryd.ntmps41;go_wp2_with fail;refine(Dze m.name _ hn).mono ?_;rw[HN.out];rintro e w1 ⟨rfl,hb1⟩;obtain⟨hc1,hf1⟩:=Hzy hb1;have hbw1:=(ha _).trans (hb1.mono (Nat.le_of_lt (by simp)));go_wp2_with fail;refine(Bzl 82 #[] oddW A' c' m.data w1 ((hr'.below hbw1).more hbw1.size) HL'.out Hzo (fun x _ w2 _=>(Kzk x w2).mono ?_)).mono ?_
    ·rintro e w3 ⟨rfl,rfl⟩
     exact⟨rfl,Below.refl _ _⟩
    cases hod:m.data.any oddW with
    | true=>
      have HO:=Lib.hid hod;clear hod;rintro e w2 ⟨rfl,hb2⟩;go_wp2;go_ret;exact⟨Azb (by rw[Az7,HN.out,if_pos rfl,if_neg h64,HO.out];rfl),hbw1.trans (hb2.mono hbw1.size)⟩
    | false=>
      have HO:=Lib.hid hod;clear hod;rintro e w2 ⟨rfl,hb2⟩;obtain⟨hc2,hf2⟩:=Hzy hb2;have hbw2:=hbw1.trans (hb2.mono hbw1.size);have hz:=hb1.size;simp at hz;have hz1:w.heap.size<w1.heap.size:=by omega
      go_wp2_with fail;refine(Kzr A c m.code w2 ((hr.below hbw2).more hbw2.size) (ht.below hbw2) HL.out).mono ?_;rintro e w3 ⟨rfl,hb3⟩;go_wp2;go_ret;exact⟨Azb (by rw[Az7,HN.out,if_pos rfl,if_neg h64,HO.out];rfl),hbw2.trans (hb3.mono hbw2.size)⟩
def u8 (n:Nat):UInt8:=UInt8.ofNat n
theorem Dzm (n:Nat):(u8 n).toNat=n % 256:=by simp[u8]
theorem Tz7 (c:UInt8):c.toNat<256:=UInt8.toNat_lt c
def two (n:Nat):List UInt8:=[u8 (n / 256),u8 n]
def adl:List UInt8→Nat→Nat→Nat × Nat
 | [],x,y=>(x,y)
 | c::r,x,y=>adl r ((x+c.toNat) % 65521) ((y+(x+c.toNat) % 65521) % 65521)
def Dzx (l:List UInt8):List UInt8:=two (adl l 1 0).2++two (adl l 1 0).1
def insB (i:Ins):List UInt8:=[u8 i.op.toNat,u8 (16*i.a.toNat+i.b.toNat)]++two i.c.toNat
def Gzd (n:Int):List UInt8:=two n.toNat
def Fzt (m:Mod):List UInt8:=[u8 m.name.size]++m.name.data.toList++ [u8 m.code.length]++m.code.flatMap insB++ [u8 m.data.length]++m.data.flatMap Gzd
def encB (m:Mod):List UInt8:=Dzx (Fzt m)++Fzt m
def getI:Nat→List UInt8→Option (List Ins × List UInt8)
 | 0,r=>some ([],r)
 | k+1,o::ab::c::d::r=>(getI k r).map fun x=>(⟨(o.toNat:Int),(ab.toNat / 16:Nat),(ab.toNat % 16:Nat),(256*c.toNat+d.toNat:Nat)⟩::x.1,x.2)
 | _+1,_=>none
def getW:Nat→List UInt8→Option (List Int × List UInt8)
 | 0,r=>some ([],r)
 | k+1,c::d::r=>(getW k r).map fun x=>(((256*c.toNat+d.toNat:Nat):Int)::x.1,x.2)
 | _+1,_=>none
def getM:List UInt8→Option (Mod × List UInt8)
 | []=>none
 | n::r=>if r.length<n.toNat then none else
   match r.drop n.toNat with
   | []=>none
   | k::r1=>(getI k.toNat r1).bind fun x=>
     match x.2 with
     | []=>none
     | j::r2=>(getW j.toNat r2).map fun y=>(⟨⟨(r.take n.toNat).toArray⟩,x.1,y.1⟩,y.2)
theorem Ozt (l:List Ins) (r:List UInt8) (h:∀ i∈l,(0≤i.op∧i.op≤255)∧(0≤i.a∧i.a≤15)∧(0≤i.b∧i.b≤15)∧(0≤i.c∧i.c≤65535)):getI l.length (l.flatMap insB++r)=some (l,r):=by
 induction l with
 | nil=>rfl
 | cons i l ih=>
   obtain⟨⟨o1,o2⟩,⟨a1,a2⟩,⟨b1,b2⟩,⟨c1,c2⟩⟩:=h i (by simp);have e:(i::l).flatMap insB++r=u8 i.op.toNat::u8 (16*i.a.toNat+i.b.toNat)::u8 (i.c.toNat / 256)::u8 i.c.toNat::(l.flatMap insB++r):=by simp[insB,two]
   rw[e,List.length_cons,getI,ih (fun j hj=>h j (by simp[hj]))];simp only[Option.map_some,Dzm]
   congr 2
   congr 1
   apply Ins.ext'<;>simp only<;>omega
theorem Ozu (l:List Int) (r:List UInt8) (h:∀ n∈l,0≤n∧n≤65535):getW l.length (l.flatMap Gzd++r)=some (l,r):=by
 induction l with
 | nil=>rfl
 | cons n l ih=>
   obtain⟨o1,o2⟩:=h n (by simp);have e:(n::l).flatMap Gzd++r=u8 (n.toNat / 256)::u8 n.toNat::(l.flatMap Gzd++r):=by simp[Gzd,two]
   rw[e,List.length_cons,getW,ih (fun j hj=>h j (by simp[hj]))];simp only[Option.map_some,Dzm]
   congr 2
   congr 1
   omega
theorem Sza (m:Mod) (hn:m.name.size≤255) (hc:m.code.length≤255) (hd:m.data.length≤255)
  (hi:∀ i∈m.code,(0≤i.op∧i.op≤255)∧(0≤i.a∧i.a≤15)∧(0≤i.b∧i.b≤15)∧(0≤i.c∧i.c≤65535)) (hw:∀ n∈m.data,0≤n∧n≤65535):getM (Fzt m)=some (m,[]):=by
 obtain⟨⟨⟨nm⟩⟩,code,data⟩:=m;have e:Fzt ⟨⟨⟨nm⟩⟩,code,data⟩=u8 nm.length::(nm++u8 code.length::(code.flatMap insB++(u8 data.length::(data.flatMap Gzd++ [])))):=by
  simp[Fzt];rfl
 have z:∀ n,n≤255→(u8 n).toNat=n:=fun n h=>by rw[Dzm];omega
 have hn':nm.length≤255:=hn;simp only at hc hd hi hw;rw[e,getM,z _ hn',if_neg (by simp),List.drop_left,List.take_left];simp only;rw[z _ hc,Ozt _ _ hi];simp only[Option.bind_some];rw[z _ hd,Ozu _ _ hw];rfl
theorem Bzn (l:List UInt8):(Dzx l).length=4:=rfl
def decE (s:List UInt8) (ck:Mod→Int):Option Mod × Int:=
 if 4000<s.length then (none,1) else if s.length<4 then (none,5) else if Dzx (s.drop 4)≠s.take 4 then (none,11) else
 match getM (s.drop 4) with
 | none=>(none,5)
 | some (m,r)=>if r≠ [] then (none,4) else if ck m=0 then (some m,0) else (none,ck m)
theorem Szx (m:Mod) (ck:Mod→Int) (h4:(encB m).length≤4000) (hg:getM (Fzt m)=some (m,[])) (hk:ck m=0):decE (encB m) ck=(some m,0):=by
 have hl:(encB m).length=4+(Fzt m).length:=by simp[encB,Bzn]
 have hd:(encB m).drop 4=Fzt m:=by
  unfold encB;rw[List.drop_append_of_le_length (by rw[Bzn];omega),List.drop_of_length_le (by rw[Bzn];omega)];rfl
 have ht:(encB m).take 4=Dzx (Fzt m):=by
  unfold encB;rw[List.take_append_of_le_length (by rw[Bzn];omega),List.take_of_length_le (by rw[Bzn];omega)]
 unfold decE;rw[if_neg (by omega),if_neg (by omega),hd,ht,if_neg (by simp),hg];simp[hk]
theorem Iz4 {s:List UInt8} {ck:Mod→Int} {m:Mod} {e:Int} (h:decE s ck=(some m,e)):ck m=0∧e=0:=by
 unfold decE at h;split at h
 ·cases h
 split at h
 ·cases h
 split at h
 ·cases h
 split at h
 ·cases h
 split at h
 ·cases h
 split at h
 ·cases h
  exact⟨by assumption,rfl⟩
 ·cases h
theorem Mzm {s:List UInt8} {ck:Mod→Int} {e:Int} (h:decE s ck=(none,e)):e≠0:=by
 unfold decE at h;split at h
 ·cases h;decide
 split at h
 ·cases h;decide
 split at h
 ·cases h;decide
 split at h
 ·cases h;decide
 split at h
 ·cases h;decide
 split at h
 ·cases h
 ·cases h;assumption
set_option linter.unusedVariables false
set_option linter.unusedSimpArgs false
def ba (l:List UInt8):ByteArray:=⟨l.toArray⟩
theorem Dz1 (a b:List UInt8):ba a++ba b=ba (a++b):=by
 apply ByteArray.ext;simp[ba]
theorem Iz3 (W:World) (xs:List Int) (C:Array Value) (hC:C=(xs.map (Value.int .u8)).toArray) (n:Nat) (hn:xs.length=n) (cap:Nat):
  (convert 84 9 (.slice (some ⟨W.heap.size,0,none⟩) n cap)).run Tryd.prog (W.alloc (.cells C 5))= .ok (.string (strOfNums xs)) (W.alloc (.cells C 5)):=by
 refine run_convert_bytes_arg _ 84 5 Tryd.underlying84 Tryd.underlying5 W.heap.size 0 n cap xs hn (fun i hi=>?_) 9 Tryd.underlying9;subst hC;simp[List.getD,List.getElem?_eq_getElem (show i<xs.length by omega)]
theorem Szv (W:World) (x:Int) (cap:Nat):(convert 84 9 (.slice (some ⟨W.heap.size,0,none⟩) 1 cap)).run Tryd.prog (W.alloc (.cells #[.int .u8 x] 5))= .ok (.string (strOfNums [x])) (W.alloc (.cells #[.int .u8 x] 5)):=Iz3 W [x] _ rfl 1 rfl cap
theorem Szw (W:World) (x y:Int) (cap:Nat):(convert 84 9 (.slice (some ⟨W.heap.size,0,none⟩) 2 cap)).run Tryd.prog (W.alloc (.cells #[.int .u8 x, .int .u8 y] 5))= .ok (.string (strOfNums [x,y])) (W.alloc (.cells #[.int .u8 x, .int .u8 y] 5)):=Iz3 W [x,y] _ rfl 2 rfl cap
theorem Gz5 (xs:List Int):strOfNums xs=ba (xs.map fun n=>u8 n.toNat):=by
 simp[strOfNums,ba,u8]
theorem Sz3 (W:World) (g:Nat) (x:Int) (cap:Nat) (hg:g=W.heap.size):(convert 84 9 (.slice (some ⟨g,0,none⟩) 1 cap)).run Tryd.prog (W.alloc (.cells #[.int .u8 x] 5))= .ok (.string (ba [u8 x.toNat])) (W.alloc (.cells #[.int .u8 x] 5)):=by
 subst hg;rw[Szv W x cap,Gz5];rfl
theorem Szn (n:Nat):u8 (n % 256)=u8 n:=by
 apply UInt8.toNat_inj.1;rw[Dzm,Dzm];omega
theorem Pzf (n:Nat):strOfNums [(n:Int) / 256,(n:Int) % 256]=ba (two n):=by
 rw[Gz5];simp only[List.map_cons,List.map_nil];rw[show ((n:Int) / 256).toNat=n / 256 by omega,show ((n:Int) % 256).toNat=n % 256 by omega,Szn];rfl
theorem Ozh {l:List UInt8} {k:Nat} (h:k<l.length) (a b:Nat):adl (l.drop k) a b=adl (l.drop (k+1)) ((a+l[k].toNat) % 65521) ((b+(a+l[k].toNat) % 65521) % 65521):=by
 rw[List.drop_eq_getElem_cons h];rfl
theorem Qzc {l:List UInt8} {k:Nat} (h:l.length≤k) (a b:Nat):adl (l.drop k) a b=(a,b):=by
 rw[List.drop_of_length_le h];rfl
theorem two_any (n:Nat) (w:World) (hn:n≤65535):
  Calls Tryd.prog 112 #[.int .i64 (n:Int)] w fun e w'=>e= .returned (.string (ba (two n)))∧Below w.heap.size w w':=by
 have k2:=Szw;go_enter Tryd.func112,Tryd.ntmps112;go_wp2;go_ret;exact⟨by rw[←Pzf];rfl,(Below.refl _ _).alloc (Nat.le_refl _) _⟩
theorem Kzg (s:ByteArray) (w:World) (hs:s.size≤maxLen):
  Calls Tryd.prog 113 #[.string s] w fun e w'=>e= .returned (.string (ba (Dzx s.data.toList)))∧Below w.heap.size w w':=by
 unfold maxLen at hs;have hsz:s.data.toList.length=s.size:=by simp
 go_enter Tryd.func113,Tryd.ntmps113;go_wp2;go_loop [3,4,8] (fun x y i=>Cnt s.size i fun k=>∃ a b:Nat,x= .int .i64 (a:Int)∧y= .int .i64 (b:Int)∧a<65521∧b<65521∧Hid (adl s.data.toList 1 0=adl (s.data.toList.drop k) a b)) (fun _ _ i=>s.size - (intOf i).toNat)
 case atStart=>exact⟨0,Nat.zero_le _,rfl,1,0,rfl,rfl,by decide,by decide,rfl⟩
 case round=>
  obtain⟨k,hk,rfl,a,b,rfl,rfl,ha,hb,HV⟩:=hrel;by_cases hlt:k<s.size
  ·have HD:Hid (adl (s.data.toList.drop k) a b=adl (s.data.toList.drop (k+1)) ((a+s[k].toNat) % 65521) ((b+(a+s[k].toNat) % 65521) % 65521)):=by
    show _=_;have h':k<s.data.toList.length:=by omega
    exact Ozh h' a b
   have hx:(s[k].toNat:Int)≤255:=by have:=s[k].toNat_lt;omega
   clear hsz;go_wp2;refine⟨⟨k+1,by omega,by go_num,(a+s[k].toNat) % 65521,(b+(a+s[k].toNat) % 65521) % 65521,by simp,by simp,Nat.mod_lt _ (by omega),Nat.mod_lt _ (by omega),?_⟩,by simp[intOf];omega⟩;show _=_;rw[HV.out,HD.out]
  ·have HF:Hid (adl s.data.toList 1 0=(a,b)):=by
    show _=_;rw[HV.out,Qzc (by omega)]
   clear hsz;go_wp2_with (first|(go_at_call 112;(with_reducible refine(two_any a _ (by omega)).mono ?_);rintro e w1 ⟨rfl,hb1⟩)|(go_at_call 112;(with_reducible refine(two_any b _ (by omega)).mono ?_);rintro e w2 ⟨rfl,hb2⟩));go_ret;refine⟨?_,hb2.trans (hb1.mono hb2.size)⟩;show Ending.returned (.string (ba (two b)++ba (two a)))=_;rw[Dz1,Dzx,HF.out]
theorem Az3 {l:Array Bool} {j:Nat} (h:l[j]?.getD false=true):l.getD j true=true:=by
 rw[Array.getD_eq_getD_getElem?];cases hj:l[j]? with
 | none=>rfl
 | some b=>rw[hj] at h;exact h
theorem Azn {l:Array Bool} {i j:Nat} (h:i≠j):(l.setIfInBounds i true).getD j true=l.getD j true:=by rw[Az2];simp[h]
theorem Az0 {l:Array Bool} {i j:Nat} (h:i≠j) (x:(l.setIfInBounds i true).getD j true=true):l.getD j true=true:=by rw[Azn h] at x;exact x
theorem Jzp {l:Array Bool} {i:Nat}:(l.setIfInBounds i true).getD i true=true:=by rw[Az2];simp
theorem nlR {a b:Bool} (q:b=true→a=true) (h:a=false):b=false:=by
 cases b with
 | false=>rfl
 | true=>rw[q rfl] at h;cases h
theorem tfR {Q:Prop} (h:true=false):Q:=by cases h
section
variable {P:Program} (w:World)
theorem Dzb {ops:Array Oper} {o:Oper} {a:Act} {K:Act→World→Prop} {Q:Exit→Act→World→Prop} {E:Prop} (hgd:o.guard=none) (s x:Operand) (t:TypeId)
  (ho:o.op= .call { callee:= .builtin .append,args:= #[s,x],argTypes:= #[t,t] })
  (base:Nat) (e:TypeId) (i:TypeInfo) (z:Value) (size bytes:Nat) (ht:P.underlying t=some (.slice e)) (hi:P.info? e=some i) (hz:i.zero=some z)
  (hsize:i.size=size) (hby:i.bytes=bytes) (hzs:z.cells.size=size) (hsz:0<size)
  (v:Value) (n:Nat) (xs:List Value) (hs:a.eval s=v) (hown:w.ownsRow base e size v n xs)
  (B:Nat) (A:Option Addr) (m c:Nat) (news:List Value) (hx:a.eval x= .slice A m c) (hr:Rd w B size A m news) (h1:∀ u∈news,u.oneCell'=true)
  (h63:n+m≤maxLen) (hbytes:(n+m)*bytes≤140737488355328) (hbase:base≤w.heap.size)
  (h:∀ A' c' w',w'.ownsRow base e size (.slice A' (n+m) c') (n+m) (xs++news)→w.grownBy w' v.ownBlock→((Value.slice A' (n+m) c').ownBlock=v.ownBlock∨(Value.slice A' (n+m) c').ownBlock=some w.heap.size)→K (a.put o.dst (.slice A' (n+m) c')) w'):
  if Region.wanted o (yielded ops a.tmps)=true then Oper.wp P o a w K Q else E:=by
 have hw:Region.wanted o (yielded ops a.tmps)=true:=by simp[Region.wanted,hgd]
 rw[if_pos hw];obtain⟨v',w',hrun,h2,h3,h4⟩:=Ezh (P:=P) w base t o.type e i z size bytes ht hi hz hsize hby hzs hsz v n xs hown B A m c news hr h1 h63 hbytes hbase;obtain⟨A',c',rfl⟩:=Az5 h2;unfold Oper.wp execOp;simp only[ho,resolve,invoke,builtin,Sem.run_bind,Sem.run_pure,Result.andThen_ok,List.map_toArray,List.map_cons,List.map_nil,hs,hx,hrun];exact h A' c' w' h2 h3 h4
end
def Dz9 (id:Nat):Code→Option Code
 | .region i ops d=>if i=id then some (.region i ops d) else none
 | .seq a b=>match Dz9 id a with
   | some c=>some c
   | none=>Dz9 id b
 | .loop c=>Dz9 id c
 | .block _ c=>Dz9 id c
 | .scope c=>Dz9 id c
 | .cond _ a b=>match Dz9 id a with
   | some c=>some c
   | none=>Dz9 id b
 | _=>none
end Go.Proofs.YtdjamdbamkhblacDoor
