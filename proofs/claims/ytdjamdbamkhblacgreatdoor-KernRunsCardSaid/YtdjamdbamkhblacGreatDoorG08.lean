/- The walks of slices.IndexFunc and slices.ContainsFunc at one element type: for every predicate whose calls leave old memory as it was. The walks of slices.IndexFunc and slices.ContainsFunc at one element type: for every predicate whose calls leave old memory as it was. The walk of kern.Check: what it answers, for every kernel. Condition: the listed tables. A region that draws its order, whose operations only read old memory and whose callees leave old memory as it was: one walk, in the order of the text. No condition. The walk of the reference's HasEnd. The walks of the kernel's small searches: find, place, make's and by's; the reference's nodeAt, freeEnd. No condition. -/
import Derived.Test.YtdjamdbamkhblacGreatDoorG07
set_option maxHeartbeats 1000000
namespace Go.Proofs.YtdjamdbamkhblacGreatDoor
open Go.RowKit
theorem Hzc (F:FuncId) (cp:Array Value) (p:Mod→Bool) (A:Option Addr) (c:Nat) (l:List Mod) (w:World) (hr:RdM w w.heap.size A l) (hl:l.length≤maxLen)
  (eg:∀ args w,(callFunc F args).run Tryz.prog w= .ok (.enter F args) w)
  (hp:∀ x∈l,∀ (w1:World) (A1:Option Addr) (c1:Nat) (A2:Option Addr) (c2:Nat),Below w.heap.size w w1→ModAt w1 w1.heap.size A1 c1 A2 c2 x→Calls Tryz.prog F (#[.agg #[.string x.name, .slice A1 x.code.length c1, .slice A2 x.data.length c2]]++cp) w1 fun e w'=>e= .returned (.bool (p x))∧Below w1.heap.size w1 w'):
  Calls Tryz.prog 71 #[.slice A l.length c, .func (.func F) #[] cp] w fun e w'=>e= .returned (.int .i64 (idxF p l 0))∧Below w.heap.size w w':=by
 unfold maxLen at hl;have HP:=Lib.hid hp;clear hp;go_enter Tryz.func71,Tryz.ntmps71;go_wp2;go_loopw [8] (fun i wr=>Cnt l.length i fun k=>Below w.heap.size w wr∧Hid (idxF p l 0=idxF p (l.drop k) k)) (fun i _=>l.length - (intOf i).toNat)
 case atStart=>exact⟨0,Nat.zero_le _,rfl,Below.refl _ _,rfl⟩
 case round=>
  obtain⟨k,hk,rfl,hb,HV⟩:=hrel;by_cases hlt:k<l.length
  ·obtain⟨b,o,rfl,hbB,hcell⟩:=hr (by omega)
   obtain⟨A1,c1,A2,c2,c0,c1',c2',hz⟩:=hcell k hlt;rw[←hb.cell (p:=⟨b,_,none⟩) hbB] at c0 c1' c2';have HZ:=Lib.hid ((hz.keep (w':=wr) (fun _ hp=>hb.cell hp)).more hb.size);have HD:=Lib.hid (Bzs (p:=p) hlt);have HM:=Lib.hid (List.getElem_mem hlt);clear hr hcell hz;cases hpk:p l[k] with
   | true=>
     have HK:=Lib.hid hpk;clear hpk;go_wp2_with fail;refine(HP.out _ HM.out _ _ _ _ _ hb HZ.out).mono ?_;rw[HK.out];rintro e w1 ⟨rfl,hb1⟩;go_wp2;go_ret;exact⟨Az8 (by rw[HV.out,HD.out,if_pos HK.out]),hb.trans (hb1.mono hb.size)⟩
   | false=>
     have HK:=Lib.hid hpk;clear hpk;go_wp2_with fail;refine(HP.out _ HM.out _ _ _ _ _ hb HZ.out).mono ?_;rw[HK.out];rintro e w1 ⟨rfl,hb1⟩;go_wp2;go_roundw
     case rel=>exact⟨k+1,by omega,by go_num,hb.trans (hb1.mono hb.size),by show _=_;rw[HV.out,HD.out,if_neg (by rw[HK.out];decide)]⟩
     case measure=>simp[intOf];omega
  ·go_wp2
   go_ret;exact⟨Az8 (by rw[HV.out,List.drop_of_length_le (by omega)];rfl),hb⟩
theorem Dzi (F:FuncId) (cp:Array Value) (p:Mod→Bool) (A:Option Addr) (c:Nat) (l:List Mod) (w:World) (hr:RdM w w.heap.size A l) (hl:l.length≤maxLen)
  (eg:∀ args w,(callFunc F args).run Tryz.prog w= .ok (.enter F args) w)
  (hp:∀ x∈l,∀ (w1:World) (A1:Option Addr) (c1:Nat) (A2:Option Addr) (c2:Nat),Below w.heap.size w w1→ModAt w1 w1.heap.size A1 c1 A2 c2 x→Calls Tryz.prog F (#[.agg #[.string x.name, .slice A1 x.code.length c1, .slice A2 x.data.length c2]]++cp) w1 fun e w'=>e= .returned (.bool (p x))∧Below w1.heap.size w1 w'):
  Calls Tryz.prog 30 #[.slice A l.length c, .func (.func F) #[] cp] w fun e w'=>e= .returned (.bool (l.any p))∧Below w.heap.size w w':=by
 have HP:=Lib.hid hp;have HE:=Lib.hid eg;clear hp eg;go_enter Tryz.func30,Tryz.ntmps30;go_wp2_with fail;refine(Hzc F cp p A c l w hr hl HE.out HP.out).mono ?_;rintro e w1 ⟨rfl,hb1⟩;go_wp2
 all_goals go_ret
 all_goals refine⟨Az9 ?_,hb1⟩
 all_goals rw[←Dzb p l 0]
theorem Dz6 (F:FuncId) (cp:Array Value) (p:Nod→Bool) (A:Option Addr) (c:Nat) (l:List Nod) (w:World) (hr:RdD w w.heap.size A l) (hl:l.length≤maxLen)
  (eg:∀ args w,(callFunc F args).run Tryz.prog w= .ok (.enter F args) w)
  (hp:∀ x∈l,∀ (w1:World),Below w.heap.size w w1→Calls Tryz.prog F (#[.agg #[.string x.name, .int .i64 x.kind, .string x.data, .int .i64 x.unit]]++cp) w1 fun e w'=>e= .returned (.bool (p x))∧Below w1.heap.size w1 w'):
  Calls Tryz.prog 49 #[.slice A l.length c, .func (.func F) #[] cp] w fun e w'=>e= .returned (.int .i64 (idxF p l 0))∧Below w.heap.size w w':=by
 unfold maxLen at hl;have HP:=Lib.hid hp;clear hp;go_enter Tryz.func49,Tryz.ntmps49;go_wp2;go_loopw [8] (fun i wr=>Cnt l.length i fun k=>Below w.heap.size w wr∧Hid (idxF p l 0=idxF p (l.drop k) k)) (fun i _=>l.length - (intOf i).toNat)
 case atStart=>exact⟨0,Nat.zero_le _,rfl,Below.refl _ _,rfl⟩
 case round=>
  obtain⟨k,hk,rfl,hb,HV⟩:=hrel;by_cases hlt:k<l.length
  ·obtain⟨b,o,rfl,hbB,hcell⟩:=hr (by omega)
   obtain⟨c0,c1,c2,c3⟩:=hcell k hlt;rw[←hb.cell (p:=⟨b,_,none⟩) hbB] at c0 c1 c2 c3;have HD:=Lib.hid (Bzs (p:=p) hlt);have HM:=Lib.hid (List.getElem_mem hlt);clear hr hcell;cases hpk:p l[k] with
   | true=>
     have HK:=Lib.hid hpk;clear hpk;go_wp2_with fail;refine(HP.out _ HM.out _ hb).mono ?_;rw[HK.out];rintro e w1 ⟨rfl,hb1⟩;go_wp2;go_ret;exact⟨Az8 (by rw[HV.out,HD.out,if_pos HK.out]),hb.trans (hb1.mono hb.size)⟩
   | false=>
     have HK:=Lib.hid hpk;clear hpk;go_wp2_with fail;refine(HP.out _ HM.out _ hb).mono ?_;rw[HK.out];rintro e w1 ⟨rfl,hb1⟩;go_wp2;go_roundw
     case rel=>exact⟨k+1,by omega,by go_num,hb.trans (hb1.mono hb.size),by show _=_;rw[HV.out,HD.out,if_neg (by rw[HK.out];decide)]⟩
     case measure=>simp[intOf];omega
  ·go_wp2
   go_ret;exact⟨Az8 (by rw[HV.out,List.drop_of_length_le (by omega)];rfl),hb⟩
theorem Fzv (F:FuncId) (cp:Array Value) (p:Nod→Bool) (A:Option Addr) (c:Nat) (l:List Nod) (w:World) (hr:RdD w w.heap.size A l) (hl:l.length≤maxLen)
  (eg:∀ args w,(callFunc F args).run Tryz.prog w= .ok (.enter F args) w)
  (hp:∀ x∈l,∀ (w1:World),Below w.heap.size w w1→Calls Tryz.prog F (#[.agg #[.string x.name, .int .i64 x.kind, .string x.data, .int .i64 x.unit]]++cp) w1 fun e w'=>e= .returned (.bool (p x))∧Below w1.heap.size w1 w'):
  Calls Tryz.prog 36 #[.slice A l.length c, .func (.func F) #[] cp] w fun e w'=>e= .returned (.bool (l.any p))∧Below w.heap.size w w':=by
 have HP:=Lib.hid hp;have HE:=Lib.hid eg;clear hp eg;go_enter Tryz.func36,Tryz.ntmps36;go_wp2_with fail;refine(Dz6 F cp p A c l w hr hl HE.out HP.out).mono ?_;rintro e w1 ⟨rfl,hb1⟩;go_wp2
 all_goals go_ret
 all_goals refine⟨Az9 ?_,hb1⟩
 all_goals rw[←Dzb p l 0]
set_option linter.unusedVariables false
set_option linter.unusedSimpArgs false
theorem bs_l (a b:ByteArray):(a.toList == b.toList)=(a == b):=by
 obtain⟨⟨x⟩⟩:=a;obtain⟨⟨y⟩⟩:=b;rw[show (⟨⟨x⟩⟩:ByteArray).toList=x from ByteArray.toList_mk x,show (⟨⟨y⟩⟩:ByteArray).toList=y from ByteArray.toList_mk y];show (x == y)=((⟨x⟩:Array UInt8) == ⟨y⟩);simp
theorem RdM.take {w:World} {B:Nat} {A:Option Addr} {l:List Mod} (h:RdM w B A l) (n:Nat):RdM w B A (l.take n):=fun hl=>by
 obtain⟨b,o,e,hb,hc⟩:=h (by rw[List.length_take] at hl;omega);refine⟨b,o,e,hb,fun k hk=>?_⟩;have:=hc k (by rw[List.length_take] at hk;omega);rw[List.getElem_take];exact this
theorem RdD.take {w:World} {B:Nat} {A:Option Addr} {l:List Nod} (h:RdD w B A l) (n:Nat):RdD w B A (l.take n):=fun hl=>by
 obtain⟨b,o,e,hb,hc⟩:=h (by rw[List.length_take] at hl;omega);refine⟨b,o,e,hb,fun k hk=>?_⟩;have:=hc k (by rw[List.length_take] at hk;omega);rw[List.getElem_take];exact this
structure Krn.small (k:Krn):Prop where
 nodes:∀ x∈k.nodes,x.name.size≤maxLen∧x.data.size≤maxLen
 pipes:∀ s∈k.pipes,s.size≤maxLen
theorem Blk.c5 {w:World} {g:Nat} {t:TypeId} {u0 u1 u2 u3 u4:Value} (h:Blk w g t #[u0,u1,u2,u3,u4]):w.cell? ⟨g,0,none⟩=some u0∧w.cell? ⟨g,1,none⟩=some u1∧w.cell? ⟨g,2,none⟩=some u2∧w.cell? ⟨g,3,none⟩=some u3∧w.cell? ⟨g,4,none⟩=some u4:=⟨h.cell 0,h.cell 1,h.cell 2,h.cell 3,h.cell 4⟩
theorem Blk.c4 {w:World} {g:Nat} {t:TypeId} {u0 u1 u2 u3:Value} (h:Blk w g t #[u0,u1,u2,u3]):w.cell? ⟨g,0,none⟩=some u0∧w.cell? ⟨g,1,none⟩=some u1∧w.cell? ⟨g,2,none⟩=some u2∧w.cell? ⟨g,3,none⟩=some u3:=⟨h.cell 0,h.cell 1,h.cell 2,h.cell 3⟩
theorem Ezk {k:Krn} {i:Nat} {x:Nod} (h1:Bz6 k.mods.length x=false):Azn k i x=true:=by unfold Azn;rw[h1];rfl
theorem Fzq {k:Krn} {i:Nat} {x:Nod} (h1:Bz6 k.mods.length x=true) (h2:empS x.name=false):Azn k i x=(!Azs x.name || (x.kind == 0) || dupN (k.nodes.take i) x.name):=by unfold Azn;rw[h1,h2];simp
theorem Ez1 {k:Krn} {i:Nat} {x:Nod} (h1:Bz6 k.mods.length x=true) (h2:empS x.name=true):Azn k i x=((x.kind != 0) && !hasE k.procs 1 i):=by unfold Azn;rw[h1,h2];simp
theorem Hz2 {l:List Mod} {n:Nat} (h:n<l.length):Cz8 (l.take n) (l.drop n)=if Az7 l[n]=0 then (if (l.take n).any (fun x=>x.name == l[n].name) then 7 else Cz8 (l.take (n+1)) (l.drop (n+1))) else Az7 l[n]:=by
 rw[List.drop_eq_getElem_cons h,Cz8,List.take_succ_eq_append_getElem h]
theorem Ezc {α:Type} {p:Nat→α→Bool} {l:List α} {n:Nat} (h:n<l.length):anyI p (l.drop n) n=(p n l[n] || anyI p (l.drop (n+1)) (n+1)):=by
 rw[List.drop_eq_getElem_cons h,anyI]
theorem Hzd:∀ args w,(callFunc 31 args).run Tryz.prog w= .ok (.enter 31 args) w:=fun args w=>by
 simp only[callFunc,run_program,Sem.run_bind,Result.andThen_ok,Tryz.func31];rfl
theorem Hze:∀ args w,(callFunc 33 args).run Tryz.prog w= .ok (.enter 33 args) w:=fun args w=>by
 simp only[callFunc,run_program,Sem.run_bind,Result.andThen_ok,Tryz.func33];rfl
theorem Hzf:∀ args w,(callFunc 37 args).run Tryz.prog w= .ok (.enter 37 args) w:=fun args w=>by
 simp only[callFunc,run_program,Sem.run_bind,Result.andThen_ok,Tryz.func37];rfl
theorem Hzg:∀ args w,(callFunc 40 args).run Tryz.prog w= .ok (.enter 40 args) w:=fun args w=>by
 simp only[callFunc,run_program,Sem.run_bind,Result.andThen_ok,Tryz.func40];rfl
theorem Jzf (n:ByteArray) (V1 V2:Value) (b:Nat) (s:ByteArray) (w:World) (h1:b<w.heap.size) (c1:w.cell? ⟨b,0,none⟩=some (.string s)):
  Calls Tryz.prog 31 #[.agg #[.string n,V1,V2], .pointer (some ⟨b,0,none⟩)] w fun e w'=>e= .returned (.bool (n == s))∧Below w.heap.size w w':=by
 go_enter Tryz.func31,Tryz.ntmps31;go_wp2;go_ret;exact⟨Az9 (bs_l _ _),Az6 w _⟩
theorem Jzg (n:Int) (w:World):
  Calls Tryz.prog 33 #[.int .i64 n] w fun e w'=>e= .returned (.bool (oddW n))∧w=w':=by
 go_enter Tryz.func33,Tryz.ntmps33;go_wp2
 all_goals go_ret
 all_goals refine⟨Az9 ?_,rfl⟩
 all_goals (rw[Bool.eq_iff_iff];simp[oddW];try omega)
theorem Jzh (n:ByteArray) (V1 V2 V3:Value) (b:Nat) (s:ByteArray) (w:World) (h1:b<w.heap.size) (c1:w.cell? ⟨b,0,none⟩=some (.string s)):
  Calls Tryz.prog 37 #[.agg #[.string n,V1,V2,V3], .pointer (some ⟨b,0,none⟩)] w fun e w'=>e= .returned (.bool (n == s))∧Below w.heap.size w w':=by
 go_enter Tryz.func37,Tryz.ntmps37;go_wp2;go_ret;exact⟨Az9 (bs_l _ _),Az6 w _⟩
theorem Jzi (k:Krn) (x:Opn) (V0 V1 V3 V4 VE:Value) (A:Option Addr) (c:Nat) (b1 b2:Nat) (lv:Bool) (w:World) (h1:b1<w.heap.size) (h2:b2<w.heap.size)
  (c0:w.cell? ⟨b1,0,none⟩=some V0) (c1:w.cell? ⟨b1,1,none⟩=some V1) (c2:w.cell? ⟨b1,2,none⟩=some (.slice A k.nodes.length c)) (c3:w.cell? ⟨b1,3,none⟩=some V3) (c4:w.cell? ⟨b1,4,none⟩=some V4)
  (d0:w.cell? ⟨b2,0,none⟩=some (.bool lv)) (hr:RdD w w.heap.size A k.nodes) (hl:k.nodes.length=8):
  Calls Tryz.prog 40 #[.agg #[.int .i64 x.kind, .int .i64 x.node, .int .i64 x.pos], .pointer (some ⟨b1,0,none⟩), .pointer (some ⟨b2,0,none⟩)] w fun e w'=>e= .returned (.bool (!endOk k x || (!lv && (x.kind != 0))))∧Below w.heap.size w w':=by
 have hb:=Az6 w (.cells #[.int .i64 x.kind, .int .i64 x.node, .int .i64 x.pos] 54);have HE:=Lib.hid (Rz1 V0 V1 V3 V4 A c k x (w.alloc (.cells #[.int .i64 x.kind, .int .i64 x.node, .int .i64 x.pos] 54)) ((hr.below hb).more hb.size) hl);clear hr hl;cases he:endOk k x with
 | false=>
   rw[he] at HE;have H:=Lib.hid he;clear he;go_enter Tryz.func40,Tryz.ntmps40;go_wp2_with fail;refine HE.out.mono ?_;rintro e w1 ⟨rfl,hb1⟩;go_wp2;go_ret;exact⟨Az9 (by simp),hb.trans (hb1.mono hb.size)⟩
 | true=>
   rw[he] at HE;have H:=Lib.hid he;clear he;cases lv
   all_goals
    go_enter Tryz.func40,Tryz.ntmps40;go_wp2_with fail;refine HE.out.mono ?_;rintro e w1 ⟨rfl,hb1⟩;obtain⟨hc1,hf1⟩:=Ize hb1;have hbw:=hb.trans (hb1.mono hb.size);have hz1:w.heap.size<w1.heap.size:=Nat.lt_of_lt_of_le (by simp) hb1.size;have e0:=(hbw.cell (p:=⟨b2,0,none⟩) h2).trans d0;go_wp2
    all_goals go_ret
    all_goals exact⟨Az9 (by simp),hbw⟩
structure After (w:World) where
 w':World
 h:Below w.heap.size w w'
instance (w : World) : Nonempty (After w) := ⟨⟨w, Below.refl _ w⟩⟩
theorem After.cell {w:World} (x:After w) (b o:Nat) (h:b<w.heap.size):x.w'.cell? ⟨b,o,none⟩=w.cell? ⟨b,o,none⟩:=x.h.cell (p:=⟨b,o,none⟩) h
theorem Azb {P:Program} {id:Nat} {Q:Exit→Act→World→Prop} {a:Act} {w:World} {l:List Oper} (hm:P.follows .mixedOrders=true) (hB:Region.lexB .any l.toArray=true)
  (h:wpQuiet P l.toArray (fun w'=>∃ x:After w,w'=x.w') (fun a'=>∀ w',(∃ x:After w,w'=x.w')→Q .normal a' w') l a):(Code.region id l.toArray true).wp P Q a w:=
 wp_region_quiet (C:=fun w'=>∃ x:After w,w'=x.w') hm hB ⟨⟨_,Below.drewN' (Below.refl _ w) 1⟩,rfl⟩ (by simpa using h)
theorem Calls.calm {P:Program} {f:FuncId} {args:Array Value} {w:World} {x:After w} {v:Value}
  (h:Calls P f args x.w' fun e w'=>e= .returned v∧Below x.w'.heap.size x.w' w'):Calls P f args x.w' fun e w''=>e= .returned v∧∃ y:After w,w''=y.w':=
 h.mono fun _ _ ⟨he,hb⟩=>⟨he,⟨⟨_,x.h.trans (hb.mono x.h.size)⟩,rfl⟩⟩
theorem Calls.calm_same {P:Program} {f:FuncId} {args:Array Value} {w:World} {x:After w} {v:Value}
  (h:Calls P f args x.w' fun e w'=>e= .returned v∧x.w'=w'):Calls P f args x.w' fun e w''=>e= .returned v∧∃ y:After w,w''=y.w':=
 h.mono fun _ _ ⟨he,hb⟩=>⟨he,⟨x,hb.symm⟩⟩
theorem Dz7 {α:Type} {p:α→Bool} {l:List α} {n:Nat} (h:n<l.length):(l.drop n).any p=(p l[n] || (l.drop (n+1)).any p):=by
 rw[List.drop_eq_getElem_cons h,List.any_cons]
theorem Cz4 (V0 V1 V2 V3:Value) (A:Option Addr) (c:Nat) (ps:List Prc) (kind pl:Int) (w:World) (hr:RdP w w.heap.size A ps) (hl:ps.length≤maxLen):
  Calls Tryz.prog 61 #[.agg #[V0,V1,V2,V3, .slice A ps.length c], .int .i64 kind, .int .i64 pl] w fun e w'=>e= .returned (.bool (hasE ps kind pl))∧Below w.heap.size w w':=by
 unfold maxLen at hl;have hB0:=Az6 w (.cells #[V0,V1,V2,V3, .slice A ps.length c] 30);have HR:=Lib.hid ((hr.below hB0).more hB0.size);have HX:=Lib.hid (Blk.new w 30 #[V0,V1,V2,V3, .slice A ps.length c]);have hlt0:=HX.out.lt;have HB:=Lib.hid hB0;clear hr hB0;go_enter Tryz.func61,Tryz.ntmps61;go_wp2;generalize w.alloc (.cells #[V0,V1,V2,V3, .slice A ps.length c] 30)=W0 at*;go_loopw [7] (fun i wr=>Cnt ps.length i fun n=>Below W0.heap.size W0 wr∧Hid (hasE ps kind pl=(ps.drop n).any (hasP kind pl))) (fun i _=>ps.length - (intOf i).toNat)
 case atStart=>exact⟨0,Nat.zero_le _,rfl,Below.refl _ _,rfl⟩
 case round=>
  obtain⟨n,hn,rfl,hb,HE⟩:=hrel;have c4:=(HX.out.below hb hlt0).cell 4;simp at c4;by_cases hlt:n<ps.length
  ·obtain⟨b,o,rfl,hbB,hcell⟩:=(HR.out.below hb) (by omega)
   obtain⟨A1,c1,z0,z1,hz⟩:=hcell n hlt;obtain⟨x,hx⟩:∃ x,x=ps[n]:=⟨_,rfl⟩;have HD:=Lib.hid (Dz7 (p:=hasP kind pl) hlt);rw[←hx] at z0 z1 hz HD;have hbs:b<wr.heap.size:=Nat.lt_of_lt_of_le hbB hb.size;have hel:x.ends.length≤9223372036854775807:=by have:=hz.el;omega
   have HZ:=Lib.hid ((hz.ends.more hb.size));have HW:=Lib.hid hb;have hkw:w.heap.size<wr.heap.size:=Nat.lt_of_lt_of_le hlt0 hb.size;clear hcell hz hb hx;go_wp2;obtain⟨wo,rfl⟩:∃ wo,wo=wr:=⟨_,rfl⟩;go_loopw [8] (fun i wq=>Cnt x.ends.length i fun m=>Below wo.heap.size wo wq∧Hid (hasP kind pl x=(x.ends.drop m).any fun y=>(y.kind == kind) && (y.node == pl))) (fun i _=>x.ends.length - (intOf i).toNat)
   case atStart=>exact⟨0,Nat.zero_le _,rfl,Below.refl _ _,rfl⟩
   case round=>
    obtain⟨m,hm,rfl,hbq,HQ⟩:=hrel;have c4q:=(hbq.cell (p:=⟨w.heap.size,4,none⟩) hkw).trans c4;have z1q:=(hbq.cell (p:=⟨b,_,none⟩) hbs).trans z1;have hbs':b<wr.heap.size:=Nat.lt_of_lt_of_le hbs hbq.size;have hkw':w.heap.size<wr.heap.size:=Nat.lt_of_lt_of_le hkw hbq.size;by_cases hlm:m<x.ends.length
    ·obtain⟨b',o',rfl,hbB',hcell'⟩:=(HZ.out.below hbq) (by omega)
     obtain⟨y0,y1,y2⟩:=hcell' m hlm;obtain⟨y,hy⟩:∃ y,y=x.ends[m]:=⟨_,rfl⟩;have HDQ:=Lib.hid (Dz7 (p:=fun y=>(y.kind == kind) && (y.node == pl)) hlm);rw[←hy] at y0 y1 y2 HDQ;have hbs2:b'<wr.heap.size:=Nat.lt_of_lt_of_le hbB' hbq.size;have hbx:=Az6 wr (.cells #[.int .i64 y.kind, .int .i64 y.node, .int .i64 y.pos] 54);have HW2:=Lib.hid (hbq.trans (hbx.mono hbq.size));clear hcell' hbq hy hbx c4 z1 z0;cases hk:((y.kind == kind) && (y.node == pl)) with
     | true=>
       have HF:Hid (hasE ps kind pl=true):=by show _=_;rw[HE.out,HD.out,HQ.out,HDQ.out,hk];rfl
       obtain⟨hk1,hk2⟩:=Bool.and_eq_true_iff.1 hk;have hf:=HB.out.trans ((HW.out.trans (HW2.out.mono HW.out.size)).mono (Nat.le_of_lt hlt0));clear hk;go_wp2;go_ret;exact⟨Az9 HF.out.symm,hf⟩
     | false=>
       have HG:Hid (hasP kind pl x=(x.ends.drop (m+1)).any fun y=>(y.kind == kind) && (y.node == pl)):=by show _=_;rw[HQ.out,HDQ.out,hk];rfl
       cases hk1:(y.kind == kind) with
       | false=>
         clear hk;go_wp2;go_roundw
         case rel=>exact⟨m+1,by omega,by go_num,HW2.out,HG⟩
         case measure=>simp[intOf];omega
       | true=>
         have hk2:(y.node == pl)=false:=by rw[hk1] at hk;simpa using hk
         clear hk;go_wp2;go_roundw
         case rel=>exact⟨m+1,by omega,by go_num,HW2.out,HG⟩
         case measure=>simp[intOf];omega
    ·have HG:Hid (hasE ps kind pl=(ps.drop (n+1)).any (hasP kind pl)):=by
      show _=_;rw[HE.out,HD.out,HQ.out,List.drop_of_length_le (by omega)];rfl
     have HF:=HW.out.trans (hbq.mono HW.out.size);clear HQ hbq;go_wp2;go_roundw
     case rel=>exact⟨n+1,by omega,by go_num,HF,HG⟩
     case measure=>simp[intOf];omega
  ·have HF:Hid (hasE ps kind pl=false):=by show _=_;rw[HE.out,List.drop_of_length_le (by omega)];rfl
   have hf:=HB.out.trans (hb.mono (Nat.le_of_lt hlt0));clear HE hb;go_wp2;go_ret;exact⟨Az9 HF.out.symm,hf⟩
attribute [local go_sem] After.cell
theorem Jzu:∀ args w,(callFunc 51 args).run Tryz.prog w= .ok (.enter 51 args) w:=fun args w=>by
 simp only[callFunc,run_program,Sem.run_bind,Result.andThen_ok,Tryz.func51];rfl
theorem Izz:∀ args w,(callFunc 83 args).run Tryz.prog w= .ok (.enter 83 args) w:=fun args w=>by
 simp only[callFunc,run_program,Sem.run_bind,Result.andThen_ok,Tryz.func83];rfl
theorem Jzz:∀ args w,(callFunc 50 args).run Tryz.prog w= .ok (.enter 50 args) w:=fun args w=>by
 simp only[callFunc,run_program,Sem.run_bind,Result.andThen_ok,Tryz.func50];rfl
theorem Mzz:∀ args w,(callFunc 54 args).run Tryz.prog w= .ok (.enter 54 args) w:=fun args w=>by
 simp only[callFunc,run_program,Sem.run_bind,Result.andThen_ok,Tryz.func54];rfl
theorem Nz6 (x:Nod) (b:Nat) (s:ByteArray) (w:World) (h1:b<w.heap.size) (c1:w.cell? ⟨b,0,none⟩=some (.string s)):
  Calls Tryz.prog 51 #[.agg #[.string x.name, .int .i64 x.kind, .string x.data, .int .i64 x.unit], .pointer (some ⟨b,0,none⟩)] w fun e w'=>e= .returned (.bool ((x.kind != 0) && (x.name == s)))∧Below w.heap.size w w':=by
 cases hk:(x.kind != 0)
 all_goals
  go_enter Tryz.func51,Tryz.ntmps51;go_wp2;go_ret;exact⟨Az9 (by first|rfl|exact bs_l _ _),Az6 w _⟩
theorem Mz7 (x:Opn) (w:World):
  Calls Tryz.prog 83 #[.agg #[.int .i64 x.kind, .int .i64 x.node, .int .i64 x.pos]] w fun e w'=>e= .returned (.bool (x.kind == 0))∧Below w.heap.size w w':=by
 go_enter Tryz.func83,Tryz.ntmps83;go_wp2;go_ret;exact⟨rfl,Az6 w _⟩
theorem Nzd (x:Nod) (w:World):
  Calls Tryz.prog 50 #[.agg #[.string x.name, .int .i64 x.kind, .string x.data, .int .i64 x.unit]] w fun e w'=>e= .returned (.bool (x.kind == 0))∧Below w.heap.size w w':=by
 go_enter Tryz.func50,Tryz.ntmps50;go_wp2;go_ret;exact⟨rfl,Az6 w _⟩
theorem Qzl (x:Prc) (A:Option Addr) (c:Nat) (w:World):
  Calls Tryz.prog 54 #[.agg #[.bool x.live, .slice A x.ends.length c]] w fun e w'=>e= .returned (.bool (!x.live))∧Below w.heap.size w w':=by
 go_enter Tryz.func54,Tryz.ntmps54;go_wp2;go_ret;exact⟨rfl,Az6 w _⟩
section
variable {B g:Nat} {a:KA} {k:Krn} {ms:List (Value × Value)} {es:List Value}
theorem Hzn (s:ByteArray) (w:World) (h:KS B w g a k ms es) (hl:k.nodes.length=8):
  Calls Tryz.prog 17 #[.agg #[.pointer (some ⟨g,0,none⟩)], .string s] w fun e w'=>e= .returned (.int .i64 (Bzm k s))∧Below w.heap.size w w':=by
 have hb1:=Az6 w (.cells #[.pointer (some ⟨g,0,none⟩)] 59);have hb2:=hb1.alloc hb1.size (.cells #[.string s] 9);have HR:=Lib.hid ((h.krn.nodes.below hb2).more hb2.size);have HB:=Lib.hid hb2;obtain⟨_,_,c2,_,_⟩:=h.c5;have hg:=h.blk.lt;have C1:=Lib.hid (show ∀ w2,Below ((w.alloc (.cells #[.pointer (some ⟨g,0,none⟩)] 59)).alloc (.cells #[.string s] 9)).heap.size ((w.alloc (.cells #[.pointer (some ⟨g,0,none⟩)] 59)).alloc (.cells #[.string s] 9)) w2→w.heap.size+1<w2.heap.size∧w2.cell? ⟨w.heap.size+1,0,none⟩=some (.string s) from fun w2 h2=>by
  have N:Blk ((w.alloc (.cells #[.pointer (some ⟨g,0,none⟩)] 59)).alloc (.cells #[.string s] 9)) (w.heap.size+1) 9 #[.string s]:=Blk.new' (by simp);exact⟨Nat.lt_of_lt_of_le N.lt h2.size,(N.below h2 N.lt).cell 0⟩)
 rw[hl] at c2;clear hb1 hb2 h;go_enter Tryz.func17,Tryz.ntmps17;go_wp2_with fail;have hi:=Dz6 51 #[.pointer (some ⟨w.heap.size+1,0,none⟩)] (fun x:Nod=>(x.kind != 0) && (x.name == s)) a.a2 a.c2 k.nodes _ HR.out (by rw[hl];unfold maxLen;omega) Jzu (fun y _ w2 hw2=>by
  obtain⟨q1,q2⟩:=C1.out w2 hw2;exact Nz6 y _ s w2 q1 q2)
 rw[hl] at hi;refine hi.mono ?_;rintro e w1 ⟨rfl,hb1⟩;go_wp2;go_ret;exact⟨rfl,HB.out.trans (hb1.mono HB.out.size)⟩
theorem Jz0 (b o:Nat) (A:Option Addr) (c:Nat) (l:List Opn) (w:World) (hb:b<w.heap.size) (hc:w.cell? ⟨b,o+1,none⟩=some (.slice A l.length c)) (hr:RdE w w.heap.size A l) (hl:l.length=6):
  Calls Tryz.prog 52 #[.pointer (some ⟨b,o,none⟩)] w fun e w'=>e= .returned (.int .i64 (Bzc l))∧Below w.heap.size w w':=by
 have HR:=Lib.hid hr;rw[hl] at hc;clear hr;go_enter Tryz.func52,Tryz.ntmps52;go_wp2_with fail;have hi:=Ez8 83 #[] (fun x:Opn=>x.kind == 0) A c l w HR.out (by rw[hl];unfold maxLen;omega) Izz (fun y _ w2 _=>Mz7 y w2);rw[hl] at hi;refine hi.mono ?_;rintro e w1 ⟨rfl,hb1⟩;go_wp2;go_ret;exact⟨rfl,hb1⟩
end
end Go.Proofs.YtdjamdbamkhblacGreatDoor
