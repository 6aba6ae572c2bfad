/- The walk of kern.Check: what it answers, for every kernel. Condition: the listed tables. A region that draws its order, whose operations only read old memory and whose callees leave old memory as it was: one walk, in the order of the text. No condition. The walk of the reference's HasEnd. The walks of the kernel's small searches: find, place, make's and by's; the reference's nodeAt, freeEnd. No condition. -/
import Derived.Test.YtdjamdbamkhblacDoorG16
set_option maxHeartbeats 1000000
namespace Go.Proofs.YtdjamdbamkhblacDoor
open Go.RowKit
set_option linter.unusedVariables false
set_option linter.unusedSimpArgs false
theorem bs_l (a b:ByteArray):(a.toList == b.toList)=(a == b):=by
 obtain⟨⟨x⟩⟩:=a;obtain⟨⟨y⟩⟩:=b;rw[show (⟨⟨x⟩⟩:ByteArray).toList=x from ByteArray.toList_mk x,show (⟨⟨y⟩⟩:ByteArray).toList=y from ByteArray.toList_mk y];show (x == y)=((⟨x⟩:Array UInt8) == ⟨y⟩);simp
theorem RdM.take {w:World} {B:Nat} {A:Option Addr} {l:List Mod} (h:RdM w B A l) (n:Nat):RdM w B A (l.take n):=fun hl=>by
 obtain⟨b,o,e,hb,hc⟩:=h (by rw[List.length_take] at hl;omega);refine⟨b,o,e,hb,fun k hk=>?_⟩;have:=hc k (by rw[List.length_take] at hk;omega);rw[List.getElem_take];exact this
theorem RdD.take {w:World} {B:Nat} {A:Option Addr} {l:List Nod} (h:RdD w B A l) (n:Nat):RdD w B A (l.take n):=fun hl=>by
 obtain⟨b,o,e,hb,hc⟩:=h (by rw[List.length_take] at hl;omega);refine⟨b,o,e,hb,fun k hk=>?_⟩;have:=hc k (by rw[List.length_take] at hk;omega);rw[List.getElem_take];exact this
structure Krn.small (k:Krn):Prop where
 nodes:∀ x∈k.nodes,x.name.size≤maxLen∧x.data.size≤maxLen
 pipes:∀ s∈k.pipes,s.size≤maxLen
theorem Blk.c5 {w:World} {g:Nat} {t:TypeId} {u0 u1 u2 u3 u4:Value} (h:Blk w g t #[u0,u1,u2,u3,u4]):w.cell? ⟨g,0,none⟩=some u0∧w.cell? ⟨g,1,none⟩=some u1∧w.cell? ⟨g,2,none⟩=some u2∧w.cell? ⟨g,3,none⟩=some u3∧w.cell? ⟨g,4,none⟩=some u4:=⟨h.cell 0,h.cell 1,h.cell 2,h.cell 3,h.cell 4⟩
theorem Blk.c4 {w:World} {g:Nat} {t:TypeId} {u0 u1 u2 u3:Value} (h:Blk w g t #[u0,u1,u2,u3]):w.cell? ⟨g,0,none⟩=some u0∧w.cell? ⟨g,1,none⟩=some u1∧w.cell? ⟨g,2,none⟩=some u2∧w.cell? ⟨g,3,none⟩=some u3:=⟨h.cell 0,h.cell 1,h.cell 2,h.cell 3⟩
theorem Nzg {k:Krn} {i:Nat} {x:Nod} (h1:Bzh k.mods.length x=false):Bze k i x=true:=by unfold Bze;rw[h1];rfl
theorem Ize {k:Krn} {i:Nat} {x:Nod} (h1:Bzh k.mods.length x=true) (h2:empS x.name=false):Bze k i x=(!Azu x.name || (x.kind == 0) || dupN (k.nodes.take i) x.name):=by unfold Bze;rw[h1,h2];simp
theorem Jzi {k:Krn} {i:Nat} {x:Nod} (h1:Bzh k.mods.length x=true) (h2:empS x.name=true):Bze k i x=((x.kind != 0) && !hasE k.procs 1 i):=by unfold Bze;rw[h1,h2];simp
theorem Lzb {l:List Mod} {n:Nat} (h:n<l.length):Czv (l.take n) (l.drop n)=if Az7 l[n]=0 then (if (l.take n).any (fun x=>x.name == l[n].name) then 7 else Czv (l.take (n+1)) (l.drop (n+1))) else Az7 l[n]:=by
 rw[List.drop_eq_getElem_cons h,Czv,List.take_succ_eq_append_getElem h]
theorem Hzs {α:Type} {p:Nat→α→Bool} {l:List α} {n:Nat} (h:n<l.length):anyI p (l.drop n) n=(p n l[n] || anyI p (l.drop (n+1)) (n+1)):=by
 rw[List.drop_eq_getElem_cons h,anyI]
theorem Gzv:∀ args w,(callFunc 43 args).run Tryd.prog w= .ok (.enter 43 args) w:=fun args w=>by
 simp only[callFunc,run_program,Sem.run_bind,Result.andThen_ok,Tryd.func43];rfl
theorem Gzw:∀ args w,(callFunc 45 args).run Tryd.prog w= .ok (.enter 45 args) w:=fun args w=>by
 simp only[callFunc,run_program,Sem.run_bind,Result.andThen_ok,Tryd.func45];rfl
theorem Gzx:∀ args w,(callFunc 49 args).run Tryd.prog w= .ok (.enter 49 args) w:=fun args w=>by
 simp only[callFunc,run_program,Sem.run_bind,Result.andThen_ok,Tryd.func49];rfl
theorem Gzy:∀ args w,(callFunc 52 args).run Tryd.prog w= .ok (.enter 52 args) w:=fun args w=>by
 simp only[callFunc,run_program,Sem.run_bind,Result.andThen_ok,Tryd.func52];rfl
theorem Izu (n:ByteArray) (V1 V2:Value) (b:Nat) (s:ByteArray) (w:World) (h1:b<w.heap.size) (c1:w.cell? ⟨b,0,none⟩=some (.string s)):
  Calls Tryd.prog 43 #[.agg #[.string n,V1,V2], .pointer (some ⟨b,0,none⟩)] w fun e w'=>e= .returned (.bool (n == s))∧Below w.heap.size w w':=by
 go_enter Tryd.func43,Tryd.ntmps43;go_wp2;go_ret;exact⟨Aza (bs_l _ _),Azc w _⟩
theorem Izv (n:Int) (w:World):
  Calls Tryd.prog 45 #[.int .i64 n] w fun e w'=>e= .returned (.bool (oddW n))∧w=w':=by
 go_enter Tryd.func45,Tryd.ntmps45;go_wp2
 all_goals go_ret
 all_goals refine⟨Aza ?_,rfl⟩
 all_goals (rw[Bool.eq_iff_iff];simp[oddW];try omega)
theorem Izw (n:ByteArray) (V1 V2 V3:Value) (b:Nat) (s:ByteArray) (w:World) (h1:b<w.heap.size) (c1:w.cell? ⟨b,0,none⟩=some (.string s)):
  Calls Tryd.prog 49 #[.agg #[.string n,V1,V2,V3], .pointer (some ⟨b,0,none⟩)] w fun e w'=>e= .returned (.bool (n == s))∧Below w.heap.size w w':=by
 go_enter Tryd.func49,Tryd.ntmps49;go_wp2;go_ret;exact⟨Aza (bs_l _ _),Azc w _⟩
theorem Izx (k:Krn) (x:Opn) (V0 V1 V3 V4 VE:Value) (A:Option Addr) (c:Nat) (b1 b2:Nat) (lv:Bool) (w:World) (h1:b1<w.heap.size) (h2:b2<w.heap.size)
  (c0:w.cell? ⟨b1,0,none⟩=some V0) (c1:w.cell? ⟨b1,1,none⟩=some V1) (c2:w.cell? ⟨b1,2,none⟩=some (.slice A k.nodes.length c)) (c3:w.cell? ⟨b1,3,none⟩=some V3) (c4:w.cell? ⟨b1,4,none⟩=some V4)
  (d0:w.cell? ⟨b2,0,none⟩=some (.bool lv)) (hr:RdD w w.heap.size A k.nodes) (hl:k.nodes.length=8):
  Calls Tryd.prog 52 #[.agg #[.int .i64 x.kind, .int .i64 x.node, .int .i64 x.pos], .pointer (some ⟨b1,0,none⟩), .pointer (some ⟨b2,0,none⟩)] w fun e w'=>e= .returned (.bool (!endOk k x || (!lv && (x.kind != 0))))∧Below w.heap.size w w':=by
 have hb:=Azc w (.cells #[.int .i64 x.kind, .int .i64 x.node, .int .i64 x.pos] 82);have HE:=Lib.hid (Qzu V0 V1 V3 V4 A c k x (w.alloc (.cells #[.int .i64 x.kind, .int .i64 x.node, .int .i64 x.pos] 82)) ((hr.below hb).more hb.size) hl);clear hr hl;cases he:endOk k x with
 | false=>
   rw[he] at HE;have H:=Lib.hid he;clear he;go_enter Tryd.func52,Tryd.ntmps52;go_wp2_with fail;refine HE.out.mono ?_;rintro e w1 ⟨rfl,hb1⟩;go_wp2;go_ret;exact⟨Aza (by simp),hb.trans (hb1.mono hb.size)⟩
 | true=>
   rw[he] at HE;have H:=Lib.hid he;clear he;cases lv
   all_goals
    go_enter Tryd.func52,Tryd.ntmps52;go_wp2_with fail;refine HE.out.mono ?_;rintro e w1 ⟨rfl,hb1⟩;obtain⟨hc1,hf1⟩:=Hzy hb1;have hbw:=hb.trans (hb1.mono hb.size);have hz1:w.heap.size<w1.heap.size:=Nat.lt_of_lt_of_le (by simp) hb1.size;have e0:=(hbw.cell (p:=⟨b2,0,none⟩) h2).trans d0;go_wp2
    all_goals go_ret
    all_goals exact⟨Aza (by simp),hbw⟩
structure After (w:World) where
 w':World
 h:Below w.heap.size w w'
instance (w : World) : Nonempty (After w) := ⟨⟨w, Below.refl _ w⟩⟩
theorem After.cell {w:World} (x:After w) (b o:Nat) (h:b<w.heap.size):x.w'.cell? ⟨b,o,none⟩=w.cell? ⟨b,o,none⟩:=x.h.cell (p:=⟨b,o,none⟩) h
theorem Bzk {P:Program} {id:Nat} {Q:Exit→Act→World→Prop} {a:Act} {w:World} {l:List Oper} (hm:P.follows .mixedOrders=true) (hB:Region.lexB .any l.toArray=true)
  (h:wpQuiet P l.toArray (fun w'=>∃ x:After w,w'=x.w') (fun a'=>∀ w',(∃ x:After w,w'=x.w')→Q .normal a' w') l a):(Code.region id l.toArray true).wp P Q a w:=
 wp_region_quiet (C:=fun w'=>∃ x:After w,w'=x.w') hm hB ⟨⟨_,Below.drewN' (Below.refl _ w) 1⟩,rfl⟩ (by simpa using h)
theorem Calls.calm {P:Program} {f:FuncId} {args:Array Value} {w:World} {x:After w} {v:Value}
  (h:Calls P f args x.w' fun e w'=>e= .returned v∧Below x.w'.heap.size x.w' w'):Calls P f args x.w' fun e w''=>e= .returned v∧∃ y:After w,w''=y.w':=
 h.mono fun _ _ ⟨he,hb⟩=>⟨he,⟨⟨_,x.h.trans (hb.mono x.h.size)⟩,rfl⟩⟩
attribute [local go_sem] After.cell
theorem Jz9:∀ args w,(callFunc 117 args).run Tryd.prog w= .ok (.enter 117 args) w:=fun args w=>by
 simp only[callFunc,run_program,Sem.run_bind,Result.andThen_ok,Tryd.func117];rfl
theorem Izf:∀ args w,(callFunc 139 args).run Tryd.prog w= .ok (.enter 139 args) w:=fun args w=>by
 simp only[callFunc,run_program,Sem.run_bind,Result.andThen_ok,Tryd.func139];rfl
theorem Jzg:∀ args w,(callFunc 116 args).run Tryd.prog w= .ok (.enter 116 args) w:=fun args w=>by
 simp only[callFunc,run_program,Sem.run_bind,Result.andThen_ok,Tryd.func116];rfl
theorem Mzi:∀ args w,(callFunc 120 args).run Tryd.prog w= .ok (.enter 120 args) w:=fun args w=>by
 simp only[callFunc,run_program,Sem.run_bind,Result.andThen_ok,Tryd.func120];rfl
theorem Mzq (x:Nod) (b:Nat) (s:ByteArray) (w:World) (h1:b<w.heap.size) (c1:w.cell? ⟨b,0,none⟩=some (.string s)):
  Calls Tryd.prog 117 #[.agg #[.string x.name, .int .i64 x.kind, .string x.data, .int .i64 x.unit], .pointer (some ⟨b,0,none⟩)] w fun e w'=>e= .returned (.bool ((x.kind != 0) && (x.name == s)))∧Below w.heap.size w w':=by
 cases hk:(x.kind != 0)
 all_goals
  go_enter Tryd.func117,Tryd.ntmps117;go_wp2;go_ret;exact⟨Aza (by first|rfl|exact bs_l _ _),Azc w _⟩
theorem Lzk (x:Opn) (w:World):
  Calls Tryd.prog 139 #[.agg #[.int .i64 x.kind, .int .i64 x.node, .int .i64 x.pos]] w fun e w'=>e= .returned (.bool (x.kind == 0))∧Below w.heap.size w w':=by
 go_enter Tryd.func139,Tryd.ntmps139;go_wp2;go_ret;exact⟨rfl,Azc w _⟩
theorem Nz3 (x:Nod) (w:World):
  Calls Tryd.prog 116 #[.agg #[.string x.name, .int .i64 x.kind, .string x.data, .int .i64 x.unit]] w fun e w'=>e= .returned (.bool (x.kind == 0))∧Below w.heap.size w w':=by
 go_enter Tryd.func116,Tryd.ntmps116;go_wp2;go_ret;exact⟨rfl,Azc w _⟩
theorem Qzh (x:Prc) (A:Option Addr) (c:Nat) (w:World):
  Calls Tryd.prog 120 #[.agg #[.bool x.live, .slice A x.ends.length c]] w fun e w'=>e= .returned (.bool (!x.live))∧Below w.heap.size w w':=by
 go_enter Tryd.func120,Tryd.ntmps120;go_wp2;go_ret;exact⟨rfl,Azc w _⟩
section
variable {B g:Nat} {a:KA} {k:Krn} {ms:List (Value × Value)} {es:List Value}
theorem Hz3 (s:ByteArray) (w:World) (h:KS B w g a k ms es) (hl:k.nodes.length=8):
  Calls Tryd.prog 79 #[.agg #[.pointer (some ⟨g,0,none⟩)], .string s] w fun e w'=>e= .returned (.int .i64 (Bzp k s))∧Below w.heap.size w w':=by
 have hb1:=Azc w (.cells #[.pointer (some ⟨g,0,none⟩)] 138);have hb2:=hb1.alloc hb1.size (.cells #[.string s] 9);have HR:=Lib.hid ((h.krn.nodes.below hb2).more hb2.size);have HB:=Lib.hid hb2;obtain⟨_,_,c2,_,_⟩:=h.c5;have hg:=h.blk.lt;have C1:=Lib.hid (show ∀ w2,Below ((w.alloc (.cells #[.pointer (some ⟨g,0,none⟩)] 138)).alloc (.cells #[.string s] 9)).heap.size ((w.alloc (.cells #[.pointer (some ⟨g,0,none⟩)] 138)).alloc (.cells #[.string s] 9)) w2→w.heap.size+1<w2.heap.size∧w2.cell? ⟨w.heap.size+1,0,none⟩=some (.string s) from fun w2 h2=>by
  have N:Blk ((w.alloc (.cells #[.pointer (some ⟨g,0,none⟩)] 138)).alloc (.cells #[.string s] 9)) (w.heap.size+1) 9 #[.string s]:=Blk.new' (by simp);exact⟨Nat.lt_of_lt_of_le N.lt h2.size,(N.below h2 N.lt).cell 0⟩)
 rw[hl] at c2;clear hb1 hb2 h;go_enter Tryd.func79,Tryd.ntmps79;go_wp2_with fail;have hi:=Czq 117 #[.pointer (some ⟨w.heap.size+1,0,none⟩)] (fun x:Nod=>(x.kind != 0) && (x.name == s)) a.a2 a.c2 k.nodes _ HR.out (by rw[hl];unfold maxLen;omega) Jz9 (fun y _ w2 hw2=>by
  obtain⟨q1,q2⟩:=C1.out w2 hw2;exact Mzq y _ s w2 q1 q2)
 rw[hl] at hi;refine hi.mono ?_;rintro e w1 ⟨rfl,hb1⟩;go_wp2;go_ret;exact⟨rfl,HB.out.trans (hb1.mono HB.out.size)⟩
theorem Izg (b o:Nat) (A:Option Addr) (c:Nat) (l:List Opn) (w:World) (hb:b<w.heap.size) (hc:w.cell? ⟨b,o+1,none⟩=some (.slice A l.length c)) (hr:RdE w w.heap.size A l) (hl:l.length=6):
  Calls Tryd.prog 118 #[.pointer (some ⟨b,o,none⟩)] w fun e w'=>e= .returned (.int .i64 (Cz4 l))∧Below w.heap.size w w':=by
 have HR:=Lib.hid hr;rw[hl] at hc;clear hr;go_enter Tryd.func118,Tryd.ntmps118;go_wp2_with fail;have hi:=Dzz 139 #[] (fun x:Opn=>x.kind == 0) A c l w HR.out (by rw[hl];unfold maxLen;omega) Izf (fun y _ w2 _=>Lzk y w2);rw[hl] at hi;refine hi.mono ?_;rintro e w1 ⟨rfl,hb1⟩;go_wp2;go_ret;exact⟨rfl,hb1⟩
end
end Go.Proofs.YtdjamdbamkhblacDoor
