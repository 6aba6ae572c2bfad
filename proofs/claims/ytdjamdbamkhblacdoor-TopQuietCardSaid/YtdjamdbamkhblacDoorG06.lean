/- A round of K.Plain's loop: joined. No condition. The walk of K.Plain: plain code of raw things, as plain data. No condition. The first place at which a predicate holds in a list: plain facts. The walks of slices.IndexFunc and slices.ContainsFunc at one element type: for every predicate whose calls leave old memory as it was. The walks of safe.plain and of its reference: may code be made such? No condition. The walks of safe.plain and of its reference. What a step may touch: only blocks of one element type, and new ones: no condition. -/
import Derived.Test.YtdjamdbamkhblacDoorKPlainU
set_option maxHeartbeats 8000000
set_option maxRecDepth 1000000
namespace Go.Proofs.YtdjamdbamkhblacDoor
open Go.RowKit
set_option linter.unusedVariables false
set_option linter.unusedSimpArgs false
theorem Tz4 (w0 wr:World) (c n k:Nat) (A:Option Addr) (l:List Ins) (V:Value) (u:Nat→Value) (Q0:Exit→Act→World→Prop) (hk:k<n) (hn:n≤l.length) (hn30:n≤30) (hr:RdI w0 w0.heap.size A l) (hwf:∀ i∈l,i.wf)
  (hB:Below w0.heap.size w0 wr) (hV:wr.ownsRow w0.heap.size 65 4 V k (Az1 (Aze l n k))):
  Code.wp Tryd.prog Lzj (Exit.then (fun a' w''=>PWI w0 c n A l a' w''∧pmu n a' w''<n - k) Q0) ⟨#[.slice A l.length c,u 1,u 2, .int .i64 (n:Int),V,u 5,u 6,u 7,u 8,u 9,u 10, .int .i64 (n:Int), .int .i64 (k:Int),u 13,u 14,u 15,u 16,u 17,u 18,u 19,u 20,u 21,u 22,u 23,u 24,u 25,u 26,u 27,u 28,u 29,u 30,u 31,u 32,u 33,u 34,u 35,u 36,u 37,u 38,u 39,u 40,u 41,u 42,u 43,u 44,u 45,u 46,u 47,u 48,u 49,u 50,u 51,u 52,u 53,u 54,u 55,u 56,u 57,u 58,u 59,u 60,u 61,u 62,u 63,u 64,u 65,u 66,u 67,u 68,u 69,u 70,u 71,u 72,u 73,u 74,u 75,u 76,u 77,u 78,u 79,u 80,u 81,u 82,u 83,u 84,u 85,u 86,u 87,u 88,u 89,u 90,u 91,u 92,u 93,u 94,u 95,u 96,u 97,u 98,u 99,u 100,u 101,u 102,u 103,u 104,u 105,u 106,u 107,u 108,u 109,u 110,u 111,u 112,u 113,u 114,u 115,u 116,u 117,u 118],[]⟩ wr:=by
 have h:=Rza l k;have h5:pkOf l k=0∨pkOf l k=1∨pkOf l k=2∨pkOf l k=3∨pkOf l k=4∨pkOf l k=5∨pkOf l k=6∨pkOf l k=7∨pkOf l k=8∨pkOf l k=10∨pkOf l k=13∨pkOf l k=9∨pkOf l k=11∨pkOf l k=12:=by omega
 exact Szm w0 wr c n k A l V u Q0 h5 hk hn hn30 hr hwf hB hV
theorem Nzn (w0:World) (c n:Nat) (A:Option Addr) (l:List Ins) (Q0:Exit→Act→World→Prop) (hn:n≤l.length) (hn30:n≤30) (hr:RdI w0 w0.heap.size A l) (hwf:∀ i∈l,i.wf) (hQ:∀ a w',PWX w0 c n A l a w'→Q0 (.exit 0) a w') (a:Act) (wr:World) (hI:PWI w0 c n A l a wr):
  Code.wp Tryd.prog Lzj (Exit.then (fun a' w''=>PWI w0 c n A l a' w''∧pmu n a' w''<pmu n a wr) Q0) a wr:=by
 obtain⟨h0,h1,h2,h3,h4,k,V,h5,h6,hk,hV,hB⟩:=hI;obtain⟨t,d⟩:=a;simp only at h0 h1 h2 h3 h4 h5 h6;subst h0;have hmu:pmu n ⟨t,[]⟩ wr=n - k:=by
  unfold pmu;simp only;rw[h5];simp
 rw[hmu];obtain⟨u,rfl⟩:=Jzs t h1;have e0:u 0= .slice A l.length c:=Option.some.inj h2;have e3:u 3= .int .i64 (n:Int):=Option.some.inj h3;have e11:u 11= .int .i64 (n:Int):=Option.some.inj h4;have e12:u 12= .int .i64 (k:Int):=Option.some.inj h5;have e4:u 4=V:=Option.some.inj h6;rw[e0,e3,e11,e12,e4];rcases Nat.lt_or_ge k n with h|h
 ·exact Tz4 w0 wr c n k A l V u Q0 h hn hn30 hr hwf hB hV
 ·exact Szl w0 wr c n k A l V u Q0 (by omega) hB hV hQ
theorem Tz5 (w0:World) (c n:Nat) (A:Option Addr) (l:List Ins) (Q0:Exit→Act→World→Prop) (hn:n≤l.length) (hn30:n≤30) (hr:RdI w0 w0.heap.size A l) (hwf:∀ i∈l,i.wf) (hQ:∀ a w',PWX w0 c n A l a w'→Q0 (.exit 0) a w') (a:Act) (wr:World) (hI:PWI w0 c n A l a wr):
  Code.wp Tryd.prog (Code.loop Lzj) Q0 a wr:=
 wp_loop (PWI w0 c n A l) (pmu n) hI fun a' w' h=>Nzn w0 c n A l Q0 hn hn30 hr hwf hQ a' w' h
theorem Kzq (A:Option Addr) (c:Nat) (l:List Ins) (w:World) (hr:RdI w w.heap.size A l) (hwf:∀ i∈l,i.wf) (hl:l.length≤maxLen):
  Calls Tryd.prog 71 #[.slice A l.length c] w fun e w'=>∃ V,e= .returned V∧w'.ownsRow w.heap.size 65 4 V (Azl l).length (Az1 (Azl l))∧Below w.heap.size w w':=by
 have HL:=Lib.hid hl;have HWF:=Lib.hid hwf;have hU:=Tryd.underlying56;obtain⟨i0,hi0,hz0,hz1,hz2⟩:=info_parts Fzz;unfold maxLen at hl;obtain⟨n,hn⟩:∃ n,n=Czn l:=⟨_,rfl⟩;have hn1:n≤l.length:=by rw[hn];unfold Czn;omega
 have hn2:n≤30:=by rw[hn];unfold Czn;omega
 have hn3:(30:Int)<(l.length:Int)→n=30:=by rw[hn];unfold Czn;omega
 have hn4:¬ (30:Int)<(l.length:Int)→n=l.length:=by rw[hn];unfold Czn;omega
 have HN:=Lib.hid hn;have H1:=Lib.hid hn1;clear hwf hn hn1;go_enter Tryd.func71,Tryd.ntmps71;go_wp2
 all_goals
  have en:(n:Int)=30∧(30:Int)≤l.length∨n=l.length∧¬ (30:Int)<l.length:=by omega
  show Code.wp Tryd.prog (Code.loop Lzj) _ _ _;refine Tz5 w c n A l _ H1.out hn2 hr HWF.out (fun a' w2 hX=>?_) _ _ ⟨rfl,rfl,rfl,?_,?_,0, .slice none 0 0,rfl,rfl,Nat.zero_le _,World.ownsRow_nil _ _ _ _,Below.refl _ _⟩
  ·obtain⟨h0,h1,h2,V,h4,hV,hB⟩:=hX
   obtain⟨t,d⟩:=a';simp only at h0 h1 h2 h4;subst h0;obtain⟨u,rfl⟩:=Jzs t h1;have e4:u 4=V:=Option.some.inj h4;subst e4;have e2:=hB.size;clear h1 h2 h4
   go_wp2_with (at_builtin
                refine Az4 _ rfl (.tmp 115) (.tmp 117) _ rfl w.heap.size 65 i0 _ 4 32 hU hi0 hz0 hz1 hz2 rfl (by omega) (u 4) n (Az1 (Aze l n n)) rfl (hV.alloc _) _ (some ⟨w2.heap.size,0,none⟩) 1 1 (Az1 [⟨13,0,0,0⟩]) rfl ((Blk.new w2 _ _).rd 1 4 (by simp)) (Azh _) ?len ?byt ?bas ?_
                case len=>(unfold maxLen;omega)
                case byt=>omega
                case bas=>(simp;omega)
                intro v3 w3 hv3 hg3 _)
   refine bodyPost_ret (v:=v3) (by simp[results,Tryd.results71,go_sem]) rfl ?_;refine⟨v3,rfl,?_,(hB.alloc e2 _).grown hg3 (by simp;omega) (fun q hq=>(hV.lt q hq).1)⟩;have e:Azl l=Aze l n n++ [⟨13,0,0,0⟩]:=by rw[HN.out];rfl
   rw[e,Ez6,List.length_append,Bzy];exact hv3
  ·show some _=some _
   first|rfl|(rw[show (n:Int)=30 by omega];rfl)|(rw[show (n:Int)=l.length by omega];rfl)
  ·show some _=some _
   first|rfl|(rw[show (n:Int)=30 by omega];rfl)|(rw[show (n:Int)=l.length by omega];rfl)
def idxF {α:Type} (p:α→Bool):List α→Nat→Int
 | [],_=> -1
 | x::r,k=>if p x then (k:Int) else idxF p r (k+1)
theorem Cz8 {α:Type} {p:α→Bool} {l:List α} {k:Nat} (h:k<l.length):idxF p (l.drop k) k=if p l[k] then (k:Int) else idxF p (l.drop (k+1)) (k+1):=by
 rw[List.drop_eq_getElem_cons h];rfl
theorem Czg {α:Type} (p:α→Bool):∀ (l:List α) (k:Nat),decide (0≤idxF p l k)=l.any p
 | [],k=>by simp[idxF]
 | x::r,k=>by
   rw[idxF,List.any_cons];cases hp:p x with
   | true=>simp
   | false=>simpa using Czg p r (k+1)
theorem Gzs (F:FuncId) (cp:Array Value) (p:Ins→Bool) (A:Option Addr) (c:Nat) (l:List Ins) (w:World) (hr:RdI w w.heap.size A l) (hl:l.length≤maxLen)
  (eg:∀ args w,(callFunc F args).run Tryd.prog w= .ok (.enter F args) w)
  (hp:∀ x∈l,∀ (w1:World),Below w.heap.size w w1→Calls Tryd.prog F (#[.agg #[.int .i64 x.op, .int .i64 x.a, .int .i64 x.b, .int .i64 x.c]]++cp) w1 fun e w'=>e= .returned (.bool (p x))∧Below w1.heap.size w1 w'):
  Calls Tryd.prog 154 #[.slice A l.length c, .func (.func F) #[] cp] w fun e w'=>e= .returned (.int .i64 (idxF p l 0))∧Below w.heap.size w w':=by
 unfold maxLen at hl;have HP:=Lib.hid hp;clear hp;go_enter Tryd.func154,Tryd.ntmps154;go_wp2;go_loopw [8] (fun i wr=>Cnt l.length i fun k=>Below w.heap.size w wr∧Hid (idxF p l 0=idxF p (l.drop k) k)) (fun i _=>l.length - (intOf i).toNat)
 case atStart=>exact⟨0,Nat.zero_le _,rfl,Below.refl _ _,rfl⟩
 case round=>
  obtain⟨k,hk,rfl,hb,HV⟩:=hrel;by_cases hlt:k<l.length
  ·obtain⟨b,o,rfl,hbB,hcell⟩:=hr (by omega)
   obtain⟨c0,c1,c2,c3⟩:=hcell k hlt;rw[←hb.cell (p:=⟨b,_,none⟩) hbB] at c0 c1 c2 c3;have HD:=Lib.hid (Cz8 (p:=p) hlt);have HM:=Lib.hid (List.getElem_mem hlt);clear hr hcell;cases hpk:p l[k] with
   | true=>
     have HK:=Lib.hid hpk;clear hpk;go_wp2_with fail;refine(HP.out _ HM.out _ hb).mono ?_;rw[HK.out];rintro e w1 ⟨rfl,hb1⟩;go_wp2;go_ret;exact⟨Azb (by rw[HV.out,HD.out,if_pos HK.out]),hb.trans (hb1.mono hb.size)⟩
   | false=>
     have HK:=Lib.hid hpk;clear hpk;go_wp2_with fail;refine(HP.out _ HM.out _ hb).mono ?_;rw[HK.out];rintro e w1 ⟨rfl,hb1⟩;go_wp2;go_roundw
     case rel=>exact⟨k+1,by omega,by go_num,hb.trans (hb1.mono hb.size),by show _=_;rw[HV.out,HD.out,if_neg (by rw[HK.out];decide)]⟩
     case measure=>simp[intOf];omega
  ·go_wp2
   go_ret;exact⟨Azb (by rw[HV.out,List.drop_of_length_le (by omega)];rfl),hb⟩
theorem Fzk (F:FuncId) (cp:Array Value) (p:Ins→Bool) (A:Option Addr) (c:Nat) (l:List Ins) (w:World) (hr:RdI w w.heap.size A l) (hl:l.length≤maxLen)
  (eg:∀ args w,(callFunc F args).run Tryd.prog w= .ok (.enter F args) w)
  (hp:∀ x∈l,∀ (w1:World),Below w.heap.size w w1→Calls Tryd.prog F (#[.agg #[.int .i64 x.op, .int .i64 x.a, .int .i64 x.b, .int .i64 x.c]]++cp) w1 fun e w'=>e= .returned (.bool (p x))∧Below w1.heap.size w1 w'):
  Calls Tryd.prog 134 #[.slice A l.length c, .func (.func F) #[] cp] w fun e w'=>e= .returned (.bool (l.any p))∧Below w.heap.size w w':=by
 have HP:=Lib.hid hp;have HE:=Lib.hid eg;clear hp eg;go_enter Tryd.func134,Tryd.ntmps134;go_wp2_with fail;refine(Gzs F cp p A c l w hr hl HE.out HP.out).mono ?_;rintro e w1 ⟨rfl,hb1⟩;go_wp2
 all_goals go_ret
 all_goals refine⟨Aza ?_,hb1⟩
 all_goals rw[←Czg p l 0]
theorem Below.one' (w:World) (o:Obj):Below w.heap.size w (w.alloc o):=(Below.refl _ _).alloc (Nat.le_refl _) o
def Ezb (l:List Ins):Bool:=Dz3 l && !(l.any (Azt l.length))
theorem Hzd (n:Int) (w:World):Calls Tryd.prog 136 #[.int .i64 n] w fun e w'=>e= .returned (.bool (oddB n))∧w=w':=by
 go_enter Tryd.func136,Tryd.ntmps136;go_wp2
 all_goals go_ret
 all_goals refine⟨Aza ?_,rfl⟩
 all_goals (rw[Bool.eq_iff_iff];simp[oddB];omega)
theorem Cz3 (n:Nat) (i:Ins):Azt n i=(oddB i.a || oddB i.b || ((decide (2≤i.op) && decide (i.op≤7)) && oddB i.c) || (((i.op == 10) || (i.op == 11) || (i.op == 12)) && decide ((n:Int)≤i.c))):=by
 rw[Bool.eq_iff_iff];simp[Azt,jmpB,or_assoc]
theorem Lzl (x:Ins) (b n c:Nat) (A:Option Addr) (w:World) (hb:b<w.heap.size) (hc:w.cell? ⟨b,0,none⟩=some (.slice A n c)) (hn:n≤maxLen):
  Calls Tryd.prog 135 #[.agg #[.int .i64 x.op, .int .i64 x.a, .int .i64 x.b, .int .i64 x.c], .pointer (some ⟨b,0,none⟩)] w fun e w'=>e= .returned (.bool (Azt n x))∧Below w.heap.size w w':=by
 have HF:=Lib.hid (Cz3 n x);have HN:=Lib.hid hn;unfold maxLen at hn;obtain⟨o,y,z,u⟩:=x;simp only at HF ⊢;have hz:w.heap.size≤(w.alloc (.cells #[.int .i64 o, .int .i64 y, .int .i64 z, .int .i64 u] 65)).heap.size:=by simp
 have HB:=Lib.hid (Below.one' w (.cells #[.int .i64 o, .int .i64 y, .int .i64 z, .int .i64 u] 65));clear hz;cases h1:oddB y with
 | true=>
   go_enter Tryd.func135,Tryd.ntmps135;go_wp2_with (first|(go_at_call 136;refine(Hzd _ _).mono ?_;rintro e w' ⟨rfl,rfl⟩))
   all_goals (go_ret;exact⟨Aza (by rw[Cz3];simp[h1]),Below.one' _ _⟩)
 | false=>
   cases h2:oddB z with
   | true=>
     go_enter Tryd.func135,Tryd.ntmps135;go_wp2_with (first|(go_at_call 136;refine(Hzd _ _).mono ?_;rintro e w' ⟨rfl,rfl⟩))
     all_goals (go_ret;exact⟨Aza (by rw[Cz3];simp[h1,h2]),Below.one' _ _⟩)
   | false=>
     cases h3:oddB u with
     | true=>
       go_enter Tryd.func135,Tryd.ntmps135;go_wp2_with (first|(go_at_call 136;refine(Hzd _ _).mono ?_;rintro e w' ⟨rfl,rfl⟩))
       all_goals go_ret
       all_goals refine⟨Aza ?_,Below.one' _ _⟩
       all_goals rw[Cz3]
       all_goals simp[*]
       all_goals omega
     | false=>
       go_enter Tryd.func135,Tryd.ntmps135;go_wp2_with (first|(go_at_call 136;refine(Hzd _ _).mono ?_;rintro e w' ⟨rfl,rfl⟩))
       all_goals go_ret
       all_goals refine⟨Aza ?_,Below.one' _ _⟩
       all_goals rw[Cz3]
       all_goals simp[*]
       all_goals omega
theorem Izh:∀ args w,(callFunc 135 args).run Tryd.prog w= .ok (.enter 135 args) w:=fun args w=>by
 simp only[callFunc,run_program,Sem.run_bind,Result.andThen_ok,Tryd.func135];rfl
theorem Lz5 {l:List Ins} (h:l.length=0):Dz3 l=false:=by rw[List.eq_nil_of_length_eq_zero h];rfl
theorem Lz6 {l:List Ins} (h:0<l.length):Dz3 l=endB l[l.length - 1]:=by
 unfold Dz3;rw[List.getLast?_eq_getElem?,List.getElem?_eq_getElem (by omega)]
theorem Hzq (A:Option Addr) (c:Nat) (l:List Ins) (w:World) (hr:RdI w w.heap.size A l) (hl:l.length≤maxLen):
  Calls Tryd.prog 111 #[.slice A l.length c] w fun e w'=>e= .returned (.bool (Ezb l))∧Below w.heap.size w w':=by
 have HL:=Lib.hid hl;unfold maxLen at hl;by_cases hn0:l.length=0
 ·have hn1:((l.length:Int) == 0)=true:=by simp[hn0]
  have HN:=Lib.hid hn0;clear hn0;go_enter Tryd.func111,Tryd.ntmps111;go_wp2;go_ret;exact⟨Aza (by rw[Ezb,Lz5 HN.out];rfl),Below.one' _ _⟩
 ·have hn1:((l.length:Int) == 0)=false:=by rw[beq_eq_false_iff_ne];omega
  have hr0:=hr;obtain⟨b,o,rfl,hbB,hcell⟩:=hr (by omega);have hp0:0<l.length:=by omega
  have hp1:l.length - 1<l.length:=by omega
  obtain⟨c0,c1,c2,c3⟩:=hcell (l.length - 1) hp1;have HE:=Lib.hid (Lz6 hp0);have hb1:=Below.one' w (.cells #[.slice (some ⟨b,o,none⟩) l.length c] 56);have HR:=Lib.hid ((hr0.below hb1).more hb1.size);clear hr hr0 hcell hn0;cases hlast:endB l[l.length - 1] with
  | false=>
    have hend:endB ⟨l[l.length - 1].op,l[l.length - 1].a,l[l.length - 1].b,l[l.length - 1].c⟩=false:=hlast;have HX:=Lib.hid hlast;clear hlast;go_enter Tryd.func111,Tryd.ntmps111;go_wp2_with (go_at_call 123;refine(Fzo _ _ _ _ _).mono ?_;rintro e w2 ⟨rfl,rfl⟩);go_ret;exact⟨Aza (by rw[Ezb,HE.out,HX.out];rfl),hb1.alloc hb1.size _⟩
  | true=>
    have hend:endB ⟨l[l.length - 1].op,l[l.length - 1].a,l[l.length - 1].b,l[l.length - 1].c⟩=true:=hlast;have HX:=Lib.hid hlast;clear hlast;go_enter Tryd.func111,Tryd.ntmps111;go_wp2_with (go_at_call 123;refine(Fzo _ _ _ _ _).mono ?_;rintro e w2 ⟨rfl,rfl⟩);have hb2:=hb1.alloc hb1.size (.cells #[.int .i64 l[l.length - 1].op, .int .i64 l[l.length - 1].a, .int .i64 l[l.length - 1].b, .int .i64 l[l.length - 1].c] 65);refine(Fzk 135 #[.pointer (some ⟨w.heap.size,0,none⟩)] (Azt l.length) (some ⟨b,o,none⟩) c l _ ((HR.out.below (Below.one' _ _)).more (Below.one' _ _).size) HL.out Izh (fun x _ w2 hw2=>?_)).mono ?_
    ·refine Lzl x w.heap.size l.length c (some ⟨b,o,none⟩) w2 (Nat.lt_of_lt_of_le (by simp;omega) hw2.size) ((hw2.cell (p:=⟨w.heap.size,0,none⟩) (by simp;omega)).trans (by simp)) HL.out
    rintro e w3 ⟨rfl,hb3⟩;go_wp2;go_ret;exact⟨Aza (by rw[Ezb,HE.out,HX.out,Bool.true_and]),hb2.trans (hb3.mono hb2.size)⟩
structure Tch (t:TypeId) (w w':World):Prop where
 os:w'.os=w.os
 tape:w'.tape=w.tape
 output:w'.output=w.output
 size:w.heap.size≤w'.heap.size
 block:∀ q,q<w.heap.size→(∀ cs fr,w.heap[q]? ≠some (.cells cs t fr))→w'.heap[q]? =w.heap[q]?
theorem Tch.of_below {t:TypeId} {w w':World} (h:Below w.heap.size w w'):Tch t w w':=⟨h.os,h.tape,h.output,h.size,fun q hq _=>h.block q hq⟩
theorem Tch.of_grown {t:TypeId} {w w':World} {base size n:Nat} {v:Value} {xs:List Value} (h:w.ownsRow base t size v n xs) (hg:w.grownBy w' v.ownBlock):Tch t w w':=
 ⟨hg.os,hg.tape,hg.output,hg.size,fun q hq hne=>hg.block q hq fun e=>by
   rcases h.2 with⟨rfl,_⟩|⟨g',cap,cur,rfl,_,hh,_⟩
   ·cases e
   ·have:q=g':=by simpa [Value.ownBlock] using e
    subst this;exact hne _ _ hh⟩
theorem Tch.of_set {t:TypeId} {w:World} {p:Addr} {cs:Array Value} (h:Blk w p.block t cs) (u:Value):Tch t w (w.setCell p u):=
 ⟨rfl,rfl,rfl,by simp,fun q _ hne=>Below.heap_setCell w p u q fun e=>by subst e;exact hne _ _ h⟩
theorem Blk.tch {w w':World} {g:Nat} {t e:TypeId} {cs:Array Value} (h:Blk w g e cs) (ht:Tch t w w') (hne:e≠t):Blk w' g e cs:=
 (ht.block g h.lt fun cs' fr hc=>by
   unfold Blk at h;rw[h] at hc;injection hc with hc
   injection hc with _ hc
   exact hne hc).trans h
theorem Az6 {w w':World} {t e:TypeId} {base size n:Nat} {v:Value} {xs:List Value} (h:w.ownsRow base e size v n xs) (ht:Tch t w w') (hne:e≠t):w'.ownsRow base e size v n xs:=by
 refine⟨h.1,?_⟩;rcases h.2 with h2|⟨g,cap,cur,hv,hb,hg,r⟩
 ·exact .inl h2
 ·exact .inr ⟨g,cap,cur,hv,hb,Blk.tch (cs:=cur) hg ht hne,r⟩
end Go.Proofs.YtdjamdbamkhblacDoor
