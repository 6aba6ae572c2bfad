/- The walks of kern.New and of its reference: the new kernel. The walk of kern.New: the new kernel. No condition. What a new kernel reads as: no condition. Scripts of acts: prefixes, order, and what a process reads beside another: plain mathematics. -/
import Derived.Deep.RegionLaw
import Derived.Test.YtdjamdbamkhblacGreatDoorG12
set_option maxRecDepth 100000
set_option maxHeartbeats 4000000
namespace Go.Proofs.YtdjamdbamkhblacGreatDoor
open Go.RowKit
theorem Nzl:(Tryz.prog.info? 3).map (fun i=>(i.zero,i.size,i.bytes))=some (some (.int .i64 0),1,8):=by kernel_rfl
theorem Mz2:(Tryz.prog.info? 49).map (fun i=>(i.zero,i.size,i.bytes))=some (some (.agg #[.string ⟨#[]⟩, .int .i64 0, .string ⟨#[]⟩, .int .i64 0]),4,48):=by kernel_rfl
theorem Nzm:(Tryz.prog.info? 9).map (fun i=>(i.zero,i.size,i.bytes))=some (some (.string ⟨#[]⟩),1,16):=by kernel_rfl
theorem Nzk:(Tryz.prog.info? 54).map (fun i=>(i.zero,i.size,i.bytes))=some (some (.agg #[.int .i64 0, .int .i64 0, .int .i64 0]),3,24):=by kernel_rfl
theorem Hz4:(Tryz.prog.info? 52).map (fun i=>(i.zero,i.size,i.bytes))=some (some (.agg #[.bool false, .slice none 0 0]),2,32):=by kernel_rfl
def zInt:Array Value:=madeCells #[.int .i64 0] 1024
def zNod:Array Value:=madeCells #[.string ⟨#[]⟩, .int .i64 0, .string ⟨#[]⟩, .int .i64 0] 32
def zStr:Array Value:=madeCells #[.string ⟨#[]⟩] 6
def zEnd:Array Value:=madeCells #[.int .i64 0, .int .i64 0, .int .i64 0] 18
def zPrc:Array Value:=madeCells #[.bool false, .slice none 0 0] 8
theorem Qz9 (w:World):(Instr.makeSlice 25 (.int .i64 1024) (.int .i64 1024)).run Tryz.prog w= .ok (.slice (some ⟨w.heap.size,0,none⟩) 1024 1024) (w.alloc (.cells zInt 3)):=Hz1 w 25 3 _ 1 8 1024 Tryz.underlying25 Nzl (by omega) (by omega)
theorem Qza (w:World):(Instr.makeSlice 26 (.int .i64 8) (.int .i64 8)).run Tryz.prog w= .ok (.slice (some ⟨w.heap.size,0,none⟩) 8 8) (w.alloc (.cells zNod 49)):=Hz1 w 26 49 _ 4 48 8 Tryz.underlying26 Mz2 (by omega) (by omega)
theorem Qzb (w:World):(Instr.makeSlice 27 (.int .i64 6) (.int .i64 6)).run Tryz.prog w= .ok (.slice (some ⟨w.heap.size,0,none⟩) 6 6) (w.alloc (.cells zStr 9)):=Hz1 w 27 9 _ 1 16 6 Tryz.underlying27 Nzm (by omega) (by omega)
theorem Qz8 (w:World):(Instr.makeSlice 50 (.int .i64 6) (.int .i64 6)).run Tryz.prog w= .ok (.slice (some ⟨w.heap.size,0,none⟩) 6 6) (w.alloc (.cells zEnd 54)):=Hz1 w 50 54 _ 3 24 6 Tryz.underlying50 Nzk (by omega) (by omega)
theorem Szo (w:World):(Instr.makeSlice 28 (.int .i64 4) (.int .i64 4)).run Tryz.prog w= .ok (.slice (some ⟨w.heap.size,0,none⟩) 4 4) (w.alloc (.cells zPrc 52)):=Hz1 w 28 52 _ 2 32 4 Tryz.underlying28 Hz4 (by omega) (by omega)
def sl (g n:Nat):Value:= .slice (some ⟨g,0,none⟩) n n
structure NewK (w0 wx:World) (g g1 g2 g3:Nat) (V:Value):Prop where
 below:Below w0.heap.size w0 wx
 lo:w0.heap.size<g
 lo1:w0.heap.size<g1
 lo2:w0.heap.size<g2
 lo3:w0.heap.size<g3
 blk:Blk wx g 30 #[.slice none 0 0,sl g1 1024,sl g2 8,sl g3 6,V]
 b0:Blk wx w0.heap.size 30 #[.slice none 0 0, .slice none 0 0, .slice none 0 0, .slice none 0 0, .slice none 0 0]
 b1:Blk wx g1 3 zInt
 b2:Blk wx g2 49 zNod
 b3:Blk wx g3 9 zStr
def pcs:Nat→List Nat→List Value
 | _,[]=>[]
 | i,e::r=> .bool ((i:Int) == 0)::sl e 6::pcs (i+1) r
theorem Lzb:∀ (i:Nat) (es:List Nat) (e:Nat),pcs i (es++ [e])=pcs i es++ [.bool (((i+es.length:Nat):Int) == 0),sl e 6]
 | i,[],e=>by simp[pcs]
 | i,x::r,e=>by
   rw[List.cons_append,pcs,Lzb (i+1) r e,pcs,List.length_cons,show i+1+r.length=i+(r.length+1) by omega];rfl
structure NewR (w0 wx:World) (g g1 g2 g3 k:Nat) (V:Value) (es:List Nat):Prop where
 nk:NewK w0 wx g g1 g2 g3 V
 len:es.length=k
 own:wx.ownsRow w0.heap.size 52 2 V k (pcs 0 es)
 ends : ∀ e ∈ es, w0.heap.size < e ∧ Blk wx e 54 zEnd
 nd:es.Pairwise (· ≠ ·)
theorem NewR.next {w0 wr W w1:World} {g g1 g2 g3 k:Nat} {V V':Value} {es:List Nat} (h:NewR w0 wr g g1 g2 g3 k V es) (hW:Below wr.heap.size wr W) (hE:Blk W wr.heap.size 54 zEnd)
  (h1:w1.ownsRow w0.heap.size 52 2 V' (k+1) (pcs 0 es++ [.bool ((k:Int) == 0),sl wr.heap.size 6])) (hg:W.grownBy w1 V.ownBlock):
  NewR w0 (w1.setCell ⟨g,4,none⟩ V') g g1 g2 g3 (k+1) V' (es++ [wr.heap.size]):=by
 have hlt:w0.heap.size<wr.heap.size:=Nat.lt_trans h.nk.lo h.nk.blk.lt;have keep:∀ {q:Nat} {t:TypeId} {cs:Array Value},Blk wr q t cs→52≠t→Blk w1 q t cs:=fun {q t cs} hq hne=>
  (hq.below hW hq.lt).grown hg (fun e=>Aza h.own hq hne e.symm)
 have far:∀ {q:Nat} {t:TypeId} {cs:Array Value},Blk w1 q t cs→q≠g→Blk (w1.setCell ⟨g,4,none⟩ V') q t cs:=fun hq hne=>hq.far (p:=⟨g,4,none⟩) hne V'
 have kg:=keep h.nk.blk (by decide);have hE1:Blk w1 wr.heap.size 54 zEnd:=hE.grown hg (fun e=>by
  rcases h.own.2 with⟨hv,_⟩|⟨g',_,_,hv,_,hh,_⟩
  ·rw[hv] at e;cases e
  ·rw[hv] at e
   have:wr.heap.size=g':=by simpa [Value.ownBlock] using e
   have:=Blk.lt (t:=52) hh;omega)
 refine⟨⟨?_,h.nk.lo,h.nk.lo1,h.nk.lo2,h.nk.lo3,?_,?_,?_,?_,?_⟩,by simp[h.len],?_,?_,?_⟩
 ·have b1:=(h.nk.below.trans (hW.mono h.nk.below.size))
  exact(b1.grown hg (Nat.le_trans h.nk.below.size hW.size) (fun q hq=>by
   obtain⟨hb,_⟩:=h.own.lt q hq;exact hb)).setCell (Nat.le_of_lt h.nk.lo) V'
 ·exact kg.set_ 4 V'
 ·exact far (keep h.nk.b0 (by decide)) (Nat.ne_of_lt h.nk.lo)
 ·exact far (keep h.nk.b1 (by decide)) (fun e=>(keep h.nk.b1 (by decide)).ne_ kg (by decide) e)
 ·exact far (keep h.nk.b2 (by decide)) (fun e=>(keep h.nk.b2 (by decide)).ne_ kg (by decide) e)
 ·exact far (keep h.nk.b3 (by decide)) (fun e=>(keep h.nk.b3 (by decide)).ne_ kg (by decide) e)
 ·rw[Lzb,h.len,Nat.zero_add]
  exact h1.kept (row:=some g) ⟨rfl,rfl,rfl,by simp,fun q hq hne=>Below.heap_setCell w1 ⟨g,4,none⟩ V' q (fun e=>hne (by rw[e]))⟩ (.inr (Aza h1 kg (by decide)))
 ·intro e he
  rcases List.mem_append.1 he with he|he
  ·obtain⟨e1,e2⟩:=h.ends e he
   exact⟨e1,far (keep e2 (by decide)) (fun x=>(keep e2 (by decide)).ne_ kg (by decide) x)⟩
  ·obtain rfl:e=wr.heap.size:=by simpa using he
   exact⟨hlt,far hE1 (fun x=>hE1.ne_ kg (by decide) x)⟩
 ·rw[List.pairwise_append]
  refine⟨h.nd,by simp,fun a ha b hb=>?_⟩;obtain rfl:b=wr.heap.size:=by simpa using hb
  exact Nat.ne_of_lt (h.ends a ha).2.lt
structure NewF (w0 wx:World) (g1 g2 g3:Nat) (V:Value) (xs:List Value) (es:List Nat):Prop where
 below:Below w0.heap.size w0 wx
 b1:Blk wx g1 3 zInt
 b2:Blk wx g2 49 zNod
 b3:Blk wx g3 9 zStr
 own:wx.ownsRow w0.heap.size 52 2 V 4 xs
 ends : ∀ e ∈ es, Blk wx e 54 zEnd
 lo1:w0.heap.size<g1
 lo2:w0.heap.size<g2
 lo3:w0.heap.size<g3
 loe:∀ e∈es,w0.heap.size<e
 nd:es.Pairwise (· ≠ ·)
theorem NewR.fin' {w0 wr W:World} {g g1 g2 g3:Nat} {V:Value} {es:List Nat} (h:NewR w0 wr g g1 g2 g3 4 V es) (hb:Below w0.heap.size w0 W) (hg:wr.grownBy W (some w0.heap.size)):NewF w0 W g1 g2 g3 V (pcs 0 es) es:=by
 have far:∀ {q:Nat} {t:TypeId} {cs:Array Value},Blk wr q t cs→w0.heap.size<q→Blk W q t cs:=fun hq hlt=>hq.grown hg (fun e=>by cases e;omega)
 exact⟨hb,far h.nk.b1 h.nk.lo1,far h.nk.b2 h.nk.lo2,far h.nk.b3 h.nk.lo3,h.own.kept hg (.inr (Aza h.own h.nk.b0 (by decide))),fun e he=>far (h.ends e he).2 (h.ends e he).1,h.nk.lo1,h.nk.lo2,h.nk.lo3,fun e he=>(h.ends e he).1,h.nd⟩
theorem NewR.fin {w0 wr:World} {g g1 g2 g3:Nat} {V:Value} {es:List Nat} (h:NewR w0 wr g g1 g2 g3 4 V es) (u0 u1 u2 u3 u4:Value):NewF w0 (lay5 wr w0.heap.size u0 u1 u2 u3 u4) g1 g2 g3 V (pcs 0 es) es:=
 h.fin' (Fz3 h.nk.below u0 u1 u2 u3 u4) (Bz8 wr w0.heap.size u0 u1 u2 u3 u4)
theorem NewR.hold {w0 wr W w1:World} {g g1 g2 g3 k:Nat} {V:Value} {es:List Nat} (h:NewR w0 wr g g1 g2 g3 k V es) (hW:Below wr.heap.size wr W) (hg:W.grownBy w1 V.ownBlock):
  Blk w1 g 30 #[.slice none 0 0,sl g1 1024,sl g2 8,sl g3 6,V]:=
 (h.nk.blk.below hW h.nk.blk.lt).grown hg (fun e=>Aza h.own h.nk.blk (by decide) e.symm)
theorem Kzj (w:World) (o1 o2 o3 o4 o5:Obj):Below w.heap.size w (((((w.alloc o1).alloc o2).alloc o3).alloc o4).alloc o5).drew:=by
 have h1:=(Below.refl w.heap.size w).alloc (Nat.le_refl _) o1;have h2:=h1.alloc h1.size o2;have h3:=h2.alloc h2.size o3;have h4:=h3.alloc h3.size o4;have h5:=h4.alloc h4.size o5;exact h5.drew
theorem Ozo (w:World) (o2 o3 o4 o5:Obj) (t:TypeId) (cs:Array Value):Blk (((((w.alloc (.cells cs t)).alloc o2).alloc o3).alloc o4).alloc o5).drew (w.heap.size) t cs:=by
 refine Blk.drew ?_;refine Blk.alloc ?_ _;refine Blk.alloc ?_ _;refine Blk.alloc ?_ _;refine Blk.alloc ?_ _;exact Blk.new' rfl
theorem Ezx (w:World) (o1 o3 o4 o5:Obj) (t:TypeId) (cs:Array Value):Blk (((((w.alloc o1).alloc (.cells cs t)).alloc o3).alloc o4).alloc o5).drew (w.heap.size+1) t cs:=by
 refine Blk.drew ?_;refine Blk.alloc ?_ _;refine Blk.alloc ?_ _;refine Blk.alloc ?_ _;exact Blk.new' (by simp)
theorem Ezy (w:World) (o1 o2 o4 o5:Obj) (t:TypeId) (cs:Array Value):Blk (((((w.alloc o1).alloc o2).alloc (.cells cs t)).alloc o4).alloc o5).drew (w.heap.size+1+1) t cs:=by
 refine Blk.drew ?_;refine Blk.alloc ?_ _;refine Blk.alloc ?_ _;exact Blk.new' (by simp)
theorem Ezz (w:World) (o1 o2 o3 o5:Obj) (t:TypeId) (cs:Array Value):Blk (((((w.alloc o1).alloc o2).alloc o3).alloc (.cells cs t)).alloc o5).drew (w.heap.size+1+1+1) t cs:=by
 refine Blk.drew ?_;refine Blk.alloc ?_ _;exact Blk.new' (by simp)
theorem Fz0 (w:World) (o1 o2 o3 o4:Obj) (t:TypeId) (cs:Array Value):Blk (((((w.alloc o1).alloc o2).alloc o3).alloc o4).alloc (.cells cs t)).drew (w.heap.size+1+1+1+1) t cs:=by
 refine Blk.drew ?_;exact Blk.new' (by simp)
theorem NewK.cut {w wx:World} {g g1 g2 g3:Nat} {V:Value} (blk:Blk wx g 30 #[.slice none 0 0,sl g1 1024,sl g2 8,sl g3 6,V]) (below:Below w.heap.size w wx)
  (b0:Blk wx w.heap.size 30 #[.slice none 0 0, .slice none 0 0, .slice none 0 0, .slice none 0 0, .slice none 0 0]) (b1:Blk wx g1 3 zInt) (b2:Blk wx g2 49 zNod) (b3:Blk wx g3 9 zStr)
  (lo:w.heap.size<g) (lo1:w.heap.size<g1) (lo2:w.heap.size<g2) (lo3:w.heap.size<g3):∃ g' g1' g2' g3',Value.pointer (some ⟨g,0,none⟩)= .pointer (some ⟨g',0,none⟩)∧NewK w wx g' g1' g2' g3' V:=
 ⟨g,g1,g2,g3,rfl,⟨below,lo,lo1,lo2,lo3,blk,b0,b1,b2,b3⟩⟩
theorem Qz5 (w:World):Calls Tryz.prog 9 #[] w fun e w'=>∃ g1 g2 g3 V es,e= .returned (.agg #[.slice none 0 0,sl g1 1024,sl g2 8,sl g3 6,V])∧NewF w w' g1 g2 g3 V (pcs 0 es) es∧es.length=4:=by
 have m1:=Qz9;have m2:=Qza;have m3:=Qzb;have m4:=Qz8;obtain⟨i0,hi0,hz0,hz1,hz2⟩:=info_parts Hz4;go_enter Tryz.func9,Tryz.ntmps9;go_upto_region 1 with fail
 go_cut [1] (fun u wx=>∃ g g1 g2 g3,u= .pointer (some ⟨g,0,none⟩)∧NewK w wx g g1 g2 g3 (.slice none 0 0))
 case first=>
  go_region
  all_goals
   go_wp2_with fail;go_meet
   first
    | exact NewK.cut (Fz0 w _ _ _ _ _ _) (Kzj w _ _ _ _ _) (Ozo w _ _ _ _ _ _) (by first|exact Ezx w _ _ _ _ _ _|exact Ezy w _ _ _ _ _ _|exact Ezz w _ _ _ _ _ _|exact Fz0 w _ _ _ _ _ _) (by first|exact Ezx w _ _ _ _ _ _|exact Ezy w _ _ _ _ _ _|exact Ezz w _ _ _ _ _ _|exact Fz0 w _ _ _ _ _ _) (by first|exact Ezx w _ _ _ _ _ _|exact Ezy w _ _ _ _ _ _|exact Ezz w _ _ _ _ _ _|exact Fz0 w _ _ _ _ _ _) (by omega) (by omega) (by omega) (by omega)
    | exact NewK.cut (Ezz w _ _ _ _ _ _) (Kzj w _ _ _ _ _) (Ozo w _ _ _ _ _ _) (by first|exact Ezx w _ _ _ _ _ _|exact Ezy w _ _ _ _ _ _|exact Ezz w _ _ _ _ _ _|exact Fz0 w _ _ _ _ _ _) (by first|exact Ezx w _ _ _ _ _ _|exact Ezy w _ _ _ _ _ _|exact Ezz w _ _ _ _ _ _|exact Fz0 w _ _ _ _ _ _) (by first|exact Ezx w _ _ _ _ _ _|exact Ezy w _ _ _ _ _ _|exact Ezz w _ _ _ _ _ _|exact Fz0 w _ _ _ _ _ _) (by omega) (by omega) (by omega) (by omega)
    | exact NewK.cut (Ezy w _ _ _ _ _ _) (Kzj w _ _ _ _ _) (Ozo w _ _ _ _ _ _) (by first|exact Ezx w _ _ _ _ _ _|exact Ezy w _ _ _ _ _ _|exact Ezz w _ _ _ _ _ _|exact Fz0 w _ _ _ _ _ _) (by first|exact Ezx w _ _ _ _ _ _|exact Ezy w _ _ _ _ _ _|exact Ezz w _ _ _ _ _ _|exact Fz0 w _ _ _ _ _ _) (by first|exact Ezx w _ _ _ _ _ _|exact Ezy w _ _ _ _ _ _|exact Ezz w _ _ _ _ _ _|exact Fz0 w _ _ _ _ _ _) (by omega) (by omega) (by omega) (by omega)
    | exact NewK.cut (Ezx w _ _ _ _ _ _) (Kzj w _ _ _ _ _) (Ozo w _ _ _ _ _ _) (by first|exact Ezx w _ _ _ _ _ _|exact Ezy w _ _ _ _ _ _|exact Ezz w _ _ _ _ _ _|exact Fz0 w _ _ _ _ _ _) (by first|exact Ezx w _ _ _ _ _ _|exact Ezy w _ _ _ _ _ _|exact Ezz w _ _ _ _ _ _|exact Fz0 w _ _ _ _ _ _) (by first|exact Ezx w _ _ _ _ _ _|exact Ezy w _ _ _ _ _ _|exact Ezz w _ _ _ _ _ _|exact Fz0 w _ _ _ _ _ _) (by omega) (by omega) (by omega) (by omega)
 case rest=>
  obtain⟨g,g1,g2,g3,rfl,hN⟩:=hcut;go_wp2;go_loopw [2] (fun i wr=>Cnt 4 i fun k=>∃ V es,NewR w wr g g1 g2 g3 k V es) (fun i _=>4 - (intOf i).toNat)
  case atStart=>exact⟨0,Nat.zero_le _,rfl,_,[],⟨hN,rfl,World.ownsRow_nil _ _ _ _,by simp,List.Pairwise.nil⟩⟩
  case round=>
   obtain⟨k,hk,rfl,V,es,hR⟩:=hrel;obtain⟨c0,c1,c2,c3,c4, -, -, -, -,f4, -⟩:=hR.nk.blk.a5;simp at c0 c1 c2 c3 c4;have hg0:=hR.nk.blk.lt;have hg1:g<wr.heap.size+1:=by omega
   have HR:=Lib.hid hR;have hU:=Tryz.underlying28;clear hR hN;by_cases hlt:k<4
   ·go_wp2_with fail
    go_region_law
     (first
       | (refine step_append_lies _ (by rfl) _ _ _ (by rfl) w.heap.size 52 i0 _ 2 32 hU hi0 hz0 hz1 hz2 rfl (by omega) V k (pcs 0 es) (by rfl) ?own ⟨wr.heap.size+1,0,none⟩ 1 1 [.bool ((k:Int) == 0),sl wr.heap.size 6] (by rfl) (by rfl) ?new ?one (by omega) ?len ?byt ?bas (wr.heap.size+1+1) ?siz ?_
          case own=>exact((HR.out.own.alloc _).alloc _).drew
          case new=>exact World.news_of_block (fr:=(0,0)) (B:=wr.heap.size+1) (t:=52) (cs:= #[.bool ((k:Int) == 0),sl wr.heap.size 6]) (Blk.new' (by simp))
          case one=>(intro u hu;simp[sl] at hu;rcases hu with rfl|rfl<;>rfl)
          case len=>(simp[maxLen];omega)
          case byt=>omega
          case bas=>(have:=HR.out.nk.below.size;simp;omega)
          case siz=>simp
          intro gq cap w1 hown1 hgrow hat hlt1;have kb:=HR.out.hold (((Below.refl _ _).alloc (Nat.le_refl _) _).alloc (by simp) _).drew hgrow;have k4:=kb.cell 4;have kf:=kb.frozen 4;simp at k4;have KB:=Lib.hid kb;clear kb))
    all_goals
     go_wp2;have hN2:=HR.out.next (((Below.refl _ _).alloc (Nat.le_refl _) _).alloc (by simp) _).drew ((Blk.new' rfl).alloc _).drew hown1 hgrow;go_roundw
     case rel=>exact⟨k+1,by omega,by go_num,_,_,hN2⟩
     case measure=>simp[intOf];omega
   ·obtain rfl:k=4:=by omega
    have b0:=HR.out.nk.b0;obtain⟨d0,d1,d2,d3,d4,e0,e1,e2,e3,e4, -⟩:=b0.a5;simp at d0 d1 d2 d3 d4;obtain⟨A4,k4,rfl⟩:=Az1 HR.out.own;simp only[sl] at c1 c2 c3;clear b0;have hz:=HR.out.nk.below.size;have hlo:=HR.out.nk.lo;go_wp2;refine bodyPost_ret (v:= .agg #[.slice none 0 0,sl g1 1024,sl g2 8,sl g3 6, .slice A4 4 k4]) ?_ rfl ⟨_,_,_,_,_,rfl,HR.out.fin _ _ _ _ _,HR.out.len⟩;simp[results,Tryz.results9,go_sem,sl,d0,d1,d2,d3,d4]
structure MadeK (w0:World) (listed:Array Bool) (w:World) (u1 u3 u4 u5 u6 u7:Value):Prop where
 below:Below w0.heap.size w0 w
 lt:w0.heap.size<w.heap.size
 b0:Blk w w0.heap.size 30 #[.slice none 0 0, .slice none 0 0, .slice none 0 0, .slice none 0 0, .slice none 0 0]
 m0:listed.getD 0 true=true→∃ g,u3=sl g 1024∧w0.heap.size<g∧Blk w g 3 zInt
 m1:listed.getD 1 true=true→∃ g,u4=sl g 8∧w0.heap.size<g∧Blk w g 49 zNod
 m2:listed.getD 2 true=true→∃ g,u5=sl g 6∧w0.heap.size<g∧Blk w g 9 zStr
 m3:listed.getD 3 true=true→∃ g,u6=sl g 4∧w0.heap.size<g∧Blk w g 52 zPrc
 m4:listed.getD 4 true=true→u7= .agg #[.slice none 0 0,u3,u4,u5,u6]∧listed.getD 0 true=true∧listed.getD 1 true=true∧listed.getD 2 true=true∧listed.getD 3 true=true
 m5:listed.getD 5 true=true→∃ g,u1= .pointer (some ⟨g,0,none⟩)∧w0.heap.size<g∧Blk w g 30 (if listed.getD 6 true=true then #[.slice none 0 0,u3,u4,u5,u6] else #[.slice none 0 0, .slice none 0 0, .slice none 0 0, .slice none 0 0, .slice none 0 0])
 m6:listed.getD 6 true=true→listed.getD 4 true=true∧listed.getD 5 true=true
theorem MadeK.up {w0 w:World} {l:Array Bool} {u1 u3 u4 u5 u6 u7:Value} (h:MadeK w0 l w u1 u3 u4 u5 u6 u7) (o:Obj):MadeK w0 l (w.alloc o) u1 u3 u4 u5 u6 u7:=by
 have up:∀ {v:Value} {n:Nat} {t:TypeId} {z:Array Value},(∃ g,v=sl g n∧w0.heap.size<g∧Blk w g t z)→∃ g,v=sl g n∧w0.heap.size<g∧Blk (w.alloc o) g t z:=fun ⟨g,a,b,c⟩=>⟨g,a,b,c.alloc o⟩
 exact⟨h.below.alloc h.below.size o,by simp;have:=h.lt;omega,h.b0.alloc o,fun x=>up (h.m0 x),fun x=>up (h.m1 x),fun x=>up (h.m2 x),fun x=>up (h.m3 x),h.m4,fun x=>(h.m5 x).elim fun g ⟨a,b,c⟩=>⟨g,a,b,c.alloc o⟩,h.m6⟩
theorem Bzo {l:Array Bool} {j:Nat} (h:l.getD j false=true):l.getD j true=true:=by
 rw[Array.getD_eq_getD_getElem?] at h ⊢;cases hj:l[j]? with
 | none=>rfl
 | some b=>rw[hj] at h;exact h
def rowN (es:List Nat):Array Value:=(es.flatMap (fun e=>[Value.bool false,sl e 6])++(List.replicate (4 - es.length) [Value.bool false,Value.slice none 0 0]).flatten).toArray
theorem Pzr (es:List Nat) (h:es.length<4) (e:Nat):(rowN es).setIfInBounds (es.length*2+1) (sl e 6)=rowN (es++ [e]):=by
 match es,h with
 | [],_=>rfl
 | [a],_=>rfl
 | [a,b],_=>rfl
 | [a,b,c],_=>rfl
 | a::b::c::d::r,h=>simp at h;omega
theorem Pzt (w:World) {g:Nat} (hg:g<w.heap.size) (i:Nat) (u:Value) (o:Obj):((w.alloc o).drewN 1).setCell ⟨g,i,none⟩ u=((w.setCell ⟨g,i,none⟩ u).alloc o).drew:=by
 rw[←World.setCell_alloc_past o g i u hg];rfl
theorem made_cell' (z:Array Value) (n i:Nat) (h:i<n):(madeCells z n)[i]? =some (z[i % z.size]!):=by simp[madeCells,h]
theorem Qz4:zPrc=rowN []:=by
 apply Array.ext_getElem?;intro i;rcases Nat.lt_or_ge i 8 with h8|h8
 ·rw[zPrc,made_cell' _ _ _ h8]
  match i,h8 with
  | 0,_=>rfl
  | 1,_=>rfl
  | 2,_=>rfl
  | 3,_=>rfl
  | 4,_=>rfl
  | 5,_=>rfl
  | 6,_=>rfl
  | 7,_=>rfl
 ·rw[Array.getElem?_eq_none (by rw[zPrc,size_madeCells];exact h8),Array.getElem?_eq_none (by show 8≤i;exact h8)]
structure NewS (w0 wx:World) (g g1 g2 g3 g4 k:Nat) (es:List Nat):Prop where
 nk:NewK w0 wx g g1 g2 g3 (sl g4 4)
 lo4:w0.heap.size<g4
 len:es.length=k
 row:Blk wx g4 52 (rowN es)
 ends : ∀ e ∈ es, w0.heap.size < e ∧ Blk wx e 54 zEnd
 nd:es.Pairwise (· ≠ ·)
theorem NewS.next {w0 wr W:World} {g g1 g2 g3 g4 k:Nat} {es:List Nat} (h:NewS w0 wr g g1 g2 g3 g4 k es) (hk:k<4) (hW:Below wr.heap.size wr W) (hE:Blk W wr.heap.size 54 zEnd):
  NewS w0 (W.setCell ⟨g4,k*2+1,none⟩ (sl wr.heap.size 6)) g g1 g2 g3 g4 (k+1) (es++ [wr.heap.size]):=by
 have hlt:w0.heap.size<wr.heap.size:=Nat.lt_trans h.nk.lo h.nk.blk.lt;have up:∀ {q:Nat} {t:TypeId} {cs:Array Value},Blk wr q t cs→t≠52→Blk (W.setCell ⟨g4,k*2+1,none⟩ (sl wr.heap.size 6)) q t cs:=fun {q t cs} hq hne=>(hq.below hW hq.lt).far (p:=⟨g4,k*2+1,none⟩) ((hq.below hW hq.lt).ne_ (h.row.below hW h.row.lt) hne) _
 refine⟨⟨(h.nk.below.trans (hW.mono h.nk.below.size)).setCell (p:=⟨g4,k*2+1,none⟩) (Nat.le_of_lt h.lo4) _,h.nk.lo,h.nk.lo1,h.nk.lo2,h.nk.lo3,up h.nk.blk (by decide),up h.nk.b0 (by decide),up h.nk.b1 (by decide),up h.nk.b2 (by decide),up h.nk.b3 (by decide)⟩,h.lo4,by simp[h.len],?_,fun e he=>?_,?_⟩
 ·have hs:=(h.row.below hW h.row.lt).set_ (k*2+1) (sl wr.heap.size 6)
  have hl:=h.len;subst hl;rw[Pzr es hk] at hs;exact hs
 ·rcases List.mem_append.1 he with he|he
  ·exact⟨(h.ends e he).1,up (h.ends e he).2 (by decide)⟩
  ·obtain rfl:e=wr.heap.size:=by simpa using he
   exact⟨hlt,hE.far (p:=⟨g4,k*2+1,none⟩) (hE.ne_ (h.row.below hW h.row.lt) (by decide)) _⟩
 ·rw[List.pairwise_append]
  refine⟨h.nd,by simp,fun a ha b hb=>?_⟩;obtain rfl:b=wr.heap.size:=by simpa using hb
  exact Nat.ne_of_lt (h.ends a ha).2.lt
theorem Rzy (es:List Nat) (h:es.length<4):(rowN es)[es.length*2+1]? =some (.slice none 0 0):=by
 match es,h with
 | [],_=>rfl
 | [a],_=>rfl
 | [a,b],_=>rfl
 | [a,b,c],_=>rfl
 | a::b::c::d::r,h=>simp at h;omega
theorem NewS.fin {w0 wr:World} {g g1 g2 g3 g4:Nat} {es:List Nat} (h:NewS w0 wr g g1 g2 g3 g4 4 es) (u0 u1 u2 u3 u4:Value):
  NewF w0 (lay5 (wr.setCell ⟨g4,0,none⟩ (.bool true)) w0.heap.size u0 u1 u2 u3 u4) g1 g2 g3 (sl g4 4) (pcs 0 es) es:=by
 have hl:=Bz8 (wr.setCell ⟨g4,0,none⟩ (.bool true)) w0.heap.size u0 u1 u2 u3 u4;have far:∀ {q:Nat} {t:TypeId} {cs:Array Value},Blk wr q t cs→t≠52→w0.heap.size<q→Blk (lay5 (wr.setCell ⟨g4,0,none⟩ (.bool true)) w0.heap.size u0 u1 u2 u3 u4) q t cs:=fun {q t cs} hq hne hlt=>
  (hq.far (p:=⟨g4,0,none⟩) (hq.ne_ h.row hne) _).grown hl (fun e=>by injection e with e;omega)
 have hrow:Blk (lay5 (wr.setCell ⟨g4,0,none⟩ (.bool true)) w0.heap.size u0 u1 u2 u3 u4) g4 52 (pcs 0 es).toArray:=by
  have h1:=(h.row.set_ 0 (.bool true)).grown hl (fun e=>by injection e with e;have:=h.lo4;omega);have e:(rowN es).setIfInBounds 0 (.bool true)=(pcs 0 es).toArray:=by
   match es,h.len with
   | [a,b,c,d],_=>rfl
  rw[e] at h1;exact h1
 have hpl:(pcs 0 es).length=8:=by
  match es,h.len with
  | [a,b,c,d],_=>rfl
 refine⟨Fz3 (h.nk.below.setCell (p:=⟨g4,0,none⟩) (Nat.le_of_lt h.lo4) _) u0 u1 u2 u3 u4,far h.nk.b1 (by decide) h.nk.lo1,far h.nk.b2 (by decide) h.nk.lo2,far h.nk.b3 (by decide) h.nk.lo3,⟨by rw[hpl], .inr ⟨g4,4,(pcs 0 es).toArray,rfl,Nat.le_of_lt h.lo4,hrow,by omega,by simp[maxLen],by simp[hpl],?_⟩⟩,fun e he=>far (h.ends e he).2 (by decide) (h.ends e he).1,h.nk.lo1,h.nk.lo2,h.nk.lo3,fun e he=>(h.ends e he).1,h.nd⟩;exact List.take_of_length_le (by simp[hpl])
set_option maxRecDepth 100000 in
theorem Qzh (w:World):Calls Tryz.prog 7 #[] w fun e w'=>∃ g1 g2 g3 V es,e= .returned (.agg #[.slice none 0 0,sl g1 1024,sl g2 8,sl g3 6,V])∧NewF w w' g1 g2 g3 V (pcs 0 es) es∧es.length=4:=by
 have m1:=Qz9;have m2:=Qza;have m3:=Qzb;have m4:=Qz8;have m5:=Szo;go_enter Tryz.func7,Tryz.ntmps7;go_upto_region 1 with fail
 go_cut [1] (fun u wx=>∃ g g1 g2 g3 g4,u= .pointer (some ⟨g,0,none⟩)∧NewK w wx g g1 g2 g3 (sl g4 4)∧w.heap.size<g4∧Blk wx g4 52 zPrc)
 case first=>
  refine Azw (fun listed a W=>∃ u1 u3 u4 u5 u6 u7,MadeK w listed W u1 u3 u4 u5 u6 u7∧a=⟨#[.pointer (some ⟨w.heap.size,0,none⟩),u1,undef,u3,u4,u5,u6,u7,undef,undef,undef,undef,undef,undef,undef,undef,undef,undef,undef,undef,undef,undef,undef,undef,undef,undef],[]⟩) (by kernel_rfl) (Fzs (by kernel_rfl)) ?start ?step ?fin
  case start=>
   refine⟨undef,undef,undef,undef,undef,undef,⟨((Below.refl w.heap.size w).alloc (Nat.le_refl _) _).drew,by simp,Blk.drew (Blk.new w _ _),fun h=>absurd h (by decide),fun h=>absurd h (by decide),fun h=>absurd h (by decide),fun h=>absurd h (by decide),fun h=>absurd h (by decide),fun h=>absurd h (by decide),fun h=>absurd h (by decide)⟩,rfl⟩
  case step=>
   intro i o ho listed a W hl haf hI K hK;obtain⟨u1,u3,u4,u5,u6,u7,hM,rfl⟩:=hI;have hi:i<7:=(Array.getElem?_eq_some_iff.1 ho).1;have h7:i=0∨i=1∨i=2∨i=3∨i=4∨i=5∨i=6:=by omega
   rcases h7 with rfl|rfl|rfl|rfl|rfl|rfl|rfl
   ·have ho':=Option.some.inj ho
    subst ho';have h4:listed.getD 4 true=false:=by
     rw[←Bool.not_eq_true];intro e;have:=(hM.m4 e).2.1;rw[hl] at this;cases this
    have h6:listed.getD 6 true=false:=by
     rw[←Bool.not_eq_true];intro e;have:=(hM.m6 e).1;rw[h4] at this;cases this
    have HM:=Lib.hid hM;have H4:=Lib.hid h4;have H6:=Lib.hid h6;clear hM h4 h6;go_simp;have h1:=HM.out.up (.cells zInt 3);have hM:=HM.out;have h4:=H4.out;have h6:=H6.out;exact hK _ _ ⟨_,_,_,_,_,_, { h1 with
     m0:=fun _=>⟨_,rfl,hM.lt,Blk.new W _ _⟩
     m1:=fun x=>h1.m1 (by simpa [Az2] using x)
     m2:=fun x=>h1.m2 (by simpa [Az2] using x)
     m3:=fun x=>h1.m3 (by simpa [Az2] using x)
     m4:=fun x=>absurd (show listed.getD 4 true=true by simpa [Az2] using x) (by rw[h4];simp)
     m5:=fun x=>by
      have:=h1.m5 (by simpa [Az2] using x);simp only[h6,Az2,Bool.or_false,Bool.false_eq_true,if_false] at this ⊢;exact this
     m6:=fun x=>absurd (show listed.getD 6 true=true by simpa [Az2] using x) (by rw[h6];simp) },rfl⟩
   ·have ho':=Option.some.inj ho
    subst ho';have h4:listed.getD 4 true=false:=by
     rw[←Bool.not_eq_true];intro e;have:=(hM.m4 e).2.2.1;rw[hl] at this;cases this
    have h6:listed.getD 6 true=false:=by
     rw[←Bool.not_eq_true];intro e;have:=(hM.m6 e).1;rw[h4] at this;cases this
    have HM:=Lib.hid hM;have H4:=Lib.hid h4;have H6:=Lib.hid h6;clear hM h4 h6;go_simp;have h1:=HM.out.up (.cells zNod 49);have hM:=HM.out;have h4:=H4.out;have h6:=H6.out;exact hK _ _ ⟨_,_,_,_,_,_, { h1 with
     m0:=fun x=>h1.m0 (by simpa [Az2] using x)
     m1:=fun _=>⟨_,rfl,hM.lt,Blk.new W _ _⟩
     m2:=fun x=>h1.m2 (by simpa [Az2] using x)
     m3:=fun x=>h1.m3 (by simpa [Az2] using x)
     m4:=fun x=>absurd (show listed.getD 4 true=true by simpa [Az2] using x) (by rw[h4];simp)
     m5:=fun x=>by
      have:=h1.m5 (by simpa [Az2] using x);simp only[h6,Az2,Bool.or_false,Bool.false_eq_true,if_false] at this ⊢;exact this
     m6:=fun x=>absurd (show listed.getD 6 true=true by simpa [Az2] using x) (by rw[h6];simp) },rfl⟩
   ·have ho':=Option.some.inj ho
    subst ho';have h4:listed.getD 4 true=false:=by
     rw[←Bool.not_eq_true];intro e;have:=(hM.m4 e).2.2.2.1;rw[hl] at this;cases this
    have h6:listed.getD 6 true=false:=by
     rw[←Bool.not_eq_true];intro e;have:=(hM.m6 e).1;rw[h4] at this;cases this
    have HM:=Lib.hid hM;have H4:=Lib.hid h4;have H6:=Lib.hid h6;clear hM h4 h6;go_simp;have h1:=HM.out.up (.cells zStr 9);have hM:=HM.out;have h4:=H4.out;have h6:=H6.out;exact hK _ _ ⟨_,_,_,_,_,_, { h1 with
     m0:=fun x=>h1.m0 (by simpa [Az2] using x)
     m1:=fun x=>h1.m1 (by simpa [Az2] using x)
     m2:=fun _=>⟨_,rfl,hM.lt,Blk.new W _ _⟩
     m3:=fun x=>h1.m3 (by simpa [Az2] using x)
     m4:=fun x=>absurd (show listed.getD 4 true=true by simpa [Az2] using x) (by rw[h4];simp)
     m5:=fun x=>by
      have:=h1.m5 (by simpa [Az2] using x);simp only[h6,Az2,Bool.or_false,Bool.false_eq_true,if_false] at this ⊢;exact this
     m6:=fun x=>absurd (show listed.getD 6 true=true by simpa [Az2] using x) (by rw[h6];simp) },rfl⟩
   ·have ho':=Option.some.inj ho
    subst ho';have h4:listed.getD 4 true=false:=by
     rw[←Bool.not_eq_true];intro e;have:=(hM.m4 e).2.2.2.2;rw[hl] at this;cases this
    have h6:listed.getD 6 true=false:=by
     rw[←Bool.not_eq_true];intro e;have:=(hM.m6 e).1;rw[h4] at this;cases this
    have HM:=Lib.hid hM;have H4:=Lib.hid h4;have H6:=Lib.hid h6;clear hM h4 h6;go_simp;have h1:=HM.out.up (.cells zPrc 52);have hM:=HM.out;have h4:=H4.out;have h6:=H6.out;exact hK _ _ ⟨_,_,_,_,_,_, { h1 with
     m0:=fun x=>h1.m0 (by simpa [Az2] using x)
     m1:=fun x=>h1.m1 (by simpa [Az2] using x)
     m2:=fun x=>h1.m2 (by simpa [Az2] using x)
     m3:=fun _=>⟨_,rfl,hM.lt,Blk.new W _ _⟩
     m4:=fun x=>absurd (show listed.getD 4 true=true by simpa [Az2] using x) (by rw[h4];simp)
     m5:=fun x=>by
      have:=h1.m5 (by simpa [Az2] using x);simp only[h6,Az2,Bool.or_false,Bool.false_eq_true,if_false] at this ⊢;exact this
     m6:=fun x=>absurd (show listed.getD 6 true=true by simpa [Az2] using x) (by rw[h6];simp) },rfl⟩
   ·have ho':=Option.some.inj ho
    subst ho';simp[Region.binds] at haf;obtain⟨q0,q1,q2,q3⟩:=haf;have p0:=Bzo (l:=listed) (j:=0) (by simpa using q0);have p1:=Bzo (l:=listed) (j:=1) (by simpa using q1);have p2:=Bzo (l:=listed) (j:=2) (by simpa using q2);have p3:=Bzo (l:=listed) (j:=3) (by simpa using q3);have h6:listed.getD 6 true=false:=by
     rw[←Bool.not_eq_true];intro e;have:=(hM.m6 e).1;rw[hl] at this;cases this
    obtain⟨g1,rfl,_,_⟩:=hM.m0 p0;obtain⟨g2,rfl,_,_⟩:=hM.m1 p1;obtain⟨g3,rfl,_,_⟩:=hM.m2 p2;obtain⟨g4,rfl,_,_⟩:=hM.m3 p3;have HM:=Lib.hid hM;have H6:=Lib.hid h6;have P:=Lib.hid (And.intro p0 (And.intro p1 (And.intro p2 p3)));clear hM h6 q0 q1 q2 q3 p0 p1 p2 p3;unfold sl;go_simp;have hM:=HM.out;have h6:=H6.out;obtain⟨p0,p1,p2,p3⟩:=P.out;exact hK _ _ ⟨_,_,_,_,_,_, { hM with
     m0:=fun x=>hM.m0 (by simpa [Az2] using x)
     m1:=fun x=>hM.m1 (by simpa [Az2] using x)
     m2:=fun x=>hM.m2 (by simpa [Az2] using x)
     m3:=fun x=>hM.m3 (by simpa [Az2] using x)
     m4:=fun _=>⟨rfl,by rw[Az2,p0];rfl,by rw[Az2,p1];rfl,by rw[Az2,p2];rfl,by rw[Az2,p3];rfl⟩
     m5:=fun x=>by
      have:=hM.m5 (by simpa [Az2] using x);simp only[h6,Az2,Bool.or_false,Bool.false_eq_true,if_false] at this ⊢;exact this
     m6:=fun x=>absurd (show listed.getD 6 true=true by simpa [Az2] using x) (by rw[h6];simp) },rfl⟩
   ·have ho':=Option.some.inj ho
    subst ho';have h6:listed.getD 6 true=false:=by
     rw[←Bool.not_eq_true];intro e;have:=(hM.m6 e).2;rw[hl] at this;cases this
    have HM:=Lib.hid hM;have H6:=Lib.hid h6;clear hM h6;go_simp;have h1:=HM.out.up (.cells #[.slice none 0 0, .slice none 0 0, .slice none 0 0, .slice none 0 0, .slice none 0 0] 30);have hM:=HM.out;have h6:=H6.out;exact hK _ _ ⟨_,_,_,_,_,_, { h1 with
     m0:=fun x=>h1.m0 (by simpa [Az2] using x)
     m1:=fun x=>h1.m1 (by simpa [Az2] using x)
     m2:=fun x=>h1.m2 (by simpa [Az2] using x)
     m3:=fun x=>h1.m3 (by simpa [Az2] using x)
     m4:=fun x=>by have:=h1.m4 (by simpa [Az2] using x);simpa [Az2] using this
     m5:=fun _=>⟨_,rfl,hM.lt,by simp only[Az2,h6];exact Blk.new W _ _⟩
     m6:=fun x=>absurd (show listed.getD 6 true=true by simpa [Az2] using x) (by rw[h6];simp) },rfl⟩
   ·have ho':=Option.some.inj ho
    subst ho';simp[Region.binds] at haf;obtain⟨q5,q4,q0,q1,q2,q3,_,_⟩:=haf;have p0:=Bzo (l:=listed) (j:=0) (by simpa using q0);have p1:=Bzo (l:=listed) (j:=1) (by simpa using q1);have p2:=Bzo (l:=listed) (j:=2) (by simpa using q2);have p3:=Bzo (l:=listed) (j:=3) (by simpa using q3);have p4:=Bzo (l:=listed) (j:=4) (by simpa using q4);have p5:=Bzo (l:=listed) (j:=5) (by simpa using q5);obtain⟨g1,rfl,l1,b1⟩:=hM.m0 p0;obtain⟨g2,rfl,l2,b2⟩:=hM.m1 p1;obtain⟨g3,rfl,l3,b3⟩:=hM.m2 p2;obtain⟨g4,rfl,l4,b4⟩:=hM.m3 p3;obtain⟨rfl,_⟩:=hM.m4 p4;obtain⟨g,rfl,lg,bg⟩:=hM.m5 p5;rw[if_neg (by rw[hl];simp)] at bg;obtain⟨c0,c1,c2,c3,c4,f0,f1,f2,f3,f4, -⟩:=bg.a5;simp at c0 c1 c2 c3 c4;have HM:=Lib.hid hM;have P:=Lib.hid (And.intro p0 (And.intro p1 (And.intro p2 (And.intro p3 (And.intro p4 p5)))));have HB:=Lib.hid (And.intro bg (And.intro b1 (And.intro b2 (And.intro b3 b4))));clear hM q0 q1 q2 q3 q4 q5 p0 p1 p2 p3 p4 p5 bg b1 b2 b3 b4;unfold sl;go_simp;have hM:=HM.out;obtain⟨p0,p1,p2,p3,p4,p5⟩:=P.out;obtain⟨bg,b1,b2,b3,b4⟩:=HB.out;have far:∀ {q:Nat} {t:TypeId} {cs:Array Value} (u0 u1 u2 u3 u4:Value),Blk W q t cs→q≠g→Blk (lay5 W g u0 u1 u2 u3 u4) q t cs:=fun u0 u1 u2 u3 u4 hq hne=>hq.grown (Bz8 W g u0 u1 u2 u3 u4) (fun e=>hne (by injection e))
    have hlay:=Bz8 W g (.slice none 0 0) (sl g1 1024) (sl g2 8) (sl g3 6) (sl g4 4);exact hK _ (lay5 W g (.slice none 0 0) (sl g1 1024) (sl g2 8) (sl g3 6) (sl g4 4)) ⟨_,_,_,_,_,_, {
     below:=hM.below.trans ⟨hlay.os,hlay.tape,hlay.output,hlay.size,fun q hq=>hlay.block q (Nat.lt_of_lt_of_le hq hM.below.size) (fun e=>by injection e with e;omega)⟩
     lt:=Nat.lt_of_lt_of_le hM.lt hlay.size
     b0:=far _ _ _ _ _ hM.b0 (by omega)
     m0:=fun _=>⟨g1,rfl,l1,far _ _ _ _ _ b1 (b1.ne_ bg (by decide))⟩
     m1:=fun _=>⟨g2,rfl,l2,far _ _ _ _ _ b2 (b2.ne_ bg (by decide))⟩
     m2:=fun _=>⟨g3,rfl,l3,far _ _ _ _ _ b3 (b3.ne_ bg (by decide))⟩
     m3:=fun _=>⟨g4,rfl,l4,far _ _ _ _ _ b4 (b4.ne_ bg (by decide))⟩
     m4:=fun _=>⟨rfl,by rw[Az2,p0];simp,by rw[Az2,p1];simp,by rw[Az2,p2];simp,by rw[Az2,p3];simp⟩
     m5:=fun _=>⟨g,rfl,lg,by rw[if_pos (by rw[Az2];simp)];exact bg.lay5 rfl _ _ _ _ _⟩
     m6:=fun _=>⟨by rw[Az2,p4];simp,by rw[Az2,p5];simp⟩ },rfl⟩
  case fin=>
   intro listed a W hall hI;obtain⟨u1,u3,u4,u5,u6,u7,hM,rfl⟩:=hI;obtain⟨g1,rfl,l1,b1⟩:=hM.m0 (hall 0 (by decide));obtain⟨g2,rfl,l2,b2⟩:=hM.m1 (hall 1 (by decide));obtain⟨g3,rfl,l3,b3⟩:=hM.m2 (hall 2 (by decide));obtain⟨g4,rfl,l4,b4⟩:=hM.m3 (hall 3 (by decide));obtain⟨rfl,_⟩:=hM.m4 (hall 4 (by decide));obtain⟨g,rfl,lg,bg⟩:=hM.m5 (hall 5 (by decide));rw[if_pos (hall 6 (by decide))] at bg;go_wp2_with fail;go_meet;exact⟨g,g1,g2,g3,g4,rfl,⟨hM.below,lg,l1,l2,l3,bg,hM.b0,b1,b2,b3⟩,l4,b4⟩
 case rest=>
  obtain⟨g,g1,g2,g3,g4,rfl,hN,hl4,hb4⟩:=hcut;have c4:=hN.blk.cell 4;simp[sl] at c4;have HN:=Lib.hid hN;have HB4:=Lib.hid hb4;clear hN hb4;go_wp2;go_loopw [2,11] (fun _ i wr=>Cnt 4 i fun k=>∃ es,NewS w wr g g1 g2 g3 g4 k es) (fun _ i _=>4 - (intOf i).toNat)
  case atStart=>
   have e0:zPrc=rowN []:=Qz4;exact⟨0,Nat.zero_le _,rfl,[],HN.out,hl4,rfl,by rw[←e0];exact HB4.out,by simp,List.Pairwise.nil⟩
  case round=>
   obtain⟨k,hk,rfl,es,hS⟩:=hrel;have c4:=hS.nk.blk.cell 4;simp[sl] at c4;have HS:=Lib.hid hS;clear hS;by_cases hlt:k<4
   ·have r0:=Rzy es (by have:=HS.out.len;omega)
    rw[HS.out.len] at r0;have r1:=(HS.out.row.cell (k*2+1)).trans r0;clear r0;have f1:=HS.out.row.frozen (k*2+1);have hg1:=HS.out.nk.blk.lt;have hg2:=HS.out.row.lt;have hg3:g<wr.heap.size+1:=by omega
    have hg4:g4<wr.heap.size+1:=by omega
    go_wp2_with fail;go_region
    all_goals
     go_wp2;have hN2:=HS.out.next hlt (Below.drewN' ((Below.refl wr.heap.size wr).alloc (Nat.le_refl _) (.cells zEnd 54)) 1) (Blk.new wr _ _);rw[show ((wr.alloc (.cells zEnd 54)).drewN 1).setCell ⟨g4,k*2+1,none⟩ (sl wr.heap.size 6)=((wr.setCell ⟨g4,k*2+1,none⟩ (sl wr.heap.size 6)).alloc (.cells zEnd 54)).drew from Pzt wr hg2 _ _ _] at hN2;go_roundw
     case rel=>exact⟨k+1,by omega,by go_num,_,hN2⟩
     case measure=>simp[intOf];omega
   ·obtain rfl:k=4:=by omega
    match es,HS.out.len,HS with
    | [e0,e1,e2,e3],_,HS=>
      have HR:Hid (Blk wr g4 52 #[.bool false,sl e0 6, .bool false,sl e1 6, .bool false,sl e2 6, .bool false,sl e3 6]):=HS.out.row;obtain⟨c0,c1,c2,c3, -⟩:=HS.out.nk.blk.a4;obtain⟨k0, -,k1, -⟩:=HR.out.a2;have b0:=HS.out.nk.b0;obtain⟨d0,d1,d2,d3,d4,x0,x1,x2,x3,x4, -⟩:=b0.a5;simp at c0 c1 c2 c3 k0 d0 d1 d2 d3 d4;simp only[sl] at c1 c2 c3;have n1:=b0.ne_ HR.out (by decide);have n2:=HS.out.nk.blk.ne_ HR.out (by decide);have n3:=HS.out.nk.lo;clear b0;go_wp2;refine bodyPost_ret (v:= .agg #[.slice none 0 0,sl g1 1024,sl g2 8,sl g3 6,sl g4 4]) ?_ rfl ⟨g1,g2,g3,sl g4 4,_,rfl,HS.out.fin _ _ _ _ _,rfl⟩;simp[results,Tryz.results7,go_sem,sl,d0,d1,d2,d3,d4]
def Fz5:Krn:=⟨[],List.replicate 1024 0,List.replicate 8 default,List.replicate 6 ⟨#[]⟩,⟨true,List.replicate 6 default⟩::List.replicate 3 ⟨false,List.replicate 6 default⟩⟩
theorem made_cell (z:Array Value) (n i:Nat) (h:i<n):(madeCells z n)[i]? =some (z[i % z.size]!):=by simp[madeCells,h]
theorem Nzz {w:World} {g size n m:Nat} {t:TypeId} {z:Array Value} {xs:List Value} (h:Blk w g t (madeCells z (n*size))) (hl:xs.length=n*size) (hx:∀ i,i<n*size→xs[i]? =some (z[i % z.size]!)) (hm:n=m):Rd w w.heap.size size (some ⟨g,0,none⟩) m xs:=by
 subst hm;refine⟨hl,fun _=>⟨g,0,rfl,h.lt,fun j u hu=>?_⟩⟩;have hj:j<n*size:=by rw[←hl];exact(List.getElem?_eq_some_iff.1 hu).1
 rw[Nat.zero_add,h.cell,made_cell _ _ _ hj, ←hx j hj,hu]
theorem Pzd {w:World} {e:Nat} (h:Blk w e 54 zEnd):RdE w w.heap.size (some ⟨e,0,none⟩) (List.replicate 6 default):=by
 refine RdE.of (Nzz (n:=6) (size:=3) h rfl (fun i hi=>?_) (by simp));have:i=0∨i=1∨i=2∨i=3∨i=4∨i=5∨i=6∨i=7∨i=8∨i=9∨i=10∨i=11∨i=12∨i=13∨i=14∨i=15∨i=16∨i=17:=by omega
 rcases this with h|h|h|h|h|h|h|h|h|h|h|h|h|h|h|h|h|h<;>subst h<;>rfl
theorem Nzi {w:World} {g:Nat} (h:Blk w g 49 zNod):RdD w w.heap.size (some ⟨g,0,none⟩) (List.replicate 8 default):=by
 refine RdD.of (Nzz (n:=8) (size:=4) h rfl (fun i hi=>?_) (by simp));have e:∀ j:Nat,j<8→(Azk (List.replicate 8 default))[j*4]? =some (.string ⟨#[]⟩)∧(Azk (List.replicate 8 default))[j*4+1]? =some (.int .i64 0)∧(Azk (List.replicate 8 default))[j*4+2]? =some (.string ⟨#[]⟩)∧(Azk (List.replicate 8 default))[j*4+3]? =some (.int .i64 0):=fun j hj=>by
  have:=Ez2 (List.replicate 8 default) j (by simpa using hj);simp only[List.getElem_replicate] at this;exact this
 obtain⟨e0,e1,e2,e3⟩:=e (i / 4) (by omega);have:i=i / 4*4∨i=i / 4*4+1∨i=i / 4*4+2∨i=i / 4*4+3:=by omega
 have hm:i % 4=i - i / 4*4:=by omega
 show _=some ((#[.string ⟨#[]⟩, .int .i64 0, .string ⟨#[]⟩, .int .i64 0]:Array Value)[i % 4]!);rcases this with h|h|h|h
 ·rw[show i % 4=0 by omega,h,e0];rfl
 ·rw[show i % 4=1 by omega,h,e1];rfl
 ·rw[show i % 4=2 by omega,h,e2];rfl
 ·rw[show i % 4=3 by omega,h,e3];rfl
theorem Nzj {w:World} {g:Nat} (h:Blk w g 3 zInt):RdN w w.heap.size (some ⟨g,0,none⟩) (List.replicate 1024 0):=fun _=>⟨g,0,rfl,h.lt,fun k hk=>by
 have hk':k<1024:=by rw[List.length_replicate] at hk;exact hk
 rw[Nat.zero_add,h.cell,zInt,made_cell _ _ _ hk',List.getElem_replicate];show some ((#[.int .i64 0]:Array Value)[k % 1]!)=_;rw[Nat.mod_one];rfl⟩
theorem Pze {w:World} {g:Nat} (h:Blk w g 9 zStr):RdS w w.heap.size (some ⟨g,0,none⟩) (List.replicate 6 ⟨#[]⟩):=fun _=>⟨g,0,rfl,h.lt,fun k hk=>by
 have hk':k<6:=by rw[List.length_replicate] at hk;exact hk
 rw[Nat.zero_add,h.cell,zStr,made_cell _ _ _ hk',List.getElem_replicate];show some ((#[.string ⟨#[]⟩]:Array Value)[k % 1]!)=_;rw[Nat.mod_one];rfl⟩
theorem NewF.krn {w0 w:World} {g1 g2 g3:Nat} {V:Value} {es:List Nat} (h:NewF w0 w g1 g2 g3 V (pcs 0 es) es) (h4:es.length=4):
  ∃ a:KA, #[.slice none 0 0,sl g1 1024,sl g2 8,sl g3 6,V]=a.cells Fz5∧KrnAt w w.heap.size a Fz5:=by
 have ho:=h.own;obtain⟨A,c,rfl⟩:=Az1 ho;have hr:=Rd.of_own ho;refine⟨⟨none,0,some ⟨g1,0,none⟩,1024,some ⟨g2,0,none⟩,8,some ⟨g3,0,none⟩,6,A,c⟩,by simp only[KA.cells,Fz5,sl,List.length_replicate,List.length_cons,List.length_nil],⟨fun hl=>absurd hl (by show ¬ 0<0;omega),Nzj h.b1,Nzi h.b2,Pze h.b3,fun _=>?_,by show 0*64≤_;omega,by simp only[Fz5,List.length_replicate];omega,by simp only[Fz5,List.length_replicate];omega,by simp only[Fz5,List.length_replicate];omega,by simp only[Fz5,List.length_replicate,List.length_cons];omega,fun _=>⟨rfl,rfl⟩,fun e=>(nomatch e),fun e=>(nomatch e),fun e=>(nomatch e),Dze ho⟩⟩;obtain⟨b,o,e,hb,hc⟩:=hr.2 (by omega);refine⟨b,o,e,hb,fun k hk=>?_⟩
 match es,h4,h,hc with
 | [e0,e1,e2,e3],_,h,hc=>
   have pe:∀ e∈ [e0,e1,e2,e3],∀ bl:Bool,PrcAt w w.heap.size (some ⟨e,0,none⟩) 6 ⟨bl,List.replicate 6 default⟩:=fun e he bl=>⟨Pzd (h.ends e he),by show 6*24≤_;omega,fun x=>(nomatch x)⟩
   have hk4:k<4:=hk
   match k,hk4 with
   | 0,_=>exact⟨_,_,hc 0 _ rfl,hc 1 _ rfl,pe e0 (by simp) true⟩
   | 1,_=>exact⟨_,_,hc 2 _ rfl,hc 3 _ rfl,pe e1 (by simp) false⟩
   | 2,_=>exact⟨_,_,hc 4 _ rfl,hc 5 _ rfl,pe e2 (by simp) false⟩
   | 3,_=>exact⟨_,_,hc 6 _ rfl,hc 7 _ rfl,pe e3 (by simp) false⟩
theorem Iz1:∀ (l:List Akt) (k:Krn),(runK k l).2.length=l.length
 | [],_=>rfl
 | a::r,k=>by
   rw[runK];split
   ·simp[Iz1 r]
   ·simp[Iz1 r]
theorem Iz0:∀ (l r:List Akt) (k:Krn),runK k (l++r)=((runK (runK k l).1 r).1,(runK k l).2++(runK (runK k l).1 r).2)
 | [],r,k=>by simp[runK]
 | a::l,r,k=>by
   rw[List.cons_append,runK,runK];split
   ·rw[Iz0 l r];rfl
   ·rw[Iz0 l r];rfl
theorem Ozy {k:Krn} {a:Akt} (h:doE k a=0):KOk k∧1≤a.kind∧a.kind≤11:=by
 unfold doE at h;by_cases h1:Azm k=0
 ·rw[if_pos h1] at h
  by_cases h2:a.kind<1∨11<a.kind
  ·rw[if_pos h2] at h;cases h
  ·exact⟨(Dzt k).1 h1,by omega⟩
 ·rw[if_neg h1] at h;exact absurd h h1
theorem Kz5:∀ (l:List Akt) {k:Krn},KOk k→KOk (runK k l).1
 | [],_,h=>h
 | a::r,k,h=>by
   rw[runK];split
   ·rename_i he
    exact Kz5 r (Tza h a (Ozy he).2)
   ·exact Kz5 r h
theorem Rzb:KOk newK:=(Dzt _).1 Mz1
def e6 (l:List Opn):List Opn:=l++List.replicate (6 - l.length) default
end Go.Proofs.YtdjamdbamkhblacGreatDoor
