/- Words for the walk of the reference's RunOf. No condition. The body of the reference's loop, and where it stands: no condition. A round of the reference's loop, a theorem for each way (what all ways share): no condition. -/
import Derived.Test.YtdjamdbamkhblabGreatDoorG32
import Derived.Test.YtdjamdbamkhblabGreatDoorG04
import Derived.Test.YtdjamdbamkhblabGreatDoorG06
namespace Go.Proofs.YtdjamdbamkhblabGreatDoor
open Go.RowKit
set_option linter.unusedVariables false
set_option linter.unusedSimpArgs false
section
variable {P:Program} (w:World)
theorem step_append_rd {ops:Array Oper} {o:Oper} {a:Act} {K:Act→World→Prop} {Q:Exit→Act→World→Prop} {E:Prop} (hgd:o.guard=none) (s x:Operand) (t:TypeId)
  (ho:o.op= .call { callee:= .builtin .append,args:= #[s,x],argTypes:= #[t,t] })
  (base:Nat) (e:TypeId) (i:TypeInfo) (z:Value) (size bytes:Nat) (ht:P.underlying t=some (.slice e)) (hi:P.info? e=some i) (hz:i.zero=some z)
  (hsize:i.size=size) (hby:i.bytes=bytes) (hzs:z.cells.size=size) (hsz:0<size)
  (v:Value) (n:Nat) (xs:List Value) (hs:a.eval s=v) (hown:w.ownsRow base e size v n xs)
  (B:Nat) (A:Option Addr) (m c:Nat) (news:List Value) (hx:a.eval x= .slice A m c) (hr:Rd w B size A m news) (h1:∀ u∈news,u.oneCell'=true)
  (h63:n+m≤maxLen) (hbytes:(n+m)*bytes≤140737488355328) (hbase:base≤w.heap.size)
  (h:∀ A' c' w',w'.ownsRow base e size (.slice A' (n+m) c') (n+m) (xs++news)→w.grownBy w' v.ownBlock→((Value.slice A' (n+m) c').ownBlock=v.ownBlock∨(Value.slice A' (n+m) c').ownBlock=some w.heap.size)→K (a.put o.dst (.slice A' (n+m) c')) w'):
  if Region.wanted o (yielded ops a.tmps)=true then Oper.wp P o a w K Q else E:=by
 have hw:Region.wanted o (yielded ops a.tmps)=true:=by simp[Region.wanted,hgd]
 rw[if_pos hw];obtain⟨v',w',hrun,h2,h3,h4⟩:=run_append_rd (P:=P) w base t o.type e i z size bytes ht hi hz hsize hby hzs hsz v n xs hown B A m c news hr h1 h63 hbytes hbase;obtain⟨A',c',rfl⟩:=own_slice h2;unfold Oper.wp execOp;simp only[ho,resolve,invoke,builtin,Sem.run_bind,Sem.run_pure,Result.andThen_ok,List.map_toArray,List.map_cons,List.map_nil,hs,hx,hrun];exact h A' c' w' h2 h3 h4
end
theorem cell_grown {w w':World} {row:Option Nat} (h:w.grownBy w' row) (b i:Nat) (hb:b<w.heap.size) (hne:some b≠row):w'.cell? ⟨b,i,none⟩=w.cell? ⟨b,i,none⟩:=World.cell?_of_block (h.block b hb hne)
theorem Ref.setregE {w0 w:World} {g en:Nat} {B T M:Value} {s:Mc} (h:Ref w0 w g s en B T M) (hr:s.regs.length=8) (k:Nat) (hk:k≤7) {E:Int} {v:Nat} (hE:E=(v:Int)):Ref w0 (w.setCell ⟨g,1+k,none⟩ (.int .i64 E)) g { s with regs:=s.regs.set k v } en B T M:=by
 subst hE;exact h.setreg hr k hk v
def setL:Array Value→Nat→List Value→Array Value
 | cs,_,[]=>cs
 | cs,k,u::r=>setL (cs.setIfInBounds k u) (k+1) r
theorem setL_spec:∀ (us:List Value) (cs:Array Value) (k:Nat),k+us.length≤cs.size→(setL cs k us).toList=cs.toList.take k++us++cs.toList.drop (k+us.length)
 | [],cs,k,_=>by simp[setL]
 | u::r,cs,k,h=>by
   have hk:k<cs.toList.length:=by simp at h ⊢;omega
   rw[setL,setL_spec r _ _ (by simp at h ⊢;omega),Array.toList_setIfInBounds];have e1:(cs.toList.set k u).take (k+1)=cs.toList.take k++ [u]:=by
    rw[List.take_succ_eq_append_getElem (by simpa using hk),List.getElem_set_self]
    congr 1
    rw[List.take_set_of_le (Nat.le_refl _)]
   have e2:(cs.toList.set k u).drop (k+1+r.length)=cs.toList.drop (k+1+r.length):=by
    rw[List.drop_set,if_pos (by omega)]
   rw[e1,e2,List.length_cons];simp only[List.append_assoc,List.singleton_append];rw[show k+1+r.length=k+(r.length+1) by omega]
theorem Blk.layL {t:TypeId} {b:Nat}:∀ (us:List Value) (k:Nat) (w:World) (cs:Array Value),Blk w b t cs→Blk (layL b w k us) b t (setL cs k us)
 | [],_,_,_,h=>h
 | u::r,k,_,_,h=>Blk.layL r (k+1) _ _ (h.set_ k u)
theorem Blk.layAll {t:TypeId} {b:Nat} {w:World} {cs:Array Value} (h:Blk w b t cs) (us:List Value) (hs:cs.size=us.length):Blk (YtdjamdbamkhblabGreatDoor.layL b w 0 us) b t us.toArray:=by
 have h1:=Blk.layL us 0 w cs h;have e:setL cs 0 us=us.toArray:=by
  apply Array.ext';rw[setL_spec us cs 0 (by omega)];simp[hs]
 rw[e] at h1;exact h1
theorem oc_start {M:Value} {r0 r1 r2 r3 r4 r5 r6 r7:Int} (h:∀ x∈ [r0,r1,r2,r3,r4,r5,r6,r7],0≤x):
  ocCells 0 ([r0,r1,r2,r3,r4,r5,r6,r7].map Int.toNat) (.slice none 0 0) M= #[.int .i64 0, .int .i64 r0, .int .i64 r1, .int .i64 r2, .int .i64 r3, .int .i64 r4, .int .i64 r5, .int .i64 r6, .int .i64 r7, .slice none 0 0,M]:=by
 simp only[List.mem_cons,List.not_mem_nil,or_false,forall_eq_or_imp,forall_eq] at h;obtain⟨h0,h1,h2,h3,h4,h5,h6,h7⟩:=h;simp[ocCells,natV];omega
theorem Ref.startA {w1 w':World} {r0 r1 r2 r3 r4 r5 r6 r7:Int} {mem:List Int} {A:Option Addr} {c:Nat} (h:∀ x∈ [r0,r1,r2,r3,r4,r5,r6,r7],0≤x) (hb:Below w1.heap.size w1 w') (hown:w'.ownsRow w1.heap.size 3 1 (.slice A mem.length c) mem.length (natsV (mem.map Int.toNat))):
  Ref w1 (w'.alloc (.cells #[.int .i64 0, .int .i64 r0, .int .i64 r1, .int .i64 r2, .int .i64 r3, .int .i64 r4, .int .i64 r5, .int .i64 r6, .int .i64 r7, .slice none 0 0, .slice A mem.length c] 128)) w'.heap.size (toMc [r0,r1,r2,r3,r4,r5,r6,r7] mem) 0 (.slice none 0 0) (.slice none 0 0) (.slice A mem.length c):=by
 refine⟨hb.alloc hb.size _,hb.size,?_,World.ownsRow_nil _ _ _ _,World.ownsRow_nil _ _ _ _,?_, .inl rfl, .inl rfl, .inl rfl⟩
 ·have:=Blk.new w' 128 (ocCells 0 ([r0,r1,r2,r3,r4,r5,r6,r7].map Int.toNat) (.slice none 0 0) (.slice A mem.length c))
  rw[oc_start h] at this;show Blk _ _ _ (ocCells 0 ([r0,r1,r2,r3,r4,r5,r6,r7].map Int.toNat) (.slice none 0 0) (.slice A mem.length c));rw[oc_start h];exact this
 ·show World.ownsRow _ _ _ 1 _ (mem.map Int.toNat).length _
  rw[List.length_map];exact hown.alloc _
theorem Ref.startB {w1 w':World} {r0 r1 r2 r3 r4 r5 r6 r7:Int} {mem:List Int} {A:Option Addr} {c:Nat} (h:∀ x∈ [r0,r1,r2,r3,r4,r5,r6,r7],0≤x) (hb:Below w1.heap.size w1 w') (hk:Blk w' w1.heap.size 128 #[.int .i64 0, .int .i64 0, .int .i64 0, .int .i64 0, .int .i64 0, .int .i64 0, .int .i64 0, .int .i64 0, .int .i64 0, .slice none 0 0, .slice none 0 0])
  (hown:w'.ownsRow w1.heap.size 3 1 (.slice A mem.length c) mem.length (natsV (mem.map Int.toNat))):
  Ref w1 (layL w1.heap.size w' 0 [.int .i64 0, .int .i64 r0, .int .i64 r1, .int .i64 r2, .int .i64 r3, .int .i64 r4, .int .i64 r5, .int .i64 r6, .int .i64 r7, .slice none 0 0, .slice A mem.length c]) w1.heap.size (toMc [r0,r1,r2,r3,r4,r5,r6,r7] mem) 0 (.slice none 0 0) (.slice none 0 0) (.slice A mem.length c):=by
 have hg:=layL_grown w1.heap.size [.int .i64 0, .int .i64 r0, .int .i64 r1, .int .i64 r2, .int .i64 r3, .int .i64 r4, .int .i64 r5, .int .i64 r6, .int .i64 r7, .slice none 0 0, .slice A mem.length c] 0 w';refine⟨layL_below (Nat.le_refl _) _ _ _ hb,Nat.le_refl _,?_,World.ownsRow_nil _ _ _ _,World.ownsRow_nil _ _ _ _,?_, .inl rfl, .inl rfl, .inl rfl⟩
 ·show Blk _ _ _ (ocCells 0 ([r0,r1,r2,r3,r4,r5,r6,r7].map Int.toNat) (.slice none 0 0) (.slice A mem.length c))
  rw[oc_start h];exact hk.layAll _ rfl
 ·show World.ownsRow _ _ _ 1 _ (mem.map Int.toNat).length _
  rw[List.length_map];exact hown.kept hg (.inr (own_blk_ne hown hk (by decide)))
theorem Ref.startB' {w1 w':World} {r0 r1 r2 r3 r4 r5 r6 r7:Int} {mem:List Int} {A:Option Addr} {c:Nat} (h:∀ x∈ [r0,r1,r2,r3,r4,r5,r6,r7],0≤x) (hb:Below w1.heap.size w1 w') (hk:Blk w' w1.heap.size 128 #[.int .i64 0, .int .i64 0, .int .i64 0, .int .i64 0, .int .i64 0, .int .i64 0, .int .i64 0, .int .i64 0, .int .i64 0, .slice none 0 0, .slice none 0 0])
  (hown:w'.ownsRow w1.heap.size 3 1 (.slice A mem.length c) mem.length (natsV (mem.map Int.toNat))):
  Ref w1 (((((((((((w'.setCell ⟨w1.heap.size,0,none⟩ (.int .i64 0)).setCell ⟨w1.heap.size,1,none⟩ (.int .i64 r0)).setCell ⟨w1.heap.size,2,none⟩ (.int .i64 r1)).setCell ⟨w1.heap.size,3,none⟩ (.int .i64 r2)).setCell ⟨w1.heap.size,4,none⟩ (.int .i64 r3)).setCell ⟨w1.heap.size,5,none⟩ (.int .i64 r4)).setCell ⟨w1.heap.size,6,none⟩ (.int .i64 r5)).setCell ⟨w1.heap.size,7,none⟩ (.int .i64 r6)).setCell ⟨w1.heap.size,8,none⟩ (.int .i64 r7)).setCell ⟨w1.heap.size,9,none⟩ (.slice none 0 0)).setCell ⟨w1.heap.size,10,none⟩ (.slice A mem.length c)) w1.heap.size (toMc [r0,r1,r2,r3,r4,r5,r6,r7] mem) 0 (.slice none 0 0) (.slice none 0 0) (.slice A mem.length c):=
 Ref.startB h hb hk hown
def RLoop (w0 wr:World) (g:Nat) (l:List Ins) (n:Nat) (s0:Mc) (k:Nat) (B a:Value):Prop:=
 ∃ s T M,a=natV s.pos∧Ref w0 wr g s 0 B T M∧McOk s∧s.mem.length=s0.mem.length∧runs l k s=runs l n s0
theorem RLoop.next {w0 w':World} {g n k:Nat} {l:List Ins} {s0 s s':Mc} {B' T' M':Value} {p:Int} (hst:step l s=(s',0)) (hc:CodeOk l) (hs:McOk s) (hm:s.mem.length=s0.mem.length) (hrn:runs l (k+1) s=runs l n s0) (hp:p=(s'.pos:Int)) (h:Ref w0 w' g s' 0 B' T' M'):
  RLoop w0 w' g l n s0 k B' (.int .i64 p):=by
 refine⟨s',T',M',by rw[hp];rfl,h,?_,?_,?_⟩
 ·have:=step_ok hc hs;rw[hst] at this;exact this
 ·have:=step_mem (l:=l) (s:=s);rw[hst] at this;exact this.trans hm
 ·rw[←hrn,runs_go (by rw[hst]),hst]
end Go.Proofs.YtdjamdbamkhblabGreatDoor
namespace Go.Proofs.YtdjamdbamkhblabGreatDoor
open Go.RowKit
set_option linter.unusedVariables false
set_option linter.unusedSimpArgs false
def firstLoop:Code→Option Code
 | .loop c=>some c
 | .seq a b=>match firstLoop a with
   | some c=>some c
   | none=>firstLoop b
 | .block _ c=>firstLoop c
 | .scope c=>firstLoop c
 | .cond _ a b=>match firstLoop a with
   | some c=>some c
   | none=>firstLoop b
 | _=>none
noncomputable def rbody:Code:=((Tryz.f98.body.bind firstLoop).getD .skip)
def outL (en:Nat) (r:List Nat) (T M:Value):List Value:=(ocCells en r T M).toList
def RWI (w1:World) (gO g c:Nat) (A:Option Addr) (l:List Ins) (n:Nat) (s0:Mc) (a:Act) (w':World):Prop:=
 a.defers=[]∧a.tmps.size=254∧a.tmps[0]? =some (.slice A l.length c)∧a.tmps[8]? =some (.pointer (some ⟨gO,0,none⟩))∧a.tmps[11]? =some (.pointer (some ⟨g,0,none⟩))∧
  ∃ (k:Nat) (B p:Value),a.tmps[3]? =some (.int .i64 (k:Int))∧a.tmps[12]? =some B∧a.tmps[13]? =some p∧k≤20000∧RLoop w1 w' g l n s0 k B p
def rmu (a:Act) (_:World):Nat:=match a.tmps[3]? with
 | some (Value.int _ n)=>n.toNat
 | _=>0
structure XFin (w1 w2:World) (gO:Nat) (s:Mc) (en:Nat) (T M:Value):Prop where
 grown:w1.grownBy w2 (some gO)
 blk:Blk w2 gO 128 (ocCells en s.regs T M)
 ot:w2.ownsRow w1.heap.size 3 1 T s.told.length (natsV s.told)
 om:w2.ownsRow w1.heap.size 3 1 M s.mem.length (natsV s.mem)
theorem XFin.alloc {w1 w2:World} {gO en:Nat} {s:Mc} {T M:Value} (h:XFin w1 w2 gO s en T M) (o:Obj):XFin w1 (w2.alloc o) gO s en T M:=
 ⟨⟨h.grown.os,h.grown.tape,h.grown.output,by have:=h.grown.size;simp;omega,fun q hq hne=>(Below.heap_alloc w2 o q (Nat.lt_of_lt_of_le hq h.grown.size)).trans (h.grown.block q hq hne)⟩,h.blk.alloc o,h.ot.alloc o,h.om.alloc o⟩
theorem XFin.of {w1 W:World} {gO g en:Nat} {s:Mc} {B T M v0 v1 v2 v3 v4 v5 v6 v7 v8 v9 v10:Value} (h:Ref w1 W g s en B T M) {cs:Array Value} (hO:Blk W gO 128 cs) (hs:cs.size=11)
  (hv:outL en s.regs T M=[v0,v1,v2,v3,v4,v5,v6,v7,v8,v9,v10]):XFin w1 (((((((((((W.setCell ⟨gO,0,none⟩ v0).setCell ⟨gO,1,none⟩ v1).setCell ⟨gO,2,none⟩ v2).setCell ⟨gO,3,none⟩ v3).setCell ⟨gO,4,none⟩ v4).setCell ⟨gO,5,none⟩ v5).setCell ⟨gO,6,none⟩ v6).setCell ⟨gO,7,none⟩ v7).setCell ⟨gO,8,none⟩ v8).setCell ⟨gO,9,none⟩ v9).setCell ⟨gO,10,none⟩ v10) gO s en T M:=by
 have hg:=layL_grown gO [v0,v1,v2,v3,v4,v5,v6,v7,v8,v9,v10] 0 W;have hk:=hO.layAll [v0,v1,v2,v3,v4,v5,v6,v7,v8,v9,v10] hs;have e:(ocCells en s.regs T M)=[v0,v1,v2,v3,v4,v5,v6,v7,v8,v9,v10].toArray:=by rw[←hv];rfl
 refine⟨⟨hg.os.trans h.below.os,hg.tape.trans h.below.tape,hg.output.trans h.below.output,Nat.le_trans h.below.size hg.size,fun q hq hne=>(hg.block q (Nat.lt_of_lt_of_le hq h.below.size) hne).trans (h.below.block q hq)⟩,?_,h.ot.kept hg (.inr (own_blk_ne h.ot hO (by decide))),h.om.kept hg (.inr (own_blk_ne h.om hO (by decide)))⟩;rw[e];exact hk
def RExit (w1:World) (gO:Nat) (l:List Ins) (n:Nat) (s0:Mc) (Q0:Exit→Act→World→Prop):Prop:=
 ∀ (a':Act) (w2:World) (s':Mc) (en:Nat) (T' M':Value),runs l n s0=(s',en)→XFin w1 w2 gO s' en T' M'→a'.defers=[]→a'.tmps.size=254→a'.tmps[8]? =some (.pointer (some ⟨gO,0,none⟩))→a'.tmps[9]? =some (.int .i64 0)→Q0 .ret a' w2
set_option maxRecDepth 100000 in
theorem arr_lit (t:Array Value) (h:t.size=254):∃ u:Nat→Value,t= #[u 0,u 1,u 2,u 3,u 4,u 5,u 6,u 7,u 8,u 9,u 10,u 11,u 12,u 13,u 14,u 15,u 16,u 17,u 18,u 19,u 20,u 21,u 22,u 23,u 24,u 25,u 26,u 27,u 28,u 29,u 30,u 31,u 32,u 33,u 34,u 35,u 36,u 37,u 38,u 39,u 40,u 41,u 42,u 43,u 44,u 45,u 46,u 47,u 48,u 49,u 50,u 51,u 52,u 53,u 54,u 55,u 56,u 57,u 58,u 59,u 60,u 61,u 62,u 63,u 64,u 65,u 66,u 67,u 68,u 69,u 70,u 71,u 72,u 73,u 74,u 75,u 76,u 77,u 78,u 79,u 80,u 81,u 82,u 83,u 84,u 85,u 86,u 87,u 88,u 89,u 90,u 91,u 92,u 93,u 94,u 95,u 96,u 97,u 98,u 99,u 100,u 101,u 102,u 103,u 104,u 105,u 106,u 107,u 108,u 109,u 110,u 111,u 112,u 113,u 114,u 115,u 116,u 117,u 118,u 119,u 120,u 121,u 122,u 123,u 124,u 125,u 126,u 127,u 128,u 129,u 130,u 131,u 132,u 133,u 134,u 135,u 136,u 137,u 138,u 139,u 140,u 141,u 142,u 143,u 144,u 145,u 146,u 147,u 148,u 149,u 150,u 151,u 152,u 153,u 154,u 155,u 156,u 157,u 158,u 159,u 160,u 161,u 162,u 163,u 164,u 165,u 166,u 167,u 168,u 169,u 170,u 171,u 172,u 173,u 174,u 175,u 176,u 177,u 178,u 179,u 180,u 181,u 182,u 183,u 184,u 185,u 186,u 187,u 188,u 189,u 190,u 191,u 192,u 193,u 194,u 195,u 196,u 197,u 198,u 199,u 200,u 201,u 202,u 203,u 204,u 205,u 206,u 207,u 208,u 209,u 210,u 211,u 212,u 213,u 214,u 215,u 216,u 217,u 218,u 219,u 220,u 221,u 222,u 223,u 224,u 225,u 226,u 227,u 228,u 229,u 230,u 231,u 232,u 233,u 234,u 235,u 236,u 237,u 238,u 239,u 240,u 241,u 242,u 243,u 244,u 245,u 246,u 247,u 248,u 249,u 250,u 251,u 252,u 253]:=by
 refine⟨fun i=>t.getD i undef,?_⟩;have e:t=((List.range 254).map fun i=>t.getD i undef).toArray:=by
  apply Array.ext
  ·simp[h]
  ·intro i h1 h2
   simp[Array.getD_eq_getD_getElem?,h1]
 exact e
theorem RWI.mk {w1 w':World} {gO g c n k:Nat} {A:Option Addr} {l:List Ins} {s0:Mc} {a:Act} {B p:Value} (h0:a.defers=[]) (h1:a.tmps.size=254) (h2:a.tmps[0]? =some (.slice A l.length c)) (h3:a.tmps[8]? =some (.pointer (some ⟨gO,0,none⟩)))
  (h4:a.tmps[11]? =some (.pointer (some ⟨g,0,none⟩))) (h5:a.tmps[3]? =some (.int .i64 (k:Int))) (h6:a.tmps[12]? =some B) (h7:a.tmps[13]? =some p) (hk:k≤20000) (hR:RLoop w1 w' g l n s0 k B p):RWI w1 gO g c A l n s0 a w'∧rmu a w'<k+1:=by
 refine⟨⟨h0,h1,h2,h3,h4,k,B,p,h5,h6,h7,hk,hR⟩,?_⟩;unfold rmu;rw[h5];simp
end Go.Proofs.YtdjamdbamkhblabGreatDoor
namespace Go.Proofs.YtdjamdbamkhblabGreatDoor
open Go.RowKit
set_option linter.unusedVariables false
set_option linter.unusedSimpArgs false
def RcStmt (P:Mc→Ins→Prop):Prop:=∀ (w1 wr:World) (gO g c n k:Nat) (A:Option Addr) (l:List Ins) (s0 s:Mc) (B T M:Value) (u:Nat→Value) (Q0:Exit→Act→World→Prop) (hO:Blk w1 gO 128 #[.int .i64 0, .int .i64 0, .int .i64 0, .int .i64 0, .int .i64 0, .int .i64 0, .int .i64 0, .int .i64 0, .int .i64 0, .slice none 0 0, .slice none 0 0])
  (hr:RdI w1 w1.heap.size A l) (hl:l.length≤200) (hcode:CodeOk l) (HX:Hid (RExit w1 gO l n s0 Q0)) (h:Ref w1 wr g s 0 B T M) (hs:McOk s) (hml:s.mem.length≤1024) (hm0:s.mem.length=s0.mem.length) (hk:k+1≤20000) (hrn:runs l (k+1) s=runs l n s0)
  (hp:s.pos<l.length) (x:Ins) (hx:l[s.pos]=x) (hi:InsOk x) (ho:P s x),
  Code.wp Tryz.prog rbody (Exit.then (fun a' w''=>RWI w1 gO g c A l n s0 a' w''∧rmu a' w''<k+1) Q0) ⟨#[.slice A l.length c,u 1,u 2, .int .i64 ((k:Int)+1),u 4,u 5,u 6,u 7, .pointer (some ⟨gO,0,none⟩),u 9,u 10, .pointer (some ⟨g,0,none⟩),B, .int .i64 (s.pos:Int),u 14,u 15,u 16,u 17,u 18,u 19,u 20,u 21,u 22,u 23,u 24,u 25,u 26,u 27,u 28,u 29,u 30,u 31,u 32,u 33,u 34,u 35,u 36,u 37,u 38,u 39,u 40,u 41,u 42,u 43,u 44,u 45,u 46,u 47,u 48,u 49,u 50,u 51,u 52,u 53,u 54,u 55,u 56,u 57,u 58,u 59,u 60,u 61,u 62,u 63,u 64,u 65,u 66,u 67,u 68,u 69,u 70,u 71,u 72,u 73,u 74,u 75,u 76,u 77,u 78,u 79,u 80,u 81,u 82,u 83,u 84,u 85,u 86,u 87,u 88,u 89,u 90,u 91,u 92,u 93,u 94,u 95,u 96,u 97,u 98,u 99,u 100,u 101,u 102,u 103,u 104,u 105,u 106,u 107,u 108,u 109,u 110,u 111,u 112,u 113,u 114,u 115,u 116,u 117,u 118,u 119,u 120,u 121,u 122,u 123,u 124,u 125,u 126,u 127,u 128,u 129,u 130,u 131,u 132,u 133,u 134,u 135,u 136,u 137,u 138,u 139,u 140,u 141,u 142,u 143,u 144,u 145,u 146,u 147,u 148,u 149,u 150,u 151,u 152,u 153,u 154,u 155,u 156,u 157,u 158,u 159,u 160,u 161,u 162,u 163,u 164,u 165,u 166,u 167,u 168,u 169,u 170,u 171,u 172,u 173,u 174,u 175,u 176,u 177,u 178,u 179,u 180,u 181,u 182,u 183,u 184,u 185,u 186,u 187,u 188,u 189,u 190,u 191,u 192,u 193,u 194,u 195,u 196,u 197,u 198,u 199,u 200,u 201,u 202,u 203,u 204,u 205,u 206,u 207,u 208,u 209,u 210,u 211,u 212,u 213,u 214,u 215,u 216,u 217,u 218,u 219,u 220,u 221,u 222,u 223,u 224,u 225,u 226,u 227,u 228,u 229,u 230,u 231,u 232,u 233,u 234,u 235,u 236,u 237,u 238,u 239,u 240,u 241,u 242,u 243,u 244,u 245,u 246,u 247,u 248,u 249,u 250,u 251,u 252,u 253],[]⟩ wr
set_option maxHeartbeats 1000000 in
theorem rcOf {P:Mc→Ins→Prop} (K:∀ (w1 wr:World) (gO g c n k b o:Nat) (l:List Ins) (s0 s:Mc) (B T M:Value) (u:Nat→Value) (Q0:Exit→Act→World→Prop) (xo:Int) (an bn cn ps xv yv zv:Nat)
  (hO:Blk w1 gO 128 #[.int .i64 0, .int .i64 0, .int .i64 0, .int .i64 0, .int .i64 0, .int .i64 0, .int .i64 0, .int .i64 0, .int .i64 0, .slice none 0 0, .slice none 0 0]) (HX:Hid (RExit w1 gO l n s0 Q0)) (h:Ref w1 wr g s 0 B T M) (hs:McOk s) (hl:l.length≤200) (hml:s.mem.length≤1024) (hk:k+1≤20000) (HIN:Hid (l[s.pos]? =some ⟨xo,an,bn,cn⟩)) (HRN:Hid (runs l (k+1) s=runs l n s0)) (HCO:Hid (CodeOk l)) (HM0:Hid (s.mem.length=s0.mem.length)) (o1:1≤xo) (o2:xo≤15) (a0:(0:Int)≤(an:Int)) (a7:(an:Int)≤7) (b0:(0:Int)≤(bn:Int)) (b7:(bn:Int)≤7) (c0:(0:Int)≤(cn:Int)) (cw:(cn:Int)≤65535) (c7:2≤xo→xo≤7→(cn:Int)≤7) (hbB:b<w1.heap.size) (d0:wr.cell? ⟨b,o+ps*4,none⟩=some (.int .i64 xo)) (d1:wr.cell? ⟨b,o+ps*4+1,none⟩=some (.int .i64 (an:Int))) (d2:wr.cell? ⟨b,o+ps*4+2,none⟩=some (.int .i64 (bn:Int))) (d3:wr.cell? ⟨b,o+ps*4+3,none⟩=some (.int .i64 (cn:Int))) (hg:g<wr.heap.size) (hg1:g<wr.heap.size+1) (hlo:w1.heap.size≤g) (hbg:b≠g) (hbw:b<wr.heap.size) (hbw1:b<wr.heap.size+1) (hr8:s.regs.length=8) (HMO:Hid (McOk s)) (HPS:Hid (s.pos=ps)) (hp:ps<l.length) (hp2:(ps:Int)<(l.length:Int)) (hk0:((k:Int)+1 == 0)=false) (hk1:(k:Int)+1≤20000) (hk2:(0:Int)≤(k:Int)) (rb:wr.cell? ⟨g,1+bn,none⟩=some (.int .i64 (xv:Int))) (rc:cn≤7→wr.cell? ⟨g,1+cn,none⟩=some (.int .i64 (yv:Int))) (ra:wr.cell? ⟨g,1+an,none⟩=some (.int .i64 (zv:Int))) (fa:wr.frozen? ⟨g,1+an,none⟩=false) (hxw:xv≤65535) (hyw:yv≤65535) (HXV:Hid (rg s (bn:Int)=xv)) (HYV:Hid (rg s (cn:Int)=yv)) (HZV:Hid (rg s (an:Int)=zv)) (ho:P s ⟨xo,(an:Int),(bn:Int),(cn:Int)⟩),
  Code.wp Tryz.prog rbody (Exit.then (fun a' w''=>RWI w1 gO g c (some ⟨b,o,none⟩) l n s0 a' w''∧rmu a' w''<k+1) Q0) ⟨#[.slice (some ⟨b,o,none⟩) l.length c,u 1,u 2, .int .i64 ((k:Int)+1),u 4,u 5,u 6,u 7, .pointer (some ⟨gO,0,none⟩),u 9,u 10, .pointer (some ⟨g,0,none⟩),B, .int .i64 (ps:Int),u 14,u 15,u 16,u 17,u 18,u 19,u 20,u 21,u 22,u 23,u 24,u 25,u 26,u 27,u 28,u 29,u 30,u 31,u 32,u 33,u 34,u 35,u 36,u 37,u 38,u 39,u 40,u 41,u 42,u 43,u 44,u 45,u 46,u 47,u 48,u 49,u 50,u 51,u 52,u 53,u 54,u 55,u 56,u 57,u 58,u 59,u 60,u 61,u 62,u 63,u 64,u 65,u 66,u 67,u 68,u 69,u 70,u 71,u 72,u 73,u 74,u 75,u 76,u 77,u 78,u 79,u 80,u 81,u 82,u 83,u 84,u 85,u 86,u 87,u 88,u 89,u 90,u 91,u 92,u 93,u 94,u 95,u 96,u 97,u 98,u 99,u 100,u 101,u 102,u 103,u 104,u 105,u 106,u 107,u 108,u 109,u 110,u 111,u 112,u 113,u 114,u 115,u 116,u 117,u 118,u 119,u 120,u 121,u 122,u 123,u 124,u 125,u 126,u 127,u 128,u 129,u 130,u 131,u 132,u 133,u 134,u 135,u 136,u 137,u 138,u 139,u 140,u 141,u 142,u 143,u 144,u 145,u 146,u 147,u 148,u 149,u 150,u 151,u 152,u 153,u 154,u 155,u 156,u 157,u 158,u 159,u 160,u 161,u 162,u 163,u 164,u 165,u 166,u 167,u 168,u 169,u 170,u 171,u 172,u 173,u 174,u 175,u 176,u 177,u 178,u 179,u 180,u 181,u 182,u 183,u 184,u 185,u 186,u 187,u 188,u 189,u 190,u 191,u 192,u 193,u 194,u 195,u 196,u 197,u 198,u 199,u 200,u 201,u 202,u 203,u 204,u 205,u 206,u 207,u 208,u 209,u 210,u 211,u 212,u 213,u 214,u 215,u 216,u 217,u 218,u 219,u 220,u 221,u 222,u 223,u 224,u 225,u 226,u 227,u 228,u 229,u 230,u 231,u 232,u 233,u 234,u 235,u 236,u 237,u 238,u 239,u 240,u 241,u 242,u 243,u 244,u 245,u 246,u 247,u 248,u 249,u 250,u 251,u 252,u 253],[]⟩ wr):RcStmt P:=by
 intro w1 wr gO g c n k A l s0 s B T M u Q0 hO hr hl hcode HX h hs hml hm0 hk hrn hp x hx hi ho;obtain⟨b,o,rfl,hbB,hcell⟩:=hr (by omega);obtain⟨d0,d1,d2,d3⟩:=hcell s.pos hp;rw[←h.below.cell (p:=⟨b,_,none⟩) hbB,hx] at d0 d1 d2 d3;have hin:l[s.pos]? =some x:=by rw[List.getElem?_eq_getElem hp,hx]
 obtain⟨o1,o2,a0,a7,b0,b7,c0,cw,c7⟩:=hi;obtain⟨xo,xa,xb,xc⟩:=x;simp only at d0 d1 d2 d3 o1 o2 a0 a7 b0 b7 c0 cw c7;obtain⟨an,rfl⟩:∃ n:Nat,xa=(n:Int):=⟨xa.toNat,by omega⟩;obtain⟨bn,rfl⟩:∃ n:Nat,xb=(n:Int):=⟨xb.toNat,by omega⟩;obtain⟨cn,rfl⟩:∃ n:Nat,xc=(n:Int):=⟨xc.toNat,by omega⟩;have hg:=h.blk.lt;have hlo:=h.lo;exact K w1 wr gO g c n k b o l s0 s B T M u Q0 xo an bn cn s.pos (s.regs.getD bn 0) (s.regs.getD cn 0) (s.regs.getD an 0) hO HX h hs hl hml hk hin hrn hcode hm0 o1 o2 a0 a7 b0 b7 c0 cw c7 hbB d0 d1 d2 d3 hg (by omega) hlo (by omega) (by omega) (by omega) hs.regs hs rfl hp (by omega) (by rw[beq_eq_false_iff_ne];omega) (by omega) (by omega)
  ((h.blk.cell (1+bn)).trans (oc_reg bn (by omega))) (fun hc=>(h.blk.cell (1+cn)).trans (oc_reg cn hc)) ((h.blk.cell (1+an)).trans (oc_reg an (by omega))) (h.blk.frozen (1+an)) (getD_le hs.rw bn) (getD_le hs.rw cn) rfl rfl rfl ho
theorem ex_open {w1 wr:World} {g gO:Nat} {s:Mc} {B T M:Value} (h:Ref w1 wr g s 0 B T M) (hO:Blk w1 gO 128 #[.int .i64 0, .int .i64 0, .int .i64 0, .int .i64 0, .int .i64 0, .int .i64 0, .int .i64 0, .int .i64 0, .int .i64 0, .slice none 0 0, .slice none 0 0]):
  ∃ AT kT AM kM,∃ v0 v1 v2 v3 v4 v5 v6 v7:Nat,T= .slice AT s.told.length kT∧M= .slice AM s.mem.length kM∧(wr.cell? ⟨g,0,none⟩=some (.int .i64 0))∧(wr.cell? ⟨g,9,none⟩=some (.slice AT s.told.length kT))∧(wr.cell? ⟨g,10,none⟩=some (.slice AM s.mem.length kM))∧(wr.frozen? ⟨g,0,none⟩=false)∧(wr.cell? ⟨g,1,none⟩=some (.int .i64 (v0:Int)))∧(wr.cell? ⟨g,2,none⟩=some (.int .i64 (v1:Int)))∧(wr.cell? ⟨g,3,none⟩=some (.int .i64 (v2:Int)))∧(wr.cell? ⟨g,4,none⟩=some (.int .i64 (v3:Int)))∧(wr.cell? ⟨g,5,none⟩=some (.int .i64 (v4:Int)))∧(wr.cell? ⟨g,6,none⟩=some (.int .i64 (v5:Int)))∧(wr.cell? ⟨g,7,none⟩=some (.int .i64 (v6:Int)))∧(wr.cell? ⟨g,8,none⟩=some (.int .i64 (v7:Int)))∧(wr.cell? ⟨gO,0,none⟩=some (.int .i64 0))∧(wr.cell? ⟨gO,1,none⟩=some (.int .i64 0))∧(wr.cell? ⟨gO,2,none⟩=some (.int .i64 0))∧(wr.cell? ⟨gO,3,none⟩=some (.int .i64 0))∧(wr.cell? ⟨gO,4,none⟩=some (.int .i64 0))∧(wr.cell? ⟨gO,5,none⟩=some (.int .i64 0))∧(wr.cell? ⟨gO,6,none⟩=some (.int .i64 0))∧(wr.cell? ⟨gO,7,none⟩=some (.int .i64 0))∧(wr.cell? ⟨gO,8,none⟩=some (.int .i64 0))∧(wr.cell? ⟨gO,9,none⟩=some (.slice none 0 0))∧(wr.cell? ⟨gO,10,none⟩=some (.slice none 0 0))∧(wr.frozen? ⟨gO,0,none⟩=false)∧(wr.frozen? ⟨gO,1,none⟩=false)∧(wr.frozen? ⟨gO,2,none⟩=false)∧(wr.frozen? ⟨gO,3,none⟩=false)∧(wr.frozen? ⟨gO,4,none⟩=false)∧(wr.frozen? ⟨gO,5,none⟩=false)∧(wr.frozen? ⟨gO,6,none⟩=false)∧(wr.frozen? ⟨gO,7,none⟩=false)∧(wr.frozen? ⟨gO,8,none⟩=false)∧(wr.frozen? ⟨gO,9,none⟩=false)∧(wr.frozen? ⟨gO,10,none⟩=false)∧(gO<w1.heap.size)∧(gO≠g)∧(g≠gO)∧(gO<wr.heap.size)∧(gO<wr.heap.size+1)∧(Hid (Blk wr gO 128 #[.int .i64 0, .int .i64 0, .int .i64 0, .int .i64 0, .int .i64 0, .int .i64 0, .int .i64 0, .int .i64 0, .int .i64 0, .slice none 0 0, .slice none 0 0]))∧(∀ en:Nat,outL en s.regs (.slice AT s.told.length kT) (.slice AM s.mem.length kM)=[.int .i64 (en:Int), .int .i64 (v0:Int), .int .i64 (v1:Int), .int .i64 (v2:Int), .int .i64 (v3:Int), .int .i64 (v4:Int), .int .i64 (v5:Int), .int .i64 (v6:Int), .int .i64 (v7:Int), .slice AT s.told.length kT, .slice AM s.mem.length kM]):=by
 obtain⟨AT,kT,rfl⟩:=own_slice h.ot;obtain⟨AM,kM,rfl⟩:=own_slice h.om;have hW:=hO.below h.below hO.lt;have hlo:=h.lo;have hg:=h.blk.lt;have hgO:=hO.lt;have R:∀ q,q≤7→wr.cell? ⟨g,1+q,none⟩=some (natV (s.regs.getD q 0)):=fun q hq=>(h.blk.cell (1+q)).trans (oc_reg q hq)
 exact⟨AT,kT,AM,kM,s.regs.getD 0 0,s.regs.getD 1 0,s.regs.getD 2 0,s.regs.getD 3 0,s.regs.getD 4 0,s.regs.getD 5 0,s.regs.getD 6 0,s.regs.getD 7 0,rfl,rfl,h.blk.cell 0,h.blk.cell 9,h.blk.cell 10,h.blk.frozen 0,R 0 (by decide),R 1 (by decide),R 2 (by decide),R 3 (by decide),R 4 (by decide),R 5 (by decide),R 6 (by decide),R 7 (by decide),
  hW.cell 0,hW.cell 1,hW.cell 2,hW.cell 3,hW.cell 4,hW.cell 5,hW.cell 6,hW.cell 7,hW.cell 8,hW.cell 9,hW.cell 10,hW.frozen 0,hW.frozen 1,hW.frozen 2,hW.frozen 3,hW.frozen 4,hW.frozen 5,hW.frozen 6,hW.frozen 7,hW.frozen 8,hW.frozen 9,hW.frozen 10,hgO,by omega,by omega,by omega,by omega,hW,fun _=>rfl⟩
end Go.Proofs.YtdjamdbamkhblabGreatDoor
