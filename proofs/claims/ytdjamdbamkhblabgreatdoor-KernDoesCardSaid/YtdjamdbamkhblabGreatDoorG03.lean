/- Files, open ends, processes, kernels and acts as plain data, and as what memory reads: no condition. slices.Clone at files, strings and open ends. slices.Clone at integers: a new row of the call's own that holds what the slice held. slices.Clone at instructions: a new row of the call's own that holds what the slice held. The walk of the laws' comparison of two codes that hold the same: it answers true. The walks of the laws' comparisons at two slices, or modules, that hold the same: they answer true. The walk of module.Copy: new memory that reads as the module did. Rows of the call's own, read as lists (see Cells), beside module.Copy: no condition. The walk of kern.Copy: new memory that reads as the kernel did, each row in a block of its own. -/
import Derived.Test.YtdjamdbamkhblabGreatDoorG02
import Derived.Test.YtdjamdbamkhblabGreatDoorG01
import Derived.Deep.RegionLaw
namespace Go.Proofs.YtdjamdbamkhblabGreatDoor
open Go.RowKit
structure Nod where
 name:ByteArray
 kind:Int
 data:ByteArray
 unit:Int
instance :Inhabited Nod:=⟨⟨⟨#[]⟩,0,⟨#[]⟩,0⟩⟩
structure Opn where
 kind:Int
 node:Int
 pos:Int
instance :Inhabited Opn:=⟨⟨0,0,0⟩⟩
structure Prc where
 live:Bool
 ends : List Opn
instance :Inhabited Prc:=⟨⟨false,[]⟩⟩
instance :Inhabited Mod:=⟨⟨⟨#[]⟩,[],[]⟩⟩
structure Krn where
 mods:List Mod
 mem:List Int
 nodes:List Nod
 pipes:List ByteArray
 procs:List Prc
structure Akt where
 kind:Int
 p:Int
 n:Int
 m:Int
 name:ByteArray
 data:ByteArray
instance :Inhabited Akt:=⟨⟨0,0,0,0,⟨#[]⟩,⟨#[]⟩⟩⟩
def RdS (w:World) (B:Nat) (A:Option Addr) (l:List ByteArray):Prop:=
 0<l.length→∃ b o,A=some ⟨b,o,none⟩∧b<B∧∀ k (h:k<l.length),w.cell? ⟨b,o+k,none⟩=some (.string l[k])
def RdD (w:World) (B:Nat) (A:Option Addr) (l:List Nod):Prop:=
 0<l.length→∃ b o,A=some ⟨b,o,none⟩∧b<B∧∀ k (h:k<l.length),
  w.cell? ⟨b,o+k*4,none⟩=some (.string l[k].name)∧w.cell? ⟨b,o+k*4+1,none⟩=some (.int .i64 l[k].kind)∧
  w.cell? ⟨b,o+k*4+2,none⟩=some (.string l[k].data)∧w.cell? ⟨b,o+k*4+3,none⟩=some (.int .i64 l[k].unit)
def RdE (w:World) (B:Nat) (A:Option Addr) (l:List Opn):Prop:=
 0<l.length→∃ b o,A=some ⟨b,o,none⟩∧b<B∧∀ k (h:k<l.length),
  w.cell? ⟨b,o+k*3,none⟩=some (.int .i64 l[k].kind)∧w.cell? ⟨b,o+k*3+1,none⟩=some (.int .i64 l[k].node)∧
  w.cell? ⟨b,o+k*3+2,none⟩=some (.int .i64 l[k].pos)
def RdA (w:World) (B:Nat) (A:Option Addr) (l:List Akt):Prop:=
 0<l.length→∃ b o,A=some ⟨b,o,none⟩∧b<B∧∀ k (h:k<l.length),
  w.cell? ⟨b,o+k*6,none⟩=some (.int .i64 l[k].kind)∧w.cell? ⟨b,o+k*6+1,none⟩=some (.int .i64 l[k].p)∧
  w.cell? ⟨b,o+k*6+2,none⟩=some (.int .i64 l[k].n)∧w.cell? ⟨b,o+k*6+3,none⟩=some (.int .i64 l[k].m)∧
  w.cell? ⟨b,o+k*6+4,none⟩=some (.string l[k].name)∧w.cell? ⟨b,o+k*6+5,none⟩=some (.string l[k].data)
structure ModAt (w:World) (B:Nat) (A:Option Addr) (c:Nat) (A':Option Addr) (c':Nat) (m:Mod):Prop where
 code:RdI w B A m.code
 data:RdN w B A' m.data
 nm:m.name.size≤140737488351232
 cl:m.code.length*32≤140737488351232
 dl:m.data.length*8≤140737488351232
 nil:A=none→m.code.length=0∧c=0
 nil':A'=none→m.data.length=0∧c'=0
def RdM (w:World) (B:Nat) (A:Option Addr) (l:List Mod):Prop:=
 0<l.length→∃ b o,A=some ⟨b,o,none⟩∧b<B∧∀ k (h:k<l.length),∃ A1 c1 A2 c2,
  w.cell? ⟨b,o+k*3,none⟩=some (.string l[k].name)∧w.cell? ⟨b,o+k*3+1,none⟩=some (.slice A1 l[k].code.length c1)∧
  w.cell? ⟨b,o+k*3+2,none⟩=some (.slice A2 l[k].data.length c2)∧ModAt w B A1 c1 A2 c2 l[k]
structure PrcAt (w:World) (B:Nat) (A:Option Addr) (c:Nat) (p:Prc):Prop where
 ends : RdE w B A p.ends
 el:p.ends.length*24≤140737488351232
 nil:A=none→p.ends.length=0∧c=0
def RdP (w:World) (B:Nat) (A:Option Addr) (l:List Prc):Prop:=
 0<l.length→∃ b o,A=some ⟨b,o,none⟩∧b<B∧∀ k (h:k<l.length),∃ A1 c1,
  w.cell? ⟨b,o+k*2,none⟩=some (.bool l[k].live)∧w.cell? ⟨b,o+k*2+1,none⟩=some (.slice A1 l[k].ends.length c1)∧PrcAt w B A1 c1 l[k]
section
variable {w w':World} {B B':Nat} {A A':Option Addr} {c c':Nat}
theorem RdS.keep {l:List ByteArray} (h:RdS w B A l) (hk:∀ p:Addr,p.block<B→w'.cell? p=w.cell? p):RdS w' B A l:=fun hl=>by
 obtain⟨b,o,e,hb,hc⟩:=h hl;exact⟨b,o,e,hb,fun k hk'=>(hk _ hb).trans (hc k hk')⟩
theorem RdS.more {l:List ByteArray} (h:RdS w B A l) (hB:B≤B'):RdS w B' A l:=fun hl=>by
 obtain⟨b,o,e,hb,hc⟩:=h hl;exact⟨b,o,e,by omega,hc⟩
theorem RdD.keep {l:List Nod} (h:RdD w B A l) (hk:∀ p:Addr,p.block<B→w'.cell? p=w.cell? p):RdD w' B A l:=fun hl=>by
 obtain⟨b,o,e,hb,hc⟩:=h hl;refine⟨b,o,e,hb,fun k hk'=>?_⟩;obtain⟨h0,h1,h2,h3⟩:=hc k hk';exact⟨(hk _ hb).trans h0,(hk _ hb).trans h1,(hk _ hb).trans h2,(hk _ hb).trans h3⟩
theorem RdD.more {l:List Nod} (h:RdD w B A l) (hB:B≤B'):RdD w B' A l:=fun hl=>by
 obtain⟨b,o,e,hb,hc⟩:=h hl;exact⟨b,o,e,by omega,hc⟩
theorem RdE.keep {l:List Opn} (h:RdE w B A l) (hk:∀ p:Addr,p.block<B→w'.cell? p=w.cell? p):RdE w' B A l:=fun hl=>by
 obtain⟨b,o,e,hb,hc⟩:=h hl;refine⟨b,o,e,hb,fun k hk'=>?_⟩;obtain⟨h0,h1,h2⟩:=hc k hk';exact⟨(hk _ hb).trans h0,(hk _ hb).trans h1,(hk _ hb).trans h2⟩
theorem RdE.more {l:List Opn} (h:RdE w B A l) (hB:B≤B'):RdE w B' A l:=fun hl=>by
 obtain⟨b,o,e,hb,hc⟩:=h hl;exact⟨b,o,e,by omega,hc⟩
theorem RdA.keep {l:List Akt} (h:RdA w B A l) (hk:∀ p:Addr,p.block<B→w'.cell? p=w.cell? p):RdA w' B A l:=fun hl=>by
 obtain⟨b,o,e,hb,hc⟩:=h hl;refine⟨b,o,e,hb,fun k hk'=>?_⟩;obtain⟨h0,h1,h2,h3,h4,h5⟩:=hc k hk';exact⟨(hk _ hb).trans h0,(hk _ hb).trans h1,(hk _ hb).trans h2,(hk _ hb).trans h3,(hk _ hb).trans h4,(hk _ hb).trans h5⟩
theorem RdA.more {l:List Akt} (h:RdA w B A l) (hB:B≤B'):RdA w B' A l:=fun hl=>by
 obtain⟨b,o,e,hb,hc⟩:=h hl;exact⟨b,o,e,by omega,hc⟩
theorem ModAt.keep {m:Mod} (h:ModAt w B A c A' c' m) (hk:∀ p:Addr,p.block<B→w'.cell? p=w.cell? p):ModAt w' B A c A' c' m:=
 { h with code:=h.code.keep hk,data:=h.data.keep hk }
theorem ModAt.more {m:Mod} (h:ModAt w B A c A' c' m) (hB:B≤B'):ModAt w B' A c A' c' m:=
 { h with code:=h.code.more hB,data:=h.data.more hB }
theorem PrcAt.keep {p:Prc} (h:PrcAt w B A c p) (hk:∀ p:Addr,p.block<B→w'.cell? p=w.cell? p):PrcAt w' B A c p:= { h with ends:=h.ends.keep hk }
theorem PrcAt.more {p:Prc} (h:PrcAt w B A c p) (hB:B≤B'):PrcAt w B' A c p:= { h with ends:=h.ends.more hB }
theorem RdM.keep {l:List Mod} (h:RdM w B A l) (hk:∀ p:Addr,p.block<B→w'.cell? p=w.cell? p):RdM w' B A l:=fun hl=>by
 obtain⟨b,o,e,hb,hc⟩:=h hl;refine⟨b,o,e,hb,fun k hk'=>?_⟩;obtain⟨A1,c1,A2,c2,h0,h1,h2,h3⟩:=hc k hk';exact⟨A1,c1,A2,c2,(hk _ hb).trans h0,(hk _ hb).trans h1,(hk _ hb).trans h2,h3.keep hk⟩
theorem RdM.more {l:List Mod} (h:RdM w B A l) (hB:B≤B'):RdM w B' A l:=fun hl=>by
 obtain⟨b,o,e,hb,hc⟩:=h hl;refine⟨b,o,e,by omega,fun k hk'=>?_⟩;obtain⟨A1,c1,A2,c2,h0,h1,h2,h3⟩:=hc k hk';exact⟨A1,c1,A2,c2,h0,h1,h2,h3.more hB⟩
theorem RdP.keep {l:List Prc} (h:RdP w B A l) (hk:∀ p:Addr,p.block<B→w'.cell? p=w.cell? p):RdP w' B A l:=fun hl=>by
 obtain⟨b,o,e,hb,hc⟩:=h hl;refine⟨b,o,e,hb,fun k hk'=>?_⟩;obtain⟨A1,c1,h0,h1,h2⟩:=hc k hk';exact⟨A1,c1,(hk _ hb).trans h0,(hk _ hb).trans h1,h2.keep hk⟩
theorem RdP.more {l:List Prc} (h:RdP w B A l) (hB:B≤B'):RdP w B' A l:=fun hl=>by
 obtain⟨b,o,e,hb,hc⟩:=h hl;refine⟨b,o,e,by omega,fun k hk'=>?_⟩;obtain⟨A1,c1,h0,h1,h2⟩:=hc k hk';exact⟨A1,c1,h0,h1,h2.more hB⟩
theorem RdS.below {l:List ByteArray} (h:RdS w B A l) (hb:Below B w w'):RdS w' B A l:=h.keep fun _ hp=>hb.cell hp
theorem RdD.below {l:List Nod} (h:RdD w B A l) (hb:Below B w w'):RdD w' B A l:=h.keep fun _ hp=>hb.cell hp
theorem RdE.below {l:List Opn} (h:RdE w B A l) (hb:Below B w w'):RdE w' B A l:=h.keep fun _ hp=>hb.cell hp
theorem RdA.below {l:List Akt} (h:RdA w B A l) (hb:Below B w w'):RdA w' B A l:=h.keep fun _ hp=>hb.cell hp
theorem RdM.below {l:List Mod} (h:RdM w B A l) (hb:Below B w w'):RdM w' B A l:=h.keep fun _ hp=>hb.cell hp
theorem RdP.below {l:List Prc} (h:RdP w B A l) (hb:Below B w w'):RdP w' B A l:=h.keep fun _ hp=>hb.cell hp
end
structure KA where
 a0:Option Addr
 c0:Nat
 a1:Option Addr
 c1:Nat
 a2:Option Addr
 c2:Nat
 a3:Option Addr
 c3:Nat
 a4:Option Addr
 c4:Nat
def KA.cells (a:KA) (k:Krn):Array Value:= #[.slice a.a0 k.mods.length a.c0, .slice a.a1 k.mem.length a.c1, .slice a.a2 k.nodes.length a.c2, .slice a.a3 k.pipes.length a.c3, .slice a.a4 k.procs.length a.c4]
structure KrnAt (w:World) (B:Nat) (a:KA) (k:Krn):Prop where
 mods:RdM w B a.a0 k.mods
 mem:RdN w B a.a1 k.mem
 nodes:RdD w B a.a2 k.nodes
 pipes:RdS w B a.a3 k.pipes
 procs:RdP w B a.a4 k.procs
 l0:k.mods.length*64≤140737488351232
 l1:k.mem.length*8≤140737488351232
 l2:k.nodes.length*48≤140737488351232
 l3:k.pipes.length*16≤140737488351232
 l4:k.procs.length*32≤140737488351232
 n0:a.a0=none→k.mods.length=0∧a.c0=0
 n1:a.a1=none→k.mem.length=0∧a.c1=0
 n2:a.a2=none→k.nodes.length=0∧a.c2=0
 n3:a.a3=none→k.pipes.length=0∧a.c3=0
 n4:a.a4=none→k.procs.length=0∧a.c4=0
structure KA.caps (a:KA) (k:Krn):Prop where
 m:k.mods.length≤a.c0
 d:k.nodes.length≤a.c2
theorem KrnAt.keep {w w':World} {B:Nat} {a:KA} {k:Krn} (h:KrnAt w B a k) (hk:∀ p:Addr,p.block<B→w'.cell? p=w.cell? p):KrnAt w' B a k:=
 { h with mods:=h.mods.keep hk,mem:=h.mem.keep hk,nodes:=h.nodes.keep hk,pipes:=h.pipes.keep hk,procs:=h.procs.keep hk }
theorem KrnAt.below {w w':World} {B:Nat} {a:KA} {k:Krn} (h:KrnAt w B a k) (hb:Below B w w'):KrnAt w' B a k:=h.keep fun _ hp=>hb.cell hp
theorem KrnAt.more {w:World} {B B':Nat} {a:KA} {k:Krn} (h:KrnAt w B a k) (hB:B≤B'):KrnAt w B' a k:=
 { h with mods:=h.mods.more hB,mem:=h.mem.more hB,nodes:=h.nodes.more hB,pipes:=h.pipes.more hB,procs:=h.procs.more hB }
def BoxK (w:World) (b:Nat) (a:KA) (k:Krn):Prop:=
 w.cell? ⟨b,0,none⟩=some (.slice a.a0 k.mods.length a.c0)∧w.cell? ⟨b,1,none⟩=some (.slice a.a1 k.mem.length a.c1)∧w.cell? ⟨b,2,none⟩=some (.slice a.a2 k.nodes.length a.c2)∧
 w.cell? ⟨b,3,none⟩=some (.slice a.a3 k.pipes.length a.c3)∧w.cell? ⟨b,4,none⟩=some (.slice a.a4 k.procs.length a.c4)
theorem BoxK.below {w w':World} {b B:Nat} {a:KA} {k:Krn} (h:BoxK w b a k) (hb:Below B w w') (hlt:b<B):BoxK w' b a k:=
 ⟨(hb.cell (p:=⟨b,0,none⟩) hlt).trans h.1,(hb.cell (p:=⟨b,1,none⟩) hlt).trans h.2.1,(hb.cell (p:=⟨b,2,none⟩) hlt).trans h.2.2.1,(hb.cell (p:=⟨b,3,none⟩) hlt).trans h.2.2.2.1,(hb.cell (p:=⟨b,4,none⟩) hlt).trans h.2.2.2.2⟩
structure Krn.wf (k:Krn):Prop where
 code:∀ m∈k.mods,∀ i∈m.code,i.wf
 data:∀ m∈k.mods,∀ n∈m.data,wf64 n
 mem:∀ n∈k.mem,wf64 n
 nodes:∀ x∈k.nodes,wf64 x.kind∧wf64 x.unit∧x.name.size≤maxLen∧x.data.size≤maxLen
 pipes:∀ s∈k.pipes,s.size≤maxLen
 ends : ∀ p ∈ k.procs, ∀ x ∈ p.ends, wf64 x.kind ∧ wf64 x.node ∧ wf64 x.pos
structure Akt.wf (a:Akt):Prop where
 kind:wf64 a.kind
 p:wf64 a.p
 n:wf64 a.n
 m:wf64 a.m
 name:a.name.size≤140737488351232
 data:a.data.size≤140737488351232
def Akt.cells (a:Akt):Array Value:= #[.int .i64 a.kind, .int .i64 a.p, .int .i64 a.n, .int .i64 a.m, .string a.name, .string a.data]
end Go.Proofs.YtdjamdbamkhblabGreatDoor
namespace Go.Proofs.YtdjamdbamkhblabGreatDoor
open Go.RowKit
theorem info_node:(Tryz.prog.info? 54).map (fun i=>(i.zero,i.size,i.bytes))=some (some (.agg #[.string ⟨#[]⟩, .int .i64 0, .string ⟨#[]⟩, .int .i64 0]),4,48):=by kernel_rfl
set_option maxHeartbeats 1000000 in
theorem Clone_node (A:Option Addr) (n c:Nat) (xs:List Value) (w:World) (hr:Rd w w.heap.size 4 A n xs) (hnil:A=none→n=0∧c=0) (h1:∀ u∈xs,u.oneCell'=true) (hn:n*48≤140737488351232):
  Calls Tryz.prog 39 #[.slice A n c] w fun e w'=>∃ A' c',e= .returned (.slice A' n c')∧w'.ownsRow w.heap.size 54 4 (.slice A' n c') n xs∧Below w.heap.size w w':=by
 obtain⟨i0,hi0,hz0,hz1,hz2⟩:=info_parts info_node;have hq:=fun (W:World) (a:Option Addr) (l c n' c':Nat)=>Lib.run_eql_slice_nil (P:=Tryz.prog) W 24 54 a l c n' c' Tryz.underlying24
 cases A with
 | none=>
   obtain⟨rfl,rfl⟩:=hnil rfl;have hx:xs=[]:=List.eq_nil_of_length_eq_zero (by simpa using hr.1);have HX:=Lib.hid hx;clear hx;go_enter Tryz.func39,Tryz.ntmps39;go_wp2;go_ret;exact⟨_,_,rfl,by rw[HX.out];exact World.ownsRow_nil _ _ _ _,Below.refl _ _⟩
 | some ad=>
   have hU:=Tryz.underlying24;go_enter Tryz.func39,Tryz.ntmps39;go_wp2_with (at_builtin;(refine wpList_append_rd _ rfl (.tmp 5) (.tmp 6) _ rfl w.heap.size 54 i0 _ 4 48 hU hi0 hz0 hz1 hz2 rfl (by omega) (.slice (some ⟨w.heap.size,0,none⟩) 0 0) 0 [] rfl ?own w.heap.size (some ad) n c xs rfl ?rd h1 ?len ?byt ?bas ?_);(case own=>exact World.ownsRow_made w #[] 0 (Nat.le_refl _) (by simp[maxLen]) rfl);(case rd=>exact hr.keep fun p hp=>World.cell?_alloc_lt w _ p hp);(case len=>(simp[maxLen];omega));(case byt=>omega);(case bas=>simp);intro v1 w1 hv1 hg1 _);go_ret;rw[Nat.zero_add] at hv1;obtain⟨a1,k1,e1⟩:=own_slice hv1;rw[e1] at hv1;exact⟨a1,k1,congrArg Ending.returned e1,by simpa using hv1,((Below.refl _ _).alloc (Nat.le_refl _) _).grown hg1 (by simp) (by simp[Value.ownBlock])⟩
theorem info_str:(Tryz.prog.info? 9).map (fun i=>(i.zero,i.size,i.bytes))=some (some (.string ⟨#[]⟩),1,16):=by kernel_rfl
set_option maxHeartbeats 1000000 in
theorem Clone_str (A:Option Addr) (n c:Nat) (xs:List Value) (w:World) (hr:Rd w w.heap.size 1 A n xs) (hnil:A=none→n=0∧c=0) (h1:∀ u∈xs,u.oneCell'=true) (hn:n*16≤140737488351232):
  Calls Tryz.prog 40 #[.slice A n c] w fun e w'=>∃ A' c',e= .returned (.slice A' n c')∧w'.ownsRow w.heap.size 9 1 (.slice A' n c') n xs∧Below w.heap.size w w':=by
 obtain⟨i0,hi0,hz0,hz1,hz2⟩:=info_parts info_str;have hq:=fun (W:World) (a:Option Addr) (l c n' c':Nat)=>Lib.run_eql_slice_nil (P:=Tryz.prog) W 25 9 a l c n' c' Tryz.underlying25
 cases A with
 | none=>
   obtain⟨rfl,rfl⟩:=hnil rfl;have hx:xs=[]:=List.eq_nil_of_length_eq_zero (by simpa using hr.1);have HX:=Lib.hid hx;clear hx;go_enter Tryz.func40,Tryz.ntmps40;go_wp2;go_ret;exact⟨_,_,rfl,by rw[HX.out];exact World.ownsRow_nil _ _ _ _,Below.refl _ _⟩
 | some ad=>
   have hU:=Tryz.underlying25;go_enter Tryz.func40,Tryz.ntmps40;go_wp2_with (at_builtin;(refine wpList_append_rd _ rfl (.tmp 5) (.tmp 6) _ rfl w.heap.size 9 i0 _ 1 16 hU hi0 hz0 hz1 hz2 rfl (by omega) (.slice (some ⟨w.heap.size,0,none⟩) 0 0) 0 [] rfl ?own w.heap.size (some ad) n c xs rfl ?rd h1 ?len ?byt ?bas ?_);(case own=>exact World.ownsRow_made w #[] 0 (Nat.le_refl _) (by simp[maxLen]) rfl);(case rd=>exact hr.keep fun p hp=>World.cell?_alloc_lt w _ p hp);(case len=>(simp[maxLen];omega));(case byt=>omega);(case bas=>simp);intro v1 w1 hv1 hg1 _);go_ret;rw[Nat.zero_add] at hv1;obtain⟨a1,k1,e1⟩:=own_slice hv1;rw[e1] at hv1;exact⟨a1,k1,congrArg Ending.returned e1,by simpa using hv1,((Below.refl _ _).alloc (Nat.le_refl _) _).grown hg1 (by simp) (by simp[Value.ownBlock])⟩
theorem info_end:(Tryz.prog.info? 68).map (fun i=>(i.zero,i.size,i.bytes))=some (some (.agg #[.int .i64 0, .int .i64 0, .int .i64 0]),3,24):=by kernel_rfl
set_option maxHeartbeats 1000000 in
theorem Clone_end (A:Option Addr) (n c:Nat) (xs:List Value) (w:World) (hr:Rd w w.heap.size 3 A n xs) (hnil:A=none→n=0∧c=0) (h1:∀ u∈xs,u.oneCell'=true) (hn:n*24≤140737488351232):
  Calls Tryz.prog 42 #[.slice A n c] w fun e w'=>∃ A' c',e= .returned (.slice A' n c')∧w'.ownsRow w.heap.size 68 3 (.slice A' n c') n xs∧Below w.heap.size w w':=by
 obtain⟨i0,hi0,hz0,hz1,hz2⟩:=info_parts info_end;have hq:=fun (W:World) (a:Option Addr) (l c n' c':Nat)=>Lib.run_eql_slice_nil (P:=Tryz.prog) W 43 68 a l c n' c' Tryz.underlying43
 cases A with
 | none=>
   obtain⟨rfl,rfl⟩:=hnil rfl;have hx:xs=[]:=List.eq_nil_of_length_eq_zero (by simpa using hr.1);have HX:=Lib.hid hx;clear hx;go_enter Tryz.func42,Tryz.ntmps42;go_wp2;go_ret;exact⟨_,_,rfl,by rw[HX.out];exact World.ownsRow_nil _ _ _ _,Below.refl _ _⟩
 | some ad=>
   have hU:=Tryz.underlying43;go_enter Tryz.func42,Tryz.ntmps42;go_wp2_with (at_builtin;(refine wpList_append_rd _ rfl (.tmp 5) (.tmp 6) _ rfl w.heap.size 68 i0 _ 3 24 hU hi0 hz0 hz1 hz2 rfl (by omega) (.slice (some ⟨w.heap.size,0,none⟩) 0 0) 0 [] rfl ?own w.heap.size (some ad) n c xs rfl ?rd h1 ?len ?byt ?bas ?_);(case own=>exact World.ownsRow_made w #[] 0 (Nat.le_refl _) (by simp[maxLen]) rfl);(case rd=>exact hr.keep fun p hp=>World.cell?_alloc_lt w _ p hp);(case len=>(simp[maxLen];omega));(case byt=>omega);(case bas=>simp);intro v1 w1 hv1 hg1 _);go_ret;rw[Nat.zero_add] at hv1;obtain⟨a1,k1,e1⟩:=own_slice hv1;rw[e1] at hv1;exact⟨a1,k1,congrArg Ending.returned e1,by simpa using hv1,((Below.refl _ _).alloc (Nat.le_refl _) _).grown hg1 (by simp) (by simp[Value.ownBlock])⟩
end Go.Proofs.YtdjamdbamkhblabGreatDoor
namespace Go.Proofs.YtdjamdbamkhblabGreatDoor
open Go.RowKit
theorem info_int:(Tryz.prog.info? 3).map (fun i=>(i.zero,i.size,i.bytes))=some (some (.int .i64 0),1,8):=by kernel_rfl
set_option maxHeartbeats 1000000 in
theorem Clone_int (A:Option Addr) (n c:Nat) (xs:List Value) (w:World) (hr:Rd w w.heap.size 1 A n xs) (hnil:A=none→n=0∧c=0) (h1:∀ u∈xs,u.oneCell'=true) (hn:n*8≤140737488351232):
  Calls Tryz.prog 38 #[.slice A n c] w fun e w'=>∃ A' c',e= .returned (.slice A' n c')∧w'.ownsRow w.heap.size 3 1 (.slice A' n c') n xs∧Below w.heap.size w w':=by
 obtain⟨i0,hi0,hz0,hz1,hz2⟩:=info_parts info_int;have hq:=fun (W:World) (a:Option Addr) (l c n' c':Nat)=>Lib.run_eql_slice_nil (P:=Tryz.prog) W 23 3 a l c n' c' Tryz.underlying23
 cases A with
 | none=>
   obtain⟨rfl,rfl⟩:=hnil rfl;have hx:xs=[]:=List.eq_nil_of_length_eq_zero (by simpa using hr.1);have HX:=Lib.hid hx;clear hx;go_enter Tryz.func38,Tryz.ntmps38;go_wp2;go_ret;exact⟨_,_,rfl,by rw[HX.out];exact World.ownsRow_nil _ _ _ _,Below.refl _ _⟩
 | some ad=>
   have hU:=Tryz.underlying23;go_enter Tryz.func38,Tryz.ntmps38;go_wp2_with (at_builtin;(refine wpList_append_rd _ rfl (.tmp 5) (.tmp 6) _ rfl w.heap.size 3 i0 _ 1 8 hU hi0 hz0 hz1 hz2 rfl (by omega) (.slice (some ⟨w.heap.size,0,none⟩) 0 0) 0 [] rfl ?own w.heap.size (some ad) n c xs rfl ?rd h1 ?len ?byt ?bas ?_);(case own=>exact World.ownsRow_made w #[] 0 (Nat.le_refl _) (by simp[maxLen]) rfl);(case rd=>exact hr.keep fun p hp=>World.cell?_alloc_lt w _ p hp);(case len=>(simp[maxLen];omega));(case byt=>omega);(case bas=>simp);intro v1 w1 hv1 hg1 _);go_ret;rw[Nat.zero_add] at hv1;obtain⟨a1,k1,e1⟩:=own_slice hv1;rw[e1] at hv1;exact⟨a1,k1,congrArg Ending.returned e1,by simpa using hv1,((Below.refl _ _).alloc (Nat.le_refl _) _).grown hg1 (by simp) (by simp[Value.ownBlock])⟩
end Go.Proofs.YtdjamdbamkhblabGreatDoor
namespace Go.Proofs.YtdjamdbamkhblabGreatDoor
open Go.RowKit
theorem info_ins:(Tryz.prog.info? 98).map (fun i=>(i.zero,i.size,i.bytes))=some (some (.agg #[.int .i64 0, .int .i64 0, .int .i64 0, .int .i64 0]),4,32):=by kernel_rfl
set_option maxHeartbeats 1000000 in
theorem Clone_ins (A:Option Addr) (n c:Nat) (xs:List Value) (w:World) (hr:Rd w w.heap.size 4 A n xs) (hnil:A=none→n=0∧c=0) (h1:∀ u∈xs,u.oneCell'=true) (hn:n*32≤140737488351232):
  Calls Tryz.prog 75 #[.slice A n c] w fun e w'=>∃ A' c',e= .returned (.slice A' n c')∧w'.ownsRow w.heap.size 98 4 (.slice A' n c') n xs∧Below w.heap.size w w':=by
 obtain⟨i0,hi0,hz0,hz1,hz2⟩:=info_parts info_ins;have hq:=fun (W:World) (a:Option Addr) (l c n' c':Nat)=>Lib.run_eql_slice_nil (P:=Tryz.prog) W 39 98 a l c n' c' Tryz.underlying39
 cases A with
 | none=>
   obtain⟨rfl,rfl⟩:=hnil rfl;have hx:xs=[]:=List.eq_nil_of_length_eq_zero (by simpa using hr.1);have HX:=Lib.hid hx;clear hx;go_enter Tryz.func75,Tryz.ntmps75;go_wp2;go_ret;exact⟨_,_,rfl,by rw[HX.out];exact World.ownsRow_nil _ _ _ _,Below.refl _ _⟩
 | some ad=>
   have hU:=Tryz.underlying39;go_enter Tryz.func75,Tryz.ntmps75;go_wp2_with (at_builtin;(refine wpList_append_rd _ rfl (.tmp 5) (.tmp 6) _ rfl w.heap.size 98 i0 _ 4 32 hU hi0 hz0 hz1 hz2 rfl (by omega) (.slice (some ⟨w.heap.size,0,none⟩) 0 0) 0 [] rfl ?own w.heap.size (some ad) n c xs rfl ?rd h1 ?len ?byt ?bas ?_);(case own=>exact World.ownsRow_made w #[] 0 (Nat.le_refl _) (by simp[maxLen]) rfl);(case rd=>exact hr.keep fun p hp=>World.cell?_alloc_lt w _ p hp);(case len=>(simp[maxLen];omega));(case byt=>omega);(case bas=>simp);intro v1 w1 hv1 hg1 _);go_ret;rw[Nat.zero_add] at hv1;obtain⟨a1,k1,e1⟩:=own_slice hv1;rw[e1] at hv1;exact⟨a1,k1,congrArg Ending.returned e1,by simpa using hv1,((Below.refl _ _).alloc (Nat.le_refl _) _).grown hg1 (by simp) (by simp[Value.ownBlock])⟩
end Go.Proofs.YtdjamdbamkhblabGreatDoor
namespace Go.Proofs.YtdjamdbamkhblabGreatDoor
open Go.RowKit
set_option maxHeartbeats 1000000 in
theorem sameCode_any (A A':Option Addr) (c c':Nat) (l:List Ins) (w:World) (hr:RdI w w.heap.size A l) (hr':RdI w w.heap.size A' l) (hl:l.length≤maxLen):
  Calls Tryz.prog 64 #[.slice A l.length c, .slice A' l.length c'] w fun e w'=>e= .returned (.bool true)∧∃ n,w'=w.drewN n:=by
 unfold maxLen at hl;go_enter Tryz.func64,Tryz.ntmps64;go_wp2;go_loopw [5] (fun i wr=>Cnt l.length i fun _=>∃ n,wr=w.drewN n) (fun i _=>l.length - (intOf i).toNat)
 case atStart=>exact⟨0,Nat.zero_le _,rfl,0,rfl⟩
 case round=>
  obtain⟨k,hk,rfl,n,rfl⟩:=hrel;by_cases hlt:k<l.length
  ·obtain⟨b,o,rfl,hbB,hcell⟩:=hr (by omega)
   obtain⟨b',o',rfl,hbB',hcell'⟩:=hr' (by omega);obtain⟨c0,c1,c2,c3⟩:=hcell k hlt;obtain⟨d0,d1,d2,d3⟩:=hcell' k hlt;clear hr hr' hcell hcell';generalize l[k]=z at*;go_wp2;go_quiet (fail);go_wp2;exact⟨⟨k+1,by omega,by go_num,_,rfl⟩,by simp[intOf];omega⟩
  ·go_wp2
   go_ret;exact⟨rfl,n,rfl⟩
end Go.Proofs.YtdjamdbamkhblabGreatDoor
namespace Go.Proofs.YtdjamdbamkhblabGreatDoor
open Go.RowKit
set_option maxHeartbeats 1000000 in
theorem sameInts_any (A A':Option Addr) (c c':Nat) (l:List Int) (w:World) (hr:RdN w w.heap.size A l) (hr':RdN w w.heap.size A' l) (hl:l.length≤maxLen):
  Calls Tryz.prog 23 #[.slice A l.length c, .slice A' l.length c'] w fun e w'=>e= .returned (.bool true)∧∃ n,w'=w.drewN n:=by
 unfold maxLen at hl;go_enter Tryz.func23,Tryz.ntmps23;go_wp2;go_loopw [5] (fun i wr=>Cnt l.length i fun _=>∃ n,wr=w.drewN n) (fun i _=>l.length - (intOf i).toNat)
 case atStart=>exact⟨0,Nat.zero_le _,rfl,0,rfl⟩
 case round=>
  obtain⟨k,hk,rfl,n,rfl⟩:=hrel;by_cases hlt:k<l.length
  ·obtain⟨b,o,rfl,hbB,hcell⟩:=hr (by omega)
   obtain⟨b',o',rfl,hbB',hcell'⟩:=hr' (by omega);have c0:=hcell k hlt;have d0:=hcell' k hlt;clear hr hr' hcell hcell';generalize l[k]=z at*;go_wp2;go_quiet (fail);go_wp2;exact⟨⟨k+1,by omega,by go_num,_,rfl⟩,by simp[intOf];omega⟩
  ·go_wp2
   go_ret;exact⟨rfl,n,rfl⟩
theorem below_drewN (w:World) (n:Nat):Below w.heap.size w (w.drewN n):=Below.drewN' (Below.refl _ _) n
set_option maxHeartbeats 1000000 in
theorem sameModule_any (m:Mod) (A A' B B':Option Addr) (c c' d d':Nat) (w:World) (hr:RdI w w.heap.size A m.code) (hq:RdI w w.heap.size B m.code) (hr':RdN w w.heap.size A' m.data) (hq':RdN w w.heap.size B' m.data)
  (hl:m.code.length≤maxLen) (hl':m.data.length≤maxLen):
  Calls Tryz.prog 24 #[.agg #[.string m.name, .slice A m.code.length c, .slice A' m.data.length c'], .agg #[.string m.name, .slice B m.code.length d, .slice B' m.data.length d']] w fun e w'=>e= .returned (.bool true)∧Below w.heap.size w w':=by
 have ha:=((Below.refl w.heap.size w).alloc (Nat.le_refl _) (.cells #[.string m.name, .slice A m.code.length c, .slice A' m.data.length c'] 41)).alloc (by simp) (.cells #[.string m.name, .slice B m.code.length d, .slice B' m.data.length d'] 41);have HA:=Lib.hid ha;clear ha;go_enter Tryz.func24,Tryz.ntmps24;go_wp2_with fail;refine(sameCode_any A B c d m.code _ ((hr.below HA.out).more HA.out.size) ((hq.below HA.out).more HA.out.size) hl).mono ?_;rintro e w1 ⟨rfl,n,rfl⟩;go_wp2_with fail;refine(sameInts_any A' B' c' d' m.data _ ((hr'.below (Below.drewN' HA.out n)).more (Below.drewN' HA.out n).size) ((hq'.below (Below.drewN' HA.out n)).more (Below.drewN' HA.out n).size) hl').mono ?_;rintro e w2 ⟨rfl,n',rfl⟩;go_wp2;go_ret;exact⟨rfl,Below.drewN' HA.out _⟩
end Go.Proofs.YtdjamdbamkhblabGreatDoor
namespace Go.Proofs.YtdjamdbamkhblabGreatDoor
open Go.RowKit
set_option maxHeartbeats 3200000 in
theorem ModCopy_any (m:Mod) (A A':Option Addr) (c c':Nat) (w:World) (hr:RdI w w.heap.size A m.code) (hr':RdN w w.heap.size A' m.data)
  (hn:A=none→m.code.length=0∧c=0) (hn':A'=none→m.data.length=0∧c'=0) (hl:m.code.length*32≤140737488351232) (hl':m.data.length*8≤140737488351232):
  Calls Tryz.prog 41 #[.agg #[.string m.name, .slice A m.code.length c, .slice A' m.data.length c']] w fun e w'=>
   ∃ v u,e= .returned (.agg #[.string m.name,v,u])∧w'.ownsRow w.heap.size 98 4 v m.code.length (insCells m.code)∧w'.ownsRow w.heap.size 3 1 u m.data.length (intCells m.data)∧Below w.heap.size w w':=by
 have HR:=Lib.hid hr.rd;have HR':=Lib.hid hr'.rd;have HN:=Lib.hid hn;have HN':=Lib.hid hn';clear hr hr' hn hn';go_enter Tryz.func41,Tryz.ntmps41;go_wp2_with fail;go_region_held3 (fun w'=>w'.cell? ⟨w.heap.size,0,none⟩=some (.string m.name)∧w'.cell? ⟨w.heap.size,1,none⟩=some (.slice A m.code.length c)∧w'.cell? ⟨w.heap.size,2,none⟩=some (.slice A' m.data.length c'))
  (first
    | (go_split_ands;refine⟨?_,?_,?_⟩<;>(rw[World.cell?_setCell_far _ _ _ _ (show w.heap.size+1≠w.heap.size by omega),World.cell?_setCell_far _ _ _ _ (show w.heap.size+1≠w.heap.size by omega),World.cell?_setCell_far _ _ _ _ (show w.heap.size+1≠w.heap.size by omega)];assumption))
    | (go_split_ands;refine⟨?_,?_,?_⟩<;>(rw[hc2 _ _ (by first|omega|(simp;omega)|(have:=hb1.size;simp at this;omega)|(have:=hb1.size;simp at this ⊢;omega))];assumption))
    | (go_split_ands;refine⟨?_,?_,?_⟩<;>(rw[hc1 _ _ (by simp;omega)];assumption))
    | go_keep)
  (first
    | (go_at_call 75;refine(Clone_ins A m.code.length c (insCells m.code) _ ?_ HN.out (ins_one _) hl).mono ?_;(exact Rd.more (Rd.below HR.out (Below.drew (((Below.refl _ _).alloc (Nat.le_refl _) _).alloc (by simp) _))) (by simp;omega));rintro e w1 ⟨a1,k1,rfl,hv1,hb1⟩;have p1:w.heap.size+1<w1.heap.size:=Nat.lt_of_lt_of_le (by simp) hb1.size;have p0:w.heap.size<w1.heap.size:=(by omega);obtain⟨hc1,hf1⟩:=bcell hb1)
    | (go_at_call 38;refine(Clone_int A' m.data.length c' (intCells m.data) _ ?_ HN'.out (int_one _) hl').mono ?_;(exact Rd.more (Rd.below HR'.out (Below.trans (Below.drew (((Below.refl _ _).alloc (Nat.le_refl _) _).alloc (by simp) _)) (hb1.mono (by simp;omega)))) (by omega));rintro e w2 ⟨a2,k2,rfl,hv2,hb2⟩;have p3:w.heap.size+1<w2.heap.size:=Nat.lt_of_lt_of_le (by simpa using p1) hb2.size;have p2:w.heap.size<w2.heap.size:=(by omega);obtain⟨hc2,hf2⟩:=bcell hb2))
 have o1:=ownsRow_setCell_below (ownsRow_setCell_below (ownsRow_setCell_below (own_below hv1 hb2) (a:=⟨w.heap.size+1,0,none⟩) (by simp) (.string m.name)) (a:=⟨w.heap.size+1,1,none⟩) (by simp) (.slice a1 m.code.length k1)) (a:=⟨w.heap.size+1,2,none⟩) (by simp) (.slice a2 m.data.length k2);have o2:=ownsRow_setCell_below (ownsRow_setCell_below (ownsRow_setCell_below hv2 (a:=⟨w.heap.size+1,0,none⟩) p1 (.string m.name)) (a:=⟨w.heap.size+1,1,none⟩) p1 (.slice a1 m.code.length k1)) (a:=⟨w.heap.size+1,2,none⟩) p1 (.slice a2 m.data.length k2);have O1:=Lib.hid o1;have O2:=Lib.hid o2;clear o1 o2 hv1 hv2;go_wp2;refine bodyPost_ret (v:= .agg #[.string m.name, .slice a1 m.code.length k1, .slice a2 m.data.length k2]) ?_ rfl ⟨_,_,rfl,own_base (B:=w.heap.size) O1.out (by simp;omega),own_base (B:=w.heap.size) O2.out (by omega),?_⟩
 ·have z0:w2.cell? ⟨w.heap.size+1,0,none⟩=some (.string ⟨#[]⟩):=(hc2 _ _ p1).trans ((hc1 _ _ (by simp)).trans (by simp))
  have z1:w2.cell? ⟨w.heap.size+1,1,none⟩=some (.slice none 0 0):=(hc2 _ _ p1).trans ((hc1 _ _ (by simp)).trans (by simp));have z2:w2.cell? ⟨w.heap.size+1,2,none⟩=some (.slice none 0 0):=(hc2 _ _ p1).trans ((hc1 _ _ (by simp)).trans (by simp));simp[results,Tryz.results41,go_sem,z0,z1,z2]
 ·have b0:Below w.heap.size w ((w.alloc (.cells #[.string m.name, .slice A m.code.length c, .slice A' m.data.length c'] 41)).alloc (.cells #[.string ⟨#[]⟩, .slice none 0 0, .slice none 0 0] 41)).drew:=(((Below.refl _ _).alloc (Nat.le_refl _) _).alloc (by simp) _).drew
  have b1:=(b0.trans (hb1.mono (by simp;omega))).trans (hb2.mono (by omega));exact((b1.setCell (by simp) _).setCell (by simp) _).setCell (by simp) _
end Go.Proofs.YtdjamdbamkhblabGreatDoor
namespace Go.Proofs.YtdjamdbamkhblabGreatDoor
end Go.Proofs.YtdjamdbamkhblabGreatDoor
namespace Go.Proofs.YtdjamdbamkhblabGreatDoor
open Go.RowKit
def nodCells (l:List Nod):List Value:=l.flatMap fun x=>[.string x.name, .int .i64 x.kind, .string x.data, .int .i64 x.unit]
def strCells (l:List ByteArray):List Value:=l.map Value.string
def endCells (l:List Opn):List Value:=l.flatMap fun x=>[.int .i64 x.kind, .int .i64 x.node, .int .i64 x.pos]
def modCells:List Mod→List (Value × Value)→List Value
 | m::r,x::s=> .string m.name::x.1::x.2::modCells r s
 | _,_=>[]
def prcCells:List Prc→List Value→List Value
 | p::r,x::s=> .bool p.live::x::prcCells r s
 | _,_=>[]
theorem modCells_snoc:∀ (l:List Mod) (ms:List (Value × Value)) (m:Mod) (x:Value × Value),ms.length=l.length→modCells (l++ [m]) (ms++ [x])=modCells l ms++ [.string m.name,x.1,x.2]
 | [],[],m,x,_=>rfl
 | a::r,y::s,m,x,h=>by
   rw[List.cons_append,List.cons_append,modCells,modCells_snoc r s m x (by simpa using h)];rfl
 | [],_::_,_,_,h=>by simp at h
 | _::_,[],_,_,h=>by simp at h
theorem prcCells_snoc:∀ (l:List Prc) (es:List Value) (p:Prc) (x:Value),es.length=l.length→prcCells (l++ [p]) (es++ [x])=prcCells l es++ [.bool p.live,x]
 | [],[],p,x,_=>rfl
 | a::r,y::s,p,x,h=>by
   rw[List.cons_append,List.cons_append,prcCells,prcCells_snoc r s p x (by simpa using h)];rfl
 | [],_::_,_,_,h=>by simp at h
 | _::_,[],_,_,h=>by simp at h
def ModRows (w:World) (B:Nat):List Mod→List (Value × Value)→Prop
 | [],[]=>True
 | m::r,x::s=>(w.ownsRow B 98 4 x.1 m.code.length (insCells m.code)∧w.ownsRow B 3 1 x.2 m.data.length (intCells m.data))∧ModRows w B r s
 | _,_=>False
def PrcRows (w:World) (B:Nat):List Prc→List Value→Prop
 | [],[]=>True
 | p::r,x::s=>w.ownsRow B 68 3 x p.ends.length (endCells p.ends)∧PrcRows w B r s
 | _,_=>False
theorem ModRows.len {w:World} {B:Nat}:∀ {l:List Mod} {ms:List (Value × Value)},ModRows w B l ms→ms.length=l.length
 | [],[],_=>rfl
 | _::_,_::_,h=>by simp[ModRows.len h.2]
 | [],_::_,h=>h.elim
 | _::_,[],h=>h.elim
theorem PrcRows.len {w:World} {B:Nat}:∀ {l:List Prc} {es:List Value},PrcRows w B l es→es.length=l.length
 | [],[],_=>rfl
 | _::_,_::_,h=>by simp[PrcRows.len h.2]
 | [],_::_,h=>h.elim
 | _::_,[],h=>h.elim
theorem ModRows.keep {w w':World} {B:Nat} (hk:∀ e size v n xs,(e=98∨e=3)→w.ownsRow B e size v n xs→w'.ownsRow B e size v n xs):∀ {l:List Mod} {ms:List (Value × Value)},ModRows w B l ms→ModRows w' B l ms
 | [],[],_=>trivial
 | _::_,_::_,h=>⟨⟨hk _ _ _ _ _ (.inl rfl) h.1.1,hk _ _ _ _ _ (.inr rfl) h.1.2⟩,ModRows.keep hk h.2⟩
 | [],_::_,h=>h.elim
 | _::_,[],h=>h.elim
theorem PrcRows.keep {w w':World} {B:Nat} (hk:∀ size v n xs,w.ownsRow B 68 size v n xs→w'.ownsRow B 68 size v n xs):∀ {l:List Prc} {es:List Value},PrcRows w B l es→PrcRows w' B l es
 | [],[],_=>trivial
 | _::_,_::_,h=>⟨hk _ _ _ _ h.1,PrcRows.keep hk h.2⟩
 | [],_::_,h=>h.elim
 | _::_,[],h=>h.elim
theorem ModRows.snoc {w:World} {B:Nat}:∀ {l:List Mod} {ms:List (Value × Value)} {m:Mod} {x:Value × Value},ModRows w B l ms→w.ownsRow B 98 4 x.1 m.code.length (insCells m.code)→w.ownsRow B 3 1 x.2 m.data.length (intCells m.data)→ModRows w B (l++ [m]) (ms++ [x])
 | [],[],_,_,_,h1,h2=>⟨⟨h1,h2⟩,trivial⟩
 | _::_,_::_,_,_,h,h1,h2=>⟨h.1,ModRows.snoc h.2 h1 h2⟩
 | [],_::_,_,_,h,_,_=>h.elim
 | _::_,[],_,_,h,_,_=>h.elim
theorem PrcRows.snoc {w:World} {B:Nat}:∀ {l:List Prc} {es:List Value} {p:Prc} {x:Value},PrcRows w B l es→w.ownsRow B 68 3 x p.ends.length (endCells p.ends)→PrcRows w B (l++ [p]) (es++ [x])
 | [],[],_,_,_,h1=>⟨h1,trivial⟩
 | _::_,_::_,_,_,h,h1=>⟨h.1,PrcRows.snoc h.2 h1⟩
 | [],_::_,_,_,h,_=>h.elim
 | _::_,[],_,_,h,_=>h.elim
theorem ModRows.tch {w w':World} {B:Nat} {t:TypeId} {l:List Mod} {ms:List (Value × Value)} (h:ModRows w B l ms) (ht:Tch t w w') (h1:98≠t) (h2:3≠t):ModRows w' B l ms:=
 h.keep fun e _ _ _ _ he ho=>own_tch ho ht (by rcases he with rfl|rfl;exact h1;exact h2)
theorem PrcRows.tch {w w':World} {B:Nat} {t:TypeId} {l:List Prc} {es:List Value} (h:PrcRows w B l es) (ht:Tch t w w') (h1:68≠t):PrcRows w' B l es:=
 h.keep fun _ _ _ _ ho=>own_tch ho ht h1
theorem PrcRows.mem {w:World} {B:Nat} {y:Value}:∀ {l:List Prc} {es:List Value},PrcRows w B l es→y∈es→∃ n ys,w.ownsRow B 68 3 y n ys
 | [],[],_,h=>by cases h
 | _::_,_::_,h,hy=>by
   rcases List.mem_cons.1 hy with rfl|hy
   ·exact⟨_,_,h.1⟩
   ·exact PrcRows.mem h.2 hy
 | [],_::_,h,_=>h.elim
 | _::_,[],h,_=>h.elim
structure Copied (w:World) (base:Nat) (V0 V1 V2 V3 V4:Value) (k:Krn) (ms:List (Value × Value)) (es:List Value):Prop where
 mods:w.ownsRow base 41 3 V0 k.mods.length (modCells k.mods ms)
 rows:ModRows w base k.mods ms
 mem:w.ownsRow base 3 1 V1 k.mem.length (intCells k.mem)
 nodes:w.ownsRow base 54 4 V2 k.nodes.length (nodCells k.nodes)
 pipes:w.ownsRow base 9 1 V3 k.pipes.length (strCells k.pipes)
 procs:w.ownsRow base 45 2 V4 k.procs.length (prcCells k.procs es)
 ends : PrcRows w base k.procs es
 apart:∀ x∈ms,x.2.ownBlock=none∨x.2.ownBlock≠V1.ownBlock
 each:es.Pairwise fun x y=>x.ownBlock=none∨x.ownBlock≠y.ownBlock
theorem Copied.tch {w w':World} {base:Nat} {V0 V1 V2 V3 V4:Value} {k:Krn} {ms:List (Value × Value)} {es:List Value} {t:TypeId} (h:Copied w base V0 V1 V2 V3 V4 k ms es) (ht:Tch t w w')
  (n0:41≠t) (n1:3≠t) (n2:54≠t) (n3:9≠t) (n4:45≠t) (n5:98≠t) (n6:68≠t):Copied w' base V0 V1 V2 V3 V4 k ms es:=
 ⟨own_tch h.mods ht n0,h.rows.tch ht n5 n1,own_tch h.mem ht n1,own_tch h.nodes ht n2,own_tch h.pipes ht n3,own_tch h.procs ht n4,h.ends.tch ht n6,h.apart,h.each⟩
theorem Copied.below {w w':World} {base:Nat} {V0 V1 V2 V3 V4:Value} {k:Krn} {ms:List (Value × Value)} {es:List Value} (h:Copied w base V0 V1 V2 V3 V4 k ms es) (hb:Below w.heap.size w w'):Copied w' base V0 V1 V2 V3 V4 k ms es:=
 ⟨own_below h.mods hb,h.rows.keep fun _ _ _ _ _ _ ho=>own_below ho hb,own_below h.mem hb,own_below h.nodes hb,own_below h.pipes hb,own_below h.procs hb,h.ends.keep fun _ _ _ _ ho=>own_below ho hb,h.apart,h.each⟩
structure CopyR (w0 wr:World) (a:KA) (k:Krn) (g:Nat) (V0 V1 V2 V3 V4:Value) (i j:Nat) (ms:List (Value × Value)) (es:List Value):Prop where
 below:Below w0.heap.size w0 wr
 box:Blk wr w0.heap.size 28 (a.cells k)
 res:Blk wr (w0.heap.size+1) 28 #[.slice none 0 0, .slice none 0 0, .slice none 0 0, .slice none 0 0, .slice none 0 0]
 lo:w0.heap.size+1<g
 blk:Blk wr g 28 #[V0,V1,V2,V3,V4]
 made:Copied wr w0.heap.size V0 V1 V2 V3 V4 ⟨k.mods.take i,k.mem,k.nodes,k.pipes,k.procs.take j⟩ ms es
theorem base_ne {w:World} {e:TypeId} {base size n:Nat} {v:Value} {xs:List Value} {q:Nat} (h:w.ownsRow base e size v n xs) (hq:q<base):v.ownBlock≠some q:=fun e=>by
 obtain⟨h1,_⟩:=h.lt q e;omega
theorem apart_new {w W:World} {e e':TypeId} {base size size' n n':Nat} {v u:Value} {xs ys:List Value} (h:w.ownsRow base e size v n xs) (h':W.ownsRow w.heap.size e' size' u n' ys):u.ownBlock=none∨u.ownBlock≠v.ownBlock:=by
 rcases h.2 with⟨rfl,_⟩|⟨g,cap,cur,rfl,_,hh,_⟩
 ·rcases h'.2 with⟨rfl,_⟩|⟨g',cap',cur',rfl,_⟩
  ·exact .inl rfl
  ·exact .inr (by simp[Value.ownBlock])
 ·exact .inr (base_ne h' (Blk.lt (cs:=cur) hh))
theorem CopyR.nextM {w0 wr W w1:World} {a:KA} {k:Krn} {g i:Nat} {V0 V1 V2 V3 V4 V0' v u:Value} {ms:List (Value × Value)} {es:List Value} (h:CopyR w0 wr a k g V0 V1 V2 V3 V4 i 0 ms es) (hi:i<k.mods.length)
  (hW:Below wr.heap.size wr W) (hc:W.ownsRow wr.heap.size 98 4 v k.mods[i].code.length (insCells k.mods[i].code)) (hd:W.ownsRow wr.heap.size 3 1 u k.mods[i].data.length (intCells k.mods[i].data))
  (h1:w1.ownsRow w0.heap.size 41 3 V0' ((k.mods.take i).length+1) (modCells (k.mods.take i) ms++ [.string k.mods[i].name,v,u])) (hg:W.grownBy w1 V0.ownBlock):
  CopyR w0 (w1.setCell ⟨g,0,none⟩ V0') a k g V0' V1 V2 V3 V4 (i+1) 0 (ms++ [(v,u)]) es:=by
 have hlt:w0.heap.size<wr.heap.size:=Nat.lt_of_le_of_lt (Nat.le_succ _) (Nat.lt_trans h.lo h.blk.lt);have hm:W.ownsRow w0.heap.size 41 3 V0 _ _:=own_below h.made.mods hW;have t1:=Tch.of_grown hm hg;have kg:Blk w1 g 28 _:=(h.blk.below hW h.blk.lt).tch t1 (by decide);have t2:=Tch.of_set (p:=⟨g,0,none⟩) kg V0';have tk:k.mods.take (i+1)=k.mods.take i++ [k.mods[i]]:=by rw[List.take_succ_eq_append_getElem hi]
 have hC:=own_base (B:=w0.heap.size) (own_tch (own_tch hc t1 (by decide)) t2 (by decide)) (Nat.le_of_lt hlt);have hD:=own_base (B:=w0.heap.size) (own_tch (own_tch hd t1 (by decide)) t2 (by decide)) (Nat.le_of_lt hlt);have hrows:=((h.made.rows.keep (fun _ _ _ _ _ _ ho=>own_below ho hW)).tch t1 (by decide) (by decide)).tch t2 (by decide) (by decide);have far:∀ {q:Nat} {cs:Array Value},Blk wr q 28 cs→q≠g→Blk (w1.setCell ⟨g,0,none⟩ V0') q 28 cs:=fun hq hne=>
  ((hq.below hW hq.lt).tch t1 (by decide)).far (p:=⟨g,0,none⟩) hne V0'
 refine⟨?_,far h.box (by have:=h.lo;omega),far h.res (Nat.ne_of_lt h.lo),h.lo,kg.set_ 0 V0',?_⟩
 ·have b1:=h.below.trans (hW.mono h.below.size)
  exact(b1.grown hg (Nat.le_trans h.below.size hW.size) (fun q hq=>(hm.lt q hq).1)).setCell (p:=⟨g,0,none⟩) (by have:=h.lo;show w0.heap.size≤g;omega) V0'
 ·refine⟨?_,?_,own_tch (own_tch (own_below h.made.mem hW) t1 (by decide)) t2 (by decide),own_tch (own_tch (own_below h.made.nodes hW) t1 (by decide)) t2 (by decide),own_tch (own_tch (own_below h.made.pipes hW) t1 (by decide)) t2 (by decide),
   own_tch (own_tch (own_below h.made.procs hW) t1 (by decide)) t2 (by decide),((h.made.ends.keep (fun _ _ _ _ ho=>own_below ho hW)).tch t1 (by decide)).tch t2 (by decide),?_,h.made.each⟩
  ·show World.ownsRow _ _ _ _ _ (k.mods.take (i+1)).length (modCells (k.mods.take (i+1)) _)
   rw[tk,modCells_snoc _ _ _ _ h.made.rows.len,List.length_append];exact own_tch h1 t2 (by decide)
  ·show ModRows _ _ (k.mods.take (i+1)) _
   rw[tk];exact hrows.snoc hC hD
  ·intro x hx
   rcases List.mem_append.1 hx with hx|hx
   ·exact h.made.apart x hx
   ·obtain rfl:x=(v,u):=by simpa using hx
    exact apart_new h.made.mem hd
theorem CopyR.nextP {w0 wr W w1:World} {a:KA} {k:Krn} {g i j:Nat} {V0 V1 V2 V3 V4 V4' x:Value} {ms:List (Value × Value)} {es:List Value} (h:CopyR w0 wr a k g V0 V1 V2 V3 V4 i j ms es) (hj:j<k.procs.length)
  (hW:Below wr.heap.size wr W) (hx:W.ownsRow wr.heap.size 68 3 x k.procs[j].ends.length (endCells k.procs[j].ends))
  (h1:w1.ownsRow w0.heap.size 45 2 V4' ((k.procs.take j).length+1) (prcCells (k.procs.take j) es++ [.bool k.procs[j].live,x])) (hg:W.grownBy w1 V4.ownBlock):
  CopyR w0 (w1.setCell ⟨g,4,none⟩ V4') a k g V0 V1 V2 V3 V4' i (j+1) ms (es++ [x]):=by
 have hlt:w0.heap.size<wr.heap.size:=Nat.lt_of_le_of_lt (Nat.le_succ _) (Nat.lt_trans h.lo h.blk.lt);have hm:W.ownsRow w0.heap.size 45 2 V4 _ _:=own_below h.made.procs hW;have t1:=Tch.of_grown hm hg;have kg:Blk w1 g 28 _:=(h.blk.below hW h.blk.lt).tch t1 (by decide);have t2:=Tch.of_set (p:=⟨g,4,none⟩) kg V4';have tk:k.procs.take (j+1)=k.procs.take j++ [k.procs[j]]:=by rw[List.take_succ_eq_append_getElem hj]
 have hX:=own_base (B:=w0.heap.size) (own_tch (own_tch hx t1 (by decide)) t2 (by decide)) (Nat.le_of_lt hlt);have hends:=((h.made.ends.keep (fun _ _ _ _ ho=>own_below ho hW)).tch t1 (by decide)).tch t2 (by decide);have far:∀ {q:Nat} {cs:Array Value},Blk wr q 28 cs→q≠g→Blk (w1.setCell ⟨g,4,none⟩ V4') q 28 cs:=fun hq hne=>
  ((hq.below hW hq.lt).tch t1 (by decide)).far (p:=⟨g,4,none⟩) hne V4'
 refine⟨?_,far h.box (by have:=h.lo;omega),far h.res (Nat.ne_of_lt h.lo),h.lo,kg.set_ 4 V4',?_⟩
 ·have b1:=h.below.trans (hW.mono h.below.size)
  exact(b1.grown hg (Nat.le_trans h.below.size hW.size) (fun q hq=>(hm.lt q hq).1)).setCell (p:=⟨g,4,none⟩) (by have:=h.lo;show w0.heap.size≤g;omega) V4'
 ·refine⟨own_tch (own_tch (own_below h.made.mods hW) t1 (by decide)) t2 (by decide),((h.made.rows.keep (fun _ _ _ _ _ _ ho=>own_below ho hW)).tch t1 (by decide) (by decide)).tch t2 (by decide) (by decide),
   own_tch (own_tch (own_below h.made.mem hW) t1 (by decide)) t2 (by decide),own_tch (own_tch (own_below h.made.nodes hW) t1 (by decide)) t2 (by decide),own_tch (own_tch (own_below h.made.pipes hW) t1 (by decide)) t2 (by decide),?_,?_,h.made.apart,?_⟩
  ·show World.ownsRow _ _ _ _ _ (k.procs.take (j+1)).length (prcCells (k.procs.take (j+1)) _)
   rw[tk,prcCells_snoc _ _ _ _ h.made.ends.len,List.length_append];exact own_tch h1 t2 (by decide)
  ·show PrcRows _ _ (k.procs.take (j+1)) _
   rw[tk];exact hends.snoc hX
  ·have ap:∀ y∈es,y.ownBlock=none∨y.ownBlock≠x.ownBlock:=by
    intro y hy;have:=h.made.ends.mem hy;obtain⟨n,ys,ho⟩:=this;rcases apart_new ho hx with e|e
    ·rw[e]
     cases hy0:y.ownBlock with
     | none=>exact .inl rfl
     | some q=>exact .inr (by simp)
    ·exact .inr (Ne.symm e)
   rw[List.pairwise_append];exact⟨h.made.each,List.pairwise_singleton _ _,fun y hy z hz=>by
    obtain rfl:z=x:=by simpa using hz
    exact ap y hy⟩
end Go.Proofs.YtdjamdbamkhblabGreatDoor
