/- A kernel under way: a process's row in memory, a process stored whole, a word stored, a module appended. No condition. The walks of slices.IndexFunc and slices.ContainsFunc at one element type: for every predicate whose calls leave old memory as it was. The walks of slices.IndexFunc and slices.ContainsFunc at one element type: for every predicate whose calls leave old memory as it was. The walks of kern.has and of the reference's HasEnd: has any process such an end? The walks of kern.node and kern.end: a file, an open end that may be. -/
import Derived.Test.YtdjamdbamkhblacGreatDoorG06
set_option maxHeartbeats 4000000
namespace Go.Proofs.YtdjamdbamkhblacGreatDoor
open Go.RowKit
set_option linter.unusedVariables false
set_option linter.unusedSimpArgs false
theorem Fzt:∀ (l:List Prc) (es:List Value) (p:Nat),es.length=l.length→p<l.length→∀ (x:Prc) (V:Value),Azq (l.set p x) (es.set p V)=((Azq l es).set (p*2) (.bool x.live)).set (p*2+1) V
 | [],_,_,_,h,_,_=>by cases h
 | _::_,[],_,h,_,_,_=>by simp at h
 | y::r,v::s,0,_,_,x,V=>rfl
 | y::r,v::s,p+1,hl,hp,x,V=>by
   have:=Fzt r s p (by simpa using hl) (by simpa using hp) x V;have e1:(p+1)*2=p*2+2:=by omega
   show Value.bool y.live::v::Azq (r.set p x) (s.set p V)=_;rw[this,e1];rfl
theorem PrcRows.set_ {w:World} {B:Nat}:∀ {l:List Prc} {es:List Value} {p:Nat} {x:Prc} {V:Value},PrcRows w B l es→w.ownsRow B 54 3 V x.ends.length (Azg x.ends)→PrcRows w B (l.set p x) (es.set p V)
 | [],[],_,_,_,_,_=>by simp[PrcRows]
 | _::_,_::_,0,_,_,h,h1=>⟨h1,h.2⟩
 | _::_,_::_,p+1,_,_,h,h1=>⟨h.1,PrcRows.set_ h.2 h1⟩
 | [],_::_,_,_,_,h,_=>h.elim
 | _::_,[],_,_,_,h,_=>h.elim
theorem Ozz {es:List Value} (h:es.Pairwise fun x y=>x.ownBlock=none∨x.ownBlock≠y.ownBlock) {p:Nat} {V:Value} (hV:∀ y∈es,y.ownBlock=none∨y.ownBlock≠V.ownBlock):
  (es.set p V).Pairwise fun x y=>x.ownBlock=none∨x.ownBlock≠y.ownBlock:=by
 rw[List.pairwise_iff_getElem] at h ⊢;intro i j hi hj hij;have hi':i<es.length:=by simpa using hi
 have hj':j<es.length:=by simpa using hj
 simp only[List.getElem_set];by_cases h1:p=i
 ·rw[if_pos h1,if_neg (by omega)]
  rcases hV _ (List.getElem_mem hj') with h2|h2
  ·rw[h2]
   cases V.ownBlock<;>simp
  ·exact .inr fun e=>h2 e.symm
 ·rw[if_neg h1]
  by_cases h2:p=j
  ·rw[if_pos h2]
   exact hV _ (List.getElem_mem hi')
  ·rw[if_neg h2]
   exact h i j hi' hj' hij
section
variable {B:Nat} {w w' w0:World} {g b i p:Nat} {a:KA} {k:Krn} {ms:List (Value × Value)} {es:List Value}
theorem KS.prcAt (h:KS B w g a k ms es) (hp:p<k.procs.length) (hn:0<k.procs[p].ends.length):
  ∃ b4 be c,∃ hp':p<es.length,a.a4=some ⟨b4,0,none⟩∧B≤b4∧b4<w.heap.size∧es[p]= .slice (some ⟨be,0,none⟩) k.procs[p].ends.length c∧B≤be∧be<w.heap.size∧k.procs[p].ends.length≤c∧
   w.cell? ⟨b4,p*2,none⟩=some (.bool k.procs[p].live)∧w.cell? ⟨b4,p*2+1,none⟩=some (.slice (some ⟨be,0,none⟩) k.procs[p].ends.length c):=by
 have hlen:=h.cp.ends.len;have hp':p<es.length:=by omega
 have ho:=h.cp.ends.at_ p hp hp';obtain⟨A,c,he⟩:=Az1 ho;rw[he] at ho;obtain⟨be,rfl,hbe,hlt⟩:=Azf ho hn;obtain⟨b4,ha4,hb4,hlt4⟩:=Azf h.cp.procs (by omega);obtain⟨x0,x1⟩:=Czp k.procs es hlen p hp hp';have hr:=Rd.of_own h.cp.procs;rw[ha4] at hr;obtain⟨b,o,hb,_,hc⟩:=hr.2 (by omega);cases hb
 have y0:=hc _ _ x0;have y1:=hc _ _ x1;rw[Nat.zero_add] at y0 y1;rw[he] at y1;exact⟨b4,be,c,hp',ha4,hb4,hlt4,he,hbe,hlt,(Fz8 ho).2,y0,y1⟩
theorem KS.prc {V:Value} {x:Prc} (h0:KS B w0 g a k ms es) (hb:Below w0.heap.size w0 w) (ha:a.a4=some ⟨b,0,none⟩) (hp:p<k.procs.length)
  (ho:w.ownsRow w0.heap.size 54 3 V x.ends.length (Azg x.ends)) (hf:x.ends.length*24≤140737488351232):
  KS B ((w.setCell ⟨b,p*2,none⟩ (.bool x.live)).setCell ⟨b,p*2+1,none⟩ V) g a { k with procs:=k.procs.set p x } ms (es.set p V)∧
  Fr B w ((w.setCell ⟨b,p*2,none⟩ (.bool x.live)).setCell ⟨b,p*2+1,none⟩ V):=by
 have h:=h0.below hb;have hn:=h.cp.procs;rw[ha] at hn;have hbb:B≤b:=(hn.lt b rfl).1;have hlen:=h.cp.ends.len;obtain⟨h1,t1⟩:=Czc hn (p*2) (.bool x.live);obtain⟨h2,t2⟩:=Czc h1 (p*2+1) V;rw[←Fzt k.procs es p hlen hp x V, ←ha] at h2;have hl:(k.procs.set p x).length=k.procs.length:=List.length_set ..;have hB0:B≤w0.heap.size:=Nat.le_of_lt h0.lt;refine⟨⟨h.lo,?_,?_,?_⟩,(Fr.tch (Czt hbb _ _) t1 (by decide)).trans (.tch (Czt hbb _ _) t2 (by decide))⟩
 ·have:=(h.blk.tch t1 (by decide)).tch t2 (by decide)
  unfold KA.cells at this ⊢;simp only;rw[hl];exact this
 ·have hc:=h.cp
  simp only;rw[hl];refine⟨Az4 (Az4 hc.mods t1 (by decide)) t2 (by decide),(hc.rows.tch t1 (by decide) (by decide)).tch t2 (by decide) (by decide),Az4 (Az4 hc.mem t1 (by decide)) t2 (by decide),Az4 (Az4 hc.nodes t1 (by decide)) t2 (by decide),
   Az4 (Az4 hc.pipes t1 (by decide)) t2 (by decide),by simp only;rw[hl];exact h2,?_,hc.apart,?_⟩
  ·exact PrcRows.set_ ((hc.ends.tch t1 (by decide)).tch t2 (by decide)) (Az4 (Az4 (own_base ho hB0) t1 (by decide)) t2 (by decide))
  ·refine Ozz hc.each fun y hy=>?_
   cases hq:y.ownBlock with
   | none=>exact .inl rfl
   | some q=>
     refine .inr fun e=>?_
     obtain⟨j,hj,rfl⟩:=List.mem_iff_getElem.1 hy;have h3:=((h0.cp.ends.at_ j (by omega) hj).lt q hq).2;have h4:=(ho.lt q e.symm).1;omega
 ·refine Dzy h.fits rfl (fun y hy=>?_) rfl rfl rfl hl
  rcases List.mem_or_eq_of_mem_set hy with hy|rfl
  ·exact h.fits.p _ hy
  ·exact hf
theorem KS.word (h:KS B w g a k ms es) (ha:a.a1=some ⟨b,0,none⟩) (n:Int):
  KS B (w.setCell ⟨b,i,none⟩ (.int .i64 n)) g a { k with mem:=k.mem.set i n } ms es∧Fr B w (w.setCell ⟨b,i,none⟩ (.int .i64 n)):=by
 have hn:=h.cp.mem;rw[ha] at hn;have hbb:B≤b:=(hn.lt b rfl).1;obtain⟨h1,ht⟩:=Czc hn i (.int .i64 n);have hl:(k.mem.set i n).length=k.mem.length:=List.length_set ..;have hc:intCells (k.mem.set i n)=(intCells k.mem).set i (.int .i64 n):=by unfold intCells;rw[List.map_set]
 rw[←hc, ←ha] at h1;refine⟨⟨h.lo,?_,?_,?_⟩, .tch (Czt hbb _ _) ht (by decide)⟩
 ·have:=h.blk.tch ht (by decide)
  unfold KA.cells at this ⊢;simp only;rw[hl];exact this
 ·simp only
  rw[hl];refine⟨Az4 h.cp.mods ht (by decide),?_,by simp only;rw[hl];exact h1,Az4 h.cp.nodes ht (by decide),Az4 h.cp.pipes ht (by decide),Az4 h.cp.procs ht (by decide),h.cp.ends.tch ht (by decide),h.cp.apart,h.cp.each⟩;have key:∀ {l:List Mod} {xs:List (Value × Value)},ModRows w B l xs→(∀ x∈xs,x.2.ownBlock=none∨x.2.ownBlock≠some b)→ModRows (w.setCell ⟨b,i,none⟩ (.int .i64 n)) B l xs:=by
   intro l
   induction l with
   | nil=>intro xs hh _;cases xs with
     | nil=>trivial
     | cons _ _=>exact hh.elim
   | cons m r ih=>intro xs hh hx;cases xs with
     | nil=>exact hh.elim
     | cons y s=>
       refine⟨⟨Az4 hh.1.1 ht (by decide),?_⟩,ih hh.2 fun z hz=>hx z (List.mem_cons_of_mem _ hz)⟩;refine ownsRow_setCell_other hh.1.2 (a:=⟨b,i,none⟩) ?_ _;rcases hx y (List.mem_cons_self ..) with h2|h2
       ·rw[h2];simp
       ·exact h2
  exact key h.cp.rows fun x hx=>by
   have:=h.cp.apart x hx;rw[ha] at this;exact this
 ·exact Dzy h.fits rfl h.fits.p hl rfl rfl rfl
theorem KS.modApp {V0' vc vd:Value} {m:Mod} {w1:World} (h0:KS B w0 g a k ms es) (hb:Below w0.heap.size w0 w)
  (hc:w.ownsRow w0.heap.size 104 4 vc m.code.length (Azc m.code)) (hd:w.ownsRow w0.heap.size 3 1 vd m.data.length (intCells m.data))
  (h1:w1.ownsRow B 47 3 V0' (k.mods.length+1) (Azy k.mods ms++ [.string m.name,vc,vd])) (hg:w.grownBy w1 (Value.slice a.a0 k.mods.length a.c0).ownBlock)
  (hf:m.name.size≤140737488351232∧m.code.length*32≤140737488351232∧m.data.length*8≤140737488351232) (hl:(k.mods.length+1)*64≤140737488351232):
  ∃ A c,V0'= .slice A (k.mods.length+1) c∧KS B (w1.setCell ⟨g,0,none⟩ V0') g { a with a0:=A,c0:=c } { k with mods:=k.mods++ [m] } (ms++ [(vc,vd)]) es∧Fr B w (w1.setCell ⟨g,0,none⟩ V0'):=by
 obtain⟨A,c,rfl⟩:=Az1 h1;have h:=h0.below hb;have hB0:B≤w0.heap.size:=Nat.le_of_lt h0.lt;have tg:Tch 47 w w1:=Tch.of_grown h.cp.mods hg;have hb1:=h.blk.tch tg (by decide);have ht:=Tch.of_set (p:=⟨g,0,none⟩) hb1 (.slice A (k.mods.length+1) c);have hlen:=h.cp.rows.len;have hle:(k.mods++ [m]).length=k.mods.length+1:=by simp
 have hbelow:Below B w w1:=(Below.refl B w).grown hg (Nat.le_of_lt h.lt) (fun q hq=>(h.cp.mods.lt q hq).1);refine⟨A,c,rfl,⟨h.lo,?_,?_,?_⟩,(Fr.tch hbelow tg (by decide)).trans (.kset h.lo hb1 0 _)⟩
 ·have:=hb1.set_ 0 (.slice A (k.mods.length+1) c)
  unfold KA.cells at this ⊢;simp only;rw[hle];exact this
 ·have hcp:=h.cp
  simp only;rw[hle];refine⟨?_,?_,Az4 (Az4 hcp.mem tg (by decide)) ht (by decide),Az4 (Az4 hcp.nodes tg (by decide)) ht (by decide),Az4 (Az4 hcp.pipes tg (by decide)) ht (by decide),Az4 (Az4 hcp.procs tg (by decide)) ht (by decide),
   (hcp.ends.tch tg (by decide)).tch ht (by decide),fun x hx=>?_,hcp.each⟩
  ·simp only
   rw[hle,Dzc _ _ _ _ hlen];exact Az4 h1 ht (by decide)
  ·exact ModRows.snoc ((hcp.rows.tch tg (by decide) (by decide)).tch ht (by decide) (by decide)) (Az4 (Az4 (own_base hc hB0) tg (by decide)) ht (by decide)) (Az4 (Az4 (own_base hd hB0) tg (by decide)) ht (by decide))
  ·rcases List.mem_append.1 hx with hx|hx
   ·exact hcp.apart x hx
   ·obtain rfl:x=(vc,vd):=by simpa using hx
    cases hq:vd.ownBlock with
    | none=>exact .inl rfl
    | some q=>
      refine .inr fun e=>?_
      have h3:=(hd.lt q hq).1;have h4:=(h0.cp.mem.lt q e.symm).2;omega
 ·exact⟨fun x hx=>by
   rcases List.mem_append.1 hx with hx|hx
   ·exact h.fits.m x hx
   ·obtain rfl:x=m:=by simpa using hx
    exact hf,h.fits.p,by rw[hle];exact hl,h.fits.l1,h.fits.l2,h.fits.l3,h.fits.l4⟩
end
theorem Ez8 (F:FuncId) (cp:Array Value) (p:Opn→Bool) (A:Option Addr) (c:Nat) (l:List Opn) (w:World) (hr:RdE w w.heap.size A l) (hl:l.length≤maxLen)
  (eg:∀ args w,(callFunc F args).run Tryz.prog w= .ok (.enter F args) w)
  (hp:∀ x∈l,∀ (w1:World),Below w.heap.size w w1→Calls Tryz.prog F (#[.agg #[.int .i64 x.kind, .int .i64 x.node, .int .i64 x.pos]]++cp) w1 fun e w'=>e= .returned (.bool (p x))∧Below w1.heap.size w1 w'):
  Calls Tryz.prog 78 #[.slice A l.length c, .func (.func F) #[] cp] w fun e w'=>e= .returned (.int .i64 (idxF p l 0))∧Below w.heap.size w w':=by
 unfold maxLen at hl;have HP:=Lib.hid hp;clear hp;go_enter Tryz.func78,Tryz.ntmps78;go_wp2;go_loopw [8] (fun i wr=>Cnt l.length i fun k=>Below w.heap.size w wr∧Hid (idxF p l 0=idxF p (l.drop k) k)) (fun i _=>l.length - (intOf i).toNat)
 case atStart=>exact⟨0,Nat.zero_le _,rfl,Below.refl _ _,rfl⟩
 case round=>
  obtain⟨k,hk,rfl,hb,HV⟩:=hrel;by_cases hlt:k<l.length
  ·obtain⟨b,o,rfl,hbB,hcell⟩:=hr (by omega)
   obtain⟨c0,c1,c2⟩:=hcell k hlt;rw[←hb.cell (p:=⟨b,_,none⟩) hbB] at c0 c1 c2;have HD:=Lib.hid (Bzs (p:=p) hlt);have HM:=Lib.hid (List.getElem_mem hlt);clear hr hcell;cases hpk:p l[k] with
   | true=>
     have HK:=Lib.hid hpk;clear hpk;go_wp2_with fail;refine(HP.out _ HM.out _ hb).mono ?_;rw[HK.out];rintro e w1 ⟨rfl,hb1⟩;go_wp2;go_ret;exact⟨Az8 (by rw[HV.out,HD.out,if_pos HK.out]),hb.trans (hb1.mono hb.size)⟩
   | false=>
     have HK:=Lib.hid hpk;clear hpk;go_wp2_with fail;refine(HP.out _ HM.out _ hb).mono ?_;rw[HK.out];rintro e w1 ⟨rfl,hb1⟩;go_wp2;go_roundw
     case rel=>exact⟨k+1,by omega,by go_num,hb.trans (hb1.mono hb.size),by show _=_;rw[HV.out,HD.out,if_neg (by rw[HK.out];decide)]⟩
     case measure=>simp[intOf];omega
  ·go_wp2
   go_ret;exact⟨Az8 (by rw[HV.out,List.drop_of_length_le (by omega)];rfl),hb⟩
theorem Dzj (F:FuncId) (cp:Array Value) (p:Opn→Bool) (A:Option Addr) (c:Nat) (l:List Opn) (w:World) (hr:RdE w w.heap.size A l) (hl:l.length≤maxLen)
  (eg:∀ args w,(callFunc F args).run Tryz.prog w= .ok (.enter F args) w)
  (hp:∀ x∈l,∀ (w1:World),Below w.heap.size w w1→Calls Tryz.prog F (#[.agg #[.int .i64 x.kind, .int .i64 x.node, .int .i64 x.pos]]++cp) w1 fun e w'=>e= .returned (.bool (p x))∧Below w1.heap.size w1 w'):
  Calls Tryz.prog 39 #[.slice A l.length c, .func (.func F) #[] cp] w fun e w'=>e= .returned (.bool (l.any p))∧Below w.heap.size w w':=by
 have HP:=Lib.hid hp;have HE:=Lib.hid eg;clear hp eg;go_enter Tryz.func39,Tryz.ntmps39;go_wp2_with fail;refine(Ez8 F cp p A c l w hr hl HE.out HP.out).mono ?_;rintro e w1 ⟨rfl,hb1⟩;go_wp2
 all_goals go_ret
 all_goals refine⟨Az9 ?_,hb1⟩
 all_goals rw[←Dzb p l 0]
theorem Ez9 (F:FuncId) (cp:Array Value) (p:Prc→Bool) (A:Option Addr) (c:Nat) (l:List Prc) (w:World) (hr:RdP w w.heap.size A l) (hl:l.length≤maxLen)
  (eg:∀ args w,(callFunc F args).run Tryz.prog w= .ok (.enter F args) w)
  (hp:∀ x∈l,∀ (w1:World) (A1:Option Addr) (c1:Nat),Below w.heap.size w w1→PrcAt w1 w1.heap.size A1 c1 x→Calls Tryz.prog F (#[.agg #[.bool x.live, .slice A1 x.ends.length c1]]++cp) w1 fun e w'=>e= .returned (.bool (p x))∧Below w1.heap.size w1 w'):
  Calls Tryz.prog 53 #[.slice A l.length c, .func (.func F) #[] cp] w fun e w'=>e= .returned (.int .i64 (idxF p l 0))∧Below w.heap.size w w':=by
 unfold maxLen at hl;have HP:=Lib.hid hp;clear hp;go_enter Tryz.func53,Tryz.ntmps53;go_wp2;go_loopw [8] (fun i wr=>Cnt l.length i fun k=>Below w.heap.size w wr∧Hid (idxF p l 0=idxF p (l.drop k) k)) (fun i _=>l.length - (intOf i).toNat)
 case atStart=>exact⟨0,Nat.zero_le _,rfl,Below.refl _ _,rfl⟩
 case round=>
  obtain⟨k,hk,rfl,hb,HV⟩:=hrel;by_cases hlt:k<l.length
  ·obtain⟨b,o,rfl,hbB,hcell⟩:=hr (by omega)
   obtain⟨A1,c1,c0,c1',hz⟩:=hcell k hlt;rw[←hb.cell (p:=⟨b,_,none⟩) hbB] at c0 c1';have HZ:=Lib.hid ((hz.keep (w':=wr) (fun _ hp=>hb.cell hp)).more hb.size);have HD:=Lib.hid (Bzs (p:=p) hlt);have HM:=Lib.hid (List.getElem_mem hlt);clear hr hcell hz;cases hpk:p l[k] with
   | true=>
     have HK:=Lib.hid hpk;clear hpk;go_wp2_with fail;refine(HP.out _ HM.out _ _ _ hb HZ.out).mono ?_;rw[HK.out];rintro e w1 ⟨rfl,hb1⟩;go_wp2;go_ret;exact⟨Az8 (by rw[HV.out,HD.out,if_pos HK.out]),hb.trans (hb1.mono hb.size)⟩
   | false=>
     have HK:=Lib.hid hpk;clear hpk;go_wp2_with fail;refine(HP.out _ HM.out _ _ _ hb HZ.out).mono ?_;rw[HK.out];rintro e w1 ⟨rfl,hb1⟩;go_wp2;go_roundw
     case rel=>exact⟨k+1,by omega,by go_num,hb.trans (hb1.mono hb.size),by show _=_;rw[HV.out,HD.out,if_neg (by rw[HK.out];decide)]⟩
     case measure=>simp[intOf];omega
  ·go_wp2
   go_ret;exact⟨Az8 (by rw[HV.out,List.drop_of_length_le (by omega)];rfl),hb⟩
theorem Fzw (F:FuncId) (cp:Array Value) (p:Prc→Bool) (A:Option Addr) (c:Nat) (l:List Prc) (w:World) (hr:RdP w w.heap.size A l) (hl:l.length≤maxLen)
  (eg:∀ args w,(callFunc F args).run Tryz.prog w= .ok (.enter F args) w)
  (hp:∀ x∈l,∀ (w1:World) (A1:Option Addr) (c1:Nat),Below w.heap.size w w1→PrcAt w1 w1.heap.size A1 c1 x→Calls Tryz.prog F (#[.agg #[.bool x.live, .slice A1 x.ends.length c1]]++cp) w1 fun e w'=>e= .returned (.bool (p x))∧Below w1.heap.size w1 w'):
  Calls Tryz.prog 75 #[.slice A l.length c, .func (.func F) #[] cp] w fun e w'=>e= .returned (.bool (l.any p))∧Below w.heap.size w w':=by
 have HP:=Lib.hid hp;have HE:=Lib.hid eg;clear hp eg;go_enter Tryz.func75,Tryz.ntmps75;go_wp2_with fail;refine(Ez9 F cp p A c l w hr hl HE.out HP.out).mono ?_;rintro e w1 ⟨rfl,hb1⟩;go_wp2
 all_goals go_ret
 all_goals refine⟨Az9 ?_,hb1⟩
 all_goals rw[←Dzb p l 0]
theorem Az6 (w:World) (o:Obj):Below w.heap.size w (w.alloc o):=(Below.refl _ _).alloc (Nat.le_refl _) o
theorem Jzw:∀ args w,(callFunc 77 args).run Tryz.prog w= .ok (.enter 77 args) w:=fun args w=>by
 simp only[callFunc,run_program,Sem.run_bind,Result.andThen_ok,Tryz.func77];rfl
theorem Lzw:∀ args w,(callFunc 76 args).run Tryz.prog w= .ok (.enter 76 args) w:=fun args w=>by
 simp only[callFunc,run_program,Sem.run_bind,Result.andThen_ok,Tryz.func76];rfl
theorem Nz8 (x:Opn) (b1 b2:Nat) (kind pl:Int) (w:World) (h1:b1<w.heap.size) (h2:b2<w.heap.size) (c1:w.cell? ⟨b1,0,none⟩=some (.int .i64 kind)) (c2:w.cell? ⟨b2,0,none⟩=some (.int .i64 pl)):
  Calls Tryz.prog 77 #[.agg #[.int .i64 x.kind, .int .i64 x.node, .int .i64 x.pos], .pointer (some ⟨b1,0,none⟩), .pointer (some ⟨b2,0,none⟩)] w fun e w'=>e= .returned (.bool ((x.kind == kind) && (x.node == pl)))∧Below w.heap.size w w':=by
 cases hk:(x.kind == kind)
 all_goals
  go_enter Tryz.func77,Tryz.ntmps77;go_wp2;go_ret;exact⟨Az9 (by simp),Az6 w _⟩
theorem Pz3 (x:Prc) (A:Option Addr) (c:Nat) (b1 b2:Nat) (kind pl:Int) (w:World) (hA:PrcAt w w.heap.size A c x) (h1:b1<w.heap.size) (h2:b2<w.heap.size) (c1:w.cell? ⟨b1,0,none⟩=some (.int .i64 kind)) (c2:w.cell? ⟨b2,0,none⟩=some (.int .i64 pl)):
  Calls Tryz.prog 76 #[.agg #[.bool x.live, .slice A x.ends.length c], .pointer (some ⟨b1,0,none⟩), .pointer (some ⟨b2,0,none⟩)] w fun e w'=>e= .returned (.bool (hasP kind pl x))∧Below w.heap.size w w':=by
 have hb:=Az6 w (.cells #[.bool x.live, .slice A x.ends.length c] 52);have HA:=Lib.hid ((hA.ends.below hb).more hb.size);have HL:=Lib.hid (show x.ends.length≤maxLen by have:=hA.el;unfold maxLen;omega);have C1:=Lib.hid (show ∀ w2,Below (w.alloc (.cells #[.bool x.live, .slice A x.ends.length c] 52)).heap.size (w.alloc (.cells #[.bool x.live, .slice A x.ends.length c] 52)) w2→b1<w2.heap.size∧b2<w2.heap.size∧w2.cell? ⟨b1,0,none⟩=some (.int .i64 kind)∧w2.cell? ⟨b2,0,none⟩=some (.int .i64 pl) from fun w2 h=>by
  have h3:=hb.trans (h.mono hb.size);exact⟨Nat.lt_of_lt_of_le h1 h3.size,Nat.lt_of_lt_of_le h2 h3.size,(h3.cell (p:=⟨b1,0,none⟩) h1).trans c1,(h3.cell (p:=⟨b2,0,none⟩) h2).trans c2⟩)
 clear hA;go_enter Tryz.func76,Tryz.ntmps76;go_wp2_with fail;refine(Dzj 77 #[.pointer (some ⟨b1,0,none⟩), .pointer (some ⟨b2,0,none⟩)] (fun y=>(y.kind == kind) && (y.node == pl)) A c x.ends _ HA.out HL.out Jzw (fun y _ w2 hw2=>?_)).mono ?_
 ·obtain⟨q1,q2,q3,q4⟩:=C1.out w2 hw2
  exact Nz8 y b1 b2 kind pl w2 q1 q2 q3 q4
 rintro e w1 ⟨rfl,hb1⟩;go_wp2;go_ret;exact⟨rfl,hb.trans (hb1.mono hb.size)⟩
theorem Dzz (V0 V1 V2 V3:Value) (A:Option Addr) (c:Nat) (ps:List Prc) (kind pl:Int) (w:World) (hr:RdP w w.heap.size A ps) (hl:ps.length≤maxLen):
  Calls Tryz.prog 38 #[.agg #[V0,V1,V2,V3, .slice A ps.length c], .int .i64 kind, .int .i64 pl] w fun e w'=>e= .returned (.bool (hasE ps kind pl))∧Below w.heap.size w w':=by
 have hb1:=Az6 w (.cells #[V0,V1,V2,V3, .slice A ps.length c] 30);have hb2:=hb1.alloc hb1.size (.cells #[.int .i64 kind] 3);have hb3:=hb2.alloc hb2.size (.cells #[.int .i64 pl] 3);have HR:=Lib.hid ((hr.below hb3).more hb3.size);have HL:=Lib.hid hl;have HB:=Lib.hid hb3;have C1:=Lib.hid (show ∀ w2,Below (((w.alloc (.cells #[V0,V1,V2,V3, .slice A ps.length c] 30)).alloc (.cells #[.int .i64 kind] 3)).alloc (.cells #[.int .i64 pl] 3)).heap.size (((w.alloc (.cells #[V0,V1,V2,V3, .slice A ps.length c] 30)).alloc (.cells #[.int .i64 kind] 3)).alloc (.cells #[.int .i64 pl] 3)) w2→w.heap.size+1<w2.heap.size∧w.heap.size+1+1<w2.heap.size∧w2.cell? ⟨w.heap.size+1,0,none⟩=some (.int .i64 kind)∧w2.cell? ⟨w.heap.size+1+1,0,none⟩=some (.int .i64 pl) from fun w2 h=>by
  have hs:=h.size;have N1:Blk ((w.alloc (.cells #[V0,V1,V2,V3, .slice A ps.length c] 30)).alloc (.cells #[.int .i64 kind] 3)) (w.heap.size+1) 3 #[.int .i64 kind]:=Blk.new' (by simp);have N2:Blk (((w.alloc (.cells #[V0,V1,V2,V3, .slice A ps.length c] 30)).alloc (.cells #[.int .i64 kind] 3)).alloc (.cells #[.int .i64 pl] 3)) (w.heap.size+1+1) 3 #[.int .i64 pl]:=Blk.new' (by simp);simp at hs;exact⟨by omega,by omega,((N1.alloc _).below h (N1.alloc _).lt).cell 0,(N2.below h N2.lt).cell 0⟩)
 clear hr hl hb1 hb2 hb3;go_enter Tryz.func38,Tryz.ntmps38;go_wp2_with fail;refine(Fzw 76 #[.pointer (some ⟨w.heap.size+1,0,none⟩), .pointer (some ⟨w.heap.size+1+1,0,none⟩)] (hasP kind pl) A c ps _ HR.out HL.out Lzw (fun y _ w2 A1 c1 hw2 hz=>?_)).mono ?_
 ·obtain⟨q1,q2,q3,q4⟩:=C1.out w2 hw2
  exact Pz3 y A1 c1 _ _ kind pl w2 hz q1 q2 q3 q4
 rintro e w1 ⟨rfl,hb1⟩;go_wp2;go_ret;exact⟨rfl,HB.out.trans (hb1.mono HB.out.size)⟩
theorem Bz5 (s:ByteArray):empS s=decide (s.toList=[]):=by
 obtain⟨⟨l⟩⟩:=s;rw[show (⟨⟨l⟩⟩:ByteArray).toList=l from ByteArray.toList_mk l];cases l<;>simp[empS,ByteArray.size]
theorem Pzf (V1 V3 V4:Value) (A0:Option Addr) (n0 c0:Nat) (A:Option Addr) (c:Nat) (l:List Nod) (i:Nat) (w:World) (hr:RdD w w.heap.size A l) (hl:l.length≤maxLen) (hi:i<l.length) (hn:n0≤maxLen) (hs:l[i].data.size≤maxLen):
  Calls Tryz.prog 34 #[.agg #[.slice A0 n0 c0,V1, .slice A l.length c,V3,V4], .int .i64 (i:Int)] w fun e w'=>e= .returned (.bool (Bz6 n0 l[i]))∧Below w.heap.size w w':=by
 unfold maxLen at hl hn hs;have hb1:=Az6 w (.cells #[.slice A0 n0 c0,V1, .slice A l.length c,V3,V4] 30);obtain⟨b,o,rfl,hbB,hcell⟩:=hr (by omega);obtain⟨x,hx⟩:∃ x,x=l[i]:=⟨_,rfl⟩;obtain⟨q0,q1,q2,q3⟩:=hcell i hi;rw[←hx] at q0 q1 q2 q3 hs ⊢;have HB:=Lib.hid (fun o=>hb1.alloc hb1.size o);clear hcell hr hb1 hx;obtain⟨nm,kd,dt,un⟩:=x;simp only at q0 q1 q2 q3 hs;by_cases k0:kd=0
 ·subst k0
  go_enter Tryz.func34,Tryz.ntmps34;go_wp2
  all_goals go_ret
  all_goals refine⟨Az9 ?_,HB.out _⟩
  all_goals simp[Bz6,Bz5, *]
 by_cases k1:kd=1
 ·subst k1
  clear k0;go_enter Tryz.func34,Tryz.ntmps34;go_wp2
  all_goals go_ret
  all_goals refine⟨Az9 ?_,HB.out _⟩
  all_goals simp[Bz6,Bz5, *]
  all_goals (try omega)
 by_cases k2:kd=2
 ·subst k2
  clear k0 k1;go_enter Tryz.func34,Tryz.ntmps34;go_wp2
  all_goals go_ret
  all_goals refine⟨Az9 ?_,HB.out _⟩
  all_goals simp[Bz6,Bz5, *]
  all_goals (try omega)
 ·have t0:(kd == 0)=false:=by rw[beq_eq_false_iff_ne];exact k0
  have t1:(kd == 1)=false:=by rw[beq_eq_false_iff_ne];exact k1
  have t2:(kd == 2)=false:=by rw[beq_eq_false_iff_ne];exact k2
  have HN:Hid (Bz6 n0 ⟨nm,kd,dt,un⟩=false):=by show _=_;simp[Bz6,k0,k1,k2]
  clear k0 k1 k2;go_enter Tryz.func34,Tryz.ntmps34;go_wp2;go_ret;exact⟨Az9 HN.out.symm,HB.out _⟩
theorem Rz1 (V0 V1 V3 V4:Value) (A:Option Addr) (c:Nat) (k:Krn) (x:Opn) (w:World) (hr:RdD w w.heap.size A k.nodes) (hl:k.nodes.length=8):
  Calls Tryz.prog 41 #[.agg #[V0,V1, .slice A k.nodes.length c,V3,V4], .agg #[.int .i64 x.kind, .int .i64 x.node, .int .i64 x.pos]] w fun e w'=>e= .returned (.bool (endOk k x))∧Below w.heap.size w w':=by
 rw[hl];have hb1:=Az6 w (.cells #[V0,V1, .slice A 8 c,V3,V4] 30);have HB:=Lib.hid (fun o=>hb1.alloc hb1.size o);obtain⟨b,o,rfl,hbB,hcell⟩:=hr (by omega);obtain⟨kd,nd,ps⟩:=x;simp only;by_cases k0:kd=0
 ·subst k0
  clear hr hcell;go_enter Tryz.func41,Tryz.ntmps41;go_wp2
  all_goals go_ret
  all_goals refine⟨Az9 ?_,HB.out _⟩
  all_goals simp[endOk, *]
 by_cases k1:kd=1
 ·subst k1
  clear k0;have HE:∀ B:Bool,endOk k ⟨1,nd,ps⟩=B→Hid (endOk k ⟨1,nd,ps⟩=B):=fun _ h=>h
  by_cases hn:0≤nd∧nd<8
  ·obtain⟨j,rfl⟩:=Int.eq_ofNat_of_zero_le hn.1
   have hj:j<k.nodes.length:=by omega
   obtain⟨q0,q1,q2,q3⟩:=hcell j hj;obtain⟨y,hy⟩:∃ y,y=k.nodes[j]:=⟨_,rfl⟩;rw[←hy] at q1;have hg:k.nodes[j]?.getD default=y:=by rw[hy];simp[hj]
   have hj8:(j:Int)<8:=hn.2;clear hr hcell q0 q2 q3 hy hn;by_cases hk:y.kind=0
   ·have HV:=HE false (by simp[endOk,hg,hk])
    rw[hk] at q1;clear hk hg HE;go_enter Tryz.func41,Tryz.ntmps41;go_wp2
    all_goals go_ret
    all_goals exact⟨Az9 HV.out.symm,HB.out _⟩
   ·have hk':(y.kind != 0)=true:=by rw[bne_iff_ne];exact hk
    have HV:=HE (decide (0≤ps∧ps≤100)) (by simp[endOk,hg,hk,hj8]);clear hk hg HE;go_enter Tryz.func41,Tryz.ntmps41;go_wp2
    all_goals go_ret
    all_goals refine⟨Az9 ?_,HB.out _⟩
    all_goals rw[HV.out]
    all_goals simp[*]
    all_goals (try omega)
  ·have HV:=HE false (by simp[endOk];omega)
   clear hr hcell HE;by_cases h0:nd<0
   ·clear hn
    go_enter Tryz.func41,Tryz.ntmps41;go_wp2
    all_goals go_ret
    all_goals exact⟨Az9 HV.out.symm,HB.out _⟩
   ·have h8:8≤nd:=by omega
    have h00:0≤nd:=by omega
    clear hn h0;go_enter Tryz.func41,Tryz.ntmps41;go_wp2
    all_goals go_ret
    all_goals exact⟨Az9 HV.out.symm,HB.out _⟩
 by_cases k2:kd=2∨kd=3
 ·have HV:Hid (endOk k ⟨kd,nd,ps⟩=(decide (0≤nd∧nd<6) && (ps == 0))):=by show _=_;unfold endOk;rw[if_neg k0,if_neg k1,if_pos k2]
  clear hr hcell k0 k1;rcases k2 with rfl|rfl
  all_goals
   go_enter Tryz.func41,Tryz.ntmps41;go_wp2
   all_goals go_ret
   all_goals refine⟨Az9 ?_,HB.out _⟩
   all_goals rw[HV.out]
   all_goals simp[*]
   all_goals (try omega)
 ·have t0:(kd == 0)=false:=by rw[beq_eq_false_iff_ne];exact k0
  have t1:(kd == 1)=false:=by rw[beq_eq_false_iff_ne];exact k1
  have t2:(kd == 2)=false:=by rw[beq_eq_false_iff_ne];omega
  have t3:(kd == 3)=false:=by rw[beq_eq_false_iff_ne];omega
  have HV:Hid (endOk k ⟨kd,nd,ps⟩=false):=by show _=_;unfold endOk;rw[if_neg k0,if_neg k1,if_neg k2]
  clear hr hcell k0 k1 k2;go_enter Tryz.func41,Tryz.ntmps41;go_wp2;go_ret;exact⟨Az9 HV.out.symm,HB.out _⟩
end Go.Proofs.YtdjamdbamkhblacGreatDoor
