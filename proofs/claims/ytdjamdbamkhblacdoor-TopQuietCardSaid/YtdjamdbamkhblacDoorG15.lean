/- A kernel under way: a process's row in memory, a process stored whole, a word stored, a module appended. No condition. The walks of slices.IndexFunc and slices.ContainsFunc at one element type: for every predicate whose calls leave old memory as it was. The walks of slices.IndexFunc and slices.ContainsFunc at one element type: for every predicate whose calls leave old memory as it was. -/
import Derived.Test.YtdjamdbamkhblacDoorG14
set_option maxHeartbeats 1000000
namespace Go.Proofs.YtdjamdbamkhblacDoor
open Go.RowKit
set_option linter.unusedVariables false
set_option linter.unusedSimpArgs false
theorem Fzg:∀ (l:List Prc) (es:List Value) (p:Nat),es.length=l.length→p<l.length→∀ (x:Prc) (V:Value),Azk (l.set p x) (es.set p V)=((Azk l es).set (p*2) (.bool x.live)).set (p*2+1) V
 | [],_,_,_,h,_,_=>by cases h
 | _::_,[],_,h,_,_,_=>by simp at h
 | y::r,v::s,0,_,_,x,V=>rfl
 | y::r,v::s,p+1,hl,hp,x,V=>by
   have:=Fzg r s p (by simpa using hl) (by simpa using hp) x V;have e1:(p+1)*2=p*2+2:=by omega
   show Value.bool y.live::v::Azk (r.set p x) (s.set p V)=_;rw[this,e1];rfl
theorem PrcRows.set_ {w:World} {B:Nat}:∀ {l:List Prc} {es:List Value} {p:Nat} {x:Prc} {V:Value},PrcRows w B l es→w.ownsRow B 82 3 V x.ends.length (Azf x.ends)→PrcRows w B (l.set p x) (es.set p V)
 | [],[],_,_,_,_,_=>by simp[PrcRows]
 | _::_,_::_,0,_,_,h,h1=>⟨h1,h.2⟩
 | _::_,_::_,p+1,_,_,h,h1=>⟨h.1,PrcRows.set_ h.2 h1⟩
 | [],_::_,_,_,_,h,_=>h.elim
 | _::_,[],_,_,_,h,_=>h.elim
theorem Ozq {es:List Value} (h:es.Pairwise fun x y=>x.ownBlock=none∨x.ownBlock≠y.ownBlock) {p:Nat} {V:Value} (hV:∀ y∈es,y.ownBlock=none∨y.ownBlock≠V.ownBlock):
  (es.set p V).Pairwise fun x y=>x.ownBlock=none∨x.ownBlock≠y.ownBlock:=by
 rw[List.pairwise_iff_getElem] at h ⊢;intro i j hi hj hij;have hi':i<es.length:=by simpa using hi
 have hj':j<es.length:=by simpa using hj
 simp only[List.getElem_set];by_cases h1:p=i
 ·rw[if_pos h1,if_neg (by omega)]
  rcases hV _ (List.getElem_mem hj') with h2|h2
  ·rw[h2]
   cases V.ownBlock<;>simp
  ·exact .inr fun e=>h2 e.symm
 ·rw[if_neg h1]
  by_cases h2:p=j
  ·rw[if_pos h2]
   exact hV _ (List.getElem_mem hi')
  ·rw[if_neg h2]
   exact h i j hi' hj' hij
section
variable {B:Nat} {w w' w0:World} {g b i p:Nat} {a:KA} {k:Krn} {ms:List (Value × Value)} {es:List Value}
theorem KS.prcAt (h:KS B w g a k ms es) (hp:p<k.procs.length) (hn:0<k.procs[p].ends.length):
  ∃ b4 be c,∃ hp':p<es.length,a.a4=some ⟨b4,0,none⟩∧B≤b4∧b4<w.heap.size∧es[p]= .slice (some ⟨be,0,none⟩) k.procs[p].ends.length c∧B≤be∧be<w.heap.size∧k.procs[p].ends.length≤c∧
   w.cell? ⟨b4,p*2,none⟩=some (.bool k.procs[p].live)∧w.cell? ⟨b4,p*2+1,none⟩=some (.slice (some ⟨be,0,none⟩) k.procs[p].ends.length c):=by
 have hlen:=h.cp.ends.len;have hp':p<es.length:=by omega
 have ho:=h.cp.ends.at_ p hp hp';obtain⟨A,c,he⟩:=Az5 ho;rw[he] at ho;obtain⟨be,rfl,hbe,hlt⟩:=Azx ho hn;obtain⟨b4,ha4,hb4,hlt4⟩:=Azx h.cp.procs (by omega);obtain⟨x0,x1⟩:=Czx k.procs es hlen p hp hp';have hr:=Rd.of_own h.cp.procs;rw[ha4] at hr;obtain⟨b,o,hb,_,hc⟩:=hr.2 (by omega);cases hb
 have y0:=hc _ _ x0;have y1:=hc _ _ x1;rw[Nat.zero_add] at y0 y1;rw[he] at y1;exact⟨b4,be,c,hp',ha4,hb4,hlt4,he,hbe,hlt,(Dz8 ho).2,y0,y1⟩
theorem KS.prc {V:Value} {x:Prc} (h0:KS B w0 g a k ms es) (hb:Below w0.heap.size w0 w) (ha:a.a4=some ⟨b,0,none⟩) (hp:p<k.procs.length)
  (ho:w.ownsRow w0.heap.size 82 3 V x.ends.length (Azf x.ends)) (hf:x.ends.length*24≤140737488351232):
  KS B ((w.setCell ⟨b,p*2,none⟩ (.bool x.live)).setCell ⟨b,p*2+1,none⟩ V) g a { k with procs:=k.procs.set p x } ms (es.set p V)∧
  Fr B w ((w.setCell ⟨b,p*2,none⟩ (.bool x.live)).setCell ⟨b,p*2+1,none⟩ V):=by
 have h:=h0.below hb;have hn:=h.cp.procs;rw[ha] at hn;have hbb:B≤b:=(hn.lt b rfl).1;have hlen:=h.cp.ends.len;obtain⟨h1,t1⟩:=Eza hn (p*2) (.bool x.live);obtain⟨h2,t2⟩:=Eza h1 (p*2+1) V;rw[←Fzg k.procs es p hlen hp x V, ←ha] at h2;have hl:(k.procs.set p x).length=k.procs.length:=List.length_set ..;have hB0:B≤w0.heap.size:=Nat.le_of_lt h0.lt;refine⟨⟨h.lo,?_,?_,?_⟩,(Fr.tch (Czo hbb _ _) t1 (by decide)).trans (.tch (Czo hbb _ _) t2 (by decide))⟩
 ·have:=(h.blk.tch t1 (by decide)).tch t2 (by decide)
  unfold KA.cells at this ⊢;simp only;rw[hl];exact this
 ·have hc:=h.cp
  simp only;rw[hl];refine⟨Az6 (Az6 hc.mods t1 (by decide)) t2 (by decide),(hc.rows.tch t1 (by decide) (by decide)).tch t2 (by decide) (by decide),Az6 (Az6 hc.mem t1 (by decide)) t2 (by decide),Az6 (Az6 hc.nodes t1 (by decide)) t2 (by decide),
   Az6 (Az6 hc.pipes t1 (by decide)) t2 (by decide),by simp only;rw[hl];exact h2,?_,hc.apart,?_⟩
  ·exact PrcRows.set_ ((hc.ends.tch t1 (by decide)).tch t2 (by decide)) (Az6 (Az6 (own_base ho hB0) t1 (by decide)) t2 (by decide))
  ·refine Ozq hc.each fun y hy=>?_
   cases hq:y.ownBlock with
   | none=>exact .inl rfl
   | some q=>
     refine .inr fun e=>?_
     obtain⟨j,hj,rfl⟩:=List.mem_iff_getElem.1 hy;have h3:=((h0.cp.ends.at_ j (by omega) hj).lt q hq).2;have h4:=(ho.lt q e.symm).1;omega
 ·refine Ezu h.fits rfl (fun y hy=>?_) rfl rfl rfl hl
  rcases List.mem_or_eq_of_mem_set hy with hy|rfl
  ·exact h.fits.p _ hy
  ·exact hf
theorem KS.modApp {V0' vc vd:Value} {m:Mod} {w1:World} (h0:KS B w0 g a k ms es) (hb:Below w0.heap.size w0 w)
  (hc:w.ownsRow w0.heap.size 65 4 vc m.code.length (Az1 m.code)) (hd:w.ownsRow w0.heap.size 3 1 vd m.data.length (intCells m.data))
  (h1:w1.ownsRow B 90 3 V0' (k.mods.length+1) (Bz1 k.mods ms++ [.string m.name,vc,vd])) (hg:w.grownBy w1 (Value.slice a.a0 k.mods.length a.c0).ownBlock)
  (hf:m.name.size≤140737488351232∧m.code.length*32≤140737488351232∧m.data.length*8≤140737488351232) (hl:(k.mods.length+1)*64≤140737488351232):
  ∃ A c,V0'= .slice A (k.mods.length+1) c∧KS B (w1.setCell ⟨g,0,none⟩ V0') g { a with a0:=A,c0:=c } { k with mods:=k.mods++ [m] } (ms++ [(vc,vd)]) es∧Fr B w (w1.setCell ⟨g,0,none⟩ V0'):=by
 obtain⟨A,c,rfl⟩:=Az5 h1;have h:=h0.below hb;have hB0:B≤w0.heap.size:=Nat.le_of_lt h0.lt;have tg:Tch 90 w w1:=Tch.of_grown h.cp.mods hg;have hb1:=h.blk.tch tg (by decide);have ht:=Tch.of_set (p:=⟨g,0,none⟩) hb1 (.slice A (k.mods.length+1) c);have hlen:=h.cp.rows.len;have hle:(k.mods++ [m]).length=k.mods.length+1:=by simp
 have hbelow:Below B w w1:=(Below.refl B w).grown hg (Nat.le_of_lt h.lt) (fun q hq=>(h.cp.mods.lt q hq).1);refine⟨A,c,rfl,⟨h.lo,?_,?_,?_⟩,(Fr.tch hbelow tg (by decide)).trans (.kset h.lo hb1 0 _)⟩
 ·have:=hb1.set_ 0 (.slice A (k.mods.length+1) c)
  unfold KA.cells at this ⊢;simp only;rw[hle];exact this
 ·have hcp:=h.cp
  simp only;rw[hle];refine⟨?_,?_,Az6 (Az6 hcp.mem tg (by decide)) ht (by decide),Az6 (Az6 hcp.nodes tg (by decide)) ht (by decide),Az6 (Az6 hcp.pipes tg (by decide)) ht (by decide),Az6 (Az6 hcp.procs tg (by decide)) ht (by decide),
   (hcp.ends.tch tg (by decide)).tch ht (by decide),fun x hx=>?_,hcp.each⟩
  ·simp only
   rw[hle,Czu _ _ _ _ hlen];exact Az6 h1 ht (by decide)
  ·exact ModRows.snoc ((hcp.rows.tch tg (by decide) (by decide)).tch ht (by decide) (by decide)) (Az6 (Az6 (own_base hc hB0) tg (by decide)) ht (by decide)) (Az6 (Az6 (own_base hd hB0) tg (by decide)) ht (by decide))
  ·rcases List.mem_append.1 hx with hx|hx
   ·exact hcp.apart x hx
   ·obtain rfl:x=(vc,vd):=by simpa using hx
    cases hq:vd.ownBlock with
    | none=>exact .inl rfl
    | some q=>
      refine .inr fun e=>?_
      have h3:=(hd.lt q hq).1;have h4:=(h0.cp.mem.lt q e.symm).2;omega
 ·exact⟨fun x hx=>by
   rcases List.mem_append.1 hx with hx|hx
   ·exact h.fits.m x hx
   ·obtain rfl:x=m:=by simpa using hx
    exact hf,h.fits.p,by rw[hle];exact hl,h.fits.l1,h.fits.l2,h.fits.l3,h.fits.l4⟩
end
theorem Dzz (F:FuncId) (cp:Array Value) (p:Opn→Bool) (A:Option Addr) (c:Nat) (l:List Opn) (w:World) (hr:RdE w w.heap.size A l) (hl:l.length≤maxLen)
  (eg:∀ args w,(callFunc F args).run Tryd.prog w= .ok (.enter F args) w)
  (hp:∀ x∈l,∀ (w1:World),Below w.heap.size w w1→Calls Tryd.prog F (#[.agg #[.int .i64 x.kind, .int .i64 x.node, .int .i64 x.pos]]++cp) w1 fun e w'=>e= .returned (.bool (p x))∧Below w1.heap.size w1 w'):
  Calls Tryd.prog 92 #[.slice A l.length c, .func (.func F) #[] cp] w fun e w'=>e= .returned (.int .i64 (idxF p l 0))∧Below w.heap.size w w':=by
 unfold maxLen at hl;have HP:=Lib.hid hp;clear hp;go_enter Tryd.func92,Tryd.ntmps92;go_wp2;go_loopw [8] (fun i wr=>Cnt l.length i fun k=>Below w.heap.size w wr∧Hid (idxF p l 0=idxF p (l.drop k) k)) (fun i _=>l.length - (intOf i).toNat)
 case atStart=>exact⟨0,Nat.zero_le _,rfl,Below.refl _ _,rfl⟩
 case round=>
  obtain⟨k,hk,rfl,hb,HV⟩:=hrel;by_cases hlt:k<l.length
  ·obtain⟨b,o,rfl,hbB,hcell⟩:=hr (by omega)
   obtain⟨c0,c1,c2⟩:=hcell k hlt;rw[←hb.cell (p:=⟨b,_,none⟩) hbB] at c0 c1 c2;have HD:=Lib.hid (Cz8 (p:=p) hlt);have HM:=Lib.hid (List.getElem_mem hlt);clear hr hcell;cases hpk:p l[k] with
   | true=>
     have HK:=Lib.hid hpk;clear hpk;go_wp2_with fail;refine(HP.out _ HM.out _ hb).mono ?_;rw[HK.out];rintro e w1 ⟨rfl,hb1⟩;go_wp2;go_ret;exact⟨Azb (by rw[HV.out,HD.out,if_pos HK.out]),hb.trans (hb1.mono hb.size)⟩
   | false=>
     have HK:=Lib.hid hpk;clear hpk;go_wp2_with fail;refine(HP.out _ HM.out _ hb).mono ?_;rw[HK.out];rintro e w1 ⟨rfl,hb1⟩;go_wp2;go_roundw
     case rel=>exact⟨k+1,by omega,by go_num,hb.trans (hb1.mono hb.size),by show _=_;rw[HV.out,HD.out,if_neg (by rw[HK.out];decide)]⟩
     case measure=>simp[intOf];omega
  ·go_wp2
   go_ret;exact⟨Azb (by rw[HV.out,List.drop_of_length_le (by omega)];rfl),hb⟩
theorem Dz0 (F:FuncId) (cp:Array Value) (p:Opn→Bool) (A:Option Addr) (c:Nat) (l:List Opn) (w:World) (hr:RdE w w.heap.size A l) (hl:l.length≤maxLen)
  (eg:∀ args w,(callFunc F args).run Tryd.prog w= .ok (.enter F args) w)
  (hp:∀ x∈l,∀ (w1:World),Below w.heap.size w w1→Calls Tryd.prog F (#[.agg #[.int .i64 x.kind, .int .i64 x.node, .int .i64 x.pos]]++cp) w1 fun e w'=>e= .returned (.bool (p x))∧Below w1.heap.size w1 w'):
  Calls Tryd.prog 51 #[.slice A l.length c, .func (.func F) #[] cp] w fun e w'=>e= .returned (.bool (l.any p))∧Below w.heap.size w w':=by
 have HP:=Lib.hid hp;have HE:=Lib.hid eg;clear hp eg;go_enter Tryd.func51,Tryd.ntmps51;go_wp2_with fail;refine(Dzz F cp p A c l w hr hl HE.out HP.out).mono ?_;rintro e w1 ⟨rfl,hb1⟩;go_wp2
 all_goals go_ret
 all_goals refine⟨Aza ?_,hb1⟩
 all_goals rw[←Czg p l 0]
theorem Ez0 (F:FuncId) (cp:Array Value) (p:Prc→Bool) (A:Option Addr) (c:Nat) (l:List Prc) (w:World) (hr:RdP w w.heap.size A l) (hl:l.length≤maxLen)
  (eg:∀ args w,(callFunc F args).run Tryd.prog w= .ok (.enter F args) w)
  (hp:∀ x∈l,∀ (w1:World) (A1:Option Addr) (c1:Nat),Below w.heap.size w w1→PrcAt w1 w1.heap.size A1 c1 x→Calls Tryd.prog F (#[.agg #[.bool x.live, .slice A1 x.ends.length c1]]++cp) w1 fun e w'=>e= .returned (.bool (p x))∧Below w1.heap.size w1 w'):
  Calls Tryd.prog 119 #[.slice A l.length c, .func (.func F) #[] cp] w fun e w'=>e= .returned (.int .i64 (idxF p l 0))∧Below w.heap.size w w':=by
 unfold maxLen at hl;have HP:=Lib.hid hp;clear hp;go_enter Tryd.func119,Tryd.ntmps119;go_wp2;go_loopw [8] (fun i wr=>Cnt l.length i fun k=>Below w.heap.size w wr∧Hid (idxF p l 0=idxF p (l.drop k) k)) (fun i _=>l.length - (intOf i).toNat)
 case atStart=>exact⟨0,Nat.zero_le _,rfl,Below.refl _ _,rfl⟩
 case round=>
  obtain⟨k,hk,rfl,hb,HV⟩:=hrel;by_cases hlt:k<l.length
  ·obtain⟨b,o,rfl,hbB,hcell⟩:=hr (by omega)
   obtain⟨A1,c1,c0,c1',hz⟩:=hcell k hlt;rw[←hb.cell (p:=⟨b,_,none⟩) hbB] at c0 c1';have HZ:=Lib.hid ((hz.keep (w':=wr) (fun _ hp=>hb.cell hp)).more hb.size);have HD:=Lib.hid (Cz8 (p:=p) hlt);have HM:=Lib.hid (List.getElem_mem hlt);clear hr hcell hz;cases hpk:p l[k] with
   | true=>
     have HK:=Lib.hid hpk;clear hpk;go_wp2_with fail;refine(HP.out _ HM.out _ _ _ hb HZ.out).mono ?_;rw[HK.out];rintro e w1 ⟨rfl,hb1⟩;go_wp2;go_ret;exact⟨Azb (by rw[HV.out,HD.out,if_pos HK.out]),hb.trans (hb1.mono hb.size)⟩
   | false=>
     have HK:=Lib.hid hpk;clear hpk;go_wp2_with fail;refine(HP.out _ HM.out _ _ _ hb HZ.out).mono ?_;rw[HK.out];rintro e w1 ⟨rfl,hb1⟩;go_wp2;go_roundw
     case rel=>exact⟨k+1,by omega,by go_num,hb.trans (hb1.mono hb.size),by show _=_;rw[HV.out,HD.out,if_neg (by rw[HK.out];decide)]⟩
     case measure=>simp[intOf];omega
  ·go_wp2
   go_ret;exact⟨Azb (by rw[HV.out,List.drop_of_length_le (by omega)];rfl),hb⟩
theorem Fzm (F:FuncId) (cp:Array Value) (p:Prc→Bool) (A:Option Addr) (c:Nat) (l:List Prc) (w:World) (hr:RdP w w.heap.size A l) (hl:l.length≤maxLen)
  (eg:∀ args w,(callFunc F args).run Tryd.prog w= .ok (.enter F args) w)
  (hp:∀ x∈l,∀ (w1:World) (A1:Option Addr) (c1:Nat),Below w.heap.size w w1→PrcAt w1 w1.heap.size A1 c1 x→Calls Tryd.prog F (#[.agg #[.bool x.live, .slice A1 x.ends.length c1]]++cp) w1 fun e w'=>e= .returned (.bool (p x))∧Below w1.heap.size w1 w'):
  Calls Tryd.prog 89 #[.slice A l.length c, .func (.func F) #[] cp] w fun e w'=>e= .returned (.bool (l.any p))∧Below w.heap.size w w':=by
 have HP:=Lib.hid hp;have HE:=Lib.hid eg;clear hp eg;go_enter Tryd.func89,Tryd.ntmps89;go_wp2_with fail;refine(Ez0 F cp p A c l w hr hl HE.out HP.out).mono ?_;rintro e w1 ⟨rfl,hb1⟩;go_wp2
 all_goals go_ret
 all_goals refine⟨Aza ?_,hb1⟩
 all_goals rw[←Czg p l 0]
end Go.Proofs.YtdjamdbamkhblacDoor
