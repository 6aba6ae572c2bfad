/- The walk of the kernel's install: a module comes in, its region is cleared and laid. Condition: the listed table. The drawn region of the kernel's install that appends the module. No condition. By an AI agent (xinst.py). -/
import Derived.Test.YtdjamdbamkhblacDoorDecode
import Derived.Test.YtdjamdbamkhblacDoorG19
import Derived.Laws.CopyOwn
set_option maxHeartbeats 8000000
namespace Go.Proofs.YtdjamdbamkhblacDoor
open Go.RowKit
set_option linter.unusedVariables false
set_option linter.unusedSimpArgs false
attribute [local go_sem] After.cell
def Qz8 (B:Nat) (w:World) (g:Nat) (es:List Value) (r:Krn × Ans) (e:Ending) (w':World):Prop:=
 e= .returned (.tuple #[.int .i64 r.2.n, .int .i64 r.2.code])∧Fr B w w'∧∃ a' ms',KS B w' g a' r.1 ms' es
theorem Gzn {m:Mod} (h:Az7 m=0):m.name.size≤6∧m.code.length≤200∧m.data.length≤64:=by
 have hv:=((Azo _).1 ((Bzf _).1 (Ez8 h)).1).1;unfold Az7 at h;split at h
 ·rename_i hn
  split at h
  ·cases h
  ·unfold Azu at hn
   simp at hn;omega
 ·cases h
theorem Mzx:(Tryd.prog.info? 3).map (fun i=>(i.zero,i.size,i.bytes))=some (some (.int .i64 0),1,8):=by kernel_rfl
theorem Gzg:∀ args w,(callFunc 115 args).run Tryd.prog w= .ok (.enter 115 args) w:=fun args w=>by
 simp only[callFunc,run_program,Sem.run_bind,Result.andThen_ok,Tryd.func115];rfl
theorem Iza (n:ByteArray) (V1 V2:Value) (b:Nat) (s:ByteArray) (w:World) (h1:b<w.heap.size) (c1:w.cell? ⟨b,0,none⟩=some (.string s)):
  Calls Tryd.prog 115 #[.agg #[.string n,V1,V2], .pointer (some ⟨b,0,none⟩)] w fun e w'=>e= .returned (.bool (n == s))∧Below w.heap.size w w':=by
 go_enter Tryd.func115,Tryd.ntmps115;go_wp2;go_ret;exact⟨Aza (bs_l _ _),Azc w _⟩
theorem Ezk (w:World) (b:Nat) (cs:Array Value):w.grownBy (w.setRow b cs) (some b):=⟨rfl,rfl,rfl,by simp,fun q _ hne=>setRow_other w b q cs (fun e=>hne (by rw[e]))⟩
section
variable {B g b o:Nat} {a:KA} {k:Krn} {ms:List (Value × Value)} {es:List Value} {w w':World}
theorem KS.memRow (h:KS B w g a k ms es) (ha:a.a1=some ⟨b,0,none⟩) (l:List Int) (hl:o+l.length≤k.mem.length):
  ∃ cur,w.heap[b]? =some (.cells cur 3 (0,0))∧o+l.length≤cur.size∧
   KS B (w.setRow b (cur.toList.take o++intCells l++cur.toList.drop (o+l.length)).toArray) g a { k with mem:=k.mem.take o++l++k.mem.drop (o+l.length) } ms es∧
   Fr B w (w.setRow b (cur.toList.take o++intCells l++cur.toList.drop (o+l.length)).toArray)∧B≤b:=by
 have hn:=h.cp.mem;rw[ha] at hn;have hbb:B≤b:=(hn.lt b rfl).1;obtain⟨hlen,h2⟩:=hn;rcases h2 with⟨h2,_⟩|⟨b',cap,cur,hv,_,hh,hnc,hcm,hcs,htk⟩
 ·cases h2
 cases hv
 have hil:(intCells l).length=l.length:=by simp[intCells]
 have hcl:cur.toList.length=cur.size:=by simp
 have hcsz:o+l.length≤cur.size:=by omega
 refine⟨cur,hh,hcsz,?_⟩;obtain⟨cs,hcs'⟩:∃ cs,cs=cur.toList.take o++intCells l++cur.toList.drop (o+l.length):=⟨_,rfl⟩;have hcsl:cs.length=cur.size:=by rw[hcs',List.length_append,List.length_append,List.length_take,List.length_drop,hil,hcl];omega
 have hml:(k.mem.take o++l++k.mem.drop (o+l.length)).length=k.mem.length:=by rw[List.length_append,List.length_append,List.length_take,List.length_drop];omega
 rw[←hcs'];have hg:=Ezk w b cs.toArray;have hnew:(w.setRow b cs.toArray).heap[b]? =some (.cells cs.toArray 3 (0,0)):=setRow_heap w b cur _ _ _ hh;have ht:Tch 3 w (w.setRow b cs.toArray):=⟨rfl,rfl,rfl,by simp,fun q hq hne=>setRow_other w b q _ (fun e=>by subst e;exact hne _ _ hh)⟩;have hbel:Below B w (w.setRow b cs.toArray):=below_setRow (Below.refl B w) hbb _;have hpre:cs.take k.mem.length=intCells (k.mem.take o++l++k.mem.drop (o+l.length)):=by
  have ek:intCells k.mem=cur.toList.take k.mem.length:=by rw[←htk,Nat.mul_one]
  have e1:intCells (k.mem.take o++l++k.mem.drop (o+l.length))=(intCells k.mem).take o++intCells l++(intCells k.mem).drop (o+l.length):=by simp[intCells,List.map_append,List.map_take,List.map_drop]
  rw[e1,ek,hcs'];apply List.ext_getElem?;intro j;have t1:(cur.toList.take o).length=o:=by rw[List.length_take];omega
  have t2:((cur.toList.take k.mem.length).take o).length=o:=by rw[List.length_take,List.length_take];omega
  rcases Nat.lt_or_ge j o with h1|h1
  ·rw[List.getElem?_take,if_pos (by omega),List.append_assoc,List.getElem?_append_left (by omega),List.append_assoc,List.getElem?_append_left (by omega),List.getElem?_take,if_pos h1,List.getElem?_take,if_pos h1,List.getElem?_take,if_pos (by omega)]
  ·rcases Nat.lt_or_ge j (o+l.length) with h3|h3
   ·rw[List.getElem?_take,if_pos (by omega),List.append_assoc,List.getElem?_append_right (by omega),t1,List.getElem?_append_left (by rw[hil];omega),List.append_assoc,List.getElem?_append_right (by omega),t2,List.getElem?_append_left (by rw[hil];omega)]
   ·rw[List.getElem?_take,List.getElem?_append_right (by rw[List.length_append,hil];omega),List.getElem?_append_right (by rw[List.length_append,hil];omega),List.length_append,List.length_append,t1,t2,hil,List.getElem?_drop,List.getElem?_drop,List.getElem?_take]
    rw[show o+l.length+(j - (o+l.length))=j by omega]
 refine⟨⟨h.lo,?_,?_,?_⟩, .tch hbel ht (by decide),hbb⟩
 ·have:=h.blk.tch ht (by decide)
  unfold KA.cells at this ⊢;rw[hml];exact this
 ·simp only
  rw[hml];refine⟨Az6 h.cp.mods ht (by decide),?_,?_,Az6 h.cp.nodes ht (by decide),Az6 h.cp.pipes ht (by decide),Az6 h.cp.procs ht (by decide),h.cp.ends.tch ht (by decide),h.cp.apart,h.cp.each⟩
  ·have key:∀ {l:List Mod} {xs:List (Value × Value)},ModRows w B l xs→(∀ x∈xs,x.2.ownBlock=none∨x.2.ownBlock≠some b)→ModRows (w.setRow b cs.toArray) B l xs:=by
    intro l
    induction l with
    | nil=>intro xs hh _;cases xs with
      | nil=>trivial
      | cons _ _=>exact hh.elim
    | cons m r ih=>intro xs hh hx;cases xs with
      | nil=>exact hh.elim
      | cons y s=>
        refine⟨⟨Az6 hh.1.1 ht (by decide),?_⟩,ih hh.2 fun z hz=>hx z (List.mem_cons_of_mem _ hz)⟩;exact hh.1.2.kept hg (by
         rcases hx y (List.mem_cons_self ..) with h2|h2
         ·exact .inl h2
         ·exact .inr h2)
   exact key h.cp.rows fun x hx=>by
    have:=h.cp.apart x hx;rw[ha] at this;exact this
  ·simp only
   rw[hml,ha];refine⟨by rw[←hpre,List.length_take];omega, .inr ⟨b,_,_,rfl,hbb,hnew,hnc,hcm,by simp;omega,?_⟩⟩;rw[Nat.mul_one, ←hpre]
 ·exact Ezu h.fits rfl h.fits.p hml rfl rfl rfl
end
end Go.Proofs.YtdjamdbamkhblacDoor
namespace Go.Proofs.YtdjamdbamkhblacDoor
open Go.RowKit
set_option linter.unusedVariables false
set_option linter.unusedSimpArgs false
structure InsJ (w0:World) (B bw g bm n c0:Nat) (A0:Option Addr) (nm:ByteArray) (AC AD:Option Addr) (lc cC ld cD:Nat) (xs:List Value) (u1 u2 u3 u4:Value) (t0t t1t t2t t3t t4t t5t t6t t7t t8t t9t t10t t11t t12t:Bool) (W:World) (y41 y42 y43 y44 y45 y46 y47 y48 y49 y50 y51 y52:Value):Prop where
 f0:t0t=true→y41= .pointer (some ⟨bw,0,none⟩)
 f1:t1t=true→y42= .pointer (some ⟨g,0,none⟩)
 f2:t2t=true→y43= .pointer (some ⟨bw,0,none⟩)
 f3:t3t=true→y44= .pointer (some ⟨g,0,none⟩)
 f4:t4t=true→y45= .pointer (some ⟨g,0,none⟩)
 f5:t5t=true→y46= .pointer (some ⟨g,0,none⟩)
 f6:t6t=true→y47= .slice A0 n c0
 f7:t7t=true→y48= .agg #[.string nm, .slice AC lc cC, .slice AD ld cD]
 f8:t8t=true→∃ s:Nat,y49= .slice (some ⟨s,0,none⟩) 1 1∧w0.heap.size≤s∧s<W.heap.size∧(t9t=false→Blk W s 90 #[.string nm, .slice AC lc cC, .slice AD ld cD])
 f9:t9t=true→∃ s:Value,y50=s∧(t12t=false→∃ W1,Below w0.heap.size w0 W1∧W.ownsRow B 90 3 s (n+1) (xs++ [.string nm, .slice AC lc cC, .slice AD ld cD])∧W1.grownBy W (Value.slice A0 n c0).ownBlock)
 f10:t10t=true→y51= .pointer (some ⟨g,0,none⟩)
 f11:t11t=true→y52= .pointer (some ⟨g,0,none⟩)
 f12:t12t=true→∃ (V:Value) (W1 W2:World),Below w0.heap.size w0 W1∧W2.ownsRow B 90 3 V (n+1) (xs++ [.string nm, .slice AC lc cC, .slice AD ld cD])∧W1.grownBy W2 (Value.slice A0 n c0).ownBlock∧W=W2.setCell ⟨g,0,none⟩ V
 q12_1:t12t=true→t1t=true
 q12_3:t12t=true→t3t=true
 q12_6:t12t=true→t6t=true
 q12_8:t12t=true→t8t=true
 q12_9:t12t=true→t9t=true
 q9_6:t9t=true→t6t=true
 q9_7:t9t=true→t7t=true
 q9_8:t9t=true→t8t=true
 q8_7:t8t=true→t7t=true
 w:(t9t=false→Below w0.heap.size w0 W)∧(t12t=false→Tch 90 w0 W)
noncomputable def Pz8:Code:=((Tryd.f77.body.bind (Dz9 9)).getD .skip)
set_option maxRecDepth 1000000 in
theorem Qzz (w0:World) (B bw g bm n c0:Nat) (A0:Option Addr) (nm:ByteArray) (AC AD:Option Addr) (lc cC ld cD:Nat) (xs:List Value) (u1 u2 u3 u4:Value) {v0 v1 v3 v4 v5 v7 v8 v9 v10 v11 v12 v13 v14 v15 v16 v17 v18 v19 v20 v21 v22 v23 v24 v25 v26 v27 v28 v29 v30 v31 v32 v33 v34 v35 v36 v37 v38 v39 v40 v41 v42 v43 v44 v45 v46 v47 v48 v49 v50 v51 v52 v53 v54 v55 v56 v57 v58 v59 v60 v61 v62 v63 v64 v65 v66 v67 v68 v69:Value} (wr:World) (Q:Exit→Act→World→Prop) (hbs:Below w0.heap.size w0 wr.drew) (hBw:B≤w0.heap.size) (hwk:Blk w0 bw 138 #[.pointer (some ⟨g,0,none⟩)]) (hkb:Blk w0 g 36 #[.slice A0 n c0,u1,u2,u3,u4]) (hmd:Blk w0 bm 90 #[.string nm, .slice AC lc cC, .slice AD ld cD]) (hown:w0.ownsRow B 90 3 (.slice A0 n c0) n xs) (hn:n<8)
  (hQ:∀ (listed:Array Bool) (W:World) (y41 y42 y43 y44 y45 y46 y47 y48 y49 y50 y51 y52:Value),(∀ i,i<13→listed.getD i true=true)→InsJ w0 B bw g bm n c0 A0 nm AC AD lc cC ld cD xs u1 u2 u3 u4 (listed.getD 0 true) (listed.getD 1 true) (listed.getD 2 true) (listed.getD 3 true) (listed.getD 4 true) (listed.getD 5 true) (listed.getD 6 true) (listed.getD 7 true) (listed.getD 8 true) (listed.getD 9 true) (listed.getD 10 true) (listed.getD 11 true) (listed.getD 12 true) W y41 y42 y43 y44 y45 y46 y47 y48 y49 y50 y51 y52→Q .normal ⟨#[v0,v1, .pointer (some ⟨bw,0,none⟩),v3,v4,v5, .pointer (some ⟨bm,0,none⟩),v7,v8,v9,v10,v11,v12,v13,v14,v15,v16,v17,v18,v19,v20,v21,v22,v23,v24,v25,v26,v27,v28,v29,v30,v31,v32,v33,v34,v35,v36,v37,v38,v39,v40,y41,y42,y43,y44,y45,y46,y47,y48,y49,y50,y51,y52,v53,v54,v55,v56,v57,v58,v59,v60,v61,v62,v63,v64,v65,v66,v67,v68,v69],[]⟩ W):
  Code.wp Tryd.prog Pz8 Q ⟨#[v0,v1, .pointer (some ⟨bw,0,none⟩),v3,v4,v5, .pointer (some ⟨bm,0,none⟩),v7,v8,v9,v10,v11,v12,v13,v14,v15,v16,v17,v18,v19,v20,v21,v22,v23,v24,v25,v26,v27,v28,v29,v30,v31,v32,v33,v34,v35,v36,v37,v38,v39,v40,v41,v42,v43,v44,v45,v46,v47,v48,v49,v50,v51,v52,v53,v54,v55,v56,v57,v58,v59,v60,v61,v62,v63,v64,v65,v66,v67,v68,v69],[]⟩ wr:=by
 have HQ:=Lib.hid hQ;clear hQ;conv=>arg 2;whnf
 refine Bzb (fun listed a W=>∃ y41 y42 y43 y44 y45 y46 y47 y48 y49 y50 y51 y52,InsJ w0 B bw g bm n c0 A0 nm AC AD lc cC ld cD xs u1 u2 u3 u4 (listed.getD 0 true) (listed.getD 1 true) (listed.getD 2 true) (listed.getD 3 true) (listed.getD 4 true) (listed.getD 5 true) (listed.getD 6 true) (listed.getD 7 true) (listed.getD 8 true) (listed.getD 9 true) (listed.getD 10 true) (listed.getD 11 true) (listed.getD 12 true) W y41 y42 y43 y44 y45 y46 y47 y48 y49 y50 y51 y52∧a=⟨#[v0,v1, .pointer (some ⟨bw,0,none⟩),v3,v4,v5, .pointer (some ⟨bm,0,none⟩),v7,v8,v9,v10,v11,v12,v13,v14,v15,v16,v17,v18,v19,v20,v21,v22,v23,v24,v25,v26,v27,v28,v29,v30,v31,v32,v33,v34,v35,v36,v37,v38,v39,v40,y41,y42,y43,y44,y45,y46,y47,y48,y49,y50,y51,y52,v53,v54,v55,v56,v57,v58,v59,v60,v61,v62,v63,v64,v65,v66,v67,v68,v69],[]⟩) (by kernel_rfl) (Ezy (by kernel_rfl)) ?start ?step ?fin
 case start=>
  refine⟨_,_,_,_,_,_,_,_,_,_,_,_,?_,rfl⟩;constructor
  all_goals first|exact⟨fun _=>hbs,fun _=>Tch.of_below hbs⟩|exact fun _=>rfl|exact fun h=>absurd h (by decide)
 case step=>
  intro i o ho listed a W hl haf hI K hK;obtain⟨y41,y42,y43,y44,y45,y46,y47,y48,y49,y50,y51,y52,hJ,rfl⟩:=hI;have hK:=fun (W':World) z41 z42 z43 z44 z45 z46 z47 z48 z49 z50 z51 z52 h=>hK _ W' ⟨z41,z42,z43,z44,z45,z46,z47,z48,z49,z50,z51,z52,h,rfl⟩
  simp only[Az2] at hK;have hi:i<13:=(Array.getElem?_eq_some_iff.1 ho).1;have h16:i=0∨i=1∨i=2∨i=3∨i=4∨i=5∨i=6∨i=7∨i=8∨i=9∨i=10∨i=11∨i=12:=by omega
  rcases h16 with rfl|rfl|rfl|rfl|rfl|rfl|rfl|rfl|rfl|rfl|rfl|rfl|rfl
  all_goals
   have ho:=Option.some.inj ho;subst ho
   try simp[Region.binds] at haf
  ·
    go_simp;apply hK;exact { hJ with f0:=fun _=>rfl,w:=⟨fun h=>hJ.w.1 h,fun h=>hJ.w.2 h⟩ }
  ·
    obtain rfl:=hJ.f0 (Az3 (by simp[haf]));have h12:=nlR hJ.q12_1 hl;have hkw:=hwk.tch (hJ.w.2 h12) (by decide);obtain⟨e1, -, -, -,el⟩:=hkw.a2;simp at e1;go_simp;apply hK;exact { hJ with f1:=fun _=>rfl,q12_1:=fun _=>rfl,w:=⟨fun h=>hJ.w.1 h,fun h=>hJ.w.2 h⟩ }
  ·
    go_simp;apply hK;exact { hJ with f2:=fun _=>rfl,w:=⟨fun h=>hJ.w.1 h,fun h=>hJ.w.2 h⟩ }
  ·
    obtain rfl:=hJ.f2 (Az3 (by simp[haf]));have h12:=nlR hJ.q12_3 hl;have hkw:=hwk.tch (hJ.w.2 h12) (by decide);obtain⟨e1, -, -, -,el⟩:=hkw.a2;simp at e1;go_simp;apply hK;exact { hJ with f3:=fun _=>rfl,q12_3:=fun _=>rfl,w:=⟨fun h=>hJ.w.1 h,fun h=>hJ.w.2 h⟩ }
  ·
    obtain rfl:=hJ.f3 (Az3 (by simp[haf]));go_simp;apply hK;exact { hJ with f4:=fun _=>rfl,w:=⟨fun h=>hJ.w.1 h,fun h=>hJ.w.2 h⟩ }
  ·
    obtain rfl:=hJ.f4 (Az3 (by simp[haf]));go_simp;apply hK;exact { hJ with f5:=fun _=>rfl,w:=⟨fun h=>hJ.w.1 h,fun h=>hJ.w.2 h⟩ }
  ·
    obtain rfl:=hJ.f5 (Az3 (by simp[haf]));have h12:=nlR hJ.q12_6 hl;have hkk:=hkb.tch (hJ.w.2 h12) (by decide);have h9:=nlR hJ.q9_6 hl;have hkk:=hkb.below (hJ.w.1 h9) hkb.lt;obtain⟨e1, -, -, -,el⟩:=hkk.a2;simp at e1;go_simp;apply hK;exact { hJ with f6:=fun _=>rfl,q12_6:=fun _=>rfl,q9_6:=fun _=>rfl,w:=⟨fun h=>hJ.w.1 h,fun h=>hJ.w.2 h⟩ }
  ·
    have h9:=nlR hJ.q9_7 hl;have hkk:=hmd.below (hJ.w.1 h9) hmd.lt;obtain⟨e0,e1,e2, -, -, -,el⟩:=hkk.a3;simp at e0 e1 e2;go_simp;apply hK;exact { hJ with f7:=fun _=>rfl,q9_7:=fun _=>rfl,q8_7:=fun _=>rfl,w:=⟨fun h=>hJ.w.1 h,fun h=>hJ.w.2 h⟩ }
  ·
    have p7:listed.getD 7 true=true:=Az3 (by simp[haf]);obtain rfl:=hJ.f7 p7;have h9:=nlR hJ.q9_8 hl;go_simp;apply hK;exact { hJ with f8:=fun _=>⟨W.heap.size,rfl,(hJ.w.1 h9).size,by simp,fun _=>Blk.new _ _ _⟩,f9:=fun x=>by have e:=hJ.q9_8 x;rw[hl] at e;exact absurd e (by decide),f12:=fun x=>by have e:=hJ.q12_8 x;rw[hl] at e;exact absurd e (by decide),q12_8:=fun _=>rfl,q9_8:=fun _=>rfl,q8_7:=fun _=>p7,w:=⟨fun h=>(hJ.w.1 h).alloc (hJ.w.1 h).size _,fun h=>(hJ.w.2 h).trans (Tch.of_below ((Below.refl _ _).alloc (Nat.le_refl _) _))⟩ }
  ·
    have p6:listed.getD 6 true=true:=Az3 (by simp[haf]);have p8:listed.getD 8 true=true:=Az3 (by simp[haf]);obtain rfl:=hJ.f6 p6;obtain⟨s8,rfl,hE8⟩:=hJ.f8 p8;have p7:=hJ.q8_7 p8;obtain⟨hs1,hs2,hs3⟩:=hE8;have hbl:=hs3 hl;have hbw:=hJ.w.1 hl;obtain⟨im,him,hz0,hz1,hz2⟩:=info_parts Kza;have hU:=Tryd.underlying30;refine step_append_lies _ rfl _ _ _ rfl B 90 im _ 3 64 hU him hz0 hz1 hz2 rfl (by omega) (.slice A0 n c0) n xs rfl (own_below hown hbw) ⟨s8,0,none⟩ 1 1 [.string nm, .slice AC lc cC, .slice AD ld cD] rfl rfl (World.news_of_block (fr:=(0,0)) hbl) (by intro u hu;simp at hu;rcases hu with rfl|rfl|rfl<;>rfl) (by omega) (by simp[maxLen];omega) (by omega) (Nat.le_trans hBw hbw.size) W.heap.size rfl ?_;intro gq cap w5 hown5 hgrow5 hat5 hlt5;apply hK;exact { hJ with f8:=fun x=>by obtain⟨s,e1,e2⟩:=hJ.f8 x;exact⟨s,e1,⟨e2.1,Nat.lt_of_lt_of_le e2.2.1 hgrow5.size,tfR⟩⟩,f9:=fun _=>⟨_,rfl,fun h=>⟨W,hbw,hown5,hgrow5⟩⟩,f12:=fun x=>by have e:=hJ.q12_9 x;rw[hl] at e;exact absurd e (by decide),q12_9:=fun _=>rfl,q9_6:=fun _=>p6,q9_7:=fun _=>p7,q9_8:=fun _=>p8,w:=⟨tfR,fun h=>(hJ.w.2 h).trans (Tch.of_grown (own_below hown hbw) hgrow5)⟩ }
  ·
    obtain rfl:=hJ.f1 (Az3 (by simp[haf]));go_simp;apply hK;exact { hJ with f10:=fun _=>rfl,w:=⟨fun h=>hJ.w.1 h,fun h=>hJ.w.2 h⟩ }
  ·
    obtain rfl:=hJ.f10 (Az3 (by simp[haf]));go_simp;apply hK;exact { hJ with f11:=fun _=>rfl,w:=⟨fun h=>hJ.w.1 h,fun h=>hJ.w.2 h⟩ }
  ·
    have p9:listed.getD 9 true=true:=Az3 (by simp[haf]);have p1:listed.getD 1 true=true:=Az3 (by simp[haf]);have p3:listed.getD 3 true=true:=Az3 (by simp[haf]);have p6:listed.getD 6 true=true:=Az3 (by simp[haf]);have p8:listed.getD 8 true=true:=Az3 (by simp[haf]);obtain rfl:=hJ.f11 (Az3 (by simp[haf]));obtain⟨s9,rfl,hE9⟩:=hJ.f9 p9;obtain⟨s8,rfl,hE8⟩:=hJ.f8 p8;obtain⟨W1,hb1,hO,hG⟩:=hE9 hl;obtain⟨AV,cV,rfl⟩:=Az5 hO;have hkk:=hkb.tch (hJ.w.2 hl) (by decide);obtain⟨e0, -,f0, -,el⟩:=hkk.a2;simp at e0;go_simp;apply hK;exact { hJ with f8:=fun x=>by obtain⟨s,e1,e2⟩:=hJ.f8 x;exact⟨s,e1,⟨e2.1,by simpa using e2.2.1,fun h=>(tfR (p9.symm.trans h))⟩⟩,f9:=fun x=>by obtain⟨s,e1,e2⟩:=hJ.f9 x;exact⟨s,e1,tfR⟩,f12:=fun _=>⟨_,W1,W,hb1,hO,hG,rfl⟩,q12_1:=fun _=>p1,q12_3:=fun _=>p3,q12_6:=fun _=>p6,q12_8:=fun _=>p8,q12_9:=fun _=>p9,w:=⟨fun h=>(tfR (p9.symm.trans h)),tfR⟩ }
 case fin=>
  intro listed a W hall hI;obtain⟨y41,y42,y43,y44,y45,y46,y47,y48,y49,y50,y51,y52,hJ,rfl⟩:=hI;exact HQ.out listed W _ _ _ _ _ _ _ _ _ _ _ _ hall hJ
end Go.Proofs.YtdjamdbamkhblacDoor
