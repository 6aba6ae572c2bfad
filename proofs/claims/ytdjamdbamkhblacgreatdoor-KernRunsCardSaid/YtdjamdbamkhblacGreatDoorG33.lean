/- A round of the reference's loop, a theorem for each way (what all ways share): no condition. A round of the reference's loop, a theorem for each way (li, or, ldF, jmpA, jzB0, call4B, tell5): no condition. A round of the reference's loop, a theorem for each way (add, xor, stF, jmpB, jzB1, call0B, tell0): no condition. A round of the reference's loop, a theorem for each way (sub, lt1, ld0, jzA0, call4A, ret1, halt): no condition. A round of the reference's loop, a theorem for each way (and, lt0, st0, jzA1, call0A, ret0): no condition. -/
import Derived.Test.YtdjamdbamkhblacGreatDoorG32
set_option maxHeartbeats 4000000
set_option maxRecDepth 1000000
namespace Go.Proofs.YtdjamdbamkhblacGreatDoor
open Go.RowKit
set_option linter.unusedVariables false
set_option linter.unusedSimpArgs false
def Bzi (P:Mc→Ins→Prop):Prop:=∀ (w1 wr:World) (gO g c n k:Nat) (A:Option Addr) (l:List Ins) (s0 s:Mc) (B T M:Value) (u:Nat→Value) (Q0:Exit→Act→World→Prop) (hO:Blk w1 gO 133 #[.int .i64 0, .int .i64 0, .int .i64 0, .int .i64 0, .int .i64 0, .int .i64 0, .int .i64 0, .int .i64 0, .int .i64 0, .slice none 0 0, .slice none 0 0])
  (hr:RdI w1 w1.heap.size A l) (hl:l.length≤200) (hcode:Ez7 l) (HX:Hid (Jzm w1 gO l n s0 Q0)) (h:Ref w1 wr g s 0 B T M) (hs:McOk s) (hml:s.mem.length≤1024) (hm0:s.mem.length=s0.mem.length) (hk:k+1≤20000) (hrn:runs l (k+1) s=runs l n s0)
  (hp:s.pos<l.length) (x:Ins) (hx:l[s.pos]=x) (hi:InsOk x) (ho:P s x),
  Code.wp Tryz.prog Jz1 (Exit.then (fun a' w''=>RWI w1 gO g c A l n s0 a' w''∧rmu a' w''<k+1) Q0) ⟨#[.slice A l.length c,u 1,u 2, .int .i64 ((k:Int)+1),u 4,u 5,u 6,u 7, .pointer (some ⟨gO,0,none⟩),u 9,u 10, .pointer (some ⟨g,0,none⟩),B, .int .i64 (s.pos:Int),u 14,u 15,u 16,u 17,u 18,u 19,u 20,u 21,u 22,u 23,u 24,u 25,u 26,u 27,u 28,u 29,u 30,u 31,u 32,u 33,u 34,u 35,u 36,u 37,u 38,u 39,u 40,u 41,u 42,u 43,u 44,u 45,u 46,u 47,u 48,u 49,u 50,u 51,u 52,u 53,u 54,u 55,u 56,u 57,u 58,u 59,u 60,u 61,u 62,u 63,u 64,u 65,u 66,u 67,u 68,u 69,u 70,u 71,u 72,u 73,u 74,u 75,u 76,u 77,u 78,u 79,u 80,u 81,u 82,u 83,u 84,u 85,u 86,u 87,u 88,u 89,u 90,u 91,u 92,u 93,u 94,u 95,u 96,u 97,u 98,u 99,u 100,u 101,u 102,u 103,u 104,u 105,u 106,u 107,u 108,u 109,u 110,u 111,u 112,u 113,u 114,u 115,u 116,u 117,u 118,u 119,u 120,u 121,u 122,u 123,u 124,u 125,u 126,u 127,u 128,u 129,u 130,u 131,u 132,u 133,u 134,u 135,u 136,u 137,u 138,u 139,u 140,u 141,u 142,u 143,u 144,u 145,u 146,u 147,u 148,u 149,u 150,u 151,u 152,u 153,u 154,u 155,u 156,u 157,u 158,u 159,u 160,u 161,u 162,u 163,u 164,u 165,u 166,u 167,u 168,u 169,u 170,u 171,u 172,u 173,u 174,u 175,u 176,u 177,u 178,u 179,u 180,u 181,u 182,u 183,u 184,u 185,u 186,u 187,u 188,u 189,u 190,u 191,u 192,u 193,u 194,u 195,u 196,u 197,u 198,u 199,u 200,u 201,u 202,u 203,u 204,u 205,u 206,u 207,u 208,u 209,u 210,u 211,u 212,u 213,u 214,u 215,u 216,u 217,u 218,u 219,u 220,u 221,u 222,u 223,u 224,u 225,u 226,u 227,u 228,u 229,u 230,u 231,u 232,u 233,u 234,u 235,u 236,u 237,u 238,u 239,u 240,u 241,u 242,u 243,u 244,u 245,u 246,u 247,u 248,u 249,u 250,u 251,u 252,u 253],[]⟩ wr
theorem rcOf {P:Mc→Ins→Prop} (K:∀ (w1 wr:World) (gO g c n k b o:Nat) (l:List Ins) (s0 s:Mc) (B T M:Value) (u:Nat→Value) (Q0:Exit→Act→World→Prop) (xo:Int) (an bn cn ps xv yv zv:Nat)
  (hO:Blk w1 gO 133 #[.int .i64 0, .int .i64 0, .int .i64 0, .int .i64 0, .int .i64 0, .int .i64 0, .int .i64 0, .int .i64 0, .int .i64 0, .slice none 0 0, .slice none 0 0]) (HX:Hid (Jzm w1 gO l n s0 Q0)) (h:Ref w1 wr g s 0 B T M) (hs:McOk s) (hl:l.length≤200) (hml:s.mem.length≤1024) (hk:k+1≤20000) (HIN:Hid (l[s.pos]? =some ⟨xo,an,bn,cn⟩)) (HRN:Hid (runs l (k+1) s=runs l n s0)) (HCO:Hid (Ez7 l)) (HM0:Hid (s.mem.length=s0.mem.length)) (o1:1≤xo) (o2:xo≤15) (a0:(0:Int)≤(an:Int)) (a7:(an:Int)≤7) (b0:(0:Int)≤(bn:Int)) (b7:(bn:Int)≤7) (c0:(0:Int)≤(cn:Int)) (cw:(cn:Int)≤65535) (c7:2≤xo→xo≤7→(cn:Int)≤7) (hbB:b<w1.heap.size) (d0:wr.cell? ⟨b,o+ps*4,none⟩=some (.int .i64 xo)) (d1:wr.cell? ⟨b,o+ps*4+1,none⟩=some (.int .i64 (an:Int))) (d2:wr.cell? ⟨b,o+ps*4+2,none⟩=some (.int .i64 (bn:Int))) (d3:wr.cell? ⟨b,o+ps*4+3,none⟩=some (.int .i64 (cn:Int))) (hg:g<wr.heap.size) (hg1:g<wr.heap.size+1) (hlo:w1.heap.size≤g) (hbg:b≠g) (hbw:b<wr.heap.size) (hbw1:b<wr.heap.size+1) (hr8:s.regs.length=8) (HMO:Hid (McOk s)) (HPS:Hid (s.pos=ps)) (hp:ps<l.length) (hp2:(ps:Int)<(l.length:Int)) (hk0:((k:Int)+1 == 0)=false) (hk1:(k:Int)+1≤20000) (hk2:(0:Int)≤(k:Int)) (rb:wr.cell? ⟨g,1+bn,none⟩=some (.int .i64 (xv:Int))) (rc:cn≤7→wr.cell? ⟨g,1+cn,none⟩=some (.int .i64 (yv:Int))) (ra:wr.cell? ⟨g,1+an,none⟩=some (.int .i64 (zv:Int))) (fa:wr.frozen? ⟨g,1+an,none⟩=false) (hxw:xv≤65535) (hyw:yv≤65535) (HXV:Hid (rg s (bn:Int)=xv)) (HYV:Hid (rg s (cn:Int)=yv)) (HZV:Hid (rg s (an:Int)=zv)) (ho:P s ⟨xo,(an:Int),(bn:Int),(cn:Int)⟩),
  Code.wp Tryz.prog Jz1 (Exit.then (fun a' w''=>RWI w1 gO g c (some ⟨b,o,none⟩) l n s0 a' w''∧rmu a' w''<k+1) Q0) ⟨#[.slice (some ⟨b,o,none⟩) l.length c,u 1,u 2, .int .i64 ((k:Int)+1),u 4,u 5,u 6,u 7, .pointer (some ⟨gO,0,none⟩),u 9,u 10, .pointer (some ⟨g,0,none⟩),B, .int .i64 (ps:Int),u 14,u 15,u 16,u 17,u 18,u 19,u 20,u 21,u 22,u 23,u 24,u 25,u 26,u 27,u 28,u 29,u 30,u 31,u 32,u 33,u 34,u 35,u 36,u 37,u 38,u 39,u 40,u 41,u 42,u 43,u 44,u 45,u 46,u 47,u 48,u 49,u 50,u 51,u 52,u 53,u 54,u 55,u 56,u 57,u 58,u 59,u 60,u 61,u 62,u 63,u 64,u 65,u 66,u 67,u 68,u 69,u 70,u 71,u 72,u 73,u 74,u 75,u 76,u 77,u 78,u 79,u 80,u 81,u 82,u 83,u 84,u 85,u 86,u 87,u 88,u 89,u 90,u 91,u 92,u 93,u 94,u 95,u 96,u 97,u 98,u 99,u 100,u 101,u 102,u 103,u 104,u 105,u 106,u 107,u 108,u 109,u 110,u 111,u 112,u 113,u 114,u 115,u 116,u 117,u 118,u 119,u 120,u 121,u 122,u 123,u 124,u 125,u 126,u 127,u 128,u 129,u 130,u 131,u 132,u 133,u 134,u 135,u 136,u 137,u 138,u 139,u 140,u 141,u 142,u 143,u 144,u 145,u 146,u 147,u 148,u 149,u 150,u 151,u 152,u 153,u 154,u 155,u 156,u 157,u 158,u 159,u 160,u 161,u 162,u 163,u 164,u 165,u 166,u 167,u 168,u 169,u 170,u 171,u 172,u 173,u 174,u 175,u 176,u 177,u 178,u 179,u 180,u 181,u 182,u 183,u 184,u 185,u 186,u 187,u 188,u 189,u 190,u 191,u 192,u 193,u 194,u 195,u 196,u 197,u 198,u 199,u 200,u 201,u 202,u 203,u 204,u 205,u 206,u 207,u 208,u 209,u 210,u 211,u 212,u 213,u 214,u 215,u 216,u 217,u 218,u 219,u 220,u 221,u 222,u 223,u 224,u 225,u 226,u 227,u 228,u 229,u 230,u 231,u 232,u 233,u 234,u 235,u 236,u 237,u 238,u 239,u 240,u 241,u 242,u 243,u 244,u 245,u 246,u 247,u 248,u 249,u 250,u 251,u 252,u 253],[]⟩ wr):Bzi P:=by
 intro w1 wr gO g c n k A l s0 s B T M u Q0 hO hr hl hcode HX h hs hml hm0 hk hrn hp x hx hi ho;obtain⟨b,o,rfl,hbB,hcell⟩:=hr (by omega);obtain⟨d0,d1,d2,d3⟩:=hcell s.pos hp;rw[←h.below.cell (p:=⟨b,_,none⟩) hbB,hx] at d0 d1 d2 d3;have hin:l[s.pos]? =some x:=by rw[List.getElem?_eq_getElem hp,hx]
 obtain⟨o1,o2,a0,a7,b0,b7,c0,cw,c7⟩:=hi;obtain⟨xo,xa,xb,xc⟩:=x;simp only at d0 d1 d2 d3 o1 o2 a0 a7 b0 b7 c0 cw c7;obtain⟨an,rfl⟩:∃ n:Nat,xa=(n:Int):=⟨xa.toNat,by omega⟩;obtain⟨bn,rfl⟩:∃ n:Nat,xb=(n:Int):=⟨xb.toNat,by omega⟩;obtain⟨cn,rfl⟩:∃ n:Nat,xc=(n:Int):=⟨xc.toNat,by omega⟩;have hg:=h.blk.lt;have hlo:=h.lo;exact K w1 wr gO g c n k b o l s0 s B T M u Q0 xo an bn cn s.pos (s.regs.getD bn 0) (s.regs.getD cn 0) (s.regs.getD an 0) hO HX h hs hl hml hk hin hrn hcode hm0 o1 o2 a0 a7 b0 b7 c0 cw c7 hbB d0 d1 d2 d3 hg (by omega) hlo (by omega) (by omega) (by omega) hs.regs hs rfl hp (by omega) (by rw[beq_eq_false_iff_ne];omega) (by omega) (by omega)
  ((h.blk.cell (1+bn)).trans (Lz6 bn (by omega))) (fun hc=>(h.blk.cell (1+cn)).trans (Lz6 cn hc)) ((h.blk.cell (1+an)).trans (Lz6 an (by omega))) (h.blk.frozen (1+an)) (Gzc hs.rw bn) (Gzc hs.rw cn) rfl rfl rfl ho
theorem Dza {w1 wr:World} {g gO:Nat} {s:Mc} {B T M:Value} (h:Ref w1 wr g s 0 B T M) (hO:Blk w1 gO 133 #[.int .i64 0, .int .i64 0, .int .i64 0, .int .i64 0, .int .i64 0, .int .i64 0, .int .i64 0, .int .i64 0, .int .i64 0, .slice none 0 0, .slice none 0 0]):
  ∃ AT kT AM kM,∃ v0 v1 v2 v3 v4 v5 v6 v7:Nat,T= .slice AT s.told.length kT∧M= .slice AM s.mem.length kM∧(wr.cell? ⟨g,0,none⟩=some (.int .i64 0))∧(wr.cell? ⟨g,9,none⟩=some (.slice AT s.told.length kT))∧(wr.cell? ⟨g,10,none⟩=some (.slice AM s.mem.length kM))∧(wr.frozen? ⟨g,0,none⟩=false)∧(wr.cell? ⟨g,1,none⟩=some (.int .i64 (v0:Int)))∧(wr.cell? ⟨g,2,none⟩=some (.int .i64 (v1:Int)))∧(wr.cell? ⟨g,3,none⟩=some (.int .i64 (v2:Int)))∧(wr.cell? ⟨g,4,none⟩=some (.int .i64 (v3:Int)))∧(wr.cell? ⟨g,5,none⟩=some (.int .i64 (v4:Int)))∧(wr.cell? ⟨g,6,none⟩=some (.int .i64 (v5:Int)))∧(wr.cell? ⟨g,7,none⟩=some (.int .i64 (v6:Int)))∧(wr.cell? ⟨g,8,none⟩=some (.int .i64 (v7:Int)))∧(wr.cell? ⟨gO,0,none⟩=some (.int .i64 0))∧(wr.cell? ⟨gO,1,none⟩=some (.int .i64 0))∧(wr.cell? ⟨gO,2,none⟩=some (.int .i64 0))∧(wr.cell? ⟨gO,3,none⟩=some (.int .i64 0))∧(wr.cell? ⟨gO,4,none⟩=some (.int .i64 0))∧(wr.cell? ⟨gO,5,none⟩=some (.int .i64 0))∧(wr.cell? ⟨gO,6,none⟩=some (.int .i64 0))∧(wr.cell? ⟨gO,7,none⟩=some (.int .i64 0))∧(wr.cell? ⟨gO,8,none⟩=some (.int .i64 0))∧(wr.cell? ⟨gO,9,none⟩=some (.slice none 0 0))∧(wr.cell? ⟨gO,10,none⟩=some (.slice none 0 0))∧(wr.frozen? ⟨gO,0,none⟩=false)∧(wr.frozen? ⟨gO,1,none⟩=false)∧(wr.frozen? ⟨gO,2,none⟩=false)∧(wr.frozen? ⟨gO,3,none⟩=false)∧(wr.frozen? ⟨gO,4,none⟩=false)∧(wr.frozen? ⟨gO,5,none⟩=false)∧(wr.frozen? ⟨gO,6,none⟩=false)∧(wr.frozen? ⟨gO,7,none⟩=false)∧(wr.frozen? ⟨gO,8,none⟩=false)∧(wr.frozen? ⟨gO,9,none⟩=false)∧(wr.frozen? ⟨gO,10,none⟩=false)∧(gO<w1.heap.size)∧(gO≠g)∧(g≠gO)∧(gO<wr.heap.size)∧(gO<wr.heap.size+1)∧(Hid (Blk wr gO 133 #[.int .i64 0, .int .i64 0, .int .i64 0, .int .i64 0, .int .i64 0, .int .i64 0, .int .i64 0, .int .i64 0, .int .i64 0, .slice none 0 0, .slice none 0 0]))∧(∀ en:Nat,outL en s.regs (.slice AT s.told.length kT) (.slice AM s.mem.length kM)=[.int .i64 (en:Int), .int .i64 (v0:Int), .int .i64 (v1:Int), .int .i64 (v2:Int), .int .i64 (v3:Int), .int .i64 (v4:Int), .int .i64 (v5:Int), .int .i64 (v6:Int), .int .i64 (v7:Int), .slice AT s.told.length kT, .slice AM s.mem.length kM]):=by
 obtain⟨AT,kT,rfl⟩:=Az1 h.ot;obtain⟨AM,kM,rfl⟩:=Az1 h.om;have hW:=hO.below h.below hO.lt;have hlo:=h.lo;have hg:=h.blk.lt;have hgO:=hO.lt;have R:∀ q,q≤7→wr.cell? ⟨g,1+q,none⟩=some (natV (s.regs.getD q 0)):=fun q hq=>(h.blk.cell (1+q)).trans (Lz6 q hq)
 exact⟨AT,kT,AM,kM,s.regs.getD 0 0,s.regs.getD 1 0,s.regs.getD 2 0,s.regs.getD 3 0,s.regs.getD 4 0,s.regs.getD 5 0,s.regs.getD 6 0,s.regs.getD 7 0,rfl,rfl,h.blk.cell 0,h.blk.cell 9,h.blk.cell 10,h.blk.frozen 0,R 0 (by decide),R 1 (by decide),R 2 (by decide),R 3 (by decide),R 4 (by decide),R 5 (by decide),R 6 (by decide),R 7 (by decide),
  hW.cell 0,hW.cell 1,hW.cell 2,hW.cell 3,hW.cell 4,hW.cell 5,hW.cell 6,hW.cell 7,hW.cell 8,hW.cell 9,hW.cell 10,hW.frozen 0,hW.frozen 1,hW.frozen 2,hW.frozen 3,hW.frozen 4,hW.frozen 5,hW.frozen 6,hW.frozen 7,hW.frozen 8,hW.frozen 9,hW.frozen 10,hgO,by omega,by omega,by omega,by omega,hW,fun _=>rfl⟩
theorem Tzg:Bzi fun s x=>x.op=1:=rcOf fun w1 wr gO g c n k b o l s0 s B T M u Q0 xo an bn cn ps xv yv zv hO HX h hs hl hml hk HIN HRN HCO HM0 o1 o2 a0 a7 b0 b7 c0 cw c7 hbB d0 d1 d2 d3 hg hg1 hlo hbg hbw hbw1 hr8 HMO HPS hp hp2 hk0 hk1 hk2 rb rc ra fa hxw hyw HXV HYV HZV ho=>by
 simp only at ho;subst ho;clear rc;have HS:Hid (step l s=({ s with pos:=ps+1,regs:=s.regs.set an cn },0)):=by
  show _=_;unfold step;rw[HIN.out];simp only;rw[if_neg (by decide),if_neg (by decide),if_neg (by decide),if_neg (by decide),if_neg (by decide),if_neg (by decide),if_neg (by decide),if_neg (by decide),HPS.out];rfl
 have H:=Lib.hid h;clear h hs;conv=>arg 2;whnf
 go_wp2;exact RWI.mk (B:=B) (p:= .int .i64 ((ps:Int)+1)) rfl rfl rfl rfl rfl rfl rfl rfl (by omega) (RLoop.next (T':=T) (M':=M) HS.out HCO.out HMO.out HM0.out HRN.out (by show ((ps:Int)+1)=((ps+1:Nat):Int);omega) (((H.out.setregE hr8 an (by omega) (rfl)).setpos (ps+1)).later (Aze _ _)))
theorem Tzh:Bzi fun s x=>x.op=5:=rcOf fun w1 wr gO g c n k b o l s0 s B T M u Q0 xo an bn cn ps xv yv zv hO HX h hs hl hml hk HIN HRN HCO HM0 o1 o2 a0 a7 b0 b7 c0 cw c7 hbB d0 d1 d2 d3 hg hg1 hlo hbg hbw hbw1 hr8 HMO HPS hp hp2 hk0 hk1 hk2 rb rc ra fa hxw hyw HXV HYV HZV ho=>by
 simp only at ho;subst ho;replace rc:=rc (by omega);have hc7:cn≤7:=by omega
 have hcn:(cn:Int)<8:=by omega
 have HS:Hid (step l s=({ s with pos:=ps+1,regs:=s.regs.set an (xv |||yv) },0)):=by
  show _=_;unfold step;rw[HIN.out];simp only;rw[if_neg (by decide),if_neg (by decide),if_neg (by decide),if_neg (by decide),if_neg (by decide),if_neg (by decide),if_neg (by decide),if_neg (by decide),HPS.out,show ((cn:Int) % 8)=(cn:Int) by omega,HXV.out,HYV.out];rfl
 have b1:=Ez0 xv yv (by omega) (by omega);have H:=Lib.hid h;clear h hs;conv=>arg 2;whnf
 go_wp2;exact RWI.mk (B:=B) (p:= .int .i64 ((ps:Int)+1)) rfl rfl rfl rfl rfl rfl rfl rfl (by omega) (RLoop.next (T':=T) (M':=M) HS.out HCO.out HMO.out HM0.out HRN.out (by show ((ps:Int)+1)=((ps+1:Nat):Int);omega) (((H.out.setregE hr8 an (by omega) (rfl)).setpos (ps+1)).later (Aze _ _)))
theorem Szu:Bzi fun s x=>x.op=8∧x.c=0∧s.mem.length≤rg s x.b:=rcOf fun w1 wr gO g c n k b o l s0 s B T M u Q0 xo an bn cn ps xv yv zv hO HX h hs hl hml hk HIN HRN HCO HM0 o1 o2 a0 a7 b0 b7 c0 cw c7 hbB d0 d1 d2 d3 hg hg1 hlo hbg hbw hbw1 hr8 HMO HPS hp hp2 hk0 hk1 hk2 rb rc ra fa hxw hyw HXV HYV HZV ho=>by
 simp only at ho;obtain⟨ho,hc00,hge⟩:=ho;subst ho;replace rc:=rc (by omega);have hcn:(cn:Int)<8:=by omega
 clear hc00;rw[HXV.out] at hge;have hge2:(s.mem.length:Int)≤(xv:Int):=by omega
 obtain⟨AT,kT,AM,kM,v0,v1,v2,v3,v4,v5,v6,v7,rfl,rfl,e0,e9,e10,f0,r0,r1,r2,r3,r4,r5,r6,r7,y0,y1,y2,y3,y4,y5,y6,y7,y8,y9,y10,z0,z1,z2,z3,z4,z5,z6,z7,z8,z9,z10,hgO,hgne,hgne',hgOw,hgOw1,HW,HV⟩:=Dza h hO;replace HV:=Lib.hid (HV 3);have HS:Hid (step l s=({ s with pos:=ps+1 },3)):=by
  show _=_;unfold step;rw[HIN.out];simp only;rw[if_pos trivial,HXV.out,if_neg (by omega),HPS.out]
 have HGE:=Lib.hid hge;clear hge;have H:=Lib.hid h;clear h hs;conv=>arg 2;whnf
 go_wp2;exact HX.out _ _ _ 3 (.slice AT s.told.length kT) (.slice AM s.mem.length kM) (HRN.out.symm.trans ((Bzt (by rw[HS.out];simp)).trans HS.out)) ((XFin.of (B:=B) ((H.out.setend 3).setpos (ps+1)) (HW.out.far (p:=⟨g,0,none⟩) hgne _) rfl HV.out).alloc _) rfl rfl rfl rfl
theorem Rzi:Bzi fun s x=>x.op=10∧x.c<8:=rcOf fun w1 wr gO g c n k b o l s0 s B T M u Q0 xo an bn cn ps xv yv zv hO HX h hs hl hml hk HIN HRN HCO HM0 o1 o2 a0 a7 b0 b7 c0 cw c7 hbB d0 d1 d2 d3 hg hg1 hlo hbg hbw hbw1 hr8 HMO HPS hp hp2 hk0 hk1 hk2 rb rc ra fa hxw hyw HXV HYV HZV ho=>by
 simp only at ho;obtain⟨ho,hc00⟩:=ho;subst ho;replace rc:=rc (by omega);have hcn:(cn:Int)<8:=by omega
 have HS:Hid (step l s=({ s with pos:=cn },0)):=by
  show _=_;unfold step;rw[HIN.out];simp only;rw[if_neg (by decide),if_neg (by decide),if_pos trivial];rfl
 have H:=Lib.hid h;clear h hs;conv=>arg 2;whnf
 go_wp2;exact RWI.mk (B:=B) (p:= .int .i64 (cn:Int)) rfl rfl rfl rfl rfl rfl rfl rfl (by omega) (RLoop.next (T':=T) (M':=M) HS.out HCO.out HMO.out HM0.out HRN.out (by rfl) ((H.out.setpos cn).later (Aze _ _)))
theorem Rzm:Bzi fun s x=>x.op=11∧8≤x.c∧rg s x.a=0:=rcOf fun w1 wr gO g c n k b o l s0 s B T M u Q0 xo an bn cn ps xv yv zv hO HX h hs hl hml hk HIN HRN HCO HM0 o1 o2 a0 a7 b0 b7 c0 cw c7 hbB d0 d1 d2 d3 hg hg1 hlo hbg hbw hbw1 hr8 HMO HPS hp hp2 hk0 hk1 hk2 rb rc ra fa hxw hyw HXV HYV HZV ho=>by
 simp only at ho;obtain⟨ho,hc00,hz⟩:=ho;subst ho;clear rc;have hcn:(8:Int)≤(cn:Int):=by omega
 rw[HZV.out] at hz;have hzz:((zv:Int) == 0)=true:=by rw[beq_iff_eq];omega
 have HS:Hid (step l s=({ s with pos:=cn },0)):=by
  show _=_;unfold step;rw[HIN.out];simp only;rw[if_neg (by decide),if_neg (by decide),if_neg (by decide),if_pos trivial,HZV.out,if_pos hz];rfl
 have HZ:=Lib.hid hz;clear hz;have H:=Lib.hid h;clear h hs;conv=>arg 2;whnf
 go_wp2;exact RWI.mk (B:=B) (p:= .int .i64 (cn:Int)) rfl rfl rfl rfl rfl rfl rfl rfl (by omega) (RLoop.next (T':=T) (M':=M) HS.out HCO.out HMO.out HM0.out HRN.out (by rfl) ((H.out.setpos (cn)).later (Aze _ _)))
theorem Nzy:Bzi fun s x=>x.op=12∧8≤x.c∧s.back.length=16:=rcOf fun w1 wr gO g c n k b o l s0 s B T M u Q0 xo an bn cn ps xv yv zv hO HX h hs hl hml hk HIN HRN HCO HM0 o1 o2 a0 a7 b0 b7 c0 cw c7 hbB d0 d1 d2 d3 hg hg1 hlo hbg hbw hbw1 hr8 HMO HPS hp hp2 hk0 hk1 hk2 rb rc ra fa hxw hyw HXV HYV HZV ho=>by
 simp only at ho;obtain⟨ho,hc00,hb⟩:=ho;subst ho;clear rc;have hcn:(8:Int)≤(cn:Int):=by omega
 have hb2:(16:Int)≤(s.back.length:Int):=by omega
 obtain⟨AB,kB,rfl⟩:=Az1 h.ob;obtain⟨AT,kT,AM,kM,v0,v1,v2,v3,v4,v5,v6,v7,rfl,rfl,e0,e9,e10,f0,r0,r1,r2,r3,r4,r5,r6,r7,y0,y1,y2,y3,y4,y5,y6,y7,y8,y9,y10,z0,z1,z2,z3,z4,z5,z6,z7,z8,z9,z10,hgO,hgne,hgne',hgOw,hgOw1,HW,HV⟩:=Dza h hO;replace HV:=Lib.hid (HV 4);have HS:Hid (step l s=({ s with pos:=ps+1 },4)):=by
  show _=_;unfold step;rw[HIN.out];simp only;rw[if_neg (by decide),if_neg (by decide),if_neg (by decide),if_neg (by decide),if_pos trivial,if_pos hb,HPS.out]
 clear hb;have H:=Lib.hid h;clear h hs;conv=>arg 2;whnf
 go_wp2;exact HX.out _ _ _ 4 (.slice AT s.told.length kT) (.slice AM s.mem.length kM) (HRN.out.symm.trans ((Bzt (by rw[HS.out];simp)).trans HS.out)) ((XFin.of (B:=(.slice AB s.back.length kB)) ((H.out.setend 4).setpos (ps+1)) (HW.out.far (p:=⟨g,0,none⟩) hgne _) rfl HV.out).alloc _) rfl rfl rfl rfl
theorem Pzo:Bzi fun s x=>x.op=14∧x.c=0∧s.told.length=100:=rcOf fun w1 wr gO g c n k b o l s0 s B T M u Q0 xo an bn cn ps xv yv zv hO HX h hs hl hml hk HIN HRN HCO HM0 o1 o2 a0 a7 b0 b7 c0 cw c7 hbB d0 d1 d2 d3 hg hg1 hlo hbg hbw hbw1 hr8 HMO HPS hp hp2 hk0 hk1 hk2 rb rc ra fa hxw hyw HXV HYV HZV ho=>by
 simp only at ho;obtain⟨ho,hc00,hb⟩:=ho;subst ho;replace rc:=rc (by omega);have hcn:(cn:Int)<8:=by omega
 clear hc00;have hb2:(100:Int)≤(s.told.length:Int):=by omega
 obtain⟨AT,kT,AM,kM,v0,v1,v2,v3,v4,v5,v6,v7,rfl,rfl,e0,e9,e10,f0,r0,r1,r2,r3,r4,r5,r6,r7,y0,y1,y2,y3,y4,y5,y6,y7,y8,y9,y10,z0,z1,z2,z3,z4,z5,z6,z7,z8,z9,z10,hgO,hgne,hgne',hgOw,hgOw1,HW,HV⟩:=Dza h hO;replace HV:=Lib.hid (HV 5);have HS:Hid (step l s=({ s with pos:=ps+1 },5)):=by
  show _=_;unfold step;rw[HIN.out];simp only;rw[if_neg (by decide),if_neg (by decide),if_neg (by decide),if_neg (by decide),if_neg (by decide),if_neg (by decide),if_pos trivial,if_pos hb,HPS.out]
 clear hb;have H:=Lib.hid h;clear h hs;conv=>arg 2;whnf
 go_wp2;exact HX.out _ _ _ 5 (.slice AT s.told.length kT) (.slice AM s.mem.length kM) (HRN.out.symm.trans ((Bzt (by rw[HS.out];simp)).trans HS.out)) ((XFin.of (B:=B) ((H.out.setend 5).setpos (ps+1)) (HW.out.far (p:=⟨g,0,none⟩) hgne _) rfl HV.out).alloc _) rfl rfl rfl rfl
theorem Szr:Bzi fun s x=>x.op=2:=rcOf fun w1 wr gO g c n k b o l s0 s B T M u Q0 xo an bn cn ps xv yv zv hO HX h hs hl hml hk HIN HRN HCO HM0 o1 o2 a0 a7 b0 b7 c0 cw c7 hbB d0 d1 d2 d3 hg hg1 hlo hbg hbw hbw1 hr8 HMO HPS hp hp2 hk0 hk1 hk2 rb rc ra fa hxw hyw HXV HYV HZV ho=>by
 simp only at ho;subst ho;replace rc:=rc (by omega);have hc7:cn≤7:=by omega
 have hcn:(cn:Int)<8:=by omega
 have HS:Hid (step l s=({ s with pos:=ps+1,regs:=s.regs.set an ((xv+yv) % 65536) },0)):=by
  show _=_;unfold step;rw[HIN.out];simp only;rw[if_neg (by decide),if_neg (by decide),if_neg (by decide),if_neg (by decide),if_neg (by decide),if_neg (by decide),if_neg (by decide),if_neg (by decide),HPS.out,show ((cn:Int) % 8)=(cn:Int) by omega,HXV.out,HYV.out];rfl
 have H:=Lib.hid h;clear h hs;conv=>arg 2;whnf
 go_wp2;exact RWI.mk (B:=B) (p:= .int .i64 ((ps:Int)+1)) rfl rfl rfl rfl rfl rfl rfl rfl (by omega) (RLoop.next (T':=T) (M':=M) HS.out HCO.out HMO.out HM0.out HRN.out (by show ((ps:Int)+1)=((ps+1:Nat):Int);omega) (((H.out.setregE hr8 an (by omega) (by omega)).setpos (ps+1)).later (Aze _ _)))
theorem Tz0:Bzi fun s x=>x.op=6:=rcOf fun w1 wr gO g c n k b o l s0 s B T M u Q0 xo an bn cn ps xv yv zv hO HX h hs hl hml hk HIN HRN HCO HM0 o1 o2 a0 a7 b0 b7 c0 cw c7 hbB d0 d1 d2 d3 hg hg1 hlo hbg hbw hbw1 hr8 HMO HPS hp hp2 hk0 hk1 hk2 rb rc ra fa hxw hyw HXV HYV HZV ho=>by
 simp only at ho;subst ho;replace rc:=rc (by omega);have hc7:cn≤7:=by omega
 have hcn:(cn:Int)<8:=by omega
 have HS:Hid (step l s=({ s with pos:=ps+1,regs:=s.regs.set an (xv ^^^ yv) },0)):=by
  show _=_;unfold step;rw[HIN.out];simp only;rw[if_neg (by decide),if_neg (by decide),if_neg (by decide),if_neg (by decide),if_neg (by decide),if_neg (by decide),if_neg (by decide),if_neg (by decide),HPS.out,show ((cn:Int) % 8)=(cn:Int) by omega,HXV.out,HYV.out];rfl
 have b1:=Fzn xv yv (by omega) (by omega);have H:=Lib.hid h;clear h hs;conv=>arg 2;whnf
 go_wp2;exact RWI.mk (B:=B) (p:= .int .i64 ((ps:Int)+1)) rfl rfl rfl rfl rfl rfl rfl rfl (by omega) (RLoop.next (T':=T) (M':=M) HS.out HCO.out HMO.out HM0.out HRN.out (by show ((ps:Int)+1)=((ps+1:Nat):Int);omega) (((H.out.setregE hr8 an (by omega) (rfl)).setpos (ps+1)).later (Aze _ _)))
theorem Szy:Bzi fun s x=>x.op=9∧x.c=0∧s.mem.length≤rg s x.b:=rcOf fun w1 wr gO g c n k b o l s0 s B T M u Q0 xo an bn cn ps xv yv zv hO HX h hs hl hml hk HIN HRN HCO HM0 o1 o2 a0 a7 b0 b7 c0 cw c7 hbB d0 d1 d2 d3 hg hg1 hlo hbg hbw hbw1 hr8 HMO HPS hp hp2 hk0 hk1 hk2 rb rc ra fa hxw hyw HXV HYV HZV ho=>by
 simp only at ho;obtain⟨ho,hc00,hge⟩:=ho;subst ho;replace rc:=rc (by omega);have hcn:(cn:Int)<8:=by omega
 clear hc00;rw[HXV.out] at hge;have hge2:(s.mem.length:Int)≤(xv:Int):=by omega
 obtain⟨AT,kT,AM,kM,v0,v1,v2,v3,v4,v5,v6,v7,rfl,rfl,e0,e9,e10,f0,r0,r1,r2,r3,r4,r5,r6,r7,y0,y1,y2,y3,y4,y5,y6,y7,y8,y9,y10,z0,z1,z2,z3,z4,z5,z6,z7,z8,z9,z10,hgO,hgne,hgne',hgOw,hgOw1,HW,HV⟩:=Dza h hO;replace HV:=Lib.hid (HV 3);have HS:Hid (step l s=({ s with pos:=ps+1 },3)):=by
  show _=_;unfold step;rw[HIN.out];simp only;rw[if_neg (by decide),if_pos trivial,HXV.out,if_neg (by omega),HPS.out]
 have HGE:=Lib.hid hge;clear hge;have H:=Lib.hid h;clear h hs;conv=>arg 2;whnf
 go_wp2;exact HX.out _ _ _ 3 (.slice AT s.told.length kT) (.slice AM s.mem.length kM) (HRN.out.symm.trans ((Bzt (by rw[HS.out];simp)).trans HS.out)) ((XFin.of (B:=B) ((H.out.setend 3).setpos (ps+1)) (HW.out.far (p:=⟨g,0,none⟩) hgne _) rfl HV.out).alloc _) rfl rfl rfl rfl
theorem Rzj:Bzi fun s x=>x.op=10∧8≤x.c:=rcOf fun w1 wr gO g c n k b o l s0 s B T M u Q0 xo an bn cn ps xv yv zv hO HX h hs hl hml hk HIN HRN HCO HM0 o1 o2 a0 a7 b0 b7 c0 cw c7 hbB d0 d1 d2 d3 hg hg1 hlo hbg hbw hbw1 hr8 HMO HPS hp hp2 hk0 hk1 hk2 rb rc ra fa hxw hyw HXV HYV HZV ho=>by
 simp only at ho;obtain⟨ho,hc00⟩:=ho;subst ho;clear rc;have hcn:(8:Int)≤(cn:Int):=by omega
 have HS:Hid (step l s=({ s with pos:=cn },0)):=by
  show _=_;unfold step;rw[HIN.out];simp only;rw[if_neg (by decide),if_neg (by decide),if_pos trivial];rfl
 have H:=Lib.hid h;clear h hs;conv=>arg 2;whnf
 go_wp2;exact RWI.mk (B:=B) (p:= .int .i64 (cn:Int)) rfl rfl rfl rfl rfl rfl rfl rfl (by omega) (RLoop.next (T':=T) (M':=M) HS.out HCO.out HMO.out HM0.out HRN.out (by rfl) ((H.out.setpos cn).later (Aze _ _)))
theorem Rzn:Bzi fun s x=>x.op=11∧8≤x.c∧rg s x.a≠0:=rcOf fun w1 wr gO g c n k b o l s0 s B T M u Q0 xo an bn cn ps xv yv zv hO HX h hs hl hml hk HIN HRN HCO HM0 o1 o2 a0 a7 b0 b7 c0 cw c7 hbB d0 d1 d2 d3 hg hg1 hlo hbg hbw hbw1 hr8 HMO HPS hp hp2 hk0 hk1 hk2 rb rc ra fa hxw hyw HXV HYV HZV ho=>by
 simp only at ho;obtain⟨ho,hc00,hz⟩:=ho;subst ho;clear rc;have hcn:(8:Int)≤(cn:Int):=by omega
 rw[HZV.out] at hz;have hzz:((zv:Int) == 0)=false:=by rw[beq_eq_false_iff_ne];omega
 have HS:Hid (step l s=({ s with pos:=ps+1 },0)):=by
  show _=_;unfold step;rw[HIN.out];simp only;rw[if_neg (by decide),if_neg (by decide),if_neg (by decide),if_pos trivial,HZV.out,if_neg hz,HPS.out]
 have HZ:=Lib.hid hz;clear hz;have H:=Lib.hid h;clear h hs;conv=>arg 2;whnf
 go_wp2;exact RWI.mk (B:=B) (p:= .int .i64 ((ps:Int)+1)) rfl rfl rfl rfl rfl rfl rfl rfl (by omega) (RLoop.next (T':=T) (M':=M) HS.out HCO.out HMO.out HM0.out HRN.out (by show ((ps:Int)+1)=((ps+1:Nat):Int);omega) ((H.out.setpos (ps+1)).later (Aze _ _)))
theorem Nzw:Bzi fun s x=>x.op=12∧8≤x.c∧s.back.length≠16:=rcOf fun w1 wr gO g c n k b o l s0 s B T M u Q0 xo an bn cn ps xv yv zv hO HX h hs hl hml hk HIN HRN HCO HM0 o1 o2 a0 a7 b0 b7 c0 cw c7 hbB d0 d1 d2 d3 hg hg1 hlo hbg hbw hbw1 hr8 HMO HPS hp hp2 hk0 hk1 hk2 rb rc ra fa hxw hyw HXV HYV HZV ho=>by
 simp only at ho;obtain⟨ho,hc00,hb⟩:=ho;subst ho;clear rc;have hcn:(8:Int)≤(cn:Int):=by omega
 have hb2:(s.back.length:Int)<16:=by have:=hs.back;omega
 obtain⟨AB,kB,rfl⟩:=Az1 h.ob;have HS:Hid (step l s=({ s with pos:=cn,back:=s.back++ [ps+1] },0)):=by
  show _=_;unfold step;rw[HIN.out];simp only;rw[if_neg (by decide),if_neg (by decide),if_neg (by decide),if_neg (by decide),if_pos trivial,if_neg hb,HPS.out];rfl
 have hU:=Tryz.underlying25;obtain⟨i0,hi0,hz0,hz1,hz2⟩:=info_parts Dz1;clear hb;have H:=Lib.hid h;clear h hs;conv=>arg 2;whnf
 go_wp2_with (at_builtin;refine wpList_append_lies _ rfl _ _ _ rfl w1.heap.size 3 i0 _ 1 8 hU hi0 hz0 hz1 hz2 rfl (by omega) (.slice AB s.back.length kB) s.back.length (Azx s.back) rfl ((H.out.ob.alloc _).alloc _) ⟨wr.heap.size+1,0,none⟩ 1 1 [.int .i64 ((ps:Int)+1)] rfl rfl ?new ?one (by omega) ?len ?byt ?bas (wr.heap.size+1+1) (by simp) ?_)
 case new=>exact World.news_of_block (fr:=(0,0)) (B:=wr.heap.size+1) (t:=3) (cs:= #[.int .i64 ((ps:Int)+1)]) (Blk.new' (by simp))
 case one=>(intro u hu;simp at hu;subst hu;rfl)
 case len=>(simp[maxLen];omega)
 case byt=>omega
 case bas=>(have:=H.out.below.size;simp;omega)
 intro gq cap w2 hown1 hgrow hat hlt1;have kj:=(((Blk.new wr 104 #[.int .i64 12, .int .i64 (an:Int), .int .i64 (bn:Int), .int .i64 (cn:Int)]).alloc (.cells #[.int .i64 ((ps:Int)+1)] 3))).grown hgrow (fun e=>by
  have:=(H.out.ob.lt wr.heap.size e.symm).2;omega)
 have j3:=kj.cell 3;simp at j3;clear kj;go_wp2;exact RWI.mk (B:=(.slice (some ⟨gq,0,none⟩) (s.back.length+1) cap)) (p:= .int .i64 (cn:Int)) rfl rfl rfl rfl rfl rfl rfl rfl (by omega) (RLoop.next (T':=T) (M':=M) HS.out HCO.out HMO.out HM0.out HRN.out (by rfl) ((H.out.pushback (x:=ps+1) ((Aze _ _).alloc (by simp) _) hown1 rfl hgrow (hat.imp_right (fun e=>by simp;exact e))).setpos cn))
theorem Pzn:Bzi fun s x=>x.op=14∧x.c=0∧s.told.length≠100:=rcOf fun w1 wr gO g c n k b o l s0 s B T M u Q0 xo an bn cn ps xv yv zv hO HX h hs hl hml hk HIN HRN HCO HM0 o1 o2 a0 a7 b0 b7 c0 cw c7 hbB d0 d1 d2 d3 hg hg1 hlo hbg hbw hbw1 hr8 HMO HPS hp hp2 hk0 hk1 hk2 rb rc ra fa hxw hyw HXV HYV HZV ho=>by
 simp only at ho;obtain⟨ho,hc00,hb⟩:=ho;subst ho;replace rc:=rc (by omega);have hcn:(cn:Int)<8:=by omega
 clear hc00;have hb2:(s.told.length:Int)<100:=by have:=hs.told;omega
 obtain⟨AT,kT,rfl⟩:=Az1 h.ot;have e9:=h.blk.cell 9;simp[Bzj,natV] at e9;have f9:=h.blk.frozen 9;have HS:Hid (step l s=({ s with pos:=ps+1,told:=s.told++ [zv] },0)):=by
  show _=_;unfold step;rw[HIN.out];simp only;rw[if_neg (by decide),if_neg (by decide),if_neg (by decide),if_neg (by decide),if_neg (by decide),if_neg (by decide),if_pos trivial,if_neg hb,HPS.out,HZV.out]
 have hU:=Tryz.underlying25;obtain⟨i0,hi0,hz0,hz1,hz2⟩:=info_parts Dz1;clear hb;have H:=Lib.hid h;clear h hs;conv=>arg 2;whnf
 have HT:=Lib.hid (And.intro e9 f9);have han:(an:Int)<8:=by omega
 have han0:(0:Int)≤(an:Int):=by omega
 go_wp2;refine wp_region_noPanic ?_;go_region_law
  (first
    | (refine step_append_lies _ (by rfl) _ _ _ (by rfl) w1.heap.size 3 i0 _ 1 8 hU hi0 hz0 hz1 hz2 rfl (by omega) (.slice AT s.told.length kT) s.told.length (Azx s.told) (by rfl) ?own ⟨wr.heap.size+1,0,none⟩ 1 1 [.int .i64 (zv:Int)] (by rfl) (by rfl) ?new ?one (by omega) ?len ?byt ?bas (wr.heap.size+1+1) ?siz ?_
       case own=>exact((H.out.ot.alloc _).alloc _).drew
       case new=>exact World.news_of_block (fr:=(0,0)) (B:=wr.heap.size+1) (t:=3) (cs:= #[.int .i64 (zv:Int)]) (Blk.drew (Blk.new' (by simp)))
       case one=>(intro u hu;simp at hu;subst hu;rfl)
       case len=>(simp[maxLen];omega)
       case byt=>omega
       case bas=>(have:=H.out.below.size;simp;omega)
       case siz=>simp
       intro gq cap w2 hown1 hgrow hat hlt1;have kb:=((H.out.blk.alloc _).alloc _).drew.grown hgrow (fun e=>Aza H.out.ot H.out.blk (by decide) e.symm);have g3:=kb.cell 9;have g4:=kb.frozen 9;simp[Bzj] at g3;clear kb))
 all_goals
  refine NoPanic.normal ?_;go_wp2;exact RWI.mk (B:=B) (p:= .int .i64 ((ps:Int)+1)) rfl rfl rfl rfl rfl rfl rfl rfl (by omega) (RLoop.next (T':=(.slice (some ⟨gq,0,none⟩) (s.told.length+1) cap)) (M':=M) HS.out HCO.out HMO.out HM0.out HRN.out (by show ((ps:Int)+1)=((ps+1:Nat):Int);omega) ((H.out.pushtold (x:=zv) (Below.drewN' ((Aze _ _).alloc (by simp) _) 1) hown1 rfl hgrow (hat.imp_right (fun e=>by simp;exact e))).setpos (ps+1)))
theorem Szz:Bzi fun s x=>x.op=3:=rcOf fun w1 wr gO g c n k b o l s0 s B T M u Q0 xo an bn cn ps xv yv zv hO HX h hs hl hml hk HIN HRN HCO HM0 o1 o2 a0 a7 b0 b7 c0 cw c7 hbB d0 d1 d2 d3 hg hg1 hlo hbg hbw hbw1 hr8 HMO HPS hp hp2 hk0 hk1 hk2 rb rc ra fa hxw hyw HXV HYV HZV ho=>by
 simp only at ho;subst ho;replace rc:=rc (by omega);have hc7:cn≤7:=by omega
 have hcn:(cn:Int)<8:=by omega
 have HS:Hid (step l s=({ s with pos:=ps+1,regs:=s.regs.set an ((xv+65536 - yv) % 65536) },0)):=by
  show _=_;unfold step;rw[HIN.out];simp only;rw[if_neg (by decide),if_neg (by decide),if_neg (by decide),if_neg (by decide),if_neg (by decide),if_neg (by decide),if_neg (by decide),if_neg (by decide),HPS.out,show ((cn:Int) % 8)=(cn:Int) by omega,HXV.out,HYV.out];rfl
 have H:=Lib.hid h;clear h hs;conv=>arg 2;whnf
 go_wp2;exact RWI.mk (B:=B) (p:= .int .i64 ((ps:Int)+1)) rfl rfl rfl rfl rfl rfl rfl rfl (by omega) (RLoop.next (T':=T) (M':=M) HS.out HCO.out HMO.out HM0.out HRN.out (by show ((ps:Int)+1)=((ps+1:Nat):Int);omega) (((H.out.setregE hr8 an (by omega) (by omega)).setpos (ps+1)).later (Aze _ _)))
theorem Szw:Bzi fun s x=>x.op=7∧rg s x.b<rg s x.c:=rcOf fun w1 wr gO g c n k b o l s0 s B T M u Q0 xo an bn cn ps xv yv zv hO HX h hs hl hml hk HIN HRN HCO HM0 o1 o2 a0 a7 b0 b7 c0 cw c7 hbB d0 d1 d2 d3 hg hg1 hlo hbg hbw hbw1 hr8 HMO HPS hp hp2 hk0 hk1 hk2 rb rc ra fa hxw hyw HXV HYV HZV ho=>by
 simp only at ho;obtain⟨ho,hlt⟩:=ho;subst ho;replace rc:=rc (by omega);have hc7:cn≤7:=by omega
 have hcn:(cn:Int)<8:=by omega
 rw[HXV.out,HYV.out] at hlt;have HS:Hid (step l s=({ s with pos:=ps+1,regs:=(s.regs.set an 0).set an 1 },0)):=by
  show _=_;unfold step;rw[HIN.out];simp only;rw[if_neg (by decide),if_neg (by decide),if_neg (by decide),if_neg (by decide),if_neg (by decide),if_neg (by decide),if_neg (by decide),if_neg (by decide),HPS.out,show ((cn:Int) % 8)=(cn:Int) by omega,HXV.out,HYV.out,List.set_set];show ({ s with pos:=ps+1,regs:=s.regs.set an (if xv<yv then 1 else 0) },0)=_;rw[if_pos hlt]
 have hlt2:(xv:Int)<(yv:Int):=by omega
 have H:=Lib.hid h;clear h hs;conv=>arg 2;whnf
 go_wp2;exact RWI.mk (B:=B) (p:= .int .i64 ((ps:Int)+1)) rfl rfl rfl rfl rfl rfl rfl rfl (by omega) (RLoop.next (T':=T) (M':=M) HS.out HCO.out HMO.out HM0.out HRN.out (by show ((ps:Int)+1)=((ps+1:Nat):Int);omega) ((((H.out.setregE hr8 an (by omega) (v:=0) rfl).setregE (by simp[hr8]) an (by omega) (v:=1) rfl).setpos (ps+1)).later (Aze _ _)))
theorem Szt:Bzi fun s x=>x.op=8∧x.c=0∧rg s x.b<s.mem.length:=rcOf fun w1 wr gO g c n k b o l s0 s B T M u Q0 xo an bn cn ps xv yv zv hO HX h hs hl hml hk HIN HRN HCO HM0 o1 o2 a0 a7 b0 b7 c0 cw c7 hbB d0 d1 d2 d3 hg hg1 hlo hbg hbw hbw1 hr8 HMO HPS hp hp2 hk0 hk1 hk2 rb rc ra fa hxw hyw HXV HYV HZV ho=>by
 simp only at ho;obtain⟨ho,hc00,hlt⟩:=ho;subst ho;replace rc:=rc (by omega);have hcn:(cn:Int)<8:=by omega
 clear hc00;rw[HXV.out] at hlt;have han:(an:Int)<8:=by omega
 have han0:(0:Int)≤(an:Int):=by omega
 have hx0:(0:Int)≤(xv:Int):=by omega
 have hlt2:(xv:Int)<(s.mem.length:Int):=by omega
 obtain⟨q,cap,hv,hq,hql⟩:=h.om.form (by omega);subst hv;have e10:=h.blk.cell 10;simp[Bzj,natV] at e10;have e4:=h.om.cells (g:=q) rfl xv _ (Ezj hlt);rw[add_plain,Nat.zero_add] at e4;unfold natV at e4;have hgq:g≠q:=fun e=>Aza h.om h.blk (by decide) (by rw[e];rfl)
 have hqg:q≠g:=Ne.symm hgq;have hq1:q<wr.heap.size+1:=by omega
 obtain⟨v,hvv⟩:∃ v,s.mem.getD xv 0=v:=⟨_,rfl⟩;rw[hvv] at e4;have HVV:=Lib.hid hvv;clear hvv;have fq:wr.frozen? ⟨q,xv,none⟩=false:=by
  rcases h.om.2 with⟨h0,_⟩|⟨g',cap',cur,hv,_,hh,_⟩
  ·cases h0
  ·injection hv with e1
   injection e1 with e1
   injection e1 with e1
   subst e1;exact Blk.frozen (t:=3) (cs:=cur) hh xv
 have hqc:s.mem.length≤cap:=by
  rcases h.om.2 with⟨h0,_⟩|⟨_,_,_,hv,_,_,hc,_⟩
  ·cases h0
  ·injection hv with _ _ e3
   rw[←e3] at hc;exact hc
 have HQC:=Lib.hid hqc;have HLT:=Lib.hid hlt;clear hqc;have HS:Hid (step l s=({ s with pos:=ps+1,regs:=s.regs.set an v },0)):=by
  show _=_;unfold step;rw[HIN.out];simp only;rw[if_pos trivial,HXV.out,if_pos HLT.out,HPS.out,HVV.out];rfl
 have H:=Lib.hid h;clear h hs;conv=>arg 2;whnf
 go_wp2;go_region
 all_goals
  go_wp2;exact RWI.mk (B:=B) (p:= .int .i64 ((ps:Int)+1)) rfl rfl rfl rfl rfl rfl rfl rfl (by omega) (RLoop.next (T':=T) (M':=(.slice (some ⟨q,0,none⟩) s.mem.length cap)) HS.out HCO.out HMO.out HM0.out HRN.out (by show ((ps:Int)+1)=((ps+1:Nat):Int);omega) (((H.out.setregE hr8 an (by omega) rfl).setpos (ps+1)).later (Below.drewN' (Aze _ _) 1)))
theorem Rzk:Bzi fun s x=>x.op=11∧x.c<8∧rg s x.a=0:=rcOf fun w1 wr gO g c n k b o l s0 s B T M u Q0 xo an bn cn ps xv yv zv hO HX h hs hl hml hk HIN HRN HCO HM0 o1 o2 a0 a7 b0 b7 c0 cw c7 hbB d0 d1 d2 d3 hg hg1 hlo hbg hbw hbw1 hr8 HMO HPS hp hp2 hk0 hk1 hk2 rb rc ra fa hxw hyw HXV HYV HZV ho=>by
 simp only at ho;obtain⟨ho,hc00,hz⟩:=ho;subst ho;replace rc:=rc (by omega);have hcn:(cn:Int)<8:=by omega
 rw[HZV.out] at hz;have hzz:((zv:Int) == 0)=true:=by rw[beq_iff_eq];omega
 have HS:Hid (step l s=({ s with pos:=cn },0)):=by
  show _=_;unfold step;rw[HIN.out];simp only;rw[if_neg (by decide),if_neg (by decide),if_neg (by decide),if_pos trivial,HZV.out,if_pos hz];rfl
 have HZ:=Lib.hid hz;clear hz;have H:=Lib.hid h;clear h hs;conv=>arg 2;whnf
 go_wp2;exact RWI.mk (B:=B) (p:= .int .i64 (cn:Int)) rfl rfl rfl rfl rfl rfl rfl rfl (by omega) (RLoop.next (T':=T) (M':=M) HS.out HCO.out HMO.out HM0.out HRN.out (by rfl) ((H.out.setpos (cn)).later (Aze _ _)))
theorem Nzx:Bzi fun s x=>x.op=12∧x.c<8∧s.back.length=16:=rcOf fun w1 wr gO g c n k b o l s0 s B T M u Q0 xo an bn cn ps xv yv zv hO HX h hs hl hml hk HIN HRN HCO HM0 o1 o2 a0 a7 b0 b7 c0 cw c7 hbB d0 d1 d2 d3 hg hg1 hlo hbg hbw hbw1 hr8 HMO HPS hp hp2 hk0 hk1 hk2 rb rc ra fa hxw hyw HXV HYV HZV ho=>by
 simp only at ho;obtain⟨ho,hc00,hb⟩:=ho;subst ho;replace rc:=rc (by omega);have hcn:(cn:Int)<8:=by omega
 have hb2:(16:Int)≤(s.back.length:Int):=by omega
 obtain⟨AB,kB,rfl⟩:=Az1 h.ob;obtain⟨AT,kT,AM,kM,v0,v1,v2,v3,v4,v5,v6,v7,rfl,rfl,e0,e9,e10,f0,r0,r1,r2,r3,r4,r5,r6,r7,y0,y1,y2,y3,y4,y5,y6,y7,y8,y9,y10,z0,z1,z2,z3,z4,z5,z6,z7,z8,z9,z10,hgO,hgne,hgne',hgOw,hgOw1,HW,HV⟩:=Dza h hO;replace HV:=Lib.hid (HV 4);have HS:Hid (step l s=({ s with pos:=ps+1 },4)):=by
  show _=_;unfold step;rw[HIN.out];simp only;rw[if_neg (by decide),if_neg (by decide),if_neg (by decide),if_neg (by decide),if_pos trivial,if_pos hb,HPS.out]
 clear hb;have H:=Lib.hid h;clear h hs;conv=>arg 2;whnf
 go_wp2;exact HX.out _ _ _ 4 (.slice AT s.told.length kT) (.slice AM s.mem.length kM) (HRN.out.symm.trans ((Bzt (by rw[HS.out];simp)).trans HS.out)) ((XFin.of (B:=(.slice AB s.back.length kB)) ((H.out.setend 4).setpos (ps+1)) (HW.out.far (p:=⟨g,0,none⟩) hgne _) rfl HV.out).alloc _) rfl rfl rfl rfl
theorem Rzq:Bzi fun s x=>x.op=13∧x.c=0∧s.back.length=0:=rcOf fun w1 wr gO g c n k b o l s0 s B T M u Q0 xo an bn cn ps xv yv zv hO HX h hs hl hml hk HIN HRN HCO HM0 o1 o2 a0 a7 b0 b7 c0 cw c7 hbB d0 d1 d2 d3 hg hg1 hlo hbg hbw hbw1 hr8 HMO HPS hp hp2 hk0 hk1 hk2 rb rc ra fa hxw hyw HXV HYV HZV ho=>by
 simp only at ho;obtain⟨ho,hc00,hb⟩:=ho;subst ho;replace rc:=rc (by omega);have hcn:(cn:Int)<8:=by omega
 clear hc00;have hb2:((s.back.length:Int) == 0)=true:=by rw[beq_iff_eq];omega
 obtain⟨AB,kB,rfl⟩:=Az1 h.ob;obtain⟨AT,kT,AM,kM,v0,v1,v2,v3,v4,v5,v6,v7,rfl,rfl,e0,e9,e10,f0,r0,r1,r2,r3,r4,r5,r6,r7,y0,y1,y2,y3,y4,y5,y6,y7,y8,y9,y10,z0,z1,z2,z3,z4,z5,z6,z7,z8,z9,z10,hgO,hgne,hgne',hgOw,hgOw1,HW,HV⟩:=Dza h hO;replace HV:=Lib.hid (HV 1);have HS:Hid (step l s=({ s with pos:=ps+1 },1)):=by
  show _=_;unfold step;rw[HIN.out];simp only;rw[if_neg (by decide),if_neg (by decide),if_neg (by decide),if_neg (by decide),if_neg (by decide),if_pos trivial,if_pos hb,HPS.out]
 clear hb;have H:=Lib.hid h;clear h hs;conv=>arg 2;whnf
 go_wp2;exact HX.out _ _ _ 1 (.slice AT s.told.length kT) (.slice AM s.mem.length kM) (HRN.out.symm.trans ((Bzt (by rw[HS.out];simp)).trans HS.out)) ((XFin.of (B:=(.slice AB s.back.length kB)) ((H.out.setend 1).setpos (ps+1)) (HW.out.far (p:=⟨g,0,none⟩) hgne _) rfl HV.out).alloc _) rfl rfl rfl rfl
theorem Rzh:Bzi fun s x=>x.op=15∧x.c=0:=rcOf fun w1 wr gO g c n k b o l s0 s B T M u Q0 xo an bn cn ps xv yv zv hO HX h hs hl hml hk HIN HRN HCO HM0 o1 o2 a0 a7 b0 b7 c0 cw c7 hbB d0 d1 d2 d3 hg hg1 hlo hbg hbw hbw1 hr8 HMO HPS hp hp2 hk0 hk1 hk2 rb rc ra fa hxw hyw HXV HYV HZV ho=>by
 simp only at ho;obtain⟨ho,hc00⟩:=ho;subst ho;replace rc:=rc (by omega);have hcn:(cn:Int)<8:=by omega
 clear hc00;obtain⟨AT,kT,AM,kM,v0,v1,v2,v3,v4,v5,v6,v7,rfl,rfl,e0,e9,e10,f0,r0,r1,r2,r3,r4,r5,r6,r7,y0,y1,y2,y3,y4,y5,y6,y7,y8,y9,y10,z0,z1,z2,z3,z4,z5,z6,z7,z8,z9,z10,hgO,hgne,hgne',hgOw,hgOw1,HW,HV⟩:=Dza h hO;replace HV:=Lib.hid (HV 1);have HS:Hid (step l s=({ s with pos:=ps+1 },1)):=by
  show _=_;unfold step;rw[HIN.out];simp only;rw[if_neg (by decide),if_neg (by decide),if_neg (by decide),if_neg (by decide),if_neg (by decide),if_neg (by decide),if_neg (by decide),if_pos trivial,HPS.out]
 have H:=Lib.hid h;clear h hs;conv=>arg 2;whnf
 go_wp2;exact HX.out _ _ _ 1 (.slice AT s.told.length kT) (.slice AM s.mem.length kM) (HRN.out.symm.trans ((Bzt (by rw[HS.out];simp)).trans HS.out)) ((XFin.of (B:=B) ((H.out.setend 1).setpos (ps+1)) (HW.out.far (p:=⟨g,0,none⟩) hgne _) rfl HV.out).alloc _) rfl rfl rfl rfl
theorem Szs:Bzi fun s x=>x.op=4:=rcOf fun w1 wr gO g c n k b o l s0 s B T M u Q0 xo an bn cn ps xv yv zv hO HX h hs hl hml hk HIN HRN HCO HM0 o1 o2 a0 a7 b0 b7 c0 cw c7 hbB d0 d1 d2 d3 hg hg1 hlo hbg hbw hbw1 hr8 HMO HPS hp hp2 hk0 hk1 hk2 rb rc ra fa hxw hyw HXV HYV HZV ho=>by
 simp only at ho;subst ho;replace rc:=rc (by omega);have hc7:cn≤7:=by omega
 have hcn:(cn:Int)<8:=by omega
 have HS:Hid (step l s=({ s with pos:=ps+1,regs:=s.regs.set an (xv &&& yv) },0)):=by
  show _=_;unfold step;rw[HIN.out];simp only;rw[if_neg (by decide),if_neg (by decide),if_neg (by decide),if_neg (by decide),if_neg (by decide),if_neg (by decide),if_neg (by decide),if_neg (by decide),HPS.out,show ((cn:Int) % 8)=(cn:Int) by omega,HXV.out,HYV.out];rfl
 have b1:=Dzo xv yv (by omega) (by omega);have H:=Lib.hid h;clear h hs;conv=>arg 2;whnf
 go_wp2;exact RWI.mk (B:=B) (p:= .int .i64 ((ps:Int)+1)) rfl rfl rfl rfl rfl rfl rfl rfl (by omega) (RLoop.next (T':=T) (M':=M) HS.out HCO.out HMO.out HM0.out HRN.out (by show ((ps:Int)+1)=((ps+1:Nat):Int);omega) (((H.out.setregE hr8 an (by omega) (rfl)).setpos (ps+1)).later (Aze _ _)))
theorem Szv:Bzi fun s x=>x.op=7∧¬ rg s x.b<rg s x.c:=rcOf fun w1 wr gO g c n k b o l s0 s B T M u Q0 xo an bn cn ps xv yv zv hO HX h hs hl hml hk HIN HRN HCO HM0 o1 o2 a0 a7 b0 b7 c0 cw c7 hbB d0 d1 d2 d3 hg hg1 hlo hbg hbw hbw1 hr8 HMO HPS hp hp2 hk0 hk1 hk2 rb rc ra fa hxw hyw HXV HYV HZV ho=>by
 simp only at ho;obtain⟨ho,hlt⟩:=ho;subst ho;replace rc:=rc (by omega);have hc7:cn≤7:=by omega
 have hcn:(cn:Int)<8:=by omega
 rw[HXV.out,HYV.out] at hlt;have HS:Hid (step l s=({ s with pos:=ps+1,regs:=s.regs.set an 0 },0)):=by
  show _=_;unfold step;rw[HIN.out];simp only;rw[if_neg (by decide),if_neg (by decide),if_neg (by decide),if_neg (by decide),if_neg (by decide),if_neg (by decide),if_neg (by decide),if_neg (by decide),HPS.out,show ((cn:Int) % 8)=(cn:Int) by omega,HXV.out,HYV.out];show ({ s with pos:=ps+1,regs:=s.regs.set an (if xv<yv then 1 else 0) },0)=_;rw[if_neg hlt]
 have hlt2:(yv:Int)≤(xv:Int):=by omega
 have H:=Lib.hid h;clear h hs;conv=>arg 2;whnf
 go_wp2;exact RWI.mk (B:=B) (p:= .int .i64 ((ps:Int)+1)) rfl rfl rfl rfl rfl rfl rfl rfl (by omega) (RLoop.next (T':=T) (M':=M) HS.out HCO.out HMO.out HM0.out HRN.out (by show ((ps:Int)+1)=((ps+1:Nat):Int);omega) (((H.out.setregE hr8 an (by omega) (rfl)).setpos (ps+1)).later (Aze _ _)))
theorem Szx:Bzi fun s x=>x.op=9∧x.c=0∧rg s x.b<s.mem.length:=rcOf fun w1 wr gO g c n k b o l s0 s B T M u Q0 xo an bn cn ps xv yv zv hO HX h hs hl hml hk HIN HRN HCO HM0 o1 o2 a0 a7 b0 b7 c0 cw c7 hbB d0 d1 d2 d3 hg hg1 hlo hbg hbw hbw1 hr8 HMO HPS hp hp2 hk0 hk1 hk2 rb rc ra fa hxw hyw HXV HYV HZV ho=>by
 simp only at ho;obtain⟨ho,hc00,hlt⟩:=ho;subst ho;replace rc:=rc (by omega);have hcn:(cn:Int)<8:=by omega
 clear hc00;rw[HXV.out] at hlt;have han:(an:Int)<8:=by omega
 have han0:(0:Int)≤(an:Int):=by omega
 have hx0:(0:Int)≤(xv:Int):=by omega
 have hlt2:(xv:Int)<(s.mem.length:Int):=by omega
 obtain⟨q,cap,hv,hq,hql⟩:=h.om.form (by omega);subst hv;have e10:=h.blk.cell 10;simp[Bzj,natV] at e10;have e4:=h.om.cells (g:=q) rfl xv _ (Ezj hlt);rw[add_plain,Nat.zero_add] at e4;unfold natV at e4;have hgq:g≠q:=fun e=>Aza h.om h.blk (by decide) (by rw[e];rfl)
 have hqg:q≠g:=Ne.symm hgq;have hq1:q<wr.heap.size+1:=by omega
 obtain⟨v,hvv⟩:∃ v,s.mem.getD xv 0=v:=⟨_,rfl⟩;rw[hvv] at e4;have HVV:=Lib.hid hvv;clear hvv;have fq:wr.frozen? ⟨q,xv,none⟩=false:=by
  rcases h.om.2 with⟨h0,_⟩|⟨g',cap',cur,hv,_,hh,_⟩
  ·cases h0
  ·injection hv with e1
   injection e1 with e1
   injection e1 with e1
   subst e1;exact Blk.frozen (t:=3) (cs:=cur) hh xv
 have hqc:s.mem.length≤cap:=by
  rcases h.om.2 with⟨h0,_⟩|⟨_,_,_,hv,_,_,hc,_⟩
  ·cases h0
  ·injection hv with _ _ e3
   rw[←e3] at hc;exact hc
 have HQC:=Lib.hid hqc;have HLT:=Lib.hid hlt;clear hqc;have HS:Hid (step l s=({ s with pos:=ps+1,mem:=s.mem.set xv zv },0)):=by
  show _=_;unfold step;rw[HIN.out];simp only;rw[if_neg (by decide),if_pos trivial,HXV.out,if_pos HLT.out,HPS.out,HZV.out]
 have H:=Lib.hid h;clear h hs;conv=>arg 2;whnf
 go_wp2;go_region
 all_goals
  go_wp2;exact RWI.mk (B:=B) (p:= .int .i64 ((ps:Int)+1)) rfl rfl rfl rfl rfl rfl rfl rfl (by omega) (RLoop.next (T':=T) (M':=(.slice (some ⟨q,0,none⟩) s.mem.length cap)) HS.out HCO.out HMO.out HM0.out HRN.out (by show ((ps:Int)+1)=((ps+1:Nat):Int);omega) (((H.out.setmem (q:=q) rfl xv zv).setpos (ps+1)).later (Below.drewN' (Aze _ _) 1)))
theorem Rzl:Bzi fun s x=>x.op=11∧x.c<8∧rg s x.a≠0:=rcOf fun w1 wr gO g c n k b o l s0 s B T M u Q0 xo an bn cn ps xv yv zv hO HX h hs hl hml hk HIN HRN HCO HM0 o1 o2 a0 a7 b0 b7 c0 cw c7 hbB d0 d1 d2 d3 hg hg1 hlo hbg hbw hbw1 hr8 HMO HPS hp hp2 hk0 hk1 hk2 rb rc ra fa hxw hyw HXV HYV HZV ho=>by
 simp only at ho;obtain⟨ho,hc00,hz⟩:=ho;subst ho;replace rc:=rc (by omega);have hcn:(cn:Int)<8:=by omega
 rw[HZV.out] at hz;have hzz:((zv:Int) == 0)=false:=by rw[beq_eq_false_iff_ne];omega
 have HS:Hid (step l s=({ s with pos:=ps+1 },0)):=by
  show _=_;unfold step;rw[HIN.out];simp only;rw[if_neg (by decide),if_neg (by decide),if_neg (by decide),if_pos trivial,HZV.out,if_neg hz,HPS.out]
 have HZ:=Lib.hid hz;clear hz;have H:=Lib.hid h;clear h hs;conv=>arg 2;whnf
 go_wp2;exact RWI.mk (B:=B) (p:= .int .i64 ((ps:Int)+1)) rfl rfl rfl rfl rfl rfl rfl rfl (by omega) (RLoop.next (T':=T) (M':=M) HS.out HCO.out HMO.out HM0.out HRN.out (by show ((ps:Int)+1)=((ps+1:Nat):Int);omega) ((H.out.setpos (ps+1)).later (Aze _ _)))
theorem Nzv:Bzi fun s x=>x.op=12∧x.c<8∧s.back.length≠16:=rcOf fun w1 wr gO g c n k b o l s0 s B T M u Q0 xo an bn cn ps xv yv zv hO HX h hs hl hml hk HIN HRN HCO HM0 o1 o2 a0 a7 b0 b7 c0 cw c7 hbB d0 d1 d2 d3 hg hg1 hlo hbg hbw hbw1 hr8 HMO HPS hp hp2 hk0 hk1 hk2 rb rc ra fa hxw hyw HXV HYV HZV ho=>by
 simp only at ho;obtain⟨ho,hc00,hb⟩:=ho;subst ho;replace rc:=rc (by omega);have hcn:(cn:Int)<8:=by omega
 have hb2:(s.back.length:Int)<16:=by have:=hs.back;omega
 obtain⟨AB,kB,rfl⟩:=Az1 h.ob;have HS:Hid (step l s=({ s with pos:=cn,back:=s.back++ [ps+1] },0)):=by
  show _=_;unfold step;rw[HIN.out];simp only;rw[if_neg (by decide),if_neg (by decide),if_neg (by decide),if_neg (by decide),if_pos trivial,if_neg hb,HPS.out];rfl
 have hU:=Tryz.underlying25;obtain⟨i0,hi0,hz0,hz1,hz2⟩:=info_parts Dz1;clear hb;have H:=Lib.hid h;clear h hs;conv=>arg 2;whnf
 go_wp2_with (at_builtin;refine wpList_append_lies _ rfl _ _ _ rfl w1.heap.size 3 i0 _ 1 8 hU hi0 hz0 hz1 hz2 rfl (by omega) (.slice AB s.back.length kB) s.back.length (Azx s.back) rfl ((H.out.ob.alloc _).alloc _) ⟨wr.heap.size+1,0,none⟩ 1 1 [.int .i64 ((ps:Int)+1)] rfl rfl ?new ?one (by omega) ?len ?byt ?bas (wr.heap.size+1+1) (by simp) ?_)
 case new=>exact World.news_of_block (fr:=(0,0)) (B:=wr.heap.size+1) (t:=3) (cs:= #[.int .i64 ((ps:Int)+1)]) (Blk.new' (by simp))
 case one=>(intro u hu;simp at hu;subst hu;rfl)
 case len=>(simp[maxLen];omega)
 case byt=>omega
 case bas=>(have:=H.out.below.size;simp;omega)
 intro gq cap w2 hown1 hgrow hat hlt1;have kj:=(((Blk.new wr 104 #[.int .i64 12, .int .i64 (an:Int), .int .i64 (bn:Int), .int .i64 (cn:Int)]).alloc (.cells #[.int .i64 ((ps:Int)+1)] 3))).grown hgrow (fun e=>by
  have:=(H.out.ob.lt wr.heap.size e.symm).2;omega)
 have j3:=kj.cell 3;simp at j3;clear kj;go_wp2;exact RWI.mk (B:=(.slice (some ⟨gq,0,none⟩) (s.back.length+1) cap)) (p:= .int .i64 (cn:Int)) rfl rfl rfl rfl rfl rfl rfl rfl (by omega) (RLoop.next (T':=T) (M':=M) HS.out HCO.out HMO.out HM0.out HRN.out (by rfl) ((H.out.pushback (x:=ps+1) ((Aze _ _).alloc (by simp) _) hown1 rfl hgrow (hat.imp_right (fun e=>by simp;exact e))).setpos cn))
theorem Rzp:Bzi fun s x=>x.op=13∧x.c=0∧s.back.length≠0:=rcOf fun w1 wr gO g c n k b o l s0 s B T M u Q0 xo an bn cn ps xv yv zv hO HX h hs hl hml hk HIN HRN HCO HM0 o1 o2 a0 a7 b0 b7 c0 cw c7 hbB d0 d1 d2 d3 hg hg1 hlo hbg hbw hbw1 hr8 HMO HPS hp hp2 hk0 hk1 hk2 rb rc ra fa hxw hyw HXV HYV HZV ho=>by
 simp only at ho;obtain⟨ho,hc00,hb⟩:=ho;subst ho;replace rc:=rc (by omega);have hcn:(cn:Int)<8:=by omega
 clear hc00;obtain⟨nk,hnk⟩:∃ nk,s.back.length=nk+1:=⟨s.back.length - 1,by omega⟩;have hn16:(nk:Int)≤16:=by have:=hs.back;omega
 obtain⟨q,kB,hBB,hq1,hq2⟩:=h.ob.form (by omega);subst hBB;have k3:=h.ob.cells (g:=q) rfl nk _ (Ezj (by omega));rw[add_plain,Nat.zero_add] at k3;unfold natV at k3;obtain⟨v,hv⟩:∃ v,s.back.getD nk 0=v:=⟨_,rfl⟩;rw[hv] at k3;have hkk:nk+1≤kB∧kB≤maxLen:=by
  rcases h.ob.2 with⟨h0,_⟩|⟨_,_,_,hv,_,_,hc,hm,_⟩
  ·cases h0
  ·injection hv with _ _ e3
   rw[←e3] at hc hm;exact⟨by omega,hm⟩
 obtain⟨hkk1,hkm⟩:=hkk;unfold maxLen at hkm;have nk2:nk≤kB:=by omega
 have nk3:(nk:Int)≤(kB:Int):=by omega
 have nk4:(0:Int)≤(nk:Int):=by omega
 have nk5:((nk:Int)+1 == 0)=false:=by rw[beq_eq_false_iff_ne];omega
 have HS:Hid (step l s=({ s with pos:=v,back:=s.back.take nk },0)):=by
  show _=_;unfold step;rw[HIN.out];simp only;rw[if_neg (by decide),if_neg (by decide),if_neg (by decide),if_neg (by decide),if_neg (by decide),if_pos trivial,if_neg hb,show s.back.length - 1=nk by omega,hv]
 have HNK:=Lib.hid hnk;clear hb hv;rw[hnk];clear hnk;have H:=Lib.hid h;clear h hs;conv=>arg 2;whnf
 go_wp2;exact RWI.mk (B:=(.slice (some ⟨q,0,none⟩) nk kB)) (p:= .int .i64 (v:Int)) rfl rfl rfl rfl rfl rfl rfl rfl (by omega) (RLoop.next (T':=T) (M':=M) HS.out HCO.out HMO.out HM0.out HRN.out (by rfl) (((H.out.setpos v).popback nk (by have:=HNK.out;show nk≤s.back.length;omega)).later (Aze _ _)))
end Go.Proofs.YtdjamdbamkhblacGreatDoor
