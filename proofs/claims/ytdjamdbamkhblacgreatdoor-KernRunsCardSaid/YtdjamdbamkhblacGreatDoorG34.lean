/- A round of the reference's loop, a theorem for each way (no fuel; no instruction): no condition. A round of the reference's loop, a theorem for each way (joined): no condition. The walk of the reference's RunOf where it runs. No condition. -/
import Derived.Test.YtdjamdbamkhblacGreatDoorG33
set_option maxHeartbeats 40000000
set_option maxRecDepth 1000000
namespace Go.Proofs.YtdjamdbamkhblacGreatDoor
open Go.RowKit
set_option linter.unusedVariables false
set_option linter.unusedSimpArgs false
theorem Pzm (w1 wr:World) (gO g c n:Nat) (A:Option Addr) (l:List Ins) (s0 s:Mc) (B T M:Value) (u:Nat→Value) (Q0:Exit→Act→World→Prop) (hO:Blk w1 gO 133 #[.int .i64 0, .int .i64 0, .int .i64 0, .int .i64 0, .int .i64 0, .int .i64 0, .int .i64 0, .int .i64 0, .int .i64 0, .slice none 0 0, .slice none 0 0])
  (HX:Hid (Jzm w1 gO l n s0 Q0)) (h:Ref w1 wr g s 0 B T M) (hrn:runs l 0 s=runs l n s0):
  Code.wp Tryz.prog Jz1 (Exit.then (fun a' w''=>RWI w1 gO g c A l n s0 a' w''∧rmu a' w''<0) Q0) ⟨#[.slice A l.length c,u 1,u 2, .int .i64 0,u 4,u 5,u 6,u 7, .pointer (some ⟨gO,0,none⟩),u 9,u 10, .pointer (some ⟨g,0,none⟩),B, .int .i64 (s.pos:Int),u 14,u 15,u 16,u 17,u 18,u 19,u 20,u 21,u 22,u 23,u 24,u 25,u 26,u 27,u 28,u 29,u 30,u 31,u 32,u 33,u 34,u 35,u 36,u 37,u 38,u 39,u 40,u 41,u 42,u 43,u 44,u 45,u 46,u 47,u 48,u 49,u 50,u 51,u 52,u 53,u 54,u 55,u 56,u 57,u 58,u 59,u 60,u 61,u 62,u 63,u 64,u 65,u 66,u 67,u 68,u 69,u 70,u 71,u 72,u 73,u 74,u 75,u 76,u 77,u 78,u 79,u 80,u 81,u 82,u 83,u 84,u 85,u 86,u 87,u 88,u 89,u 90,u 91,u 92,u 93,u 94,u 95,u 96,u 97,u 98,u 99,u 100,u 101,u 102,u 103,u 104,u 105,u 106,u 107,u 108,u 109,u 110,u 111,u 112,u 113,u 114,u 115,u 116,u 117,u 118,u 119,u 120,u 121,u 122,u 123,u 124,u 125,u 126,u 127,u 128,u 129,u 130,u 131,u 132,u 133,u 134,u 135,u 136,u 137,u 138,u 139,u 140,u 141,u 142,u 143,u 144,u 145,u 146,u 147,u 148,u 149,u 150,u 151,u 152,u 153,u 154,u 155,u 156,u 157,u 158,u 159,u 160,u 161,u 162,u 163,u 164,u 165,u 166,u 167,u 168,u 169,u 170,u 171,u 172,u 173,u 174,u 175,u 176,u 177,u 178,u 179,u 180,u 181,u 182,u 183,u 184,u 185,u 186,u 187,u 188,u 189,u 190,u 191,u 192,u 193,u 194,u 195,u 196,u 197,u 198,u 199,u 200,u 201,u 202,u 203,u 204,u 205,u 206,u 207,u 208,u 209,u 210,u 211,u 212,u 213,u 214,u 215,u 216,u 217,u 218,u 219,u 220,u 221,u 222,u 223,u 224,u 225,u 226,u 227,u 228,u 229,u 230,u 231,u 232,u 233,u 234,u 235,u 236,u 237,u 238,u 239,u 240,u 241,u 242,u 243,u 244,u 245,u 246,u 247,u 248,u 249,u 250,u 251,u 252,u 253],[]⟩ wr:=by
 have HRN:=Lib.hid hrn;have hg:=h.blk.lt;have hlo:=h.lo;obtain⟨AT,kT,AM,kM,v0,v1,v2,v3,v4,v5,v6,v7,rfl,rfl,e0,e9,e10,f0,r0,r1,r2,r3,r4,r5,r6,r7,y0,y1,y2,y3,y4,y5,y6,y7,y8,y9,y10,z0,z1,z2,z3,z4,z5,z6,z7,z8,z9,z10,hgO,hgne,hgne',hgOw,hgOw1,HW,HV⟩:=Dza h hO;replace HV:=Lib.hid (HV 2);have H:=Lib.hid h;clear h hrn;conv=>arg 2;whnf
 go_wp2;exact HX.out _ _ s 2 (.slice AT s.told.length kT) (.slice AM s.mem.length kM) HRN.out.symm (XFin.of (B:=B) (H.out.setend 2) (HW.out.far (p:=⟨g,0,none⟩) hgne _) rfl HV.out) rfl rfl rfl rfl
theorem Rzo (w1 wr:World) (gO g c n k:Nat) (A:Option Addr) (l:List Ins) (s0 s:Mc) (B T M:Value) (u:Nat→Value) (Q0:Exit→Act→World→Prop) (hO:Blk w1 gO 133 #[.int .i64 0, .int .i64 0, .int .i64 0, .int .i64 0, .int .i64 0, .int .i64 0, .int .i64 0, .int .i64 0, .int .i64 0, .slice none 0 0, .slice none 0 0])
  (HX:Hid (Jzm w1 gO l n s0 Q0)) (h:Ref w1 wr g s 0 B T M) (hk:k+1≤20000) (hrn:runs l (k+1) s=runs l n s0) (hp:l.length≤s.pos) (hl:l.length≤200):
  Code.wp Tryz.prog Jz1 (Exit.then (fun a' w''=>RWI w1 gO g c A l n s0 a' w''∧rmu a' w''<k+1) Q0) ⟨#[.slice A l.length c,u 1,u 2, .int .i64 ((k:Int)+1),u 4,u 5,u 6,u 7, .pointer (some ⟨gO,0,none⟩),u 9,u 10, .pointer (some ⟨g,0,none⟩),B, .int .i64 (s.pos:Int),u 14,u 15,u 16,u 17,u 18,u 19,u 20,u 21,u 22,u 23,u 24,u 25,u 26,u 27,u 28,u 29,u 30,u 31,u 32,u 33,u 34,u 35,u 36,u 37,u 38,u 39,u 40,u 41,u 42,u 43,u 44,u 45,u 46,u 47,u 48,u 49,u 50,u 51,u 52,u 53,u 54,u 55,u 56,u 57,u 58,u 59,u 60,u 61,u 62,u 63,u 64,u 65,u 66,u 67,u 68,u 69,u 70,u 71,u 72,u 73,u 74,u 75,u 76,u 77,u 78,u 79,u 80,u 81,u 82,u 83,u 84,u 85,u 86,u 87,u 88,u 89,u 90,u 91,u 92,u 93,u 94,u 95,u 96,u 97,u 98,u 99,u 100,u 101,u 102,u 103,u 104,u 105,u 106,u 107,u 108,u 109,u 110,u 111,u 112,u 113,u 114,u 115,u 116,u 117,u 118,u 119,u 120,u 121,u 122,u 123,u 124,u 125,u 126,u 127,u 128,u 129,u 130,u 131,u 132,u 133,u 134,u 135,u 136,u 137,u 138,u 139,u 140,u 141,u 142,u 143,u 144,u 145,u 146,u 147,u 148,u 149,u 150,u 151,u 152,u 153,u 154,u 155,u 156,u 157,u 158,u 159,u 160,u 161,u 162,u 163,u 164,u 165,u 166,u 167,u 168,u 169,u 170,u 171,u 172,u 173,u 174,u 175,u 176,u 177,u 178,u 179,u 180,u 181,u 182,u 183,u 184,u 185,u 186,u 187,u 188,u 189,u 190,u 191,u 192,u 193,u 194,u 195,u 196,u 197,u 198,u 199,u 200,u 201,u 202,u 203,u 204,u 205,u 206,u 207,u 208,u 209,u 210,u 211,u 212,u 213,u 214,u 215,u 216,u 217,u 218,u 219,u 220,u 221,u 222,u 223,u 224,u 225,u 226,u 227,u 228,u 229,u 230,u 231,u 232,u 233,u 234,u 235,u 236,u 237,u 238,u 239,u 240,u 241,u 242,u 243,u 244,u 245,u 246,u 247,u 248,u 249,u 250,u 251,u 252,u 253],[]⟩ wr:=by
 have HRN:=Lib.hid hrn;have hg:=h.blk.lt;have hlo:=h.lo;have hp2:(l.length:Int)≤(s.pos:Int):=by omega
 have hk0:((k:Int)+1 == 0)=false:=by rw[beq_eq_false_iff_ne];omega
 have hk1:(k:Int)+1≤20000:=by omega
 have hk2:(0:Int)≤(k:Int):=by omega
 obtain⟨AT,kT,AM,kM,v0,v1,v2,v3,v4,v5,v6,v7,rfl,rfl,e0,e9,e10,f0,r0,r1,r2,r3,r4,r5,r6,r7,y0,y1,y2,y3,y4,y5,y6,y7,y8,y9,y10,z0,z1,z2,z3,z4,z5,z6,z7,z8,z9,z10,hgO,hgne,hgne',hgOw,hgOw1,HW,HV⟩:=Dza h hO;replace HV:=Lib.hid (HV 3);have HS:Hid (step l s=(s,3)):=by
  show _=_;unfold step;rw[List.getElem?_eq_none hp]
 have H:=Lib.hid h;clear h hrn;conv=>arg 2;whnf
 go_wp2;exact HX.out _ _ s 3 (.slice AT s.told.length kT) (.slice AM s.mem.length kM) (HRN.out.symm.trans ((Bzt (by rw[HS.out];simp)).trans HS.out)) (XFin.of (B:=B) (H.out.setend 3) (HW.out.far (p:=⟨g,0,none⟩) hgne _) rfl HV.out) rfl rfl rfl rfl
theorem Rzr (w1 wr:World) (gO g c n k:Nat) (A:Option Addr) (l:List Ins) (s0 s:Mc) (B T M:Value) (u:Nat→Value) (Q0:Exit→Act→World→Prop) (hO:Blk w1 gO 133 #[.int .i64 0, .int .i64 0, .int .i64 0, .int .i64 0, .int .i64 0, .int .i64 0, .int .i64 0, .int .i64 0, .int .i64 0, .slice none 0 0, .slice none 0 0])
  (hr:RdI w1 w1.heap.size A l) (hck:check l=0) (HX:Hid (Jzm w1 gO l n s0 Q0)) (hRef:Ref w1 wr g s 0 B T M) (hs:McOk s) (hml:s.mem.length≤1024) (hm:s.mem.length=s0.mem.length) (hk:k+1≤20000) (hrn:runs l (k+1) s=runs l n s0)
  (hp:s.pos<l.length):
  Code.wp Tryz.prog Jz1 (Exit.then (fun a' w''=>RWI w1 gO g c A l n s0 a' w''∧rmu a' w''<k+1) Q0) ⟨#[.slice A l.length c,u 1,u 2, .int .i64 ((k:Int)+1),u 4,u 5,u 6,u 7, .pointer (some ⟨gO,0,none⟩),u 9,u 10, .pointer (some ⟨g,0,none⟩),B, .int .i64 (s.pos:Int),u 14,u 15,u 16,u 17,u 18,u 19,u 20,u 21,u 22,u 23,u 24,u 25,u 26,u 27,u 28,u 29,u 30,u 31,u 32,u 33,u 34,u 35,u 36,u 37,u 38,u 39,u 40,u 41,u 42,u 43,u 44,u 45,u 46,u 47,u 48,u 49,u 50,u 51,u 52,u 53,u 54,u 55,u 56,u 57,u 58,u 59,u 60,u 61,u 62,u 63,u 64,u 65,u 66,u 67,u 68,u 69,u 70,u 71,u 72,u 73,u 74,u 75,u 76,u 77,u 78,u 79,u 80,u 81,u 82,u 83,u 84,u 85,u 86,u 87,u 88,u 89,u 90,u 91,u 92,u 93,u 94,u 95,u 96,u 97,u 98,u 99,u 100,u 101,u 102,u 103,u 104,u 105,u 106,u 107,u 108,u 109,u 110,u 111,u 112,u 113,u 114,u 115,u 116,u 117,u 118,u 119,u 120,u 121,u 122,u 123,u 124,u 125,u 126,u 127,u 128,u 129,u 130,u 131,u 132,u 133,u 134,u 135,u 136,u 137,u 138,u 139,u 140,u 141,u 142,u 143,u 144,u 145,u 146,u 147,u 148,u 149,u 150,u 151,u 152,u 153,u 154,u 155,u 156,u 157,u 158,u 159,u 160,u 161,u 162,u 163,u 164,u 165,u 166,u 167,u 168,u 169,u 170,u 171,u 172,u 173,u 174,u 175,u 176,u 177,u 178,u 179,u 180,u 181,u 182,u 183,u 184,u 185,u 186,u 187,u 188,u 189,u 190,u 191,u 192,u 193,u 194,u 195,u 196,u 197,u 198,u 199,u 200,u 201,u 202,u 203,u 204,u 205,u 206,u 207,u 208,u 209,u 210,u 211,u 212,u 213,u 214,u 215,u 216,u 217,u 218,u 219,u 220,u 221,u 222,u 223,u 224,u 225,u 226,u 227,u 228,u 229,u 230,u 231,u 232,u 233,u 234,u 235,u 236,u 237,u 238,u 239,u 240,u 241,u 242,u 243,u 244,u 245,u 246,u 247,u 248,u 249,u 250,u 251,u 252,u 253],[]⟩ wr:=by
 have hl:l.length≤200:=((Bzn l).1 hck).1;have hi:=Az5 hck _ (List.getElem_mem hp);have hok:=((Fzk l).1 ((Bzn l).1 hck).2 _ (List.getElem_mem hp)).2;have hc:=((Nzq _).1 hok).2.2;have o1:=hi.op1;have o2:=hi.op2;have c00:l[s.pos].op=8∨l[s.pos].op=9∨l[s.pos].op=13∨l[s.pos].op=14∨l[s.pos].op=15→l[s.pos].c=0:=fun h=>by
  have h1:gC l[s.pos].op=0:=by unfold gC;rw[if_neg (by omega),if_neg (by omega),if_neg (by omega)]
  rw[h1] at hc;omega
 have h15:l[s.pos].op=1∨l[s.pos].op=2∨l[s.pos].op=3∨l[s.pos].op=4∨l[s.pos].op=5∨l[s.pos].op=6∨l[s.pos].op=7∨l[s.pos].op=8∨l[s.pos].op=9∨l[s.pos].op=10∨l[s.pos].op=11∨l[s.pos].op=12∨l[s.pos].op=13∨l[s.pos].op=14∨l[s.pos].op=15:=by omega
 rcases h15 with h|h|h|h|h|h|h|h|h|h|h|h|h|h|h
 ·exact Tzg w1 wr gO g c n k A l s0 s B T M u Q0 hO hr hl (Az5 hck) HX hRef hs hml hm hk hrn hp _ rfl hi h
 ·exact Szr w1 wr gO g c n k A l s0 s B T M u Q0 hO hr hl (Az5 hck) HX hRef hs hml hm hk hrn hp _ rfl hi h
 ·exact Szz w1 wr gO g c n k A l s0 s B T M u Q0 hO hr hl (Az5 hck) HX hRef hs hml hm hk hrn hp _ rfl hi h
 ·exact Szs w1 wr gO g c n k A l s0 s B T M u Q0 hO hr hl (Az5 hck) HX hRef hs hml hm hk hrn hp _ rfl hi h
 ·exact Tzh w1 wr gO g c n k A l s0 s B T M u Q0 hO hr hl (Az5 hck) HX hRef hs hml hm hk hrn hp _ rfl hi h
 ·exact Tz0 w1 wr gO g c n k A l s0 s B T M u Q0 hO hr hl (Az5 hck) HX hRef hs hml hm hk hrn hp _ rfl hi h
 ·by_cases hz:rg s l[s.pos].b<rg s l[s.pos].c
  ·exact Szw w1 wr gO g c n k A l s0 s B T M u Q0 hO hr hl (Az5 hck) HX hRef hs hml hm hk hrn hp _ rfl hi ⟨h,hz⟩
  ·exact Szv w1 wr gO g c n k A l s0 s B T M u Q0 hO hr hl (Az5 hck) HX hRef hs hml hm hk hrn hp _ rfl hi ⟨h,hz⟩
 ·by_cases hz:rg s l[s.pos].b<s.mem.length
  ·exact Szt w1 wr gO g c n k A l s0 s B T M u Q0 hO hr hl (Az5 hck) HX hRef hs hml hm hk hrn hp _ rfl hi ⟨h,c00 (by omega),hz⟩
  ·exact Szu w1 wr gO g c n k A l s0 s B T M u Q0 hO hr hl (Az5 hck) HX hRef hs hml hm hk hrn hp _ rfl hi ⟨h,c00 (by omega),by omega⟩
 ·by_cases hz:rg s l[s.pos].b<s.mem.length
  ·exact Szx w1 wr gO g c n k A l s0 s B T M u Q0 hO hr hl (Az5 hck) HX hRef hs hml hm hk hrn hp _ rfl hi ⟨h,c00 (by omega),hz⟩
  ·exact Szy w1 wr gO g c n k A l s0 s B T M u Q0 hO hr hl (Az5 hck) HX hRef hs hml hm hk hrn hp _ rfl hi ⟨h,c00 (by omega),by omega⟩
 ·by_cases h8:l[s.pos].c<8
  ·exact Rzi w1 wr gO g c n k A l s0 s B T M u Q0 hO hr hl (Az5 hck) HX hRef hs hml hm hk hrn hp _ rfl hi ⟨h,h8⟩
  ·exact Rzj w1 wr gO g c n k A l s0 s B T M u Q0 hO hr hl (Az5 hck) HX hRef hs hml hm hk hrn hp _ rfl hi ⟨h,by omega⟩
 ·by_cases h8:l[s.pos].c<8
  ·by_cases hz:rg s l[s.pos].a=0
   ·exact Rzk w1 wr gO g c n k A l s0 s B T M u Q0 hO hr hl (Az5 hck) HX hRef hs hml hm hk hrn hp _ rfl hi ⟨h,h8,hz⟩
   ·exact Rzl w1 wr gO g c n k A l s0 s B T M u Q0 hO hr hl (Az5 hck) HX hRef hs hml hm hk hrn hp _ rfl hi ⟨h,h8,hz⟩
  ·by_cases hz:rg s l[s.pos].a=0
   ·exact Rzm w1 wr gO g c n k A l s0 s B T M u Q0 hO hr hl (Az5 hck) HX hRef hs hml hm hk hrn hp _ rfl hi ⟨h,by omega,hz⟩
   ·exact Rzn w1 wr gO g c n k A l s0 s B T M u Q0 hO hr hl (Az5 hck) HX hRef hs hml hm hk hrn hp _ rfl hi ⟨h,by omega,hz⟩
 ·by_cases h8:l[s.pos].c<8
  ·by_cases hz:s.back.length=16
   ·exact Nzx w1 wr gO g c n k A l s0 s B T M u Q0 hO hr hl (Az5 hck) HX hRef hs hml hm hk hrn hp _ rfl hi ⟨h,h8,hz⟩
   ·exact Nzv w1 wr gO g c n k A l s0 s B T M u Q0 hO hr hl (Az5 hck) HX hRef hs hml hm hk hrn hp _ rfl hi ⟨h,h8,hz⟩
  ·by_cases hz:s.back.length=16
   ·exact Nzy w1 wr gO g c n k A l s0 s B T M u Q0 hO hr hl (Az5 hck) HX hRef hs hml hm hk hrn hp _ rfl hi ⟨h,by omega,hz⟩
   ·exact Nzw w1 wr gO g c n k A l s0 s B T M u Q0 hO hr hl (Az5 hck) HX hRef hs hml hm hk hrn hp _ rfl hi ⟨h,by omega,hz⟩
 ·by_cases hz:s.back.length=0
  ·exact Rzq w1 wr gO g c n k A l s0 s B T M u Q0 hO hr hl (Az5 hck) HX hRef hs hml hm hk hrn hp _ rfl hi ⟨h,c00 (by omega),hz⟩
  ·exact Rzp w1 wr gO g c n k A l s0 s B T M u Q0 hO hr hl (Az5 hck) HX hRef hs hml hm hk hrn hp _ rfl hi ⟨h,c00 (by omega),hz⟩
 ·by_cases hz:s.told.length=100
  ·exact Pzo w1 wr gO g c n k A l s0 s B T M u Q0 hO hr hl (Az5 hck) HX hRef hs hml hm hk hrn hp _ rfl hi ⟨h,c00 (by omega),hz⟩
  ·exact Pzn w1 wr gO g c n k A l s0 s B T M u Q0 hO hr hl (Az5 hck) HX hRef hs hml hm hk hrn hp _ rfl hi ⟨h,c00 (by omega),hz⟩
 ·exact Rzh w1 wr gO g c n k A l s0 s B T M u Q0 hO hr hl (Az5 hck) HX hRef hs hml hm hk hrn hp _ rfl hi ⟨h,c00 (by omega)⟩
theorem Oz2 (w1:World) (gO g c n:Nat) (A:Option Addr) (l:List Ins) (s0:Mc) (Q0:Exit→Act→World→Prop) (hO:Blk w1 gO 133 #[.int .i64 0, .int .i64 0, .int .i64 0, .int .i64 0, .int .i64 0, .int .i64 0, .int .i64 0, .int .i64 0, .int .i64 0, .slice none 0 0, .slice none 0 0])
  (hr:RdI w1 w1.heap.size A l) (hck:check l=0) (HX:Hid (Jzm w1 gO l n s0 Q0)) (hm0:s0.mem.length≤1024) (a:Act) (wr:World) (hI:RWI w1 gO g c A l n s0 a wr):
  Code.wp Tryz.prog Jz1 (Exit.then (fun a' w''=>RWI w1 gO g c A l n s0 a' w''∧rmu a' w''<rmu a wr) Q0) a wr:=by
 obtain⟨h0,h1,h2,h3,h4,k,B,p,h5,h6,h7,hk,s,T,M,rfl,hRef,hs,hm,hrn⟩:=hI;obtain⟨t,d⟩:=a;simp only at h0 h1 h2 h3 h4 h5 h6 h7;subst h0;have hmu:rmu ⟨t,[]⟩ wr=k:=by
  unfold rmu;simp only;rw[h5];simp
 rw[hmu];obtain⟨u,rfl⟩:=Mzw t h1;have e0:u 0= .slice A l.length c:=Option.some.inj h2;have e8:u 8= .pointer (some ⟨gO,0,none⟩):=Option.some.inj h3;have e11:u 11= .pointer (some ⟨g,0,none⟩):=Option.some.inj h4;have e3:u 3= .int .i64 (k:Int):=Option.some.inj h5;have e12:u 12=B:=Option.some.inj h6;have e13:u 13= .int .i64 (s.pos:Int):=Option.some.inj h7;rw[e0,e8,e11,e3,e12,e13];cases k with
 | zero=>exact Pzm w1 wr gO g c n A l s0 s B T M u Q0 hO HX hRef hrn
 | succ k=>
   rw[show ((k+1:Nat):Int)=(k:Int)+1 from rfl];rcases Nat.lt_or_ge s.pos l.length with hp|hp
   ·exact Rzr w1 wr gO g c n k A l s0 s B T M u Q0 hO hr hck HX hRef hs (by omega) hm hk hrn hp
   ·exact Rzo w1 wr gO g c n k A l s0 s B T M u Q0 hO HX hRef hk hrn hp ((Bzn l).1 hck).1
theorem Tzi (w1:World) (gO g c n:Nat) (A:Option Addr) (l:List Ins) (s0:Mc) (Q0:Exit→Act→World→Prop) (hO:Blk w1 gO 133 #[.int .i64 0, .int .i64 0, .int .i64 0, .int .i64 0, .int .i64 0, .int .i64 0, .int .i64 0, .int .i64 0, .int .i64 0, .slice none 0 0, .slice none 0 0])
  (hr:RdI w1 w1.heap.size A l) (hck:check l=0) (HX:Hid (Jzm w1 gO l n s0 Q0)) (hm0:s0.mem.length≤1024) (a:Act) (wr:World) (hI:RWI w1 gO g c A l n s0 a wr):Code.wp Tryz.prog (Code.loop Jz1) Q0 a wr:=
 wp_loop (RWI w1 gO g c A l n s0) rmu hI fun a' w' h=>Oz2 w1 gO g c n A l s0 Q0 hO hr hck HX hm0 a' w' h
theorem Lzq (A Am:Option Addr) (c cm:Nat) (l:List Ins) (r0 r1 r2 r3 r4 r5 r6 r7:Int) (mem:List Int) (fuel:Int) (w:World) (hr:RdI w w.heap.size A l) (hl:l.length≤maxLen)
  (hm:RdN w w.heap.size Am mem) (hml:mem.length≤maxLen) (hc0:check l=0) (hbig2:(mem.length:Int)≤1024) (hf1:0≤fuel) (hf2:fuel≤20000) (har:[r0,r1,r2,r3,r4,r5,r6,r7].any oddW=false) (ham:mem.any oddW=false):
  Calls Tryz.prog 102 #[.slice A l.length c, .agg #[.int .i64 r0, .int .i64 r1, .int .i64 r2, .int .i64 r3, .int .i64 r4, .int .i64 r5, .int .i64 r6, .int .i64 r7], .slice Am mem.length cm, .int .i64 fuel] w
   (RunPost w (Czq l [r0,r1,r2,r3,r4,r5,r6,r7] mem fuel) (Azv l [r0,r1,r2,r3,r4,r5,r6,r7] mem fuel)):=by
 obtain⟨n,rfl⟩:∃ n:Nat,fuel=(n:Int):=⟨fuel.toNat,by omega⟩;have HL:=Lib.hid hl;have HML:=Lib.hid hml;unfold maxLen at hl hml;have HC:=Lib.hid hc0;clear hc0;have hin:inB (n:Int) 0 20000=true:=Azl hf1 hf2;have HE:Hid (Azv l [r0,r1,r2,r3,r4,r5,r6,r7] mem (n:Int)=0):=by
  show _=_;rw[Azv,if_pos HC.out,if_neg (by omega),if_neg (by rw[List.any_append,har,ham];intro h;rcases h with h|h|h;exact absurd h (by omega);exact absurd h (by omega);cases h)]
 have HWD:Hid (∀ x∈ [r0,r1,r2,r3,r4,r5,r6,r7]++mem,0≤x∧x≤65535):=Lzg (by rw[List.any_append,har,ham];rfl);have HAR:=Lib.hid har;clear har;have HAM:=Lib.hid ham;clear ham;go_enter Tryz.func102,Tryz.ntmps102;go_wp2_with fail;obtain⟨V,hV,hB0,hRB,hOB⟩:=Czr w r0 r1 r2 r3 r4 r5 r6 r7;rw[hV];clear hV;refine(Bz2 A c l V ((hr.below hB0).more hB0.size) HL.out).mono ?_;rw[HC.out];rintro e w1 ⟨rfl,hb1⟩;have hbw:=hB0.trans (hb1.mono hB0.size);have hR1:=hRB.below hb1 hRB.lt;have hO1:=hOB.below hb1 hOB.lt;obtain⟨gr,hgr⟩:∃ gr,gr=w.heap.size:=⟨_,rfl⟩;obtain⟨gO,hgo⟩:∃ gO,gO=w.heap.size+1:=⟨_,rfl⟩;have hgr0:w.heap.size≤gr:=by omega
 have hgo0:w.heap.size≤gO:=by omega
 have hgg:gr≠gO:=by omega
 rw[←hgo] at hO1 ⊢;rw[←hgr] at hR1 ⊢;clear hgr hgo hRB hOB hB0 hb1 V;have p0:=hR1.cell 0;simp at p0;have hgrl:=hR1.lt;have hrr:RdN w1 w1.heap.size (some ⟨gr,0,none⟩) [r0,r1,r2,r3,r4,r5,r6,r7]:=fun _=>⟨gr,0,rfl,hgrl,fun k hk=>by
  rw[Nat.zero_add,hR1.cell];simp at hk;have:k=0∨k=1∨k=2∨k=3∨k=4∨k=5∨k=6∨k=7:=by omega
  rcases this with h|h|h|h|h|h|h|h<;>subst h<;>rfl⟩
 have HRR:=Lib.hid hrr;have HRM:=Lib.hid ((hm.below hbw).more hbw.size);clear hrr;have CR:Hid (Calls Tryz.prog 58 #[.slice (some ⟨gr,0,none⟩) 8 8] w1 fun e w'=>e= .returned (.bool true)∧w1=w'):=by
  have h:=Bzr (some ⟨gr,0,none⟩) 8 [r0,r1,r2,r3,r4,r5,r6,r7] w1 HRR.out (by simp[maxLen]);rw[HAR.out] at h;exact h
 have CM:Hid (Calls Tryz.prog 58 #[.slice Am mem.length cm] w1 fun e w'=>e= .returned (.bool true)∧w1=w'):=by
  have h:=Bzr Am cm mem w1 HRM.out HML.out;rw[HAM.out] at h;exact h
 have h0s:Hid (∀ x∈ [r0,r1,r2,r3,r4,r5,r6,r7],0≤x):=fun x hx=>(HWD.out x (List.mem_append_left _ hx)).1
 have hm0:Hid (∀ x∈mem,0≤x):=fun x hx=>(HWD.out x (List.mem_append_right _ hx)).1
 have HOB:=Lib.hid hO1;obtain⟨c0,c1,c2,c3,c4,c5,c6,c7, -⟩:=hR1.a11;simp at c0 c1 c2 c3 c4 c5 c6 c7;have hU:=Tryz.underlying25;obtain⟨i0,hi0,hz0,hz1,hz2⟩:=info_parts Dz1;go_upto_region 8 with(first|(go_at_call 21;refine(Azi _ _ _ _).mono ?_;rintro e w' ⟨rfl,rfl⟩)|(go_at_call 58;(with_reducible refine CR.out.mono ?_);rintro e w' ⟨rfl,rfl⟩)|(go_at_call 58;(with_reducible refine CM.out.mono ?_);rintro e w' ⟨rfl,rfl⟩))
 have HM1:=Lib.hid ((hm.below hbw).more hbw.size).rd;have HG:=Lib.hid hgrl;go_cut [11] (fun u wx=>∃ g M,u= .pointer (some ⟨g,0,none⟩)∧Ref w1 wx g (toMc [r0,r1,r2,r3,r4,r5,r6,r7] mem) 0 (.slice none 0 0) (.slice none 0 0) M)
 case first=>
  go_region_law
   (first
     | (refine Gzs _ (by rfl) _ _ _ (by rfl) w1.heap.size 3 i0 _ 1 8 hU hi0 hz0 hz1 hz2 rfl (by omega) (.slice none 0 0) 0 [] (by rfl) (World.ownsRow_nil _ _ _ _) w1.heap.size Am mem.length cm (intCells mem) (by rfl) ?rd (Dz3 _) ?len ?byt ?bas ?_
        case rd=>first|exact HM1.out.below (Below.drewN' (Below.refl _ _) 1)|exact HM1.out.below (Below.drewN' (Aze _ _) 1)
        case len=>(simp[maxLen];omega)
        case byt=>omega
        case bas=>simp
        intro A' c' w' hown hgrow hat;have hgl2:gr<w'.heap.size:=Nat.lt_of_lt_of_le (by simp<;>omega) hgrow.size;have s0:=(cell_grown hgrow gr 0 (by simp<;>omega) (by simp[Value.ownBlock])).trans (show _=some (Value.int .i64 r0) by first|exact c0|exact(World.cell?_alloc_lt w1 _ _ hgrl).trans c0);have s1:=(cell_grown hgrow gr 1 (by simp<;>omega) (by simp[Value.ownBlock])).trans (show _=some (Value.int .i64 r1) by first|exact c1|exact(World.cell?_alloc_lt w1 _ _ hgrl).trans c1);have s2:=(cell_grown hgrow gr 2 (by simp<;>omega) (by simp[Value.ownBlock])).trans (show _=some (Value.int .i64 r2) by first|exact c2|exact(World.cell?_alloc_lt w1 _ _ hgrl).trans c2);have s3:=(cell_grown hgrow gr 3 (by simp<;>omega) (by simp[Value.ownBlock])).trans (show _=some (Value.int .i64 r3) by first|exact c3|exact(World.cell?_alloc_lt w1 _ _ hgrl).trans c3);have s4:=(cell_grown hgrow gr 4 (by simp<;>omega) (by simp[Value.ownBlock])).trans (show _=some (Value.int .i64 r4) by first|exact c4|exact(World.cell?_alloc_lt w1 _ _ hgrl).trans c4);have s5:=(cell_grown hgrow gr 5 (by simp<;>omega) (by simp[Value.ownBlock])).trans (show _=some (Value.int .i64 r5) by first|exact c5|exact(World.cell?_alloc_lt w1 _ _ hgrl).trans c5);have s6:=(cell_grown hgrow gr 6 (by simp<;>omega) (by simp[Value.ownBlock])).trans (show _=some (Value.int .i64 r6) by first|exact c6|exact(World.cell?_alloc_lt w1 _ _ hgrl).trans c6);have s7:=(cell_grown hgrow gr 7 (by simp<;>omega) (by simp[Value.ownBlock])).trans (show _=some (Value.int .i64 r7) by first|exact c7|exact(World.cell?_alloc_lt w1 _ _ hgrl).trans c7)
        try (have kb:Blk w' w1.heap.size 133 #[.int .i64 0, .int .i64 0, .int .i64 0, .int .i64 0, .int .i64 0, .int .i64 0, .int .i64 0, .int .i64 0, .int .i64 0, .slice none 0 0, .slice none 0 0]:=(Blk.drew (Blk.new w1 133 #[.int .i64 0, .int .i64 0, .int .i64 0, .int .i64 0, .int .i64 0, .int .i64 0, .int .i64 0, .int .i64 0, .int .i64 0, .slice none 0 0, .slice none 0 0])).grown hgrow (by simp[Value.ownBlock]);have q0:=kb.cell 0;have q1:=kb.cell 1;have q2:=kb.cell 2;have q3:=kb.cell 3;have q4:=kb.cell 4;have q5:=kb.cell 5;have q6:=kb.cell 6;have q7:=kb.cell 7;have q8:=kb.cell 8;have q9:=kb.cell 9;have q10:=kb.cell 10;have p0:=kb.frozen 0;have p1:=kb.frozen 1;have p2:=kb.frozen 2;have p3:=kb.frozen 3;have p4:=kb.frozen 4;have p5:=kb.frozen 5;have p6:=kb.frozen 6;have p7:=kb.frozen 7;have p8:=kb.frozen 8;have p9:=kb.frozen 9;have p10:=kb.frozen 10;simp at q0 q1 q2 q3 q4 q5 q6 q7 q8 q9 q10;clear kb)))
  all_goals
   go_wp2_with fail;go_meet;rw[Nat.zero_add,List.nil_append,Hz3 hm0.out] at hown
   first
    | (with_reducible refine⟨_,_,rfl,Ref.startA h0s.out ?_ hown⟩
       exact(Below.drewN' (Below.refl w1.heap.size w1) 1).grown hgrow (Nat.le_refl _) (by simp[Value.ownBlock]))
    | (with_reducible refine⟨_,_,rfl,Ref.startB' h0s.out ?_ ?_ hown⟩
       ·exact(Below.drewN' (Aze w1 (.cells #[.int .i64 0, .int .i64 0, .int .i64 0, .int .i64 0, .int .i64 0, .int .i64 0, .int .i64 0, .int .i64 0, .int .i64 0, .slice none 0 0, .slice none 0 0] 133)) 1).grown hgrow (by simp) (by simp[Value.ownBlock])
       ·exact(Blk.drew (Blk.new w1 133 #[.int .i64 0, .int .i64 0, .int .i64 0, .int .i64 0, .int .i64 0, .int .i64 0, .int .i64 0, .int .i64 0, .int .i64 0, .slice none 0 0, .slice none 0 0])).grown hgrow (by simp[Value.ownBlock]))
 case rest=>
  obtain⟨g,M,rfl,hR⟩:=hcut;have HR:=Lib.hid hR;have HRI:=Lib.hid ((hr.below hbw).more hbw.size);have HBW:=Lib.hid hbw;clear hR;go_wp2;show Code.wp Tryz.prog (Code.loop Jz1) _ _ _;refine Tzi w1 gO g c n A l (toMc [r0,r1,r2,r3,r4,r5,r6,r7] mem) _ HOB.out HRI.out HC.out (Lib.hid ?exit) (by simp[toMc];omega) _ _ ?start
  case start=>exact⟨rfl,rfl,rfl,rfl,rfl,n, .slice none 0 0, .int .i64 0,rfl,rfl,rfl,by omega,_,_,_,rfl,HR.out,Ozc rfl HWD.out,rfl,rfl⟩
  case exit=>
   intro a' w2 s' en T' M' hrun hF hd hsz h8 h9;show bodyPost Tryz.prog Tryz.f102 _ .ret a' w2;obtain⟨t,d⟩:=a';simp only at hd hsz h8 h9;subst hd;obtain⟨u,rfl⟩:=Mzw t hsz;have e8:u 8= .pointer (some ⟨gO,0,none⟩):=Option.some.inj h8;have e9:u 9= .int .i64 0:=Option.some.inj h9;rw[e8,e9];obtain⟨q0,q1,q2,q3,q4,q5,q6,q7,q8,q9,q10, -⟩:=hF.blk.a11;have hres:Czq l [r0,r1,r2,r3,r4,r5,r6,r7] mem (n:Int)=(s',en):=by
    unfold Czq;rw[HE.out,if_pos rfl,Int.toNat_natCast];exact hrun
   simp[Bzj,natV] at q0 q1 q2 q3 q4 q5 q6 q7 q8 q9 q10;refine bodyPost_ret (v:= .tuple #[outV en s'.regs T' M', .int .i64 0]) (by simp[results,Tryz.results102,go_sem,q0,q1,q2,q3,q4,q5,q6,q7,q8,q9,q10,outV,natV]) rfl ?_;rw[hres,HE.out];exact⟨T',M',rfl,own_base hF.ot HBW.out.size,own_base hF.om HBW.out.size,HBW.out.grown hF.grown HBW.out.size (fun q hq=>by injection hq with hq;omega)⟩
end Go.Proofs.YtdjamdbamkhblacGreatDoor
