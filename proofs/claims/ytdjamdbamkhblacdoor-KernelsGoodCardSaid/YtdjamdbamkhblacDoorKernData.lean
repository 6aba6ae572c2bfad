/- Files, open ends, processes, kernels and acts as plain data, and as what memory reads: no condition. -/
import Derived.Test.YtdjamdbamkhblacDoorG02
namespace Go.Proofs.YtdjamdbamkhblacDoor
open Go.RowKit
structure Nod where
 name : ByteArray
 kind : Int
 data : ByteArray
 unit : Int
instance : Inhabited Nod := ⟨⟨⟨#[]⟩, 0, ⟨#[]⟩, 0⟩⟩
structure Opn where
 kind : Int
 node : Int
 pos : Int
instance : Inhabited Opn := ⟨⟨0, 0, 0⟩⟩
structure Prc where
 live : Bool
 ends : List Opn
instance : Inhabited Prc := ⟨⟨false, []⟩⟩
instance : Inhabited Mod := ⟨⟨⟨#[]⟩, [], []⟩⟩
structure Krn where
 mods : List Mod
 mem : List Int
 nodes : List Nod
 pipes : List ByteArray
 procs : List Prc
structure Akt where
 kind : Int
 p : Int
 n : Int
 m : Int
 name : ByteArray
 data : ByteArray
instance : Inhabited Akt := ⟨⟨0, 0, 0, 0, ⟨#[]⟩, ⟨#[]⟩⟩⟩
def RdS (w : World) (B : Nat) (A : Option Addr) (l : List ByteArray) : Prop :=
 0 < l.length → ∃ b o, A = some ⟨b, o, none⟩ ∧ b < B ∧ ∀ k (h : k < l.length), w.cell? ⟨b, o + k, none⟩ = some (.string l[k])
def RdD (w : World) (B : Nat) (A : Option Addr) (l : List Nod) : Prop :=
 0 < l.length → ∃ b o, A = some ⟨b, o, none⟩ ∧ b < B ∧ ∀ k (h : k < l.length),
  w.cell? ⟨b, o + k * 4, none⟩ = some (.string l[k].name) ∧ w.cell? ⟨b, o + k * 4 + 1, none⟩ = some (.int .i64 l[k].kind) ∧
  w.cell? ⟨b, o + k * 4 + 2, none⟩ = some (.string l[k].data) ∧ w.cell? ⟨b, o + k * 4 + 3, none⟩ = some (.int .i64 l[k].unit)
def RdE (w : World) (B : Nat) (A : Option Addr) (l : List Opn) : Prop :=
 0 < l.length → ∃ b o, A = some ⟨b, o, none⟩ ∧ b < B ∧ ∀ k (h : k < l.length),
  w.cell? ⟨b, o + k * 3, none⟩ = some (.int .i64 l[k].kind) ∧ w.cell? ⟨b, o + k * 3 + 1, none⟩ = some (.int .i64 l[k].node) ∧
  w.cell? ⟨b, o + k * 3 + 2, none⟩ = some (.int .i64 l[k].pos)
def RdA (w : World) (B : Nat) (A : Option Addr) (l : List Akt) : Prop :=
 0 < l.length → ∃ b o, A = some ⟨b, o, none⟩ ∧ b < B ∧ ∀ k (h : k < l.length),
  w.cell? ⟨b, o + k * 6, none⟩ = some (.int .i64 l[k].kind) ∧ w.cell? ⟨b, o + k * 6 + 1, none⟩ = some (.int .i64 l[k].p) ∧
  w.cell? ⟨b, o + k * 6 + 2, none⟩ = some (.int .i64 l[k].n) ∧ w.cell? ⟨b, o + k * 6 + 3, none⟩ = some (.int .i64 l[k].m) ∧
  w.cell? ⟨b, o + k * 6 + 4, none⟩ = some (.string l[k].name) ∧ w.cell? ⟨b, o + k * 6 + 5, none⟩ = some (.string l[k].data)
structure ModAt (w : World) (B : Nat) (A : Option Addr) (c : Nat) (A' : Option Addr) (c' : Nat) (m : Mod) : Prop where
 code : RdI w B A m.code
 data : RdN w B A' m.data
 nm : m.name.size ≤ 140737488351232
 cl : m.code.length * 32 ≤ 140737488351232
 dl : m.data.length * 8 ≤ 140737488351232
 nil : A = none → m.code.length = 0 ∧ c = 0
 nil' : A' = none → m.data.length = 0 ∧ c' = 0
def RdM (w : World) (B : Nat) (A : Option Addr) (l : List Mod) : Prop :=
 0 < l.length → ∃ b o, A = some ⟨b, o, none⟩ ∧ b < B ∧ ∀ k (h : k < l.length), ∃ A1 c1 A2 c2,
  w.cell? ⟨b, o + k * 3, none⟩ = some (.string l[k].name) ∧ w.cell? ⟨b, o + k * 3 + 1, none⟩ = some (.slice A1 l[k].code.length c1) ∧
  w.cell? ⟨b, o + k * 3 + 2, none⟩ = some (.slice A2 l[k].data.length c2) ∧ ModAt w B A1 c1 A2 c2 l[k]
structure PrcAt (w : World) (B : Nat) (A : Option Addr) (c : Nat) (p : Prc) : Prop where
 ends : RdE w B A p.ends
 el : p.ends.length * 24 ≤ 140737488351232
 nil : A = none → p.ends.length = 0 ∧ c = 0
def RdP (w : World) (B : Nat) (A : Option Addr) (l : List Prc) : Prop :=
 0 < l.length → ∃ b o, A = some ⟨b, o, none⟩ ∧ b < B ∧ ∀ k (h : k < l.length), ∃ A1 c1,
  w.cell? ⟨b, o + k * 2, none⟩ = some (.bool l[k].live) ∧ w.cell? ⟨b, o + k * 2 + 1, none⟩ = some (.slice A1 l[k].ends.length c1) ∧ PrcAt w B A1 c1 l[k]
section
variable {w w' : World} {B B' : Nat} {A A' : Option Addr} {c c' : Nat}
theorem RdS.keep {l : List ByteArray} (h : RdS w B A l) (hk : ∀ p : Addr, p.block < B → w'.cell? p = w.cell? p) : RdS w' B A l := fun hl => by
 obtain ⟨b, o, e, hb, hc⟩ := h hl
 exact ⟨b, o, e, hb, fun k hk' => (hk _ hb).trans (hc k hk')⟩
theorem RdS.more {l : List ByteArray} (h : RdS w B A l) (hB : B ≤ B') : RdS w B' A l := fun hl => by
 obtain ⟨b, o, e, hb, hc⟩ := h hl
 exact ⟨b, o, e, by omega, hc⟩
theorem RdD.keep {l : List Nod} (h : RdD w B A l) (hk : ∀ p : Addr, p.block < B → w'.cell? p = w.cell? p) : RdD w' B A l := fun hl => by
 obtain ⟨b, o, e, hb, hc⟩ := h hl
 refine ⟨b, o, e, hb, fun k hk' => ?_⟩
 obtain ⟨h0, h1, h2, h3⟩ := hc k hk'
 exact ⟨(hk _ hb).trans h0, (hk _ hb).trans h1, (hk _ hb).trans h2, (hk _ hb).trans h3⟩
theorem RdD.more {l : List Nod} (h : RdD w B A l) (hB : B ≤ B') : RdD w B' A l := fun hl => by
 obtain ⟨b, o, e, hb, hc⟩ := h hl
 exact ⟨b, o, e, by omega, hc⟩
theorem RdE.keep {l : List Opn} (h : RdE w B A l) (hk : ∀ p : Addr, p.block < B → w'.cell? p = w.cell? p) : RdE w' B A l := fun hl => by
 obtain ⟨b, o, e, hb, hc⟩ := h hl
 refine ⟨b, o, e, hb, fun k hk' => ?_⟩
 obtain ⟨h0, h1, h2⟩ := hc k hk'
 exact ⟨(hk _ hb).trans h0, (hk _ hb).trans h1, (hk _ hb).trans h2⟩
theorem RdE.more {l : List Opn} (h : RdE w B A l) (hB : B ≤ B') : RdE w B' A l := fun hl => by
 obtain ⟨b, o, e, hb, hc⟩ := h hl
 exact ⟨b, o, e, by omega, hc⟩
theorem RdA.keep {l : List Akt} (h : RdA w B A l) (hk : ∀ p : Addr, p.block < B → w'.cell? p = w.cell? p) : RdA w' B A l := fun hl => by
 obtain ⟨b, o, e, hb, hc⟩ := h hl
 refine ⟨b, o, e, hb, fun k hk' => ?_⟩
 obtain ⟨h0, h1, h2, h3, h4, h5⟩ := hc k hk'
 exact ⟨(hk _ hb).trans h0, (hk _ hb).trans h1, (hk _ hb).trans h2, (hk _ hb).trans h3, (hk _ hb).trans h4, (hk _ hb).trans h5⟩
theorem RdA.more {l : List Akt} (h : RdA w B A l) (hB : B ≤ B') : RdA w B' A l := fun hl => by
 obtain ⟨b, o, e, hb, hc⟩ := h hl
 exact ⟨b, o, e, by omega, hc⟩
theorem ModAt.keep {m : Mod} (h : ModAt w B A c A' c' m) (hk : ∀ p : Addr, p.block < B → w'.cell? p = w.cell? p) : ModAt w' B A c A' c' m :=
 { h with code := h.code.keep hk, data := h.data.keep hk }
theorem ModAt.more {m : Mod} (h : ModAt w B A c A' c' m) (hB : B ≤ B') : ModAt w B' A c A' c' m :=
 { h with code := h.code.more hB, data := h.data.more hB }
theorem PrcAt.keep {p : Prc} (h : PrcAt w B A c p) (hk : ∀ p : Addr, p.block < B → w'.cell? p = w.cell? p) : PrcAt w' B A c p := { h with ends := h.ends.keep hk }
theorem PrcAt.more {p : Prc} (h : PrcAt w B A c p) (hB : B ≤ B') : PrcAt w B' A c p := { h with ends := h.ends.more hB }
theorem RdM.keep {l : List Mod} (h : RdM w B A l) (hk : ∀ p : Addr, p.block < B → w'.cell? p = w.cell? p) : RdM w' B A l := fun hl => by
 obtain ⟨b, o, e, hb, hc⟩ := h hl
 refine ⟨b, o, e, hb, fun k hk' => ?_⟩
 obtain ⟨A1, c1, A2, c2, h0, h1, h2, h3⟩ := hc k hk'
 exact ⟨A1, c1, A2, c2, (hk _ hb).trans h0, (hk _ hb).trans h1, (hk _ hb).trans h2, h3.keep hk⟩
theorem RdM.more {l : List Mod} (h : RdM w B A l) (hB : B ≤ B') : RdM w B' A l := fun hl => by
 obtain ⟨b, o, e, hb, hc⟩ := h hl
 refine ⟨b, o, e, by omega, fun k hk' => ?_⟩
 obtain ⟨A1, c1, A2, c2, h0, h1, h2, h3⟩ := hc k hk'
 exact ⟨A1, c1, A2, c2, h0, h1, h2, h3.more hB⟩
theorem RdP.keep {l : List Prc} (h : RdP w B A l) (hk : ∀ p : Addr, p.block < B → w'.cell? p = w.cell? p) : RdP w' B A l := fun hl => by
 obtain ⟨b, o, e, hb, hc⟩ := h hl
 refine ⟨b, o, e, hb, fun k hk' => ?_⟩
 obtain ⟨A1, c1, h0, h1, h2⟩ := hc k hk'
 exact ⟨A1, c1, (hk _ hb).trans h0, (hk _ hb).trans h1, h2.keep hk⟩
theorem RdP.more {l : List Prc} (h : RdP w B A l) (hB : B ≤ B') : RdP w B' A l := fun hl => by
 obtain ⟨b, o, e, hb, hc⟩ := h hl
 refine ⟨b, o, e, by omega, fun k hk' => ?_⟩
 obtain ⟨A1, c1, h0, h1, h2⟩ := hc k hk'
 exact ⟨A1, c1, h0, h1, h2.more hB⟩
theorem RdS.below {l : List ByteArray} (h : RdS w B A l) (hb : Below B w w') : RdS w' B A l := h.keep fun _ hp => hb.cell hp
theorem RdD.below {l : List Nod} (h : RdD w B A l) (hb : Below B w w') : RdD w' B A l := h.keep fun _ hp => hb.cell hp
theorem RdE.below {l : List Opn} (h : RdE w B A l) (hb : Below B w w') : RdE w' B A l := h.keep fun _ hp => hb.cell hp
theorem RdA.below {l : List Akt} (h : RdA w B A l) (hb : Below B w w') : RdA w' B A l := h.keep fun _ hp => hb.cell hp
theorem RdM.below {l : List Mod} (h : RdM w B A l) (hb : Below B w w') : RdM w' B A l := h.keep fun _ hp => hb.cell hp
theorem RdP.below {l : List Prc} (h : RdP w B A l) (hb : Below B w w') : RdP w' B A l := h.keep fun _ hp => hb.cell hp
end
structure KA where
 a0 : Option Addr
 c0 : Nat
 a1 : Option Addr
 c1 : Nat
 a2 : Option Addr
 c2 : Nat
 a3 : Option Addr
 c3 : Nat
 a4 : Option Addr
 c4 : Nat
def KA.cells (a : KA) (k : Krn) : Array Value := #[.slice a.a0 k.mods.length a.c0, .slice a.a1 k.mem.length a.c1, .slice a.a2 k.nodes.length a.c2, .slice a.a3 k.pipes.length a.c3, .slice a.a4 k.procs.length a.c4]
structure KrnAt (w : World) (B : Nat) (a : KA) (k : Krn) : Prop where
 mods : RdM w B a.a0 k.mods
 mem : RdN w B a.a1 k.mem
 nodes : RdD w B a.a2 k.nodes
 pipes : RdS w B a.a3 k.pipes
 procs : RdP w B a.a4 k.procs
 l0 : k.mods.length * 64 ≤ 140737488351232
 l1 : k.mem.length * 8 ≤ 140737488351232
 l2 : k.nodes.length * 48 ≤ 140737488351232
 l3 : k.pipes.length * 16 ≤ 140737488351232
 l4 : k.procs.length * 32 ≤ 140737488351232
 n0 : a.a0 = none → k.mods.length = 0 ∧ a.c0 = 0
 n1 : a.a1 = none → k.mem.length = 0 ∧ a.c1 = 0
 n2 : a.a2 = none → k.nodes.length = 0 ∧ a.c2 = 0
 n3 : a.a3 = none → k.pipes.length = 0 ∧ a.c3 = 0
 n4 : a.a4 = none → k.procs.length = 0 ∧ a.c4 = 0
structure KA.caps (a : KA) (k : Krn) : Prop where
 m : k.mods.length ≤ a.c0
 d : k.nodes.length ≤ a.c2
theorem KrnAt.keep {w w' : World} {B : Nat} {a : KA} {k : Krn} (h : KrnAt w B a k) (hk : ∀ p : Addr, p.block < B → w'.cell? p = w.cell? p) : KrnAt w' B a k :=
 { h with mods := h.mods.keep hk, mem := h.mem.keep hk, nodes := h.nodes.keep hk, pipes := h.pipes.keep hk, procs := h.procs.keep hk }
theorem KrnAt.below {w w' : World} {B : Nat} {a : KA} {k : Krn} (h : KrnAt w B a k) (hb : Below B w w') : KrnAt w' B a k := h.keep fun _ hp => hb.cell hp
theorem KrnAt.more {w : World} {B B' : Nat} {a : KA} {k : Krn} (h : KrnAt w B a k) (hB : B ≤ B') : KrnAt w B' a k :=
 { h with mods := h.mods.more hB, mem := h.mem.more hB, nodes := h.nodes.more hB, pipes := h.pipes.more hB, procs := h.procs.more hB }
def BoxK (w : World) (b : Nat) (a : KA) (k : Krn) : Prop :=
 w.cell? ⟨b, 0, none⟩ = some (.slice a.a0 k.mods.length a.c0) ∧ w.cell? ⟨b, 1, none⟩ = some (.slice a.a1 k.mem.length a.c1) ∧ w.cell? ⟨b, 2, none⟩ = some (.slice a.a2 k.nodes.length a.c2) ∧
 w.cell? ⟨b, 3, none⟩ = some (.slice a.a3 k.pipes.length a.c3) ∧ w.cell? ⟨b, 4, none⟩ = some (.slice a.a4 k.procs.length a.c4)
theorem BoxK.below {w w' : World} {b B : Nat} {a : KA} {k : Krn} (h : BoxK w b a k) (hb : Below B w w') (hlt : b < B) : BoxK w' b a k :=
 ⟨(hb.cell (p := ⟨b, 0, none⟩) hlt).trans h.1, (hb.cell (p := ⟨b, 1, none⟩) hlt).trans h.2.1, (hb.cell (p := ⟨b, 2, none⟩) hlt).trans h.2.2.1, (hb.cell (p := ⟨b, 3, none⟩) hlt).trans h.2.2.2.1, (hb.cell (p := ⟨b, 4, none⟩) hlt).trans h.2.2.2.2⟩
structure Krn.wf (k : Krn) : Prop where
 code : ∀ m ∈ k.mods, ∀ i ∈ m.code, i.wf
 data : ∀ m ∈ k.mods, ∀ n ∈ m.data, wf64 n
 mem : ∀ n ∈ k.mem, wf64 n
 nodes : ∀ x ∈ k.nodes, wf64 x.kind ∧ wf64 x.unit ∧ x.name.size ≤ maxLen ∧ x.data.size ≤ maxLen
 pipes : ∀ s ∈ k.pipes, s.size ≤ maxLen
 ends : ∀ p ∈ k.procs, ∀ x ∈ p.ends, wf64 x.kind ∧ wf64 x.node ∧ wf64 x.pos
structure Akt.wf (a : Akt) : Prop where
 kind : wf64 a.kind
 p : wf64 a.p
 n : wf64 a.n
 m : wf64 a.m
 name : a.name.size ≤ 140737488351232
 data : a.data.size ≤ 140737488351232
def Akt.cells (a : Akt) : Array Value := #[.int .i64 a.kind, .int .i64 a.p, .int .i64 a.n, .int .i64 a.m, .string a.name, .string a.data]
end Go.Proofs.YtdjamdbamkhblacDoor
