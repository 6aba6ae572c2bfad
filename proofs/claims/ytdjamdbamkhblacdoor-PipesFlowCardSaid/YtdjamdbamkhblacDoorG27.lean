/- What a new kernel reads as: no condition. Scripts of acts: prefixes, order, and what a process reads beside another: plain mathematics. -/
import Derived.Test.YtdjamdbamkhblacDoorG26
import Derived.Test.YtdjamdbamkhblacDoorG04
import Derived.Test.YtdjamdbamkhblacDoorG09
namespace Go.Proofs.YtdjamdbamkhblacDoor
open Go.RowKit

/-- The new kernel, as plain data. -/
def newKr : Krn := ⟨[], List.replicate 1024 0, List.replicate 8 default, List.replicate 6 ⟨#[]⟩, ⟨true, List.replicate 6 default⟩ :: List.replicate 3 ⟨false, List.replicate 6 default⟩⟩
theorem made_cell (z : Array Value) (n i : Nat) (h : i < n) : (madeCells z n)[i]? = some (z[i % z.size]!) := by simp [madeCells, h]
theorem rd_made {w : World} {g size n m : Nat} {t : TypeId} {z : Array Value} {xs : List Value} (h : Blk w g t (madeCells z (n * size))) (hl : xs.length = n * size) (hx : ∀ i, i < n * size → xs[i]? = some (z[i % z.size]!)) (hm : n = m) : Rd w w.heap.size size (some ⟨g, 0, none⟩) m xs := by
  subst hm
  refine ⟨hl, fun _ => ⟨g, 0, rfl, h.lt, fun j u hu => ?_⟩⟩
  have hj : j < n * size := by rw [← hl]; exact (List.getElem?_eq_some_iff.1 hu).1
  rw [Nat.zero_add, h.cell, made_cell _ _ _ hj, ← hx j hj, hu]
theorem new_ends {w : World} {e : Nat} (h : Blk w e 82 zEnd) : RdE w w.heap.size (some ⟨e, 0, none⟩) (List.replicate 6 default) := by
  refine RdE.of (rd_made (n := 6) (size := 3) h rfl (fun i hi => ?_) (by simp))
  have : i = 0 ∨ i = 1 ∨ i = 2 ∨ i = 3 ∨ i = 4 ∨ i = 5 ∨ i = 6 ∨ i = 7 ∨ i = 8 ∨ i = 9 ∨ i = 10 ∨ i = 11 ∨ i = 12 ∨ i = 13 ∨ i = 14 ∨ i = 15 ∨ i = 16 ∨ i = 17 := by omega
  rcases this with h | h | h | h | h | h | h | h | h | h | h | h | h | h | h | h | h | h <;> subst h <;> rfl
theorem new_nodes {w : World} {g : Nat} (h : Blk w g 52 zNod) : RdD w w.heap.size (some ⟨g, 0, none⟩) (List.replicate 8 default) := by
  refine RdD.of (rd_made (n := 8) (size := 4) h rfl (fun i hi => ?_) (by simp))
  have e : ∀ j : Nat, j < 8 → (nodCells (List.replicate 8 default))[j * 4]? = some (.string ⟨#[]⟩) ∧ (nodCells (List.replicate 8 default))[j * 4 + 1]? = some (.int .i64 0) ∧ (nodCells (List.replicate 8 default))[j * 4 + 2]? = some (.string ⟨#[]⟩) ∧ (nodCells (List.replicate 8 default))[j * 4 + 3]? = some (.int .i64 0) := fun j hj => by
    have := nodCells_at (List.replicate 8 default) j (by simpa using hj)
    simp only [List.getElem_replicate] at this
    exact this
  obtain ⟨e0, e1, e2, e3⟩ := e (i / 4) (by omega)
  have : i = i / 4 * 4 ∨ i = i / 4 * 4 + 1 ∨ i = i / 4 * 4 + 2 ∨ i = i / 4 * 4 + 3 := by omega
  have hm : i % 4 = i - i / 4 * 4 := by omega
  show _ = some ((#[.string ⟨#[]⟩, .int .i64 0, .string ⟨#[]⟩, .int .i64 0] : Array Value)[i % 4]!)
  rcases this with h | h | h | h
  · rw [show i % 4 = 0 by omega, h, e0]; rfl
  · rw [show i % 4 = 1 by omega, h, e1]; rfl
  · rw [show i % 4 = 2 by omega, h, e2]; rfl
  · rw [show i % 4 = 3 by omega, h, e3]; rfl
theorem new_words {w : World} {g : Nat} (h : Blk w g 3 zInt) : RdN w w.heap.size (some ⟨g, 0, none⟩) (List.replicate 1024 0) := fun _ => ⟨g, 0, rfl, h.lt, fun k hk => by
  have hk' : k < 1024 := by rw [List.length_replicate] at hk; exact hk
  rw [Nat.zero_add, h.cell, zInt, made_cell _ _ _ hk', List.getElem_replicate]
  show some ((#[.int .i64 0] : Array Value)[k % 1]!) = _
  rw [Nat.mod_one]
  rfl⟩
theorem new_strs {w : World} {g : Nat} (h : Blk w g 9 zStr) : RdS w w.heap.size (some ⟨g, 0, none⟩) (List.replicate 6 ⟨#[]⟩) := fun _ => ⟨g, 0, rfl, h.lt, fun k hk => by
  have hk' : k < 6 := by rw [List.length_replicate] at hk; exact hk
  rw [Nat.zero_add, h.cell, zStr, made_cell _ _ _ hk', List.getElem_replicate]
  show some ((#[.string ⟨#[]⟩] : Array Value)[k % 1]!) = _
  rw [Nat.mod_one]
  rfl⟩
theorem NewF.krn {w0 w : World} {g1 g2 g3 : Nat} {V : Value} {es : List Nat} (h : NewF w0 w g1 g2 g3 V (pcs 0 es) es) (h4 : es.length = 4) :
    ∃ a : KA, #[.slice none 0 0, sl g1 1024, sl g2 8, sl g3 6, V] = a.cells newKr ∧ KrnAt w w.heap.size a newKr := by
  have ho := h.own
  obtain ⟨A, c, rfl⟩ := own_slice ho
  have hr := Rd.of_own ho
  refine ⟨⟨none, 0, some ⟨g1, 0, none⟩, 1024, some ⟨g2, 0, none⟩, 8, some ⟨g3, 0, none⟩, 6, A, c⟩, by simp only [KA.cells, newKr, sl, List.length_replicate, List.length_cons, List.length_nil], ⟨fun hl => absurd hl (by show ¬ 0 < 0; omega), new_words h.b1, new_nodes h.b2, new_strs h.b3, fun _ => ?_, by show 0 * 64 ≤ _; omega, by simp only [newKr, List.length_replicate]; omega, by simp only [newKr, List.length_replicate]; omega, by simp only [newKr, List.length_replicate]; omega, by simp only [newKr, List.length_replicate, List.length_cons]; omega, fun _ => ⟨rfl, rfl⟩, fun e => (nomatch e), fun e => (nomatch e), fun e => (nomatch e), own_nil ho⟩⟩
  obtain ⟨b, o, e, hb, hc⟩ := hr.2 (by omega)
  refine ⟨b, o, e, hb, fun k hk => ?_⟩
  match es, h4, h, hc with
  | [e0, e1, e2, e3], _, h, hc =>
    have pe : ∀ e ∈ [e0, e1, e2, e3], ∀ bl : Bool, PrcAt w w.heap.size (some ⟨e, 0, none⟩) 6 ⟨bl, List.replicate 6 default⟩ := fun e he bl => ⟨new_ends (h.ends e he), by show 6 * 24 ≤ _; omega, fun x => (nomatch x)⟩
    have hk4 : k < 4 := hk
    match k, hk4 with
    | 0, _ => exact ⟨_, _, hc 0 _ rfl, hc 1 _ rfl, pe e0 (by simp) true⟩
    | 1, _ => exact ⟨_, _, hc 2 _ rfl, hc 3 _ rfl, pe e1 (by simp) false⟩
    | 2, _ => exact ⟨_, _, hc 4 _ rfl, hc 5 _ rfl, pe e2 (by simp) false⟩
    | 3, _ => exact ⟨_, _, hc 6 _ rfl, hc 7 _ rfl, pe e3 (by simp) false⟩
end Go.Proofs.YtdjamdbamkhblacDoor
namespace Go.Proofs.YtdjamdbamkhblacDoor
open Go.RowKit
theorem runK_len : ∀ (l : List Akt) (k : Krn), (runK k l).2.length = l.length
  | [], _ => rfl
  | a :: r, k => by
    rw [runK]
    split
    · simp [runK_len r]
    · simp [runK_len r]
theorem runK_app : ∀ (l r : List Akt) (k : Krn), runK k (l ++ r) = ((runK (runK k l).1 r).1, (runK k l).2 ++ (runK (runK k l).1 r).2)
  | [], r, k => by simp [runK]
  | a :: l, r, k => by
    rw [List.cons_append, runK, runK]
    split
    · rw [runK_app l r]; rfl
    · rw [runK_app l r]; rfl
theorem doE_ok {k : Krn} (h : KOk k) {a : Akt} (ha : 1 ≤ a.kind ∧ a.kind ≤ 11) : doE k a = 0 := by
  unfold doE
  rw [if_pos ((kcheck_iff k).2 h), if_neg (by omega)]
theorem doE_zero {k : Krn} {a : Akt} (h : doE k a = 0) : KOk k ∧ 1 ≤ a.kind ∧ a.kind ≤ 11 := by
  unfold doE at h
  by_cases h1 : kcheck k = 0
  · rw [if_pos h1] at h
    by_cases h2 : a.kind < 1 ∨ 11 < a.kind
    · rw [if_pos h2] at h; cases h
    · exact ⟨(kcheck_iff k).1 h1, by omega⟩
  · rw [if_neg h1] at h; exact absurd h h1
theorem runK_ok : ∀ (l : List Akt) {k : Krn}, KOk k → KOk (runK k l).1
  | [], _, h => h
  | a :: r, k, h => by
    rw [runK]
    split
    · rename_i he
      exact runK_ok r (do_ok h a (doE_zero he).2)
    · exact runK_ok r h
theorem newK_ok : KOk newK := (kcheck_iff _).1 newK_check
theorem runK_take (l : List Akt) (n : Nat) (k : Krn) : (runK k (l.take n)).2 = (runK k l).2.take n := by
  rcases Nat.lt_or_ge n l.length with hn | hn
  · have h := congrArg Prod.snd (runK_app (l.take n) (l.drop n) k)
    rw [List.take_append_drop] at h
    simp only at h
    rw [h]
    exact (List.take_left' (by rw [runK_len]; simp; omega)).symm
  · rw [List.take_of_length_le hn, List.take_of_length_le (by rw [runK_len]; exact hn)]
theorem runK_cons {k : Krn} (h : KOk k) {a : Akt} (ha : 1 ≤ a.kind ∧ a.kind ≤ 11) (r : List Akt) : runK k (a :: r) = ((runK (doK k a).1 r).1, (doK k a).2 :: (runK (doK k a).1 r).2) := by
  rw [runK, if_pos (doE_ok h ha)]
/-- One act of a script, and what comes behind it. -/
theorem runK_step {k k' : Krn} {a : Akt} {x : Ans} {r : List Akt} (h : KOk k) (ha : 1 ≤ a.kind ∧ a.kind ≤ 11) (hd : doK k a = (k', x)) : KOk k' ∧ runK k (a :: r) = ((runK k' r).1, x :: (runK k' r).2) := by
  have h1 := do_ok h a ha
  rw [hd] at h1
  refine ⟨h1, ?_⟩
  rw [runK_cons h ha, hd]

/-- A kernel with one file, and processes. -/
def fK (nm d : ByteArray) (ps : List Prc) : Krn := { newK with nodes := ⟨nm, 1, d, 0⟩ :: List.replicate 7 default, procs := ps }
def e6 (l : List Opn) : List Opn := l ++ List.replicate (6 - l.length) default
def dead : Prc := ⟨false, List.replicate 6 default⟩
def fS : ByteArray := ⟨#[102]⟩
theorem cutS_all (s : ByteArray) : cutS s 0 s.size = s := by
  have e1 : s.data.toList.length = s.size := by simp
  unfold cutS
  rw [List.drop_zero, List.take_of_length_le (by omega)]
theorem st_create : doK newK ⟨2, 0, 0, 0, fS, noS⟩ = (fK fS noS [⟨true, e6 []⟩, dead, dead, dead], ansN 0) := by rfl
theorem st_open (d : ByteArray) (ps : List Prc) : doK (fK fS d (⟨true, e6 []⟩ :: ps)) ⟨5, 0, 0, 0, fS, noS⟩ = (fK fS d (⟨true, e6 [⟨1, 0, 0⟩]⟩ :: ps), ansN 0) := by rfl
theorem st_close (d : ByteArray) (n : Nat) : doK (fK fS d [⟨true, e6 [⟨1, 0, n⟩]⟩, dead, dead, dead]) ⟨6, 0, 0, 0, noS, noS⟩ = (fK fS d [⟨true, e6 []⟩, dead, dead, dead], ansN 0) := by rfl
theorem st_fork (d : ByteArray) (n : Nat) : doK (fK fS d [⟨true, e6 [⟨1, 0, n⟩]⟩, dead, dead, dead]) ⟨10, 0, 0, 0, noS, noS⟩ = (fK fS d [⟨true, e6 [⟨1, 0, n⟩]⟩, ⟨true, e6 [⟨1, 0, n⟩]⟩, dead, dead], ansN 1) := by rfl
theorem st_exit (d : ByteArray) (n m : Nat) : doK (fK fS d [⟨true, e6 [⟨1, 0, n⟩]⟩, ⟨true, e6 [⟨1, 0, m⟩]⟩, dead, dead]) ⟨11, 1, 0, 0, noS, noS⟩ = (fK fS d [⟨true, e6 [⟨1, 0, n⟩]⟩, dead, dead, dead], ansN 0) := by rfl
theorem st_write (s : ByteArray) (h1 : 1 ≤ s.size) (h2 : s.size ≤ 100) : doK (fK fS noS [⟨true, e6 [⟨1, 0, 0⟩]⟩, dead, dead, dead]) ⟨8, 0, 0, 0, noS, s⟩ = (fK fS s [⟨true, e6 [⟨1, 0, s.size⟩]⟩, dead, dead, dead], ansN s.size) := by
  show writeK (fK fS noS [⟨true, e6 [⟨1, 0, 0⟩]⟩, dead, dead, dead]) 0 0 s = _
  have he : ¬ (empS s = true ∨ 100 < s.size) := by
    unfold empS
    rw [beq_iff_eq]
    omega
  have e1 : s.data.toList.length = s.size := by simp
  unfold writeK
  have hx : ((fK fS noS [⟨true, e6 [⟨1, 0, 0⟩]⟩, dead, dead, dead]).procs.getD 0 default).ends.getD 0 default = ⟨1, 0, 0⟩ := rfl
  have hn : (fK fS noS [⟨true, e6 [⟨1, 0, 0⟩]⟩, dead, dead, dead]).nodes.getD (0 : Int).toNat default = ⟨fS, 1, noS, 0⟩ := rfl
  simp only [hx, hn]
  rw [if_neg he, if_neg (by decide), if_neg (by decide)]
  have hm : min s.size (100 - (0 : Int).toNat) = s.size := by
    show min s.size (100 - 0) = _
    omega
  rw [hm, if_neg (by omega)]
  have ho : overS noS.data.toList (s.data.toList.take s.size) (0 : Int).toNat = s.data.toList := by
    show overS [] _ 0 = _
    unfold overS
    have e2 : s.data.toList.take s.size = s.data.toList := List.take_of_length_le (by omega)
    rw [e2]
    simp
  rw [ho, Int.zero_add]
  rfl
theorem st_read (d : ByteArray) (ps : List Prc) (p : Nat) (n m : Nat) (hp : ps[p]? = some ⟨true, e6 [⟨1, 0, n⟩]⟩) (h4 : p < 4) (h1 : 1 ≤ m) (h2 : m ≤ 100) (hn : n < d.size) :
    doK (fK fS d ps) ⟨7, p, 0, m, noS, noS⟩ = (setEnd (fK fS d ps) p 0 ⟨1, 0, (n + min m (d.size - n) : Nat)⟩, ⟨0, (min m (d.size - n) : Nat), cutS d n (n + min m (d.size - n))⟩) := by
  have hg : ps.getD p default = ⟨true, e6 [⟨1, 0, n⟩]⟩ := by rw [List.getD_eq_getElem?_getD, hp]; rfl
  unfold doK
  rw [if_neg (by simp), if_neg (by simp), if_neg (by simp), if_neg (by simp)]
  simp only [Int.toNat_natCast]
  have hgk : (fK fS d ps).procs.getD p default = ⟨true, e6 [⟨1, 0, n⟩]⟩ := hg
  rw [hgk, if_pos ⟨by omega, by omega, rfl⟩]
  unfold byK
  rw [if_neg (by simp), if_neg (by simp), if_neg (by simp), if_neg (by simp), hgk]
  have he : (e6 [⟨1, 0, n⟩]).getD (0 : Int).toNat default = ⟨1, 0, n⟩ := rfl
  simp only [he]
  rw [if_neg (by decide), if_neg (by decide), if_neg (by decide), if_pos trivial]
  unfold readK
  simp only [hgk]
  have he' : (e6 [⟨1, 0, n⟩]).getD 0 default = ⟨1, 0, n⟩ := rfl
  simp only [Int.toNat_zero, he', Int.toNat_natCast]
  rw [if_neg (by omega), if_neg (by decide)]
  have hnd' : (fK fS d ps).nodes.getD 0 default = ⟨fS, 1, d, 0⟩ := rfl
  simp only [hnd']
  rw [if_neg (by decide), if_neg (by omega)]
  rfl
theorem runK_snd {k k' : Krn} {a : Akt} {x : Ans} {r : List Akt} {xs : List Ans} (h : KOk k) (ha : 1 ≤ a.kind ∧ a.kind ≤ 11) (hd : doK k a = (k', x)) (hr : KOk k' → (runK k' r).2 = xs) : (runK k (a :: r)).2 = x :: xs := by
  obtain ⟨h1, e⟩ := runK_step (r := r) h ha hd
  rw [e]
  show x :: (runK k' r).2 = _
  rw [hr h1]
theorem st_read' {d : ByteArray} {ps : List Prc} {p n m : Nat} {k' : Krn} {t : Nat} {z : ByteArray} (hp : ps[p]? = some ⟨true, e6 [⟨1, 0, n⟩]⟩) (h4 : p < 4) (h1 : 1 ≤ m) (h2 : m ≤ 100) (hn : n < d.size) (ht : min m (d.size - n) = t)
    (hk : setEnd (fK fS d ps) p 0 ⟨1, 0, (n + t : Nat)⟩ = k') (hz : cutS d n (n + t) = z) : doK (fK fS d ps) ⟨7, p, 0, m, noS, noS⟩ = (k', ⟨0, (t : Nat), z⟩) := by
  rw [st_read d ps p n m hp h4 h1 h2 hn, ht, hk, hz]
def apartL (s : ByteArray) (a b : Nat) : List Akt :=
  [⟨2, 0, 0, 0, fS, noS⟩, ⟨5, 0, 0, 0, fS, noS⟩, ⟨8, 0, 0, 0, noS, s⟩, ⟨6, 0, 0, 0, noS, noS⟩, ⟨5, 0, 0, 0, fS, noS⟩, ⟨10, 0, 0, 0, noS, noS⟩, ⟨7, (0 : Nat), 0, a, noS, noS⟩, ⟨7, (1 : Nat), 0, b, noS, noS⟩, ⟨11, 1, 0, 0, noS, noS⟩, ⟨7, (0 : Nat), 0, b, noS, noS⟩]
theorem apart_runs (s : ByteArray) (a b : Nat) (h1 : 31 ≤ s.size) (h2 : s.size ≤ 100) (ha : 1 ≤ a) (ha9 : a ≤ 9) (hb : 1 ≤ b) (hb9 : b ≤ 9) :
    (runK newK (apartL s a b)).2 = [ansN 0, ansN 0, ansN s.size, ansN 0, ansN 0, ansN 1, ⟨0, a, cutS s 0 a⟩, ⟨0, b, cutS s 0 b⟩, ansN 0, ⟨0, (min b (s.size - a) : Nat), cutS s a (a + min b (s.size - a))⟩] := by
  unfold apartL
  refine runK_snd newK_ok ⟨by simp, by simp⟩ st_create fun k1 => ?_
  refine runK_snd k1 ⟨by simp, by simp⟩ (st_open noS [dead, dead, dead]) fun k2 => ?_
  refine runK_snd k2 ⟨by simp, by simp⟩ (st_write s (by omega) h2) fun k3 => ?_
  refine runK_snd k3 ⟨by simp, by simp⟩ (st_close s s.size) fun k4 => ?_
  refine runK_snd k4 ⟨by simp, by simp⟩ (st_open s [dead, dead, dead]) fun k5 => ?_
  refine runK_snd k5 ⟨by simp, by simp⟩ (st_fork s 0) fun k6 => ?_
  refine runK_snd k6 ⟨by simp, by simp⟩ (st_read' (k' := fK fS s [⟨true, e6 [⟨1, 0, (a : Nat)⟩]⟩, ⟨true, e6 [⟨1, 0, (0 : Nat)⟩]⟩, dead, dead]) (n := 0) rfl (by omega) ha (by omega) (by omega) (show min a (s.size - 0) = a by omega) (by rw [Nat.zero_add]; rfl) (by rw [Nat.zero_add])) fun k7 => ?_
  refine runK_snd k7 ⟨by simp, by simp⟩ (st_read' (k' := fK fS s [⟨true, e6 [⟨1, 0, (a : Nat)⟩]⟩, ⟨true, e6 [⟨1, 0, (b : Nat)⟩]⟩, dead, dead]) (n := 0) rfl (by omega) hb (by omega) (by omega) (show min b (s.size - 0) = b by omega) (by rw [Nat.zero_add]; rfl) (by rw [Nat.zero_add])) fun k8 => ?_
  refine runK_snd k8 ⟨by simp, by simp⟩ (st_exit s a b) fun k9 => ?_
  refine runK_snd k9 ⟨by simp, by simp⟩ (st_read' (n := a) rfl (by omega) hb (by omega) (by omega) rfl rfl rfl) fun k10 => rfl
end Go.Proofs.YtdjamdbamkhblacDoor
