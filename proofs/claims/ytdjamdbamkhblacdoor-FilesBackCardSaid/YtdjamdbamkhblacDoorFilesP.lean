/- What is written to a file is read from it by everyone who opens it again, also after its name was removed: plain mathematics. -/
import Derived.Test.YtdjamdbamkhblacDoorG27
namespace Go.Proofs.YtdjamdbamkhblacDoor
open Go.RowKit
def appS (d s : ByteArray) : ByteArray := ⟨(d.data.toList ++ s.data.toList).toArray⟩
theorem appS_size (d s : ByteArray) : (appS d s).size = d.size + s.size := by
  have e1 : d.data.toList.length = d.size := by simp
  have e2 : s.data.toList.length = s.size := by simp
  show (List.toArray _).size = _
  rw [List.size_toArray, List.length_append, e1, e2]
/-- A file's kernel: the first process has it open twice. -/
def fK2 (nm d : ByteArray) (n m : Nat) : Krn := fK nm d [⟨true, e6 [⟨1, 0, n⟩, ⟨1, 0, m⟩]⟩, dead, dead, dead]
theorem st_open2 : doK (fK fS noS [⟨true, e6 [⟨1, 0, 0⟩]⟩, dead, dead, dead]) ⟨5, 0, 0, 0, fS, noS⟩ = (fK2 fS noS 0 0, ansN 1) := by rfl
theorem st_write2 (nm d s : ByteArray) (m : Nat) (h1 : 1 ≤ s.size) (h2 : d.size + s.size ≤ 100) : doK (fK2 nm d d.size m) ⟨8, 0, 0, 0, noS, s⟩ = (fK2 nm (appS d s) (d.size + s.size) m, ansN s.size) := by
  show writeK (fK2 nm d d.size m) 0 0 s = _
  have he : ¬ (empS s = true ∨ 100 < s.size) := by
    unfold empS
    rw [beq_iff_eq]
    omega
  have e1 : s.data.toList.length = s.size := by simp
  have e3 : d.data.toList.length = d.size := by simp
  unfold writeK
  have hx : ((fK2 nm d d.size m).procs.getD 0 default).ends.getD 0 default = ⟨1, 0, d.size⟩ := rfl
  have hn : (fK2 nm d d.size m).nodes.getD (0 : Int).toNat default = ⟨nm, 1, d, 0⟩ := rfl
  simp only [hx, hn]
  rw [if_neg he, if_neg (by decide), if_neg (by decide)]
  have hm : min s.size (100 - (d.size : Int).toNat) = s.size := by
    rw [Int.toNat_natCast]
    omega
  rw [hm, if_neg (by omega), Int.toNat_natCast]
  have ho : overS d.data.toList (s.data.toList.take s.size) d.size = d.data.toList ++ s.data.toList := by
    unfold overS
    have e2 : s.data.toList.take s.size = s.data.toList := List.take_of_length_le (by omega)
    rw [e2]
    have e4 : (d.data.toList ++ List.replicate (d.size - d.data.toList.length) 0).take d.size = d.data.toList := by
      rw [e3, Nat.sub_self]
      simp only [List.replicate_zero, List.append_nil]
      exact List.take_of_length_le (by omega)
    have e5 : d.data.toList.drop (d.size + s.data.toList.length) = [] := List.drop_of_length_le (by omega)
    rw [e4, e5]
    simp
  rw [ho]
  rfl
theorem st_unlink (d : ByteArray) (n m : Nat) : doK (fK2 fS d n m) ⟨4, 0, 0, 0, fS, noS⟩ = (fK2 noS d n m, ansN 0) := by rfl
theorem st_read2 (nm d : ByteArray) (n m k t : Nat) (h1 : 1 ≤ k) (h2 : k ≤ 100) (hm : m < d.size) (ht : min k (d.size - m) = t) :
    doK (fK2 nm d n m) ⟨7, 0, 1, k, noS, noS⟩ = (fK2 nm d n (m + t), ⟨0, (t : Nat), cutS d m (m + t)⟩) := by
  show readK (fK2 nm d n m) 0 1 (k : Int) = _
  unfold readK
  have hx : ((fK2 nm d n m).procs.getD 0 default).ends.getD 1 default = ⟨1, 0, m⟩ := rfl
  have hn : (fK2 nm d n m).nodes.getD (0 : Int).toNat default = ⟨nm, 1, d, 0⟩ := rfl
  simp only [hx, hn]
  rw [if_neg (by omega), if_neg (by decide), if_neg (by decide), Int.toNat_natCast, Int.toNat_natCast, if_neg (by omega), ht]
  rfl
theorem st_end2 (nm d : ByteArray) (n m k : Nat) (h1 : 1 ≤ k) (h2 : k ≤ 100) (hm : d.size ≤ m) :
    doK (fK2 nm d n m) ⟨7, 0, 1, k, noS, noS⟩ = (fK2 nm d n m, ansE 12) := by
  show readK (fK2 nm d n m) 0 1 (k : Int) = _
  unfold readK
  have hx : ((fK2 nm d n m).procs.getD 0 default).ends.getD 1 default = ⟨1, 0, m⟩ := rfl
  have hn : (fK2 nm d n m).nodes.getD (0 : Int).toNat default = ⟨nm, 1, d, 0⟩ := rfl
  simp only [hx, hn]
  rw [if_neg (by omega), if_neg (by decide), if_neg (by decide), Int.toNat_natCast, if_pos (by omega)]
theorem st_open3 (d : ByteArray) (n m : Nat) : (doK (fK2 fS d n m) ⟨5, 0, 0, 0, fS, noS⟩).2 = ansN 2 := by rfl
theorem st_open4 (d : ByteArray) (n m : Nat) : (doK (fK2 noS d n m) ⟨5, 0, 0, 0, fS, noS⟩).2 = ansE 6 := by rfl
theorem appS_nil (s : ByteArray) : appS noS s = s := by
  obtain ⟨⟨l⟩⟩ := s
  simp [appS, noS]
theorem cut_app {s : ByteArray} {n : Nat} : appS (cutS s 0 n) (cutS s n s.size) = s := by
  have e1 : s.data.toList.length = s.size := by simp
  unfold appS cutS
  simp only
  have e2 : s.data.toList.take s.size = s.data.toList := List.take_of_length_le (by omega)
  rw [List.drop_zero, e2, List.take_append_drop]
theorem cutS_full {s : ByteArray} {n : Nat} (h : s.size ≤ n) : cutS s 0 n = s := by
  have e1 : s.data.toList.length = s.size := by simp
  unfold cutS
  rw [List.drop_zero, List.take_of_length_le (by omega)]
def filesL (s : ByteArray) (n : Nat) (unlink : Bool) : List Akt :=
  ([⟨2, 0, 0, 0, fS, noS⟩, ⟨5, 0, 0, 0, fS, noS⟩, ⟨5, 0, 0, 0, fS, noS⟩, ⟨8, 0, 0, 0, noS, cutS s 0 n⟩] : List Akt) ++ (if n < s.size then [⟨8, 0, 0, 0, noS, cutS s n s.size⟩] else []) ++ (if unlink then [⟨4, 0, 0, 0, fS, noS⟩] else []) ++
    [⟨7, 0, 1, n, noS, noS⟩, ⟨7, 0, 1, (100 : Nat), noS, noS⟩, ⟨7, 0, 1, (1 : Nat), noS, noS⟩, ⟨5, 0, 0, 0, fS, noS⟩]
/-- What the last four acts answer. -/
def filesA (s : ByteArray) (n : Nat) (unlink : Bool) : List Ans :=
  [⟨0, n, cutS s 0 n⟩, if n < s.size then ⟨0, (s.size - n : Nat), cutS s n s.size⟩ else ansE 12, ansE 12, if unlink then ansE 6 else ansN 2]
theorem files_tail (nm s : ByteArray) (n m : Nat) (unlink : Bool) (hn : 1 ≤ n) (hns : n ≤ s.size) (h100 : s.size ≤ 100) (hnm : nm = if unlink then noS else fS) (hk : KOk (fK2 nm s m 0)) :
    (runK (fK2 nm s m 0) [⟨7, 0, 1, n, noS, noS⟩, ⟨7, 0, 1, (100 : Nat), noS, noS⟩, ⟨7, 0, 1, (1 : Nat), noS, noS⟩, ⟨5, 0, 0, 0, fS, noS⟩]).2 = filesA s n unlink := by
  have last : ∀ q, (doK (fK2 nm s m q) ⟨5, 0, 0, 0, fS, noS⟩).2 = if unlink then ansE 6 else ansN 2 := fun q => by
    cases unlink with
    | true => rw [hnm]; exact st_open4 s m q
    | false => rw [hnm]; exact st_open3 s m q
  have r0 := st_read2 nm s m 0 n n hn (by omega) (by omega) (by omega)
  rw [Nat.zero_add] at r0
  refine runK_snd hk ⟨by simp, by simp⟩ r0 fun k1 => ?_
  by_cases h : n < s.size
  · rw [if_pos h]
    have r1 := st_read2 nm s m n 100 (s.size - n) (by omega) (by omega) h (by omega)
    rw [show n + (s.size - n) = s.size by omega] at r1
    refine runK_snd k1 ⟨by simp, by simp⟩ r1 fun k2 => ?_
    refine runK_snd k2 ⟨by simp, by simp⟩ (st_end2 nm s m s.size 1 (by omega) (by omega) (by omega)) fun k3 => ?_
    refine runK_snd k3 ⟨by simp, by simp⟩ (Prod.ext rfl (last _)) fun _ => rfl
  · rw [if_neg h]
    refine runK_snd k1 ⟨by simp, by simp⟩ (st_end2 nm s m n 100 (by omega) (by omega) (by omega)) fun k2 => ?_
    refine runK_snd k2 ⟨by simp, by simp⟩ (st_end2 nm s m n 1 (by omega) (by omega) (by omega)) fun k3 => ?_
    refine runK_snd k3 ⟨by simp, by simp⟩ (Prod.ext rfl (last _)) fun _ => rfl
theorem files_runs (s : ByteArray) (n : Nat) (unlink : Bool) (hn : 1 ≤ n) (hns : n ≤ s.size) (h100 : s.size ≤ 100) :
    ∃ pre, (runK newK (filesL s n unlink)).2 = pre ++ filesA s n unlink := by
  have hc1 := cutS_size s 0 n hns
  have hc2 := cutS_size s n s.size (Nat.le_refl _)
  have step : ∀ {k k' : Krn} {a : Akt} {x : Ans} {r : List Akt}, KOk k → (1 ≤ a.kind ∧ a.kind ≤ 11) → doK k a = (k', x) → (KOk k' → ∃ pre, (runK k' r).2 = pre ++ filesA s n unlink) → ∃ pre, (runK k (a :: r)).2 = pre ++ filesA s n unlink := by
    intro k k' a x r h ha hd hr
    obtain ⟨pre, hp⟩ := hr (runK_step (r := r) h ha hd).1
    exact ⟨x :: pre, runK_snd h ha hd fun _ => hp⟩
  have hw1 := st_write2 fS noS (cutS s 0 n) 0 (by omega) (by show 0 + _ ≤ 100; omega)
  rw [appS_nil, show noS.size + (cutS s 0 n).size = n by rw [hc1]; show 0 + _ = _; omega] at hw1
  have hw2 := st_write2 fS (cutS s 0 n) (cutS s n s.size) 0
  rw [cut_app, show (cutS s 0 n).size = n by omega, hc2] at hw2
  have fin : ∀ (nm : ByteArray), nm = (if unlink then noS else fS) → KOk (fK2 nm s s.size 0) → ∃ pre, (runK (fK2 nm s s.size 0) [⟨7, 0, 1, n, noS, noS⟩, ⟨7, 0, 1, (100 : Nat), noS, noS⟩, ⟨7, 0, 1, (1 : Nat), noS, noS⟩, ⟨5, 0, 0, 0, fS, noS⟩]).2 = pre ++ filesA s n unlink := fun nm h hk =>
    ⟨[], files_tail nm s n s.size unlink hn hns h100 h hk⟩
  have un : KOk (fK2 fS s s.size 0) → ∃ pre, (runK (fK2 fS s s.size 0) ((if unlink then [⟨4, 0, 0, 0, fS, noS⟩] else []) ++ [⟨7, 0, 1, n, noS, noS⟩, ⟨7, 0, 1, (100 : Nat), noS, noS⟩, ⟨7, 0, 1, (1 : Nat), noS, noS⟩, ⟨5, 0, 0, 0, fS, noS⟩])).2 = pre ++ filesA s n unlink := fun hk => by
    cases hu : unlink with
    | false => rw [hu] at fin; exact fin _ rfl hk
    | true =>
      rw [hu] at fin step
      exact step hk ⟨by simp, by simp⟩ (st_unlink s s.size 0) fun k => fin _ rfl k
  unfold filesL
  rw [List.append_assoc, List.append_assoc, List.cons_append, List.cons_append, List.cons_append, List.cons_append, List.nil_append]
  refine step newK_ok ⟨by simp, by simp⟩ st_create fun k1 => ?_
  refine step k1 ⟨by simp, by simp⟩ (st_open noS [dead, dead, dead]) fun k2 => ?_
  refine step k2 ⟨by simp, by simp⟩ st_open2 fun k3 => ?_
  refine step k3 ⟨by simp, by simp⟩ hw1 fun k4 => ?_
  by_cases h : n < s.size
  · rw [if_pos h]
    have hw3 := hw2 (by omega) (by omega)
    rw [show n + (s.size - n) = s.size by omega] at hw3
    exact step k4 ⟨by simp, by simp⟩ hw3 fun k5 => un k5
  · rw [if_neg h]
    have hns' : n = s.size := by omega
    have e : cutS s 0 n = s := cutS_full (by omega)
    rw [e] at k4 ⊢
    rw [List.nil_append]
    rw [hns'] at k4 ⊢
    rw [hns'] at un
    exact un k4
end Go.Proofs.YtdjamdbamkhblacDoor
