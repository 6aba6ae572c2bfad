/- What the library's words are in those of TextP: cut, split, Atoi, Index. Plain mathematics. -/
import Derived.Test.YtdjamdbamkhblacDoorTextP
import Derived.Lib.IndexMore
import Derived.Lib.IndexBytes
import Derived.Lib.CountLaws
import Derived.Lib.Split
import Derived.Lib.SplitLaws
import Derived.Lib.AtoiAll
import Derived.Lib.AtoiAllCases
import Derived.Lib.ItoaMem
import Derived.Lib.SlicesS
namespace Go.Proofs.YtdjamdbamkhblacDoor
set_option linter.unusedVariables false
set_option linter.unusedSimpArgs false
theorem idx_cut (s : List UInt8) : (Lib.indexByte s 10 = -1 ∧ cutN s = none) ∨ ∃ i : Nat, Lib.indexByte s 10 = (i : Int) ∧ cutN s = some (s.take i, s.drop (i + 1)) := by
  induction s with
  | nil => exact .inl ⟨rfl, rfl⟩
  | cons c r ih =>
    unfold Lib.indexByte cutN
    by_cases hc : c = 10
    · right
      exact ⟨0, by rw [hc]; rfl, by rw [if_pos hc]; rfl⟩
    · rw [if_neg hc, if_neg (by simpa using hc)]
      rcases ih with ⟨h1, h2⟩ | ⟨i, h1, h2⟩
      · left
        rw [h1, h2]
        exact ⟨rfl, rfl⟩
      · right
        refine ⟨i + 1, ?_, ?_⟩
        · rw [h1, if_neg (by simp <;> omega)]; push_cast; rfl
        · rw [h2]; rfl
theorem cut_cutN (s : List UInt8) : Lib.cut s [10] = match cutN s with
    | some (a, b) => (a, b, true)
    | none => (s, [], false) := by
  unfold Lib.cut
  rw [Lib.index_one]
  rcases idx_cut s with ⟨h1, h2⟩ | ⟨i, h1, h2⟩
  · rw [h1, h2]; rfl
  · rw [h1, h2, if_pos (by omega)]
    simp
theorem idx_words (s : List UInt8) : (Lib.indexByte s 32 = -1 ∧ wordsL s = [s]) ∨ ∃ i : Nat, Lib.indexByte s 32 = (i : Int) ∧ i < s.length ∧ wordsL s = s.take i :: wordsL (s.drop (i + 1)) := by
  induction s with
  | nil => exact .inl ⟨rfl, rfl⟩
  | cons c r ih =>
    unfold Lib.indexByte
    rw [wordsL]
    by_cases hc : c = 32
    · right
      refine ⟨0, by rw [hc]; rfl, by simp, by rw [if_pos hc]; rfl⟩
    · rw [if_neg hc, if_neg (by simpa using hc)]
      rcases ih with ⟨h1, h2⟩ | ⟨i, h1, h3, h2⟩
      · left
        rw [h1, h2]
        exact ⟨rfl, rfl⟩
      · right
        refine ⟨i + 1, ?_, by simp; omega, ?_⟩
        · rw [h1, if_neg (by simp <;> omega)]; push_cast; rfl
        · rw [h2]; rfl
theorem split_words : ∀ (n : Nat) (s : List UInt8), s.length ≤ n → Lib.splitK [32] 0 (Lib.count s [32]) s = wordsL s := by
  intro n
  induction n with
  | zero =>
    intro s hs
    obtain rfl : s = [] := List.eq_nil_of_length_eq_zero (by omega)
    rfl
  | succ n ih =>
    intro s hs
    rcases idx_words s with ⟨h1, h2⟩ | ⟨i, h1, h3, h2⟩
    · rw [Lib.count_miss (by rw [Lib.index_one]; exact h1), h2]; rfl
    · have hi : Lib.index s [32] = (i : Int) := by rw [Lib.index_one]; exact h1
      rw [Lib.count_hit (by simp) hi, Nat.add_comm, Lib.splitK, hi, if_neg (by simp <;> omega), h2]
      simp only [Int.toNat_natCast, Nat.add_zero, List.length_singleton]
      rw [ih (s.drop (i + 1)) (by simp; omega)]
/-- Digits are read as their number. -/
theorem parse_digits (l : List UInt8) : ∀ acc : Nat, (∀ c ∈ l, isDig c = true) → l.foldl (fun n c => 10 * n + (c.toNat - 48)) acc ≤ 1000000 → Lib.parseUint10 acc l = .ok (l.foldl (fun n c => 10 * n + (c.toNat - 48)) acc) := by
  induction l with
  | nil => intro acc _ _; rfl
  | cons c r ih =>
    intro acc hd hb
    have hc := hd c (by simp)
    simp [isDig] at hc
    have hm : ∀ (l : List UInt8) (a : Nat), a ≤ l.foldl (fun n c => 10 * n + (c.toNat - 48)) a := by
      intro l
      induction l with
      | nil => intro a; exact Nat.le_refl _
      | cons x y ih2 => intro a; exact Nat.le_trans (by omega) (ih2 (10 * a + (x.toNat - 48)))
    have h1 := hm r (10 * acc + (c.toNat - 48))
    simp only [List.foldl_cons] at hb ⊢
    unfold Lib.parseUint10
    rw [if_pos (by omega), if_neg (by omega), if_neg (by omega), Nat.mul_comm acc 10]
    exact ih _ (fun x hx => hd x (by simp [hx])) hb
theorem atoi_dec {n : Nat} (h : n ≤ 65535) : Lib.atoiAll (decL n) = .ok (n : Int) := by
  cases hd : decL n with
  | nil => exact absurd hd (decL_ne n)
  | cons c r =>
    have hdig := decL_dig n
    rw [hd] at hdig
    have hc := hdig c (by simp)
    simp [isDig] at hc
    have hv : (c :: r).foldl (fun n c => 10 * n + (c.toNat - 48)) 0 = n := by rw [← hd]; exact decL_val n
    have hp : Lib.parseMag (c :: r) = .ok n := by
      unfold Lib.parseMag
      rw [if_neg (by simp), parse_digits _ 0 hdig (by rw [hv]; omega), hv]
    unfold Lib.atoiAll
    simp only
    rw [if_neg (by omega), hp]
    simp only
    rw [if_neg (by omega), if_neg (by omega), if_neg (by omega)]
theorem decL_libD (n : Nat) : Lib.decDigits n = decL n := by
  induction n using Nat.strongRecOn with
  | _ n ih =>
    rw [Lib.decDigits, decL]
    split
    · rfl
    · rw [ih (n / 10) (by omega)]; rfl
theorem itoa_dec {v : Int} (h : 0 ≤ v) : Lib.itoa v = decL v.toNat := by
  unfold Lib.itoa
  rw [if_neg (by omega), decL_libD]
/-- A part's number: what Atoi and Itoa say of it. -/
theorem num_ok {t : List UInt8} {g : Nat} (hg : g ≤ 65535) {v : Int} (h : Lib.atoiAll t = .ok v) (h0 : 0 ≤ v) (h1 : v ≤ g) (hi : Lib.itoa v = t) : numL g t = some v.toNat := by
  rw [itoa_dec h0] at hi
  rw [← hi]
  exact numL_dec (by omega)
theorem num_bad {t : List UInt8} {g n : Nat} (hg : g ≤ 65535) (h : numL g t = some n) : Lib.atoiAll t = .ok (n : Int) ∧ n ≤ g ∧ Lib.itoa (n : Int) = t := by
  obtain ⟨e, hn⟩ := numL_some h
  refine ⟨by rw [e]; exact atoi_dec (by omega), hn, ?_⟩
  rw [itoa_dec (by omega), Int.toNat_natCast, e]
/-- The names from the first kind on. -/
def namesB : List ByteArray := (List.range 15).map fun k => ⟨(nmL (k + 1)).toArray⟩
theorem namesB_at {k : Nat} (hk : k < 15) : namesB.getD k ByteArray.empty = ⟨(nmL (k + 1)).toArray⟩ := by
  unfold namesB
  rw [List.getD_eq_getElem?_getD, List.getElem?_map, List.getElem?_range hk]
  rfl
theorem ba_eq {a b : List UInt8} (h : (⟨a.toArray⟩ : ByteArray) = ⟨b.toArray⟩) : a = b := by
  have := congrArg (fun x : ByteArray => x.data.toList) h
  simpa using this
theorem idxFromS_no (x : ByteArray) : ∀ (zs : List ByteArray) (i : Nat), (∀ z ∈ zs, z ≠ x) → Lib.idxFromS zs x i = -1 := by
  intro zs
  induction zs with
  | nil => intro i _; rfl
  | cons z r ih =>
    intro i h
    unfold Lib.idxFromS
    rw [if_neg (by have := h z (by simp); simpa using this)]
    exact ih (i + 1) fun y hy => h y (by simp [hy])
theorem names_idx (w : List UInt8) : Lib.idxOfS namesB ⟨w.toArray⟩ = (opOf w : Int) - 1 := by
  have hlen : namesB.length = 15 := by simp [namesB]
  by_cases h : opOf w = 0
  · rw [h]
    unfold Lib.idxOfS
    rw [idxFromS_no]
    · rfl
    · intro z hz e
      unfold namesB at hz
      rw [List.mem_map] at hz
      obtain ⟨k, hk, rfl⟩ := hz
      rw [List.mem_range] at hk
      have := ba_eq e
      have h2 := opOf_nm (q := k + 1) (by omega) (by omega)
      rw [this, h] at h2
      omega
  · obtain ⟨h1, h2, h3⟩ := opOf_some h
    unfold Lib.idxOfS
    rw [Lib.idxFromS_hit ⟨w.toArray⟩ namesB (opOf w - 1) 0 (by omega) (by rw [namesB_at (by omega), Nat.sub_add_cancel h1, h3]) (fun j hj e => by
      rw [namesB_at (by omega)] at e
      have e2 := ba_eq e
      have h4 := opOf_nm (q := j + 1) (by omega) (by omega)
      rw [e2] at h4
      omega)]
    omega
end Go.Proofs.YtdjamdbamkhblacDoor
