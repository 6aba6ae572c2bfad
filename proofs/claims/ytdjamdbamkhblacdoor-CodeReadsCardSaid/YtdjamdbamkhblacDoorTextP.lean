/- Code as text, and back: plain mathematics. -/
import Derived.Test.YtdjamdbamkhblacDoorCodecP
import Derived.Test.YtdjamdbamkhblacDoorCode
namespace Go.Proofs.YtdjamdbamkhblacDoor
/-- A number in tens. -/
def decL (n : Nat) : List UInt8 := if h : n < 10 then [u8 (48 + n)] else decL (n / 10) ++ [u8 (48 + n % 10)]
termination_by n
decreasing_by omega
/-- The names of the kinds. -/
def nmL (q : Nat) : List UInt8 :=
  match q with
  | 1 => [108, 105] | 2 => [97, 100, 100] | 3 => [115, 117, 98] | 4 => [97, 110, 100] | 5 => [111, 114] | 6 => [120, 111, 114] | 7 => [108, 116] | 8 => [108, 100] | 9 => [115, 116]
  | 10 => [106, 109, 112] | 11 => [106, 122] | 12 => [99, 97, 108, 108] | 13 => [114, 101, 116] | 14 => [116, 101, 108, 108] | 15 => [104, 97, 108, 116]
  | _ => []
def shL (q : Nat) : List UInt8 := (shp q).data.toList
/-- Cut at a byte: the pieces. -/
def wordsL : List UInt8 → List (List UInt8)
  | [] => [[]]
  | c :: r => if c = 32 then [] :: wordsL r else match wordsL r with
    | [] => [[c]]
    | w :: ws => (c :: w) :: ws
def isDig (c : UInt8) : Bool := decide (48 ≤ c.toNat ∧ c.toNat ≤ 57)
def valL (t : List UInt8) : Nat := t.foldl (fun n c => 10 * n + (c.toNat - 48)) 0
/-- A number of digits, as it is written. -/
def digL (t : List UInt8) : Bool := !t.isEmpty && t.all isDig && (t.length == 1 || t.head? != some 48)
def numL (g : Nat) (t : List UInt8) : Option Nat := if digL t = true ∧ valL t ≤ g then some (valL t) else none
def grtN (c : UInt8) : Nat := if c = 114 then 7 else if c = 119 then 65535 else if c = 112 then 199 else 0
def partL (c : UInt8) (t : List UInt8) : Option Nat :=
  if c = 114 then (match t with
    | d :: r => if d = 114 then numL 7 r else none
    | [] => none) else numL (grtN c) t
def partsL : List UInt8 → List (List UInt8) → Option (List Nat × List (List UInt8))
  | [], ws => some ([], ws)
  | c :: cs, ws => if c = 45 then (partsL cs ws).map fun x => (0 :: x.1, x.2) else match ws with
    | [] => none
    | t :: r => (partL c t).bind fun n => (partsL cs r).map fun x => (n :: x.1, x.2)
/-- The kind of a name; 0: it is none. -/
def opOf (w : List UInt8) : Nat := ((List.range 16).find? fun q => decide (1 ≤ q) && (nmL q == w)).getD 0
/-- A line that is read. -/
def lineL (s : List UInt8) : Option Ins :=
  match wordsL s with
  | [] => none
  | w :: ws => if opOf w = 0 then none else match partsL (shL (opOf w)) ws with
    | some ([a, b, c], []) => some ⟨opOf w, a, b, c⟩
    | _ => none
/-- Cut at the first end of a line. -/
def cutN : List UInt8 → Option (List UInt8 × List UInt8)
  | [] => none
  | c :: r => if c = 10 then some ([], r) else (cutN r).map fun x => (c :: x.1, x.2)
theorem cutN_len {s a b : List UInt8} (h : cutN s = some (a, b)) : b.length < s.length := by
  induction s generalizing a b with
  | nil => cases h
  | cons c r ih =>
    unfold cutN at h
    split at h
    · cases h; simp
    · cases hc : cutN r with
      | none => rw [hc] at h; cases h
      | some x =>
        rw [hc] at h
        obtain ⟨x1, x2⟩ := x
        cases h
        have := ih hc
        simp; omega
/-- Lines read as code, so many lines gone before: the code, the line that is wrong, the error. -/
def readL (s : List UInt8) (out : List Ins) : List Ins × Nat × Int :=
  if s = [] then (out, 0, 0) else
  match h : cutN s with
  | none => ([], out.length + 1, 5)
  | some (a, b) => if out.length = 200 then ([], out.length + 1, 1) else
    match lineL a with
    | none => ([], out.length + 1, 4)
    | some i => readL b (out ++ [i])
termination_by s.length
decreasing_by exact cutN_len h
def readT (s : List UInt8) : List Ins × Nat × Int := if 4000 < s.length then ([], 0, 1) else readL s []

/- What is written and read. -/
theorem dig_u8 {n : Nat} (h : n < 10) : (u8 (48 + n)).toNat = 48 + n := by rw [u8_toNat]; omega
theorem decL_ne (n : Nat) : decL n ≠ [] := by
  unfold decL; split <;> simp
theorem decL_dig (n : Nat) : ∀ c ∈ decL n, isDig c = true := by
  induction n using Nat.strongRecOn with
  | _ n ih =>
    unfold decL
    split
    · rename_i h
      intro c hc
      simp at hc
      subst hc
      simp [isDig, dig_u8 h]; omega
    · intro c hc
      rw [List.mem_append] at hc
      rcases hc with hc | hc
      · exact ih (n / 10) (by omega) c hc
      · simp at hc
        subst hc
        have : n % 10 < 10 := Nat.mod_lt _ (by omega)
        simp [isDig, dig_u8 this]; omega
theorem valL_app (a : List UInt8) (c : UInt8) : valL (a ++ [c]) = 10 * valL a + (c.toNat - 48) := by simp [valL, List.foldl_append]
theorem decL_val (n : Nat) : valL (decL n) = n := by
  induction n using Nat.strongRecOn with
  | _ n ih =>
    unfold decL
    split
    · rename_i h
      simp [valL, dig_u8 h]
    · have : n % 10 < 10 := Nat.mod_lt _ (by omega)
      rw [valL_app, ih (n / 10) (by omega), dig_u8 this]
      omega
theorem decL_head {n : Nat} (h : 0 < n) : (decL n).head? ≠ some 48 := by
  induction n using Nat.strongRecOn with
  | _ n ih =>
    unfold decL
    split
    · rename_i h10
      simp
      intro e
      have := congrArg UInt8.toNat e
      rw [dig_u8 h10] at this
      simp at this
      omega
    · have := ih (n / 10) (by omega) (by omega)
      rw [List.head?_append]
      cases hd : (decL (n / 10)).head? with
      | none => exact absurd (List.head?_eq_none_iff.1 hd) (decL_ne _)
      | some c => rw [hd] at this; simpa using this
theorem decL_digL (n : Nat) : digL (decL n) = true := by
  have h1 : (decL n).isEmpty = false := by cases hd : decL n with
    | nil => exact absurd hd (decL_ne n)
    | cons c r => rfl
  have h2 : (decL n).all isDig = true := List.all_eq_true.2 (decL_dig n)
  unfold digL
  rw [h1, h2]
  rcases Nat.eq_zero_or_pos n with h | h
  · subst h
    have : decL 0 = [48] := by unfold decL; rfl
    rw [this]; rfl
  · have := decL_head h
    simp [this]
theorem numL_dec {g n : Nat} (h : n ≤ g) : numL g (decL n) = some n := by
  unfold numL
  rw [if_pos ⟨decL_digL n, by rw [decL_val]; exact h⟩, decL_val]
theorem decL_snoc (m : Nat) (d : Nat) (hm : 0 < m) (hd : d < 10) : decL (10 * m + d) = decL m ++ [u8 (48 + d)] := by
  rw [decL]
  rw [dif_neg (by omega)]
  congr 1
  · congr 1; omega
  · congr 2; omega
/-- Digits without a 0 ahead are what their number is written as. -/
theorem dec_val {t : List UInt8} (h1 : t ≠ []) (h2 : ∀ c ∈ t, isDig c = true) (h3 : t.head? ≠ some 48) : decL (valL t) = t ∧ 0 < valL t := by
  generalize hn : t.length = n
  induction n generalizing t with
  | zero => exact absurd (List.eq_nil_of_length_eq_zero hn) h1
  | succ n ih =>
    obtain ⟨a, c, rfl⟩ : ∃ a c, t = a ++ [c] := ⟨t.dropLast, t.getLast h1, (List.dropLast_concat_getLast h1).symm⟩
    have hc := h2 c (by simp)
    simp [isDig] at hc
    have hcu : u8 (48 + (c.toNat - 48)) = c := by rw [show 48 + (c.toNat - 48) = c.toNat by omega, u8_of]
    rw [valL_app]
    by_cases ha : a = []
    · subst ha
      have hne : c ≠ 48 := fun e => h3 (by simp [e])
      have h48 : c.toNat ≠ 48 := fun e => hne (by rw [← u8_of c, e]; rfl)
      have : valL [] = 0 := rfl
      rw [this]
      refine ⟨?_, by omega⟩
      rw [show 10 * 0 + (c.toNat - 48) = c.toNat - 48 by omega]
      unfold decL
      rw [dif_pos (by omega), hcu]
      rfl
    · obtain ⟨e, p⟩ := ih ha (fun x hx => h2 x (by simp [hx])) (by
        intro e
        apply h3
        rw [List.head?_append, e]; rfl) (by simpa using hn)
      refine ⟨?_, by omega⟩
      rw [decL_snoc _ _ p (by omega), e, hcu]
theorem digL_dec {t : List UInt8} (h : digL t = true) : decL (valL t) = t := by
  unfold digL at h
  simp at h
  obtain ⟨⟨h1, h2⟩, h3⟩ := h
  by_cases h48 : t.head? = some 48
  · have hl : t.length = 1 := by
      rcases h3 with h | h
      · exact h
      · exact absurd h48 h
    obtain ⟨c, rfl⟩ := List.length_eq_one_iff.1 hl
    simp at h48
    subst h48
    show decL (10 * 0 + (48 - 48)) = [48]
    unfold decL; rfl
  · exact (dec_val h1 h2 h48).1
theorem numL_some {g n : Nat} {t : List UInt8} (h : numL g t = some n) : t = decL n ∧ n ≤ g := by
  unfold numL at h
  split at h
  · rename_i hh
    cases h
    exact ⟨(digL_dec hh.1).symm, hh.2⟩
  · cases h
theorem opOf_nm {q : Nat} (h1 : 1 ≤ q) (h2 : q ≤ 15) : opOf (nmL q) = q := by
  rcases q_cases h1 h2 with h | h | h | h | h | h | h | h | h | h | h | h | h | h | h <;> subst h <;> decide
theorem opOf_some {w : List UInt8} (h : opOf w ≠ 0) : 1 ≤ opOf w ∧ opOf w ≤ 15 ∧ nmL (opOf w) = w := by
  unfold opOf at h ⊢
  cases hf : (List.range 16).find? fun q => decide (1 ≤ q) && (nmL q == w) with
  | none => rw [hf] at h; exact absurd rfl h
  | some q =>
    have h1 := List.find?_some hf
    have h2 := List.mem_of_find?_eq_some hf
    simp at h1 h2
    simp only [Option.getD_some]
    exact ⟨h1.1, by omega, h1.2⟩
def noSp (w : List UInt8) : Prop := ∀ c ∈ w, c ≠ 32
theorem wordsL_no {w : List UInt8} (h : noSp w) : wordsL w = [w] := by
  induction w with
  | nil => rfl
  | cons c r ih =>
    unfold wordsL
    rw [if_neg (h c (by simp)), ih (fun x hx => h x (by simp [hx]))]
theorem wordsL_sp {w r : List UInt8} (h : noSp w) : wordsL (w ++ 32 :: r) = w :: wordsL r := by
  induction w with
  | nil => show wordsL (32 :: r) = _; rw [wordsL]; simp
  | cons c t ih =>
    show wordsL (c :: (t ++ 32 :: r)) = _
    rw [wordsL, if_neg (h c (by simp)), ih (fun x hx => h x (by simp [hx]))]
theorem wordsL_ne (s : List UInt8) : wordsL s ≠ [] := by
  cases s with
  | nil => simp [wordsL]
  | cons c r =>
    unfold wordsL
    split
    · simp
    · cases wordsL r <;> simp
theorem cutN_app {a b : List UInt8} (h : ∀ c ∈ a, c ≠ 10) : cutN (a ++ 10 :: b) = some (a, b) := by
  induction a with
  | nil => rfl
  | cons c r ih =>
    show cutN (c :: (r ++ 10 :: b)) = _
    unfold cutN
    rw [if_neg (h c (by simp)), ih (fun x hx => h x (by simp [hx]))]
    rfl
theorem cutN_no {a : List UInt8} (h : ∀ c ∈ a, c ≠ 10) : cutN a = none := by
  induction a with
  | nil => rfl
  | cons c r ih =>
    unfold cutN
    rw [if_neg (h c (by simp)), ih (fun x hx => h x (by simp [hx]))]
    rfl
theorem cutN_some {s a b : List UInt8} (h : cutN s = some (a, b)) : s = a ++ 10 :: b := by
  induction s generalizing a b with
  | nil => cases h
  | cons c r ih =>
    unfold cutN at h
    split at h
    · rename_i e; cases h; rw [e]; rfl
    · cases hc : cutN r with
      | none => rw [hc] at h; cases h
      | some x =>
        rw [hc] at h
        obtain ⟨x1, x2⟩ := x
        cases h
        rw [ih hc]; rfl
theorem readL_nil (out : List Ins) : readL [] out = (out, 0, 0) := by unfold readL; rfl
theorem readL_none {s : List UInt8} {out : List Ins} (hs : s ≠ []) (h : cutN s = none) : readL s out = ([], out.length + 1, 5) := by
  unfold readL
  rw [if_neg hs]
  split
  · rfl
  · rename_i e; rw [h] at e; cases e
theorem readL_cut {s a b : List UInt8} {out : List Ins} (h : cutN s = some (a, b)) : readL s out = if out.length = 200 then ([], out.length + 1, 1) else match lineL a with
    | none => ([], out.length + 1, 4)
    | some i => readL b (out ++ [i]) := by
  have hs : s ≠ [] := fun e => by subst e; cases h
  rw [readL.eq_def]
  rw [if_neg hs]
  split
  · rename_i e; rw [h] at e; cases e
  · rename_i e
    rw [h] at e
    cases e
    rfl
/- How long the text is. -/
end Go.Proofs.YtdjamdbamkhblacDoor
