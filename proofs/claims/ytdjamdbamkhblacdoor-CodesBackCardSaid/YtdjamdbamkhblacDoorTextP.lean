/- Code as text, and back: plain mathematics. -/
import Derived.Test.YtdjamdbamkhblacDoorCodecP
import Derived.Test.YtdjamdbamkhblacDoorCode
namespace Go.Proofs.YtdjamdbamkhblacDoor
/-- A number in tens. -/
def decL (n : Nat) : List UInt8 := if h : n < 10 then [u8 (48 + n)] else decL (n / 10) ++ [u8 (48 + n % 10)]
termination_by n
decreasing_by omega
/-- The names of the kinds. -/
def nmL (q : Nat) : List UInt8 :=
  match q with
  | 1 => [108, 105] | 2 => [97, 100, 100] | 3 => [115, 117, 98] | 4 => [97, 110, 100] | 5 => [111, 114] | 6 => [120, 111, 114] | 7 => [108, 116] | 8 => [108, 100] | 9 => [115, 116]
  | 10 => [106, 109, 112] | 11 => [106, 122] | 12 => [99, 97, 108, 108] | 13 => [114, 101, 116] | 14 => [116, 101, 108, 108] | 15 => [104, 97, 108, 116]
  | _ => []
def shL (q : Nat) : List UInt8 := (shp q).data.toList
/-- A part as text. -/
def partT (c : UInt8) (n : Nat) : List UInt8 := if c = 114 then 32 :: 114 :: decL n else if c = 45 then [] else 32 :: decL n
/-- Parts as text. -/
def partsT : List UInt8 → List Nat → List UInt8
  | c :: cs, n :: ns => partT c n ++ partsT cs ns
  | _, _ => []
/-- A line, without its end. -/
def lineT (i : Ins) : List UInt8 := nmL i.op.toNat ++ partsT (shL i.op.toNat) [i.a.toNat, i.b.toNat, i.c.toNat]
def insT (i : Ins) : List UInt8 := lineT i ++ [10]
/-- Code as text. -/
def showT (l : List Ins) : List UInt8 := l.flatMap insT

/-- Cut at a byte: the pieces. -/
def wordsL : List UInt8 → List (List UInt8)
  | [] => [[]]
  | c :: r => if c = 32 then [] :: wordsL r else match wordsL r with
    | [] => [[c]]
    | w :: ws => (c :: w) :: ws
def isDig (c : UInt8) : Bool := decide (48 ≤ c.toNat ∧ c.toNat ≤ 57)
def valL (t : List UInt8) : Nat := t.foldl (fun n c => 10 * n + (c.toNat - 48)) 0
/-- A number of digits, as it is written. -/
def digL (t : List UInt8) : Bool := !t.isEmpty && t.all isDig && (t.length == 1 || t.head? != some 48)
def numL (g : Nat) (t : List UInt8) : Option Nat := if digL t = true ∧ valL t ≤ g then some (valL t) else none
def grtN (c : UInt8) : Nat := if c = 114 then 7 else if c = 119 then 65535 else if c = 112 then 199 else 0
def partL (c : UInt8) (t : List UInt8) : Option Nat :=
  if c = 114 then (match t with
    | d :: r => if d = 114 then numL 7 r else none
    | [] => none) else numL (grtN c) t
def partsL : List UInt8 → List (List UInt8) → Option (List Nat × List (List UInt8))
  | [], ws => some ([], ws)
  | c :: cs, ws => if c = 45 then (partsL cs ws).map fun x => (0 :: x.1, x.2) else match ws with
    | [] => none
    | t :: r => (partL c t).bind fun n => (partsL cs r).map fun x => (n :: x.1, x.2)
/-- The kind of a name; 0: it is none. -/
def opOf (w : List UInt8) : Nat := ((List.range 16).find? fun q => decide (1 ≤ q) && (nmL q == w)).getD 0
/-- A line that is read. -/
def lineL (s : List UInt8) : Option Ins :=
  match wordsL s with
  | [] => none
  | w :: ws => if opOf w = 0 then none else match partsL (shL (opOf w)) ws with
    | some ([a, b, c], []) => some ⟨opOf w, a, b, c⟩
    | _ => none
/-- Cut at the first end of a line. -/
def cutN : List UInt8 → Option (List UInt8 × List UInt8)
  | [] => none
  | c :: r => if c = 10 then some ([], r) else (cutN r).map fun x => (c :: x.1, x.2)
theorem cutN_len {s a b : List UInt8} (h : cutN s = some (a, b)) : b.length < s.length := by
  induction s generalizing a b with
  | nil => cases h
  | cons c r ih =>
    unfold cutN at h
    split at h
    · cases h; simp
    · cases hc : cutN r with
      | none => rw [hc] at h; cases h
      | some x =>
        rw [hc] at h
        obtain ⟨x1, x2⟩ := x
        cases h
        have := ih hc
        simp; omega
/-- Lines read as code, so many lines gone before: the code, the line that is wrong, the error. -/
def readL (s : List UInt8) (out : List Ins) : List Ins × Nat × Int :=
  if s = [] then (out, 0, 0) else
  match h : cutN s with
  | none => ([], out.length + 1, 5)
  | some (a, b) => if out.length = 200 then ([], out.length + 1, 1) else
    match lineL a with
    | none => ([], out.length + 1, 4)
    | some i => readL b (out ++ [i])
termination_by s.length
decreasing_by exact cutN_len h
def readT (s : List UInt8) : List Ins × Nat × Int := if 4000 < s.length then ([], 0, 1) else readL s []

/- What is written and read. -/
theorem dig_u8 {n : Nat} (h : n < 10) : (u8 (48 + n)).toNat = 48 + n := by rw [u8_toNat]; omega
theorem decL_ne (n : Nat) : decL n ≠ [] := by
  unfold decL; split <;> simp
theorem decL_dig (n : Nat) : ∀ c ∈ decL n, isDig c = true := by
  induction n using Nat.strongRecOn with
  | _ n ih =>
    unfold decL
    split
    · rename_i h
      intro c hc
      simp at hc
      subst hc
      simp [isDig, dig_u8 h]; omega
    · intro c hc
      rw [List.mem_append] at hc
      rcases hc with hc | hc
      · exact ih (n / 10) (by omega) c hc
      · simp at hc
        subst hc
        have : n % 10 < 10 := Nat.mod_lt _ (by omega)
        simp [isDig, dig_u8 this]; omega
theorem valL_app (a : List UInt8) (c : UInt8) : valL (a ++ [c]) = 10 * valL a + (c.toNat - 48) := by simp [valL, List.foldl_append]
theorem decL_val (n : Nat) : valL (decL n) = n := by
  induction n using Nat.strongRecOn with
  | _ n ih =>
    unfold decL
    split
    · rename_i h
      simp [valL, dig_u8 h]
    · have : n % 10 < 10 := Nat.mod_lt _ (by omega)
      rw [valL_app, ih (n / 10) (by omega), dig_u8 this]
      omega
theorem decL_head {n : Nat} (h : 0 < n) : (decL n).head? ≠ some 48 := by
  induction n using Nat.strongRecOn with
  | _ n ih =>
    unfold decL
    split
    · rename_i h10
      simp
      intro e
      have := congrArg UInt8.toNat e
      rw [dig_u8 h10] at this
      simp at this
      omega
    · have := ih (n / 10) (by omega) (by omega)
      rw [List.head?_append]
      cases hd : (decL (n / 10)).head? with
      | none => exact absurd (List.head?_eq_none_iff.1 hd) (decL_ne _)
      | some c => rw [hd] at this; simpa using this
theorem decL_digL (n : Nat) : digL (decL n) = true := by
  have h1 : (decL n).isEmpty = false := by cases hd : decL n with
    | nil => exact absurd hd (decL_ne n)
    | cons c r => rfl
  have h2 : (decL n).all isDig = true := List.all_eq_true.2 (decL_dig n)
  unfold digL
  rw [h1, h2]
  rcases Nat.eq_zero_or_pos n with h | h
  · subst h
    have : decL 0 = [48] := by unfold decL; rfl
    rw [this]; rfl
  · have := decL_head h
    simp [this]
theorem numL_dec {g n : Nat} (h : n ≤ g) : numL g (decL n) = some n := by
  unfold numL
  rw [if_pos ⟨decL_digL n, by rw [decL_val]; exact h⟩, decL_val]
theorem decL_snoc (m : Nat) (d : Nat) (hm : 0 < m) (hd : d < 10) : decL (10 * m + d) = decL m ++ [u8 (48 + d)] := by
  rw [decL]
  rw [dif_neg (by omega)]
  congr 1
  · congr 1; omega
  · congr 2; omega
/-- Digits without a 0 ahead are what their number is written as. -/
theorem dec_val {t : List UInt8} (h1 : t ≠ []) (h2 : ∀ c ∈ t, isDig c = true) (h3 : t.head? ≠ some 48) : decL (valL t) = t ∧ 0 < valL t := by
  generalize hn : t.length = n
  induction n generalizing t with
  | zero => exact absurd (List.eq_nil_of_length_eq_zero hn) h1
  | succ n ih =>
    obtain ⟨a, c, rfl⟩ : ∃ a c, t = a ++ [c] := ⟨t.dropLast, t.getLast h1, (List.dropLast_concat_getLast h1).symm⟩
    have hc := h2 c (by simp)
    simp [isDig] at hc
    have hcu : u8 (48 + (c.toNat - 48)) = c := by rw [show 48 + (c.toNat - 48) = c.toNat by omega, u8_of]
    rw [valL_app]
    by_cases ha : a = []
    · subst ha
      have hne : c ≠ 48 := fun e => h3 (by simp [e])
      have h48 : c.toNat ≠ 48 := fun e => hne (by rw [← u8_of c, e]; rfl)
      have : valL [] = 0 := rfl
      rw [this]
      refine ⟨?_, by omega⟩
      rw [show 10 * 0 + (c.toNat - 48) = c.toNat - 48 by omega]
      unfold decL
      rw [dif_pos (by omega), hcu]
      rfl
    · obtain ⟨e, p⟩ := ih ha (fun x hx => h2 x (by simp [hx])) (by
        intro e
        apply h3
        rw [List.head?_append, e]; rfl) (by simpa using hn)
      refine ⟨?_, by omega⟩
      rw [decL_snoc _ _ p (by omega), e, hcu]
theorem digL_dec {t : List UInt8} (h : digL t = true) : decL (valL t) = t := by
  unfold digL at h
  simp at h
  obtain ⟨⟨h1, h2⟩, h3⟩ := h
  by_cases h48 : t.head? = some 48
  · have hl : t.length = 1 := by
      rcases h3 with h | h
      · exact h
      · exact absurd h48 h
    obtain ⟨c, rfl⟩ := List.length_eq_one_iff.1 hl
    simp at h48
    subst h48
    show decL (10 * 0 + (48 - 48)) = [48]
    unfold decL; rfl
  · exact (dec_val h1 h2 h48).1
theorem numL_some {g n : Nat} {t : List UInt8} (h : numL g t = some n) : t = decL n ∧ n ≤ g := by
  unfold numL at h
  split at h
  · rename_i hh
    cases h
    exact ⟨(digL_dec hh.1).symm, hh.2⟩
  · cases h
theorem opOf_nm {q : Nat} (h1 : 1 ≤ q) (h2 : q ≤ 15) : opOf (nmL q) = q := by
  rcases q_cases h1 h2 with h | h | h | h | h | h | h | h | h | h | h | h | h | h | h <;> subst h <;> decide
theorem opOf_some {w : List UInt8} (h : opOf w ≠ 0) : 1 ≤ opOf w ∧ opOf w ≤ 15 ∧ nmL (opOf w) = w := by
  unfold opOf at h ⊢
  cases hf : (List.range 16).find? fun q => decide (1 ≤ q) && (nmL q == w) with
  | none => rw [hf] at h; exact absurd rfl h
  | some q =>
    have h1 := List.find?_some hf
    have h2 := List.mem_of_find?_eq_some hf
    simp at h1 h2
    simp only [Option.getD_some]
    exact ⟨h1.1, by omega, h1.2⟩
def noSp (w : List UInt8) : Prop := ∀ c ∈ w, c ≠ 32
theorem wordsL_no {w : List UInt8} (h : noSp w) : wordsL w = [w] := by
  induction w with
  | nil => rfl
  | cons c r ih =>
    unfold wordsL
    rw [if_neg (h c (by simp)), ih (fun x hx => h x (by simp [hx]))]
theorem wordsL_sp {w r : List UInt8} (h : noSp w) : wordsL (w ++ 32 :: r) = w :: wordsL r := by
  induction w with
  | nil => show wordsL (32 :: r) = _; rw [wordsL]; simp
  | cons c t ih =>
    show wordsL (c :: (t ++ 32 :: r)) = _
    rw [wordsL, if_neg (h c (by simp)), ih (fun x hx => h x (by simp [hx]))]
def joinL : List (List UInt8) → List UInt8
  | [] => []
  | [w] => w
  | w :: x :: ws => w ++ 32 :: joinL (x :: ws)
theorem wordsL_ne (s : List UInt8) : wordsL s ≠ [] := by
  cases s with
  | nil => simp [wordsL]
  | cons c r =>
    unfold wordsL
    split
    · simp
    · cases wordsL r <;> simp
theorem join_words (s : List UInt8) : joinL (wordsL s) = s := by
  induction s with
  | nil => rfl
  | cons c r ih =>
    unfold wordsL
    split
    · rename_i h
      subst h
      cases hw : wordsL r with
      | nil => exact absurd hw (wordsL_ne r)
      | cons w ws => rw [hw] at ih; show [] ++ 32 :: joinL (w :: ws) = _; rw [ih]; rfl
    · cases hw : wordsL r with
      | nil => exact absurd hw (wordsL_ne r)
      | cons w ws =>
        rw [hw] at ih
        cases ws with
        | nil => simp [joinL] at ih ⊢; exact ih
        | cons x xs => simp [joinL] at ih ⊢; exact ih
/-- A part's words. -/
def pieceT (c : UInt8) (n : Nat) : List (List UInt8) := if c = 114 then [114 :: decL n] else if c = 45 then [] else [decL n]
def piecesT : List UInt8 → List Nat → List (List UInt8)
  | c :: cs, n :: ns => pieceT c n ++ piecesT cs ns
  | _, _ => []
theorem decL_sp (n : Nat) : noSp (decL n) := fun c hc e => by
  have := decL_dig n c hc
  subst e
  simp [isDig] at this
theorem words_parts (cs : List UInt8) : ∀ (ns : List Nat) (w : List UInt8), noSp w → wordsL (w ++ partsT cs ns) = w :: piecesT cs ns := by
  induction cs with
  | nil => intro ns w h; rw [partsT, piecesT, List.append_nil, wordsL_no h] <;> simp
  | cons c cs ih =>
    intro ns w h
    cases ns with
    | nil => rw [partsT, piecesT, List.append_nil, wordsL_no h] <;> simp
    | cons n ns =>
      rw [partsT, piecesT]
      unfold partT pieceT
      by_cases h1 : c = 114
      · rw [if_pos h1, if_pos h1]
        rw [show w ++ (32 :: 114 :: decL n ++ partsT cs ns) = w ++ 32 :: ((114 :: decL n) ++ partsT cs ns) by simp, wordsL_sp h, ih ns _ (fun x hx => by
          simp at hx
          rcases hx with hx | hx
          · subst hx; decide
          · exact decL_sp n x hx)]
        rfl
      · rw [if_neg h1, if_neg h1]
        by_cases h2 : c = 45
        · rw [if_pos h2, if_pos h2]
          exact ih ns w h
        · rw [if_neg h2, if_neg h2]
          rw [show w ++ (32 :: decL n ++ partsT cs ns) = w ++ 32 :: (decL n ++ partsT cs ns) by simp, wordsL_sp h, ih ns _ (decL_sp n)]
          rfl
/-- Are the parts such as may be? -/
def partsOk : List UInt8 → List Nat → Prop
  | c :: cs, n :: ns => (n ≤ grtN c) ∧ partsOk cs ns
  | [], [] => True
  | _, _ => False
theorem grtN_dash : grtN 45 = 0 := rfl
theorem partsL_pieces (cs : List UInt8) : ∀ (ns : List Nat), partsOk cs ns → partsL cs (piecesT cs ns) = some (ns, []) := by
  induction cs with
  | nil => intro ns h; cases ns with
    | nil => rfl
    | cons n ns => exact absurd h id
  | cons c cs ih =>
    intro ns h
    cases ns with
    | nil => exact absurd h id
    | cons n ns =>
      obtain ⟨h1, h2⟩ := h
      rw [piecesT]
      unfold partsL
      unfold pieceT
      by_cases h114 : c = 114
      · subst h114
        rw [if_pos rfl, if_neg (by decide)]
        show (partL 114 (114 :: decL n)).bind _ = _
        have e1 : partL 114 (114 :: decL n) = some n := by
          show (if (114 : UInt8) = 114 then numL 7 (decL n) else none) = some n
          rw [if_pos rfl, numL_dec (show n ≤ 7 from h1)]
        rw [e1]
        show ((partsL cs (piecesT cs ns)).map _) = _
        rw [ih ns h2]; rfl
      · rw [if_neg h114]
        by_cases h45 : c = 45
        · subst h45
          rw [if_pos rfl, if_pos rfl]
          have h0 : n = 0 := by rw [grtN_dash] at h1; omega
          subst h0
          show ((partsL cs (piecesT cs ns)).map _) = _
          rw [ih ns h2]; rfl
        · rw [if_neg h45, if_neg h45]
          show (partL c (decL n)).bind _ = _
          have e1 : partL c (decL n) = some n := by
            unfold partL
            rw [if_neg h114, numL_dec h1]
          rw [e1]
          show ((partsL cs (piecesT cs ns)).map _) = _
          rw [ih ns h2]; rfl
theorem partsL_some (cs : List UInt8) : ∀ (ws : List (List UInt8)) (ns : List Nat) (r : List (List UInt8)), partsL cs ws = some (ns, r) → ws = piecesT cs ns ++ r ∧ partsOk cs ns := by
  induction cs with
  | nil => intro ws ns r h; simp [partsL] at h; obtain ⟨rfl, rfl⟩ := h; exact ⟨rfl, trivial⟩
  | cons c cs ih =>
    intro ws ns r h
    unfold partsL at h
    by_cases h45 : c = 45
    · rw [if_pos h45] at h
      cases hp : partsL cs ws with
      | none => rw [hp] at h; cases h
      | some x =>
        obtain ⟨x1, x2⟩ := x
        rw [hp] at h
        cases h
        obtain ⟨e, o⟩ := ih ws x1 x2 hp
        refine ⟨?_, by rw [h45, grtN_dash]; exact Nat.zero_le _, o⟩
        rw [piecesT]
        unfold pieceT
        rw [if_neg (by rw [h45]; decide), if_pos h45]
        exact e
    · rw [if_neg h45] at h
      cases ws with
      | nil => cases h
      | cons t r' =>
        simp only at h
        cases hq : partL c t with
        | none => rw [hq] at h; cases h
        | some n =>
          rw [hq] at h
          simp only [Option.bind_some] at h
          cases hp : partsL cs r' with
          | none => rw [hp] at h; cases h
          | some x =>
            obtain ⟨x1, x2⟩ := x
            rw [hp] at h
            cases h
            obtain ⟨e, o⟩ := ih r' x1 x2 hp
            have hb : t :: r' = pieceT c n ++ r' ∧ n ≤ grtN c := by
              unfold partL at hq
              unfold pieceT
              by_cases h114 : c = 114
              · rw [if_pos h114] at hq ⊢
                cases t with
                | nil => cases hq
                | cons d u =>
                  simp only at hq
                  split at hq
                  · rename_i hd
                    obtain ⟨e1, e2⟩ := numL_some hq
                    subst hd
                    subst e1
                    exact ⟨rfl, by rw [h114]; exact e2⟩
                  · cases hq
              · rw [if_neg h114] at hq ⊢
                rw [if_neg h45]
                obtain ⟨e1, e2⟩ := numL_some hq
                subst e1
                exact ⟨rfl, e2⟩
            refine ⟨?_, hb.2, o⟩
            rw [hb.1, e, piecesT, List.append_assoc]
theorem nmL_sp {q : Nat} (h1 : 1 ≤ q) (h2 : q ≤ 15) : noSp (nmL q) := by
  rcases q_cases h1 h2 with h | h | h | h | h | h | h | h | h | h | h | h | h | h | h <;> subst h <;> unfold noSp nmL <;> decide
theorem okI_parts {i : Ins} (h1 : 1 ≤ i.op) (h2 : i.op ≤ 15) (h : okI i = true) : partsOk (shL i.op.toNat) [i.a.toNat, i.b.toNat, i.c.toNat] := by
  obtain ⟨q, hq⟩ : ∃ q : Nat, i.op = q := ⟨i.op.toNat, by omega⟩
  unfold okI at h
  simp at h
  rw [hq] at h ⊢
  have q1 : 1 ≤ q := by omega
  have q2 : q ≤ 15 := by omega
  simp only [Int.toNat_natCast]
  rcases q_cases q1 q2 with e | e | e | e | e | e | e | e | e | e | e | e | e | e | e <;> subst e <;> simp [gA, gB, gC] at h <;> (unfold shL shp; simp [partsOk, grtN]; omega)
theorem parts_okI {q : Nat} (h1 : 1 ≤ q) (h2 : q ≤ 15) {a b c : Nat} (h : partsOk (shL q) [a, b, c]) : okI ⟨q, a, b, c⟩ = true := by
  rcases q_cases h1 h2 with e | e | e | e | e | e | e | e | e | e | e | e | e | e | e <;> subst e <;> (unfold shL shp at h; simp [partsOk, grtN] at h; unfold okI; simp [gA, gB, gC]; omega)
theorem lineL_lineT {i : Ins} (h1 : 1 ≤ i.op) (h2 : i.op ≤ 15) (h : okI i = true) : lineL (lineT i) = some i := by
  have q1 : 1 ≤ i.op.toNat := by omega
  have q2 : i.op.toNat ≤ 15 := by omega
  unfold lineL lineT
  rw [words_parts _ _ _ (nmL_sp q1 q2)]
  simp only
  rw [opOf_nm q1 q2, if_neg (by omega), partsL_pieces _ _ (okI_parts h1 h2 h)]
  unfold okI at h
  simp at h
  obtain ⟨⟨⟨a1, _⟩, b1, _⟩, c1, _⟩ := h
  obtain ⟨op, a, b, c⟩ := i
  simp only at *
  congr 2 <;> omega
theorem join_cons (w : List UInt8) (ws : List (List UInt8)) (h : ws ≠ []) : joinL (w :: ws) = w ++ 32 :: joinL ws := by
  cases ws with
  | nil => exact absurd rfl h
  | cons x xs => rfl
theorem join_pieces (cs : List UInt8) : ∀ (ns : List Nat) (w : List UInt8), joinL (w :: piecesT cs ns) = w ++ partsT cs ns := by
  induction cs with
  | nil => intro ns w; simp [piecesT, partsT, joinL]
  | cons c cs ih =>
    intro ns w
    cases ns with
    | nil => simp [piecesT, partsT, joinL]
    | cons n ns =>
      rw [piecesT, partsT]
      unfold pieceT partT
      by_cases h1 : c = 114
      · rw [if_pos h1, if_pos h1]
        show joinL (w :: (114 :: decL n) :: piecesT cs ns) = _
        rw [join_cons _ _ (by simp), ih]
        simp
      · rw [if_neg h1, if_neg h1]
        by_cases h2 : c = 45
        · rw [if_pos h2, if_pos h2]; exact ih ns w
        · rw [if_neg h2, if_neg h2]
          show joinL (w :: decL n :: piecesT cs ns) = _
          rw [join_cons _ _ (by simp), ih]
          simp
theorem lineL_some {s : List UInt8} {i : Ins} (h : lineL s = some i) : s = lineT i ∧ (1 ≤ i.op ∧ i.op ≤ 15) ∧ okI i = true := by
  unfold lineL at h
  cases hw : wordsL s with
  | nil => exact absurd hw (wordsL_ne s)
  | cons w ws =>
    rw [hw] at h
    simp only at h
    split at h
    · cases h
    · rename_i h0
      obtain ⟨o1, o2, o3⟩ := opOf_some h0
      cases hp : partsL (shL (opOf w)) ws with
      | none => rw [hp] at h; cases h
      | some x =>
        rw [hp] at h
        obtain ⟨ns, r⟩ := x
        match ns, r, hp, h with
        | [a, b, c], [], hp, h =>
          simp only at h
          cases h
          obtain ⟨e, o⟩ := partsL_some _ _ _ _ hp
          rw [List.append_nil] at e
          refine ⟨?_, ⟨by simp; omega, by simp; omega⟩, parts_okI o1 o2 o⟩
          rw [← join_words s, hw, e, join_pieces]
          unfold lineT
          simp only [Int.toNat_natCast]
          rw [o3]
theorem decL_nl (n : Nat) : ∀ c ∈ decL n, c ≠ 10 := fun c hc e => by
  have := decL_dig n c hc
  subst e
  simp [isDig] at this
theorem partsT_nl (cs : List UInt8) : ∀ (ns : List Nat), ∀ c ∈ partsT cs ns, c ≠ 10 := by
  induction cs with
  | nil => intro ns c h; simp [partsT] at h
  | cons x cs ih =>
    intro ns c h
    cases ns with
    | nil => simp [partsT] at h
    | cons n ns =>
      rw [partsT, List.mem_append] at h
      rcases h with h | h
      · unfold partT at h
        split at h
        · simp at h
          rcases h with h | h | h
          · subst h; decide
          · subst h; decide
          · exact decL_nl n c h
        · split at h
          · simp at h
          · simp at h
            rcases h with h | h
            · subst h; decide
            · exact decL_nl n c h
      · exact ih ns c h
theorem nmL_nl (q : Nat) : ∀ c ∈ nmL q, c ≠ 10 := by
  by_cases h : 1 ≤ q ∧ q ≤ 15
  · rcases q_cases h.1 h.2 with h | h | h | h | h | h | h | h | h | h | h | h | h | h | h <;> subst h <;> unfold nmL <;> decide
  · intro c hc
    unfold nmL at hc
    split at hc <;> first | omega | cases hc
theorem lineT_nl (i : Ins) : ∀ c ∈ lineT i, c ≠ 10 := fun c h => by
  unfold lineT at h
  rw [List.mem_append] at h
  rcases h with h | h
  · exact nmL_nl _ c h
  · exact partsT_nl _ _ c h
theorem cutN_app {a b : List UInt8} (h : ∀ c ∈ a, c ≠ 10) : cutN (a ++ 10 :: b) = some (a, b) := by
  induction a with
  | nil => rfl
  | cons c r ih =>
    show cutN (c :: (r ++ 10 :: b)) = _
    unfold cutN
    rw [if_neg (h c (by simp)), ih (fun x hx => h x (by simp [hx]))]
    rfl
theorem cutN_no {a : List UInt8} (h : ∀ c ∈ a, c ≠ 10) : cutN a = none := by
  induction a with
  | nil => rfl
  | cons c r ih =>
    unfold cutN
    rw [if_neg (h c (by simp)), ih (fun x hx => h x (by simp [hx]))]
    rfl
theorem cutN_some {s a b : List UInt8} (h : cutN s = some (a, b)) : s = a ++ 10 :: b := by
  induction s generalizing a b with
  | nil => cases h
  | cons c r ih =>
    unfold cutN at h
    split at h
    · rename_i e; cases h; rw [e]; rfl
    · cases hc : cutN r with
      | none => rw [hc] at h; cases h
      | some x =>
        rw [hc] at h
        obtain ⟨x1, x2⟩ := x
        cases h
        rw [ih hc]; rfl
theorem readL_nil (out : List Ins) : readL [] out = (out, 0, 0) := by unfold readL; rfl
theorem readL_none {s : List UInt8} {out : List Ins} (hs : s ≠ []) (h : cutN s = none) : readL s out = ([], out.length + 1, 5) := by
  unfold readL
  rw [if_neg hs]
  split
  · rfl
  · rename_i e; rw [h] at e; cases e
theorem readL_cut {s a b : List UInt8} {out : List Ins} (h : cutN s = some (a, b)) : readL s out = if out.length = 200 then ([], out.length + 1, 1) else match lineL a with
    | none => ([], out.length + 1, 4)
    | some i => readL b (out ++ [i]) := by
  have hs : s ≠ [] := fun e => by subst e; cases h
  rw [readL.eq_def]
  rw [if_neg hs]
  split
  · rename_i e; rw [h] at e; cases e
  · rename_i e
    rw [h] at e
    cases e
    rfl
def InsK (i : Ins) : Prop := (1 ≤ i.op ∧ i.op ≤ 15) ∧ okI i = true
theorem showT_cons (i : Ins) (l : List Ins) : showT (i :: l) = lineT i ++ 10 :: showT l := by simp [showT, insT]
theorem readL_show (l : List Ins) : ∀ (out : List Ins) (r : List UInt8), (∀ i ∈ l, InsK i) → out.length + l.length ≤ 200 → readL (showT l ++ r) out = readL r (out ++ l) := by
  induction l with
  | nil => intro out r _ _; simp [showT]
  | cons i l ih =>
    intro out r h hl
    obtain ⟨⟨h1, h2⟩, h3⟩ := h i (by simp)
    rw [showT_cons, List.append_assoc, List.cons_append, readL_cut (cutN_app (lineT_nl i))]
    simp at hl
    rw [if_neg (by omega), lineL_lineT h1 h2 h3]
    simp only
    rw [ih (out ++ [i]) r (fun x hx => h x (by simp [hx])) (by simp; omega)]
    simp
theorem readL_some : ∀ (n : Nat) (s : List UInt8) (out x : List Ins) (k : Nat), s.length ≤ n → readL s out = (x, k, 0) → ∃ l, x = out ++ l ∧ s = showT l ∧ k = 0 ∧ (∀ i ∈ l, InsK i) ∧ (out.length ≤ 200 → x.length ≤ 200) := by
  intro n
  induction n with
  | zero =>
    intro s out x k hn h
    have : s = [] := List.eq_nil_of_length_eq_zero (by omega)
    subst this
    rw [readL_nil] at h
    cases h
    exact ⟨[], by simp, rfl, rfl, (fun i hi => nomatch hi), fun h => h⟩
  | succ n ih =>
    intro s out x k hn h
    by_cases hs : s = []
    · subst hs
      rw [readL_nil] at h
      cases h
      exact ⟨[], by simp, rfl, rfl, (fun i hi => nomatch hi), fun h => h⟩
    · cases hc : cutN s with
      | none => rw [readL_none hs hc] at h; cases h
      | some y =>
        obtain ⟨a, b⟩ := y
        rw [readL_cut hc] at h
        split at h
        · cases h
        · rename_i h200
          cases hl : lineL a with
          | none => rw [hl] at h; cases h
          | some i =>
            rw [hl] at h
            simp only at h
            have hb := cutN_len hc
            obtain ⟨l, e1, e2, e3, e4, e5⟩ := ih b (out ++ [i]) x k (by omega) h
            obtain ⟨f1, f2, f3⟩ := lineL_some hl
            refine ⟨i :: l, by rw [e1]; simp, by rw [cutN_some hc, e2, f1, showT_cons], e3, fun j hj => ?_, fun hh => e5 (by simp; omega)⟩
            rcases List.mem_cons.1 hj with rfl | hj
            · exact ⟨f2, f3⟩
            · exact e4 j hj
theorem chk_insK {l : List Ins} : chk l = 0 ↔ ∀ i ∈ l, InsK i := by
  induction l with
  | nil => simp [chk]
  | cons i r ih =>
    unfold chk
    constructor
    · intro h
      split at h
      · cases h
      · split at h
        · rename_i h1 h2
          intro j hj
          rcases List.mem_cons.1 hj with rfl | hj
          · exact ⟨by omega, h2⟩
          · exact ih.1 h j hj
        · cases h
    · intro h
      obtain ⟨h1, h2⟩ := h i (by simp)
      rw [if_neg (by omega), if_pos h2]
      exact ih.2 fun j hj => h j (by simp [hj])
/- How long the text is. -/
theorem decL_len {n k : Nat} (h : n < 10 ^ (k + 1)) : (decL n).length ≤ k + 1 := by
  induction k generalizing n with
  | zero => unfold decL; rw [dif_pos (by simpa using h)]; simp
  | succ k ih =>
    unfold decL
    split
    · simp
    · simp
      have : n / 10 < 10 ^ (k + 1) := by
        rw [Nat.div_lt_iff_lt_mul (by omega)]
        rw [Nat.pow_succ] at h; exact h
      have := ih this
      omega
theorem partT_len {c : UInt8} {n : Nat} (h : n ≤ grtN c) : (partT c n).length ≤ (if c = 114 then 3 else if c = 119 then 6 else if c = 112 then 4 else if c = 45 then 0 else 2) := by
  unfold partT
  unfold grtN at h
  split
  · rename_i e
    rw [if_pos e] at h
    have := decL_len (n := n) (k := 0) (by omega)
    simp; omega
  · rename_i e
    rw [if_neg e] at h
    by_cases h1 : c = 119
    · subst h1
      rw [if_pos rfl] at h
      have := decL_len (n := n) (k := 4) (by omega)
      simp; omega
    · rw [if_neg h1] at h ⊢
      by_cases h2 : c = 112
      · subst h2
        rw [if_pos rfl] at h
        have := decL_len (n := n) (k := 2) (by omega)
        simp; omega
      · rw [if_neg h2] at h ⊢
        split
        · simp
        · have := decL_len (n := n) (k := 0) (by omega)
          simp; omega
theorem lineT_len {i : Ins} (h : InsK i) : (lineT i).length ≤ 13 := by
  obtain ⟨⟨h1, h2⟩, h3⟩ := h
  have hp := okI_parts h1 h2 h3
  have q1 : 1 ≤ i.op.toNat := by omega
  have q2 : i.op.toNat ≤ 15 := by omega
  unfold lineT
  generalize i.op.toNat = q at *
  generalize i.a.toNat = a at *
  generalize i.b.toNat = b at *
  generalize i.c.toNat = c at *
  rcases q_cases q1 q2 with e | e | e | e | e | e | e | e | e | e | e | e | e | e | e <;> subst e <;>
    (unfold shL shp at *
     obtain ⟨p1, p2, p3, -⟩ := hp
     have l1 := partT_len p1
     have l2 := partT_len p2
     have l3 := partT_len p3
     simp +decide only [if_true, if_false] at l1 l2 l3
     have e45 : ∀ n, partT 45 n = [] := fun n => rfl
     simp [partsT, nmL, e45] at *
     try omega)
theorem showT_len {l : List Ins} (h : ∀ i ∈ l, InsK i) : (showT l).length ≤ 14 * l.length := by
  induction l with
  | nil => simp [showT]
  | cons i r ih =>
    rw [showT_cons]
    have := ih fun j hj => h j (by simp [hj])
    have := lineT_len (h i (by simp))
    simp
    omega
/-- What is shown is read. -/
theorem read_show {l : List Ins} (h : check l = 0) : readT (showT l) = (l, 0, 0) := by
  unfold check at h
  split at h
  · cases h
  · have hk := chk_insK.1 h
    have hn := showT_len hk
    unfold readT
    rw [if_neg (by omega)]
    have := readL_show l [] [] hk (by simp; omega)
    rw [List.append_nil, List.nil_append] at this
    rw [this, readL_nil]
/-- What is read is shown. -/
theorem show_read {s : List UInt8} {x : List Ins} {k : Nat} (h : readT s = (x, k, 0)) : check x = 0 ∧ showT x = s ∧ k = 0 := by
  unfold readT at h
  split at h
  · cases h
  · obtain ⟨l, e1, e2, e3, e4, e5⟩ := readL_some s.length s [] x k (Nat.le_refl _) h
    rw [List.nil_append] at e1
    subst e1
    refine ⟨?_, e2.symm, e3⟩
    unfold check
    have := e5 (by simp)
    rw [if_neg (by omega)]
    exact chk_insK.2 e4
/-- An odd line behind good ones. -/
theorem read_odd {l : List Ins} (h : chk l = 0) (hl : l.length ≤ 100) {o r : List UInt8} (ho : lineL o = none) (hn : ∀ c ∈ o, c ≠ 10) (hr : o.length + r.length ≤ 100) : readT (showT l ++ (o ++ 10 :: r)) = ([], l.length + 1, 4) := by
  have hk := chk_insK.1 h
  have hs := showT_len hk
  unfold readT
  rw [if_neg (by simp; omega), readL_show l [] _ hk (by simp; omega), readL_cut (cutN_app hn), if_neg (by simp; omega), ho]
  simp
theorem read_short {l : List Ins} (h : chk l = 0) (hl : l.length ≤ 100) {o : List UInt8} (h0 : o ≠ []) (hn : ∀ c ∈ o, c ≠ 10) (hr : o.length ≤ 100) : readT (showT l ++ o) = ([], l.length + 1, 5) := by
  have hk := chk_insK.1 h
  have hs := showT_len hk
  unfold readT
  rw [if_neg (by simp; omega), readL_show l [] _ hk (by simp; omega), readL_none h0 (cutN_no hn)]
  simp
def retI : Ins := ⟨13, 0, 0, 0⟩
theorem read_many : readT (showT (List.replicate 201 retI)) = ([], 201, 1) := by
  have hk : ∀ i ∈ List.replicate 200 retI, InsK i := fun i hi => by
    rw [List.mem_replicate] at hi
    rw [hi.2]
    exact ⟨⟨by decide, by decide⟩, by decide⟩
  have hk1 : InsK retI := ⟨⟨by decide, by decide⟩, by decide⟩
  have hs := showT_len hk
  have h1 := lineT_len hk1
  have e : showT (List.replicate 201 retI) = showT (List.replicate 200 retI) ++ (lineT retI ++ 10 :: []) := by
    rw [show (201 : Nat) = 200 + 1 from rfl, List.replicate_succ', showT, showT, List.flatMap_append]
    rw [show List.flatMap insT [retI] = lineT retI ++ [10] from List.append_nil _]
  rw [e]
  unfold readT
  have hrl : (List.replicate 200 retI).length = 200 := List.length_replicate
  generalize List.replicate 200 retI = L at *
  rw [if_neg (by simp; omega), readL_show L [] _ hk (by simp; omega), readL_cut (cutN_app (lineT_nl _)), if_pos (by simp; omega)]
  simp; omega
/-- The odd lines. -/
def oddT (k : Nat) : List UInt8 :=
  match k with
  | 0 => [108, 105, 32, 114, 49]
  | 1 => [108, 105, 32, 114, 49, 32, 54, 53, 53, 51, 54]
  | 2 => [108, 105, 32, 49, 32, 49]
  | 3 => [97, 100, 100, 32, 114, 49, 32, 114, 50]
  | 4 => [97, 100, 100, 32, 114, 49, 32, 114, 50, 32, 114, 56]
  | 5 => [97, 100, 100, 32, 32, 114, 49, 32, 114, 50, 32, 114, 51]
  | 6 => [108, 100, 32, 114, 49, 32, 114, 50, 32, 114, 51]
  | 7 => [106, 109, 112]
  | 8 => [106, 109, 112, 32, 114, 49]
  | 9 => [106, 109, 112, 32, 50, 48, 48]
  | 10 => [114, 101, 116, 32, 49]
  | 11 => [116, 101, 108, 108]
  | 12 => [104, 97, 108, 116, 32]
  | 13 => [76, 73, 32, 114, 49, 32, 49]
  | 14 => [108, 105, 32, 114, 49, 32, 48, 49]
  | 15 => []
  | 16 => [110, 111]
  | _ => []
theorem oddT_bad {k : Nat} (h : k < 17) : lineL (oddT k) = none ∧ (∀ c ∈ oddT k, c ≠ 10) ∧ (oddT k).length ≤ 20 := by
  have hc : k = 0 ∨ k = 1 ∨ k = 2 ∨ k = 3 ∨ k = 4 ∨ k = 5 ∨ k = 6 ∨ k = 7 ∨ k = 8 ∨ k = 9 ∨ k = 10 ∨ k = 11 ∨ k = 12 ∨ k = 13 ∨ k = 14 ∨ k = 15 ∨ k = 16 := by omega
  rcases hc with h | h | h | h | h | h | h | h | h | h | h | h | h | h | h | h | h <;> subst h <;> exact ⟨by decide, by decide, by decide⟩
end Go.Proofs.YtdjamdbamkhblacDoor
