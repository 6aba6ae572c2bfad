/- Trusted code never faults and keeps to its region, and what is made of plain code does the same, as runs of the machine: plain mathematics. -/
import Derived.Test.YtdjamdbamkhblabDoorRun
import Derived.Test.YtdjamdbamkhblabDoorMadeOk
namespace Go.Proofs.YtdjamdbamkhblabDoor
open Go.RowKit
theorem runs_ne0 (l : List Ins) : ∀ (n : Nat) (s : Mc), (runs l n s).2 ≠ 0
  | 0, s => by simp [runs]
  | n + 1, s => by
    by_cases h : (step l s).2 = 0
    · rw [runs_go h]; exact runs_ne0 l n _
    · rw [runs_stop h]; exact h
/-- Registers with which trusted code begins in a region. -/
def entR (r x : Nat) : List Int := [(x : Int), 0, 0, 0, (r : Int) * 64, (r : Int) * 64, 63, 0]
theorem entR_nat (r x : Nat) : (entR r x).map Int.toNat = [x, 0, 0, 0, 64 * r, 64 * r, 63, 0] := by
  have : ((r : Int) * 64).toNat = 64 * r := by omega
  simp [entR, this]
theorem entR_odd {r x : Nat} (hr : r < 16) (hx : x ≤ 65535) : (entR r x).any oddW = false := by
  rw [List.any_eq_false]
  intro y hy
  simp [entR] at hy
  simp [oddW]
  omega
theorem keeps_start {r x : Nat} {c : List Ins} {mem : List Int} (hr : r < 16) (hx : x ≤ 65535) (h0 : 0 < c.length) (hl : mem.length = 1024) (hm : mem.any oddW = false) : Keeps r c (toMc (entR r x) mem) := by
  have hw := words_ok hm
  have he := words_ok (entR_odd hr hx)
  refine ⟨toMc_ok rfl (fun y hy => ?_), h0, by simp [toMc], ?_, ?_, .inl ?_, by simpa [toMc] using hl⟩
  · rcases List.mem_append.1 hy with h | h
    · exact he y h
    · exact hw y h
  · simp only [toMc, entR_nat]; rfl
  · simp only [toMc, entR_nat]; rfl
  · simp only [toMc, entR_nat]
    show 64 * r ≤ 64 * r ∧ 64 * r ≤ 64 * r + 63
    omega
theorem enter_err {c : List Ins} {r x : Nat} {mem : List Int} {fuel : Nat} (hv : verify c = 0) (hr : r < 16) (hx : x ≤ 65535) (hl : mem.length ≤ 1024) (hm : mem.any oddW = false) (hf : fuel ≤ 20000) : runErr c (entR r x) mem (fuel : Int) = 0 := by
  unfold runErr
  rw [if_pos ((verify_zero_iff c).1 hv).1, if_neg (by omega), if_neg]
  rw [List.any_append, entR_odd hr hx, hm]
  intro h
  rcases h with h | h | h
  · omega
  · omega
  · cases h
/-- Trusted code never faults. -/
theorem never_fault {c : List Ins} {r x : Nat} {mem : List Int} {fuel : Nat} (hv : verify c = 0) (hr : r < 16) (hx : x ≤ 65535) (hl : mem.length = 1024) (hm : mem.any oddW = false) (hf : fuel ≤ 20000) :
    runErr c (entR r x) mem (fuel : Int) = 0 ∧ (runRes c (entR r x) mem (fuel : Int)).2 ≠ 0 ∧ (runRes c (entR r x) mem (fuel : Int)).2 ≠ 3 := by
  have he := enter_err (fuel := fuel) hv hr hx (by omega) hm hf
  obtain ⟨ht, h0, _⟩ := trusted_of_verify hv
  have hk := keeps_start (x := x) hr hx h0 hl hm
  refine ⟨he, ?_⟩
  unfold runRes
  rw [he, if_pos rfl, Int.toNat_natCast]
  obtain ⟨a, b, _⟩ := runs_trust hr ht fuel _ _ hk ⟨rfl, rfl, rfl, rfl, rfl, fun _ _ _ => rfl⟩
  exact ⟨b, a⟩
/-- y with the words of x in a region. -/
def mixM (r : Nat) (x y : List Int) : List Int := y.take (r * 64) ++ (x.drop (r * 64)).take 64 ++ y.drop (r * 64 + 64)
theorem mixM_length {r : Nat} {x y : List Int} (hr : r < 16) (hx : x.length = 1024) (hy : y.length = 1024) : (mixM r x y).length = 1024 := by
  simp [mixM, hx, hy]; omega
theorem mixM_at {r : Nat} {x y : List Int} (hr : r < 16) (hx : x.length = 1024) (hy : y.length = 1024) (j : Nat) : (mixM r x y)[j]? = if r * 64 ≤ j ∧ j < r * 64 + 64 then x[j]? else y[j]? := by
  have h1 : (y.take (r * 64)).length = r * 64 := by simp [hy]; omega
  have h2 : ((x.drop (r * 64)).take 64).length = 64 := by simp [hx]; omega
  unfold mixM
  rcases Nat.lt_or_ge j (r * 64) with h | h
  · rw [List.append_assoc, List.getElem?_append_left (by omega), if_neg (by omega), List.getElem?_take, if_pos h]
  · rcases Nat.lt_or_ge j (r * 64 + 64) with h' | h'
    · rw [List.append_assoc, List.getElem?_append_right (by omega), h1, List.getElem?_append_left (by omega), if_pos ⟨h, h'⟩, List.getElem?_take, if_pos (by omega), List.getElem?_drop]
      congr 1; omega
    · rw [List.getElem?_append_right (by rw [List.length_append]; omega), List.length_append, h1, h2, if_neg (by omega), List.getElem?_drop]
      congr 1; omega
theorem mixM_odd {r : Nat} {x y : List Int} (hx : x.any oddW = false) (hy : y.any oddW = false) : (mixM r x y).any oddW = false := by
  rw [List.any_eq_false] at hx hy ⊢
  intro z hz
  unfold mixM at hz
  rcases List.mem_append.1 hz with h | h
  · rcases List.mem_append.1 h with h | h
    · exact hy z (List.mem_of_mem_take h)
    · exact hx z (List.mem_of_mem_drop (List.mem_of_mem_take h))
  · exact hy z (List.mem_of_mem_drop h)
theorem toNat_getD (l : List Int) (j : Nat) : (l.map Int.toNat).getD j 0 = (l.getD j 0).toNat := by
  simp only [List.getD_eq_getElem?_getD, List.getElem?_map]
  cases l[j]? <;> rfl
/-- Trusted code keeps to its region. -/
theorem region_keep {c : List Ins} {r x : Nat} {m m' : List Int} {fuel : Nat} (hv : verify c = 0) (hr : r < 16) (hx : x ≤ 65535) (hl : m.length = 1024) (hl' : m'.length = 1024) (hm : m.any oddW = false) (hm' : m'.any oddW = false) (hf : fuel ≤ 20000)
    (hs : ∀ j, 64 * r ≤ j → j ≤ 64 * r + 63 → m.getD j 0 = m'.getD j 0) :
    (runRes c (entR r x) m (fuel : Int)).2 = (runRes c (entR r x) m' (fuel : Int)).2 ∧ (runRes c (entR r x) m (fuel : Int)).1.regs = (runRes c (entR r x) m' (fuel : Int)).1.regs ∧ (runRes c (entR r x) m (fuel : Int)).1.told = (runRes c (entR r x) m' (fuel : Int)).1.told ∧
    (runRes c (entR r x) m (fuel : Int)).1.mem.length = 1024 ∧ (runRes c (entR r x) m' (fuel : Int)).1.mem.length = 1024 ∧
    (∀ j, 64 * r ≤ j → j ≤ 64 * r + 63 → (runRes c (entR r x) m (fuel : Int)).1.mem.getD j 0 = (runRes c (entR r x) m' (fuel : Int)).1.mem.getD j 0) ∧
    (∀ j, j < 64 * r ∨ 64 * r + 64 ≤ j → (runRes c (entR r x) m (fuel : Int)).1.mem.getD j 0 = (m.getD j 0).toNat) ∧
    (∀ j, j < 64 * r ∨ 64 * r + 64 ≤ j → (runRes c (entR r x) m' (fuel : Int)).1.mem.getD j 0 = (m'.getD j 0).toNat) := by
  have he := enter_err (fuel := fuel) hv hr hx (by omega) hm hf
  have he' := enter_err (fuel := fuel) hv hr hx (by omega) hm' hf
  obtain ⟨ht, h0, _⟩ := trusted_of_verify hv
  have hk := keeps_start (x := x) hr hx h0 hl hm
  have hk' := keeps_start (x := x) hr hx h0 hl' hm'
  unfold runRes
  rw [he, he', if_pos rfl, if_pos rfl, Int.toNat_natCast]
  have ha : Agree r (toMc (entR r x) m) (toMc (entR r x) m') := ⟨rfl, rfl, rfl, rfl, by simp [toMc, hl, hl'], fun j h1 h2 => by
    show (m.map Int.toNat).getD j 0 = (m'.map Int.toNat).getD j 0
    rw [toNat_getD, toNat_getD, hs j h1 h2]⟩
  obtain ⟨_, _, a3, a4, a5⟩ := runs_trust hr ht fuel _ _ hk ha
  obtain ⟨_, _, _, _, b5⟩ := runs_trust hr ht fuel _ _ hk' ⟨rfl, rfl, rfl, rfl, rfl, fun _ _ _ => rfl⟩
  refine ⟨a3, a4.regs, a4.told, ?_, ?_, a4.mem, fun j hj => ?_, fun j hj => ?_⟩
  · rw [runs_mem]; simpa [toMc] using hl
  · rw [runs_mem]; simpa [toMc] using hl'
  · rw [a5 j hj]; exact toNat_getD m j
  · rw [b5 j hj]; exact toNat_getD m' j
/-- What is made of plain code does the same. -/
theorem made_same {p : List Ins} {n : Nat} {mem : List Int} (hp : PlainOk p) (h0 : 0 < p.length) (hc : chk p = 0) (hl2 : p.length ≤ 200) (hlm : (madeOf p).length ≤ 200) (hn : n ≤ 65535) (hl : mem.length = 64) (hm : mem.any oddW = false) :
    runErr p [(n : Int), 0, 0, 0, 0, 0, 0, 0] mem 1000 = 0 ∧ runErr (madeOf p) (entR 0 n) mem 3000 = 0 ∧ (runRes p [(n : Int), 0, 0, 0, 0, 0, 0, 0] mem 1000).2 ≠ 0 ∧
    ((runRes p [(n : Int), 0, 0, 0, 0, 0, 0, 0] mem 1000).2 ≠ 3 → (runRes p [(n : Int), 0, 0, 0, 0, 0, 0, 0] mem 1000).2 ≠ 2 →
      (runRes (madeOf p) (entR 0 n) mem 3000).2 = (runRes p [(n : Int), 0, 0, 0, 0, 0, 0, 0] mem 1000).2 ∧ Out (runRes p [(n : Int), 0, 0, 0, 0, 0, 0, 0] mem 1000).1 (runRes (madeOf p) (entR 0 n) mem 3000).1) := by
  have hv := made_verify hp h0 hc hlm
  have he' : runErr (madeOf p) (entR 0 n) mem 3000 = 0 := enter_err (fuel := 3000) (r := 0) hv (by omega) hn (by omega) hm (by omega)
  have he : runErr p [(n : Int), 0, 0, 0, 0, 0, 0, 0] mem 1000 = 0 := by
    unfold runErr
    rw [if_pos ((check_zero_iff p).2 ⟨hl2, hc⟩), if_neg (by omega), if_neg]
    have hr : ([(n : Int), 0, 0, 0, 0, 0, 0, 0] : List Int).any oddW = false := by simp [oddW]; omega
    rw [List.any_append, hr, hm]
    simp
  unfold runRes
  rw [he, he', if_pos rfl, if_pos rfl]
  refine ⟨rfl, rfl, runs_ne0 _ _ _, fun h3 h2 => ?_⟩
  refine sim_runs hp 1000 _ _ ?_ h3 h2 3000 (by omega)
  refine ⟨h0, ?_, by simp [toMc], rfl, rfl, rfl, fun k hk h4 h5 h6 => ?_, rfl, rfl, rfl, rfl, by simp [toMc, hl]⟩
  · simp [toMc, atMap]
  · match k, hk with
    | 0, _ => rfl
    | 1, _ => rfl
    | 2, _ => rfl
    | 3, _ => rfl
    | 4, _ => omega
    | 5, _ => omega
    | 6, _ => omega
    | 7, _ => rfl
end Go.Proofs.YtdjamdbamkhblabDoor
