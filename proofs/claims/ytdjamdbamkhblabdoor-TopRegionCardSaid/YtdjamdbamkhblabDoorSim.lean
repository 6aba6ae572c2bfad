/- What is made of plain code does what the plain code does, as far as it stays in its region: plain mathematics. -/
import Derived.Test.YtdjamdbamkhblabDoorTrust
namespace Go.Proofs.YtdjamdbamkhblabDoor
def ldB (i : Ins) : Bool := i.op == 8 || i.op == 9
def atMap (l : List Ins) (k : Nat) : Nat := k + 2 * (l.take k).countP ldB
def mkI (l : List Ins) (i : Ins) : List Ins :=
  if ldB i then [⟨4, 4, i.b, 6⟩, ⟨5, 4, 4, 5⟩, ⟨i.op, i.a, 4, i.c⟩] else if jmpB i then [⟨i.op, i.a, i.b, (atMap l i.c.toNat : Nat)⟩] else [i]
/-- What safe.Make makes of plain code. -/
def madeOf (l : List Ins) : List Ins := l.flatMap (mkI l)
def oddB (x : Int) : Bool := decide (4 ≤ x ∧ x ≤ 6)
def unplainB (n : Nat) (i : Ins) : Bool := oddB i.a || oddB i.b || (decide (2 ≤ i.op ∧ i.op ≤ 7) && oddB i.c) || (jmpB i && decide ((n : Int) ≤ i.c))
structure PlainOk (l : List Ins) : Prop where
  code : CodeOk l
  last : ∀ k (h : k < l.length), k + 1 = l.length → endB l[k] = true
  each : ∀ k (h : k < l.length), unplainB l.length l[k] = false

theorem mkI_length (l : List Ins) (i : Ins) : (mkI l i).length = 1 + 2 * (if ldB i then 1 else 0) := by
  unfold mkI
  cases ldB i with
  | true => rfl
  | false => cases jmpB i <;> rfl
theorem flat_length (l0 : List Ins) : ∀ p : List Ins, (p.flatMap (mkI l0)).length = p.length + 2 * p.countP ldB
  | [] => rfl
  | i :: r => by
    rw [List.flatMap_cons, List.length_append, flat_length l0 r, mkI_length, List.countP_cons, List.length_cons]
    split <;> omega
theorem atMap_flat {l : List Ins} {k : Nat} (h : k ≤ l.length) : ((l.take k).flatMap (mkI l)).length = atMap l k := by
  rw [flat_length, atMap, List.length_take, Nat.min_eq_left h]
theorem atMap_succ {l : List Ins} {k : Nat} (h : k < l.length) : atMap l (k + 1) = atMap l k + 1 + 2 * (if ldB l[k] then 1 else 0) := by
  unfold atMap
  rw [List.take_succ_eq_append_getElem h, List.countP_append, List.countP_cons]
  simp only [List.countP_nil]
  split <;> omega
theorem made_at {l : List Ins} {k : Nat} (h : k < l.length) (j : Nat) (hj : j < (mkI l l[k]).length) : (madeOf l)[atMap l k + j]? = (mkI l l[k])[j]? := by
  have e : madeOf l = (l.take k).flatMap (mkI l) ++ (mkI l l[k] ++ (l.drop (k + 1)).flatMap (mkI l)) := by
    have cut : ∀ f : Ins → List Ins, l.flatMap f = (l.take k).flatMap f ++ (f l[k] ++ (l.drop (k + 1)).flatMap f) := fun f => by
      conv => lhs; rw [← List.take_append_drop k l, List.drop_eq_getElem_cons h, List.flatMap_append, List.flatMap_cons]
    exact cut _
  rw [e, List.getElem?_append_right (by rw [atMap_flat (by omega)]; omega), atMap_flat (by omega), Nat.add_sub_cancel_left, List.getElem?_append_left hj]
theorem unplainB_false {n : Nat} {i : Ins} (h : unplainB n i = false) : ¬ (4 ≤ i.a ∧ i.a ≤ 6) ∧ ¬ (4 ≤ i.b ∧ i.b ≤ 6) ∧ (2 ≤ i.op → i.op ≤ 7 → ¬ (4 ≤ i.c ∧ i.c ≤ 6)) ∧ ((i.op = 10 ∨ i.op = 11 ∨ i.op = 12) → i.c < n) := by
  simp only [unplainB, oddB, jmpB, Bool.or_eq_false_iff, Bool.and_eq_false_iff, decide_eq_false_iff_not] at h
  obtain ⟨⟨⟨h1, h2⟩, h3⟩, h4⟩ := h
  refine ⟨h1, h2, fun a b => ?_, fun a => ?_⟩
  · rcases h3 with h3 | h3
    · exact absurd ⟨a, b⟩ h3
    · exact h3
  · rcases h4 with h4 | h4
    · exact absurd a h4
    · omega

/-- The plain machine and the made one side by side. -/
structure Sim (l : List Ins) (s t : Mc) : Prop where
  pos : s.pos < l.length
  tpos : t.pos = atMap l s.pos
  back : ∀ p ∈ s.back, p < l.length
  tback : t.back = s.back.map (atMap l)
  s8 : s.regs.length = 8
  t8 : t.regs.length = 8
  regs : ∀ k, k < 8 → k ≠ 4 → k ≠ 5 → k ≠ 6 → s.regs.getD k 0 = t.regs.getD k 0
  r5 : t.regs.getD 5 0 = 0
  r6 : t.regs.getD 6 0 = 63
  told : s.told = t.told
  mem : s.mem = t.mem
  small : s.mem.length ≤ 64
structure Out (s t : Mc) : Prop where
  s8 : s.regs.length = 8
  t8 : t.regs.length = 8
  regs : ∀ k, k < 4 → s.regs.getD k 0 = t.regs.getD k 0
  told : s.told = t.told
  mem : s.mem = t.mem
theorem Sim.rg {l : List Ins} {s t : Mc} (h : Sim l s t) {z : Int} (h0 : 0 ≤ z) (h7 : z ≤ 7) (ho : ¬ (4 ≤ z ∧ z ≤ 6)) : rg t z = rg s z := by
  unfold YtdjamdbamkhblabDoor.rg
  exact (h.regs z.toNat (by omega) (by omega) (by omega) (by omega)).symm
theorem Sim.out {l : List Ins} {s t : Mc} (h : Sim l s t) : Out s t := ⟨h.s8, h.t8, fun k hk => h.regs k (by omega) (by omega) (by omega) (by omega), h.told, h.mem⟩
theorem regs_set {a b : List Nat} {v : Nat} {z : Int} (ha : a.length = 8) (hb : b.length = 8) (h : ∀ k, k < 8 → k ≠ 4 → k ≠ 5 → k ≠ 6 → a.getD k 0 = b.getD k 0) :
    ∀ k, k < 8 → k ≠ 4 → k ≠ 5 → k ≠ 6 → (a.set z.toNat v).getD k 0 = (b.set z.toNat v).getD k 0 := by
  intro k h1 h2 h3 h4
  rw [getD_set, getD_set, h k h1 h2 h3 h4, ha, hb]

set_option maxHeartbeats 1000000 in
/-- One step of the plain machine is one step, or three, of the made one. -/
theorem sim_step {l : List Ins} {s t : Mc} (hp : PlainOk l) (h : Sim l s t) (h3 : (step l s).2 ≠ 3) :
    ∃ k, k < 3 ∧ ∃ t', (∀ m, runs (madeOf l) (m + k) t = runs (madeOf l) m t') ∧ (step (madeOf l) t').2 = (step l s).2 ∧ Out (step l s).1 (step (madeOf l) t').1 ∧
      ((step l s).2 = 0 → Sim l (step l s).1 (step (madeOf l) t').1) := by
  have hpos := h.pos
  have hin : l[s.pos]? = some l[s.pos] := List.getElem?_eq_getElem hpos
  obtain ⟨fa, fb, fc, fj⟩ := unplainB_false (hp.each s.pos hpos)
  have hI := hp.code _ (List.getElem_mem hpos)
  have hlast := hp.last s.pos hpos
  have hnext : ¬ (l[s.pos].op = 10 ∨ l[s.pos].op = 13 ∨ l[s.pos].op = 15) → s.pos + 1 < l.length := fun he => by
    rcases Nat.lt_or_ge (s.pos + 1) l.length with h1 | h1
    · exact h1
    · have := hlast (by omega)
      simp only [endB, decide_eq_true_eq] at this
      exact absurd this he
  have hmade := made_at hpos
  have hml := mkI_length l l[s.pos]
  have hsucc := atMap_succ hpos
  have tpos := h.tpos
  clear hlast
  obtain ⟨c1, c2, c3, c4, c5, c6, c7, c8, c9⟩ := hI
  generalize hi : l[s.pos] = i at *
  have ga := fun (z : Int) (h0 : 0 ≤ z) (h7 : z ≤ 7) (ho : ¬ (4 ≤ z ∧ z ≤ 6)) => h.rg h0 h7 ho
  by_cases hld : ldB i = true
  · -- a load or a store
    have ho : i.op = 8 ∨ i.op = 9 := by simpa [ldB] using hld
    have mk : mkI l i = [⟨4, 4, i.b, 6⟩, ⟨5, 4, 4, 5⟩, ⟨i.op, i.a, 4, i.c⟩] := by unfold mkI; rw [if_pos hld]
    rw [mk] at hmade
    have m0 := hmade 0 (by simp)
    have m1 := hmade 1 (by simp)
    have m2 := hmade 2 (by simp)
    simp only [Nat.add_zero, List.getElem?_cons_zero, List.getElem?_cons_succ] at m0 m1 m2
    rw [← tpos] at m0 m1 m2
    have hn := hnext (by omega)
    rw [if_pos hld, ← tpos] at hsucc
    have hrb := ga i.b c5 c6 fb
    have hra := ga i.a c3 c4 fa
    have hlt : rg s i.b < s.mem.length := by
      rcases Nat.lt_or_ge (rg s i.b) s.mem.length with h1 | h1
      · exact h1
      · exfalso
        apply h3
        unfold step
        rw [hin]
        simp only
        rcases ho with ho | ho
        · rw [if_pos ho, if_neg (by omega)]
        · rw [if_neg (by omega), if_pos ho, if_neg (by omega)]
    have hsm := h.small
    obtain ⟨x, hx⟩ : ∃ x, x = rg s i.b := ⟨_, rfl⟩
    rw [← hx] at hrb hlt
    have hx63 : x &&& 63 = x := by
      have : x % 2 ^ 6 = x := Nat.mod_eq_of_lt (by omega)
      rw [show (63 : Nat) = 2 ^ 6 - 1 from rfl, Nat.and_two_pow_sub_one_eq_mod, this]
    -- the first two
    have s1 : step (madeOf l) t = ({ t with pos := t.pos + 1, regs := t.regs.set 4 x }, 0) := by
      unfold step
      rw [m0]
      have e : reck (rg t i.b) (rg t (6 % 8)) 4 6 = x := by
        rw [hrb, show rg t (6 % 8) = 63 from h.r6]
        exact hx63
      show (({ t with pos := t.pos + 1, regs := t.regs.set 4 (reck (rg t i.b) (rg t (6 % 8)) 4 6) } : Mc), 0) = _
      rw [e]
    have s2 : step (madeOf l) { t with pos := t.pos + 1, regs := t.regs.set 4 x } = ({ t with pos := t.pos + 2, regs := t.regs.set 4 x }, 0) := by
      unfold step
      simp only
      rw [m1]
      have e4 : rg { t with pos := t.pos + 1, regs := t.regs.set 4 x } 4 = x := by
        show (t.regs.set 4 x).getD 4 0 = x
        rw [getD_set, if_pos ⟨rfl, by rw [h.t8]; omega⟩]
      have e5 : rg { t with pos := t.pos + 1, regs := t.regs.set 4 x } (5 % 8) = 0 := by
        show (t.regs.set 4 x).getD 5 0 = 0
        rw [getD_set, if_neg (by omega)]; exact h.r5
      have e : reck (rg { t with pos := t.pos + 1, regs := t.regs.set 4 x } 4) (rg { t with pos := t.pos + 1, regs := t.regs.set 4 x } (5 % 8)) 5 5 = x := by
        rw [e4, e5]
        show x ||| 0 = x
        rw [Nat.or_zero]
      show (({ t with pos := t.pos + 1 + 1, regs := (t.regs.set 4 x).set 4 (reck _ _ 5 5) } : Mc), 0) = _
      rw [e, List.set_set]
    have t4 : rg { t with pos := t.pos + 2, regs := t.regs.set 4 x } 4 = x := by
      show (t.regs.set 4 x).getD 4 0 = x
      rw [getD_set, if_pos ⟨rfl, by rw [h.t8]; omega⟩]
    have hg4 : ∀ k, k < 8 → k ≠ 4 → k ≠ 5 → k ≠ 6 → s.regs.getD k 0 = (t.regs.set 4 x).getD k 0 := fun k k1 k2 k3 k4 => by
      rw [getD_set, if_neg (by omega)]; exact h.regs k k1 k2 k3 k4
    have hg5 : ∀ v : Nat, (((t.regs.set 4 x).set i.a.toNat v).getD 5 0 = 0 ∧ ((t.regs.set 4 x).set i.a.toNat v).getD 6 0 = 63) := fun v => by
      rw [getD_set, if_neg (by omega), getD_set, if_neg (by omega), getD_set, if_neg (by omega), getD_set, if_neg (by omega)]
      exact ⟨h.r5, h.r6⟩
    refine ⟨2, by omega, { t with pos := t.pos + 2, regs := t.regs.set 4 x }, fun m => ?_, ?_⟩
    · rw [show m + 2 = (m + 1) + 1 from rfl, runs_go (by rw [s1]), s1, runs_go (by rw [s2]), s2]
    · have st3 : (madeOf l)[({ t with pos := t.pos + 2, regs := t.regs.set 4 x } : Mc).pos]? = some ⟨i.op, i.a, 4, i.c⟩ := m2
      have hmem := h.mem
      rcases ho with ho | ho
      · have p1 : step l s = ({ s with pos := s.pos + 1, regs := s.regs.set i.a.toNat (s.mem.getD x 0) }, 0) := by
          unfold step
          rw [hin]
          simp only
          rw [if_pos ho, ← hx, if_pos hlt]
        have p2 : step (madeOf l) { t with pos := t.pos + 2, regs := t.regs.set 4 x } = ({ t with pos := t.pos + 3, regs := (t.regs.set 4 x).set i.a.toNat (s.mem.getD x 0) }, 0) := by
          unfold step
          rw [st3]
          simp only
          rw [if_pos ho, t4, if_pos (by rw [← hmem]; exact hlt), ← hmem]
        rw [p1, p2]
        have hR := regs_set (v := s.mem.getD x 0) (z := i.a) h.s8 (by simpa using h.t8) hg4
        have hS : Sim l { s with pos := s.pos + 1, regs := s.regs.set i.a.toNat (s.mem.getD x 0) } { t with pos := t.pos + 3, regs := (t.regs.set 4 x).set i.a.toNat (s.mem.getD x 0) } :=
          ⟨hn, by show t.pos + 3 = atMap l (s.pos + 1); omega, h.back, h.tback, by simpa using h.s8, by simpa using h.t8, hR, (hg5 _).1, (hg5 _).2, h.told, h.mem, h.small⟩
        exact ⟨rfl, hS.out, fun _ => hS⟩
      · have p1 : step l s = ({ s with pos := s.pos + 1, mem := s.mem.set x (rg s i.a) }, 0) := by
          unfold step
          rw [hin]
          simp only
          rw [if_neg (by omega), if_pos ho, ← hx, if_pos hlt]
        have hra' : rg { t with pos := t.pos + 2, regs := t.regs.set 4 x } i.a = rg s i.a := by
          rw [← hra]
          show (t.regs.set 4 x).getD i.a.toNat 0 = t.regs.getD i.a.toNat 0
          rw [getD_set, if_neg (by omega)]
        have p2 : step (madeOf l) { t with pos := t.pos + 2, regs := t.regs.set 4 x } = ({ t with pos := t.pos + 3, regs := t.regs.set 4 x, mem := s.mem.set x (rg s i.a) }, 0) := by
          unfold step
          rw [st3]
          simp only
          rw [if_neg (by omega), if_pos ho, t4, if_pos (by rw [← hmem]; exact hlt), hra', ← hmem]
        rw [p1, p2]
        have hS : Sim l { s with pos := s.pos + 1, mem := s.mem.set x (rg s i.a) } { t with pos := t.pos + 3, regs := t.regs.set 4 x, mem := s.mem.set x (rg s i.a) } :=
          ⟨hn, by show t.pos + 3 = atMap l (s.pos + 1); omega, h.back, h.tback, h.s8, by simpa using h.t8, hg4, by show (t.regs.set 4 x).getD 5 0 = 0; rw [getD_set, if_neg (by omega)]; exact h.r5,
            by show (t.regs.set 4 x).getD 6 0 = 63; rw [getD_set, if_neg (by omega)]; exact h.r6, h.told, rfl, by simpa using h.small⟩
        exact ⟨rfl, hS.out, fun _ => hS⟩
  · -- one step
    refine ⟨0, by omega, t, fun m => rfl, ?_⟩
    have hld' : ldB i = false := by simpa using hld
    have ho : i.op ≠ 8 ∧ i.op ≠ 9 := by simpa [ldB] using hld'
    rw [hld', ← tpos] at hsucc
    simp only [Bool.false_eq_true, if_false, Nat.mul_zero, Nat.add_zero] at hsucc
    by_cases hj : jmpB i = true
    · have mk : mkI l i = [⟨i.op, i.a, i.b, (atMap l i.c.toNat : Nat)⟩] := by unfold mkI; rw [if_neg hld, if_pos hj]
      rw [mk] at hmade
      have m0 := hmade 0 (by simp)
      simp only [Nat.add_zero, List.getElem?_cons_zero, ← tpos] at m0
      have hj' : i.op = 10 ∨ i.op = 11 ∨ i.op = 12 := by simpa [jmpB] using hj
      have hcl := fj hj'
      have hct : i.c.toNat < l.length := by omega
      rcases hj' with hj' | hj' | hj'
      · have p1 : step l s = ({ s with pos := i.c.toNat }, 0) := by unfold step; rw [hin]; simp [hj']
        have p2 : step (madeOf l) t = ({ t with pos := atMap l i.c.toNat }, 0) := by unfold step; rw [m0]; simp [hj']
        rw [p1, p2]
        have hS : Sim l { s with pos := i.c.toNat } { t with pos := atMap l i.c.toNat } := ⟨hct, rfl, h.back, h.tback, h.s8, h.t8, h.regs, h.r5, h.r6, h.told, h.mem, h.small⟩
        exact ⟨rfl, hS.out, fun _ => hS⟩
      · have hn := hnext (by omega)
        have hra := ga i.a c3 c4 fa
        have p1 : step l s = ({ s with pos := if rg s i.a = 0 then i.c.toNat else s.pos + 1 }, 0) := by unfold step; rw [hin]; simp [hj']
        have p2 : step (madeOf l) t = ({ t with pos := if rg s i.a = 0 then atMap l i.c.toNat else t.pos + 1 }, 0) := by unfold step; rw [m0]; simp [hj', hra]
        rw [p1, p2]
        have hS : Sim l { s with pos := if rg s i.a = 0 then i.c.toNat else s.pos + 1 } { t with pos := if rg s i.a = 0 then atMap l i.c.toNat else t.pos + 1 } :=
          ⟨by show (if rg s i.a = 0 then i.c.toNat else s.pos + 1) < _; split; exact hct; exact hn, by show (if _ then _ else _) = atMap l (if _ then _ else _); split; rfl; exact hsucc.symm,
            h.back, h.tback, h.s8, h.t8, h.regs, h.r5, h.r6, h.told, h.mem, h.small⟩
        exact ⟨rfl, hS.out, fun _ => hS⟩
      · have hn := hnext (by omega)
        have hbl : t.back.length = s.back.length := by rw [h.tback, List.length_map]
        by_cases hb : s.back.length = 16
        · have p1 : step l s = ({ s with pos := s.pos + 1 }, 4) := by unfold step; rw [hin]; simp [hj', hb]
          have p2 : step (madeOf l) t = ({ t with pos := t.pos + 1 }, 4) := by unfold step; rw [m0]; simp [hj', hbl, hb]
          rw [p1, p2]
          exact ⟨rfl, ⟨h.s8, h.t8, fun k hk => h.regs k (by omega) (by omega) (by omega) (by omega), h.told, h.mem⟩, fun h0 => by simp at h0⟩
        · have p1 : step l s = ({ s with pos := i.c.toNat, back := s.back ++ [s.pos + 1] }, 0) := by unfold step; rw [hin]; simp [hj', hb]
          have p2 : step (madeOf l) t = ({ t with pos := atMap l i.c.toNat, back := t.back ++ [t.pos + 1] }, 0) := by unfold step; rw [m0]; simp [hj', hbl, hb]
          rw [p1, p2]
          have hS : Sim l { s with pos := i.c.toNat, back := s.back ++ [s.pos + 1] } { t with pos := atMap l i.c.toNat, back := t.back ++ [t.pos + 1] } :=
            ⟨hct, rfl, fun p hp => by
              rcases List.mem_append.1 hp with hp | hp
              · exact h.back p hp
              · simp at hp; omega, by show t.back ++ [t.pos + 1] = _; rw [List.map_append, h.tback, ← hsucc]; rfl, h.s8, h.t8, h.regs, h.r5, h.r6, h.told, h.mem, h.small⟩
          exact ⟨rfl, hS.out, fun _ => hS⟩
    · have mk : mkI l i = [i] := by unfold mkI; rw [if_neg hld, if_neg hj]
      rw [mk] at hmade
      have m0 := hmade 0 (by simp)
      simp only [Nat.add_zero, List.getElem?_cons_zero, ← tpos] at m0
      have hj' : ¬ (i.op = 10 ∨ i.op = 11 ∨ i.op = 12) := by simpa [jmpB] using hj
      have q10 : i.op ≠ 10 := by omega
      have q11 : i.op ≠ 11 := by omega
      have q12 : i.op ≠ 12 := by omega
      by_cases o13 : i.op = 13
      · have hbl : t.back.length = s.back.length := by rw [h.tback, List.length_map]
        by_cases hb : s.back.length = 0
        · have p1 : step l s = ({ s with pos := s.pos + 1 }, 1) := by unfold step; rw [hin]; simp [o13, hb]
          have p2 : step (madeOf l) t = ({ t with pos := t.pos + 1 }, 1) := by unfold step; rw [m0]; simp [o13, hbl, hb]
          rw [p1, p2]
          exact ⟨rfl, ⟨h.s8, h.t8, fun k hk => h.regs k (by omega) (by omega) (by omega) (by omega), h.told, h.mem⟩, fun h0 => by simp at h0⟩
        · have p1 : step l s = ({ s with pos := s.back.getD (s.back.length - 1) 0, back := s.back.take (s.back.length - 1) }, 0) := by unfold step; rw [hin]; simp only; rw [if_neg ho.1, if_neg ho.2, if_neg q10, if_neg q11, if_neg q12, if_pos o13, if_neg hb]
          have p2 : step (madeOf l) t = ({ t with pos := t.back.getD (s.back.length - 1) 0, back := t.back.take (s.back.length - 1) }, 0) := by unfold step; rw [m0]; simp only; rw [if_neg ho.1, if_neg ho.2, if_neg q10, if_neg q11, if_neg q12, if_pos o13, hbl, if_neg hb]
          rw [p1, p2]
          have hg : s.back[s.back.length - 1]? = some (s.back[s.back.length - 1]'(by omega)) := List.getElem?_eq_getElem (by omega)
          have hS : Sim l { s with pos := s.back.getD (s.back.length - 1) 0, back := s.back.take (s.back.length - 1) } { t with pos := t.back.getD (s.back.length - 1) 0, back := t.back.take (s.back.length - 1) } :=
            ⟨by
              show s.back.getD (s.back.length - 1) 0 < _
              rw [List.getD_eq_getElem?_getD, hg]
              exact h.back _ (List.getElem_mem _), by
              show t.back.getD (s.back.length - 1) 0 = atMap l (s.back.getD (s.back.length - 1) 0)
              rw [h.tback, List.getD_eq_getElem?_getD, List.getD_eq_getElem?_getD, List.getElem?_map, hg]
              rfl, fun p hp => h.back p (List.mem_of_mem_take hp), by show t.back.take _ = _; rw [h.tback, List.map_take], h.s8, h.t8, h.regs, h.r5, h.r6, h.told, h.mem, h.small⟩
          exact ⟨rfl, hS.out, fun _ => hS⟩
      by_cases o14 : i.op = 14
      · have hn := hnext (by omega)
        have hra := ga i.a c3 c4 fa
        have htl := h.told
        by_cases hb : s.told.length = 100
        · have p1 : step l s = ({ s with pos := s.pos + 1 }, 5) := by unfold step; rw [hin]; simp [o14, hb]
          have p2 : step (madeOf l) t = ({ t with pos := t.pos + 1 }, 5) := by unfold step; rw [m0]; simp [o14, ← htl, hb]
          rw [p1, p2]
          exact ⟨rfl, ⟨h.s8, h.t8, fun k hk => h.regs k (by omega) (by omega) (by omega) (by omega), h.told, h.mem⟩, fun h0 => by simp at h0⟩
        · have p1 : step l s = ({ s with pos := s.pos + 1, told := s.told ++ [rg s i.a] }, 0) := by unfold step; rw [hin]; simp [o14, hb]
          have p2 : step (madeOf l) t = ({ t with pos := t.pos + 1, told := s.told ++ [rg s i.a] }, 0) := by unfold step; rw [m0]; simp [o14, ← htl, hb, hra]
          rw [p1, p2]
          have hS : Sim l { s with pos := s.pos + 1, told := s.told ++ [rg s i.a] } { t with pos := t.pos + 1, told := s.told ++ [rg s i.a] } :=
            ⟨hn, hsucc.symm, h.back, h.tback, h.s8, h.t8, h.regs, h.r5, h.r6, rfl, h.mem, h.small⟩
          exact ⟨rfl, hS.out, fun _ => hS⟩
      by_cases o15 : i.op = 15
      · have p1 : step l s = ({ s with pos := s.pos + 1 }, 1) := by unfold step; rw [hin]; simp [o15]
        have p2 : step (madeOf l) t = ({ t with pos := t.pos + 1 }, 1) := by unfold step; rw [m0]; simp [o15]
        rw [p1, p2]
        exact ⟨rfl, ⟨h.s8, h.t8, fun k hk => h.regs k (by omega) (by omega) (by omega) (by omega), h.told, h.mem⟩, fun h0 => by simp at h0⟩
      have hn := hnext (by omega)
      have hrb := ga i.b c5 c6 fb
      have hrk : reck (rg t i.b) (rg t (i.c % 8)) i.op.toNat i.c.toNat = reck (rg s i.b) (rg s (i.c % 8)) i.op.toNat i.c.toNat := by
        rw [hrb]
        by_cases h1 : i.op = 1
        · rw [h1]; rfl
        · have h7 := c9 (by omega) (by omega)
          have e8 : i.c % 8 = i.c := by omega
          rw [e8, ga i.c c7 h7 (fc (by omega) (by omega))]
      have p1 : step l s = ({ s with pos := s.pos + 1, regs := s.regs.set i.a.toNat (reck (rg s i.b) (rg s (i.c % 8)) i.op.toNat i.c.toNat) }, 0) := by
        unfold step; rw [hin]; simp only; rw [if_neg ho.1, if_neg ho.2, if_neg q10, if_neg q11, if_neg q12, if_neg o13, if_neg o14, if_neg o15]
      have p2 : step (madeOf l) t = ({ t with pos := t.pos + 1, regs := t.regs.set i.a.toNat (reck (rg s i.b) (rg s (i.c % 8)) i.op.toNat i.c.toNat) }, 0) := by
        unfold step; rw [m0]; simp only; rw [if_neg ho.1, if_neg ho.2, if_neg q10, if_neg q11, if_neg q12, if_neg o13, if_neg o14, if_neg o15, hrk]
      rw [p1, p2]
      have hR := regs_set (v := reck (rg s i.b) (rg s (i.c % 8)) i.op.toNat i.c.toNat) (z := i.a) h.s8 h.t8 h.regs
      have hS : Sim l { s with pos := s.pos + 1, regs := s.regs.set i.a.toNat (reck (rg s i.b) (rg s (i.c % 8)) i.op.toNat i.c.toNat) } { t with pos := t.pos + 1, regs := t.regs.set i.a.toNat (reck (rg s i.b) (rg s (i.c % 8)) i.op.toNat i.c.toNat) } :=
        ⟨hn, hsucc.symm, h.back, h.tback, by simpa using h.s8, by simpa using h.t8, hR, by show (t.regs.set _ _).getD 5 0 = 0; rw [getD_set, if_neg (by omega)]; exact h.r5,
          by show (t.regs.set _ _).getD 6 0 = 63; rw [getD_set, if_neg (by omega)]; exact h.r6, h.told, h.mem, h.small⟩
      exact ⟨rfl, hS.out, fun _ => hS⟩

theorem sim_runs {l : List Ins} (hp : PlainOk l) : ∀ (n : Nat) (s t : Mc), Sim l s t → (runs l n s).2 ≠ 3 → (runs l n s).2 ≠ 2 → ∀ m, 3 * n ≤ m → (runs (madeOf l) m t).2 = (runs l n s).2 ∧ Out (runs l n s).1 (runs (madeOf l) m t).1
  | 0, s, t, _, _, h2 => absurd rfl h2
  | n + 1, s, t, h, h3, h2 => fun m hm => by
    have h3' : (step l s).2 ≠ 3 := fun e => by
      have : (runs l (n + 1) s).2 = 3 := by rw [runs_stop (by rw [e]; omega)]; exact e
      exact h3 this
    obtain ⟨k, hk, t', hr, he, ho, hs⟩ := sim_step hp h h3'
    obtain ⟨m', rfl⟩ : ∃ m', m = (m' + 1) + k := ⟨m - 1 - k, by omega⟩
    rw [hr]
    by_cases h0 : (step l s).2 = 0
    · rw [runs_go h0] at h3 h2 ⊢
      rw [runs_go (by rw [he]; exact h0)]
      exact sim_runs hp n _ _ (hs h0) h3 h2 m' (by omega)
    · rw [runs_stop h0, runs_stop (by rw [he]; exact h0)]
      exact ⟨he, ho⟩
end Go.Proofs.YtdjamdbamkhblabDoor
