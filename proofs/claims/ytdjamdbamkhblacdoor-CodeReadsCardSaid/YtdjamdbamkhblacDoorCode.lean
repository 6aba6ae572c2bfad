/- The walks of code.Check and of its reference: what they return, for every code. -/
import Derived.Test.YtdjamdbamkhblacDoorIn
namespace Go.Proofs.YtdjamdbamkhblacDoor
open Go.RowKit

def grt (c : Int) : Int := if c == 114 then 7 else if c == 119 then 65535 else if c == 112 then 199 else 0
/-- The shape of an instruction, by its kind. -/
def shp (q : Nat) : ByteArray :=
  match q with
  | 1 => ⟨#[114, 45, 119]⟩ | 2 => ⟨#[114, 114, 114]⟩ | 3 => ⟨#[114, 114, 114]⟩ | 4 => ⟨#[114, 114, 114]⟩ | 5 => ⟨#[114, 114, 114]⟩ | 6 => ⟨#[114, 114, 114]⟩ | 7 => ⟨#[114, 114, 114]⟩
  | 8 => ⟨#[114, 114, 45]⟩ | 9 => ⟨#[114, 114, 45]⟩ | 10 => ⟨#[45, 45, 112]⟩ | 11 => ⟨#[114, 45, 112]⟩ | 12 => ⟨#[45, 45, 112]⟩ | 13 => ⟨#[45, 45, 45]⟩ | 14 => ⟨#[114, 45, 45]⟩ | 15 => ⟨#[45, 45, 45]⟩
  | _ => ⟨#[]⟩
theorem q_cases {q : Nat} (h1 : 1 ≤ q) (h2 : q ≤ 15) : q = 1 ∨ q = 2 ∨ q = 3 ∨ q = 4 ∨ q = 5 ∨ q = 6 ∨ q = 7 ∨ q = 8 ∨ q = 9 ∨ q = 10 ∨ q = 11 ∨ q = 12 ∨ q = 13 ∨ q = 14 ∨ q = 15 := by omega
theorem shp_size {q : Nat} (h1 : 1 ≤ q) (h2 : q ≤ 15) : (shp q).size = 3 := by
  rcases q_cases h1 h2 with h | h | h | h | h | h | h | h | h | h | h | h | h | h | h <;> subst h <;> rfl
/-- The table of shapes lies in its variable's block. -/
def Tab (w : World) : Prop := 1 < w.heap.size ∧ ∀ k : Nat, k < 16 → w.cell? ⟨1, k, none⟩ = some (.string (shp k))
theorem Tab.below {w w' : World} (h : Tab w) (hb : Below w.heap.size w w') : Tab w' :=
  ⟨Nat.lt_of_lt_of_le h.1 hb.size, fun k hk => (hb.cell (p := ⟨_, k, none⟩) h.1).trans (h.2 k hk)⟩

set_option maxHeartbeats 400000 in
theorem greatest_any (c : Int) (w : World) :
    Calls Tryd.prog 104 #[.int .u8 c] w fun e w' => e = .returned (.int .i64 (grt c)) ∧ w = w' := by
  go_enter Tryd.func104, Tryd.ntmps104
  go_wp2
  all_goals go_ret
  all_goals simp [grt, *]

end Go.Proofs.YtdjamdbamkhblacDoor
