/- WHAT A WRITER LAYS: plain functions from values to bytes, no program in sight. -/
import Derived.Test.YtpbdgbejcdncgaaOrdFn
namespace Go.Proofs.Ytpbdgbejcdncgaa.Wire

/-- a number as a byte -/
def byteOf (n : Int) : UInt8 := UInt8.ofNat (n % 256).toNat
theorem byteOf_val (n : Int) : ((byteOf n).toNat : Int) = n % 256 := by
  unfold byteOf
  rw [UInt8.toNat_ofNat', Nat.mod_eq_of_lt (by omega)]
  omega
theorem byteOf_nat (c : UInt8) : byteOf (c.toNat : Int) = c := by
  apply UInt8.toNat_inj.1
  have := byteOf_val (c.toNat : Int)
  have h := c.toNat_lt
  omega
def encText (s : List UInt8) : List UInt8 := byteOf s.length :: s
/-- the byte of a long number at a place -/
def longAt (x : Nat) (k : Nat) : UInt8 := UInt8.ofNat (x / 2 ^ k % 256)
def encLong (x : Nat) : List UInt8 := [longAt x 56, longAt x 48, longAt x 40, longAt x 32, longAt x 24, longAt x 16, longAt x 8, longAt x 0]
theorem encLong_len (x : Nat) : (encLong x).length = 8 := rfl
theorem encText_len (s : List UInt8) : (encText s).length = s.length + 1 := by simp [encText]
end Go.Proofs.Ytpbdgbejcdncgaa.Wire
