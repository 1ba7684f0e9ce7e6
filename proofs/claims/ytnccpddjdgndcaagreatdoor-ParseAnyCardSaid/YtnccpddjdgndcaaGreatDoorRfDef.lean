/- WHAT strconv.readFloat READS OF A TEXT: plain functions. No walk. -/
import Derived.Test.YtnccpddjdgndcaaGreatDoorRows
import Derived.Laws.Cover2
import Derived.Laws.Entries
namespace Go.Proofs.YtnccpddjdgndcaaGreatDoor.Pf
open Go.RowKit
/-- digits: their number in 64 bits, how many count, how many were taken, where the point stands; underscores, digits left out, a point, a digit -/
structure RS where
  m : Int
  nd : Int
  ndm : Int
  dp : Int
  us : Bool
  tr : Bool
  dot : Bool
  dig : Bool
def rs0 : RS := ⟨0, 0, 0, 0, false, false, false, false⟩
def low (c : Int) : Int := bits .or .u8 c 32
def baseZ (hex : Bool) : Int := if hex then 16 else 10
def mostZ (hex : Bool) : Int := if hex then 16 else 19
def rfDig (hex : Bool) (v : Int) (nz : Bool) (r : RS) : RS :=
  if r.ndm < mostZ hex then { r with dig := true, nd := r.nd + 1, m := IntKind.u64.wrap (IntKind.u64.wrap (r.m * baseZ hex) + v), ndm := r.ndm + 1 }
  else { r with dig := true, nd := r.nd + 1, tr := r.tr || nz }
def rfStep (hex : Bool) (c : Int) (r : RS) : Option RS :=
  if c = 95 then some { r with us := true }
  else if c = 46 then (if r.dot then none else some { r with dot := true, dp := r.nd })
  else if 48 ≤ c ∧ c ≤ 57 then
    if c = 48 ∧ r.nd = 0 then some { r with dig := true, dp := r.dp - 1 } else some (rfDig hex (c - 48) (c != 48) r)
  else if hex = true ∧ 97 ≤ low c ∧ low c ≤ 102 then some (rfDig hex (low c - 97 + 10) true r)
  else none
def rfGo (hex : Bool) : List UInt8 → RS → RS × List UInt8
  | [], r => (r, [])
  | c :: l, r => match rfStep hex (c.toNat : Int) r with
    | none => (r, c :: l)
    | some r2 => rfGo hex l r2
/-- an exponent's digits -/
def exGo : List UInt8 → Int → Bool → Int × Bool × List UInt8
  | [], e, us => (e, us, [])
  | c :: l, e, us =>
    if (c.toNat : Int) = 95 then exGo l e true
    else if 48 ≤ (c.toNat : Int) ∧ (c.toNat : Int) ≤ 57 then exGo l (if e < 10000 then e * 10 + (c.toNat : Int) - 48 else e) us
    else (e, us, c :: l)
/-- an exponent's sign -/
def exSg : List UInt8 → Int × List UInt8
  | [] => (1, [])
  | c :: l => if (c.toNat : Int) = 43 then (1, l) else if (c.toNat : Int) = 45 then (-1, l) else (1, c :: l)
/-- behind an exponent's letter -/
def exAll (l : List UInt8) (us : Bool) : Option (Int × Bool × List UInt8) :=
  match (exSg l).2 with
  | [] => none
  | c :: r => if 48 ≤ (c.toNat : Int) ∧ (c.toNat : Int) ≤ 57 then (let x := exGo (c :: r) 0 us; some (x.1 * (exSg l).1, x.2)) else none
def exLz (hex : Bool) : Int := if hex then 112 else 101
def isX (hex : Bool) (l : List UInt8) : Bool := match l with
  | [] => false
  | c :: _ => low (c.toNat : Int) == exLz hex
/-- digits, power of ten, digits left out, underscores, what is left -/
structure RO where
  m : Int
  e : Int
  tr : Bool
  us : Bool
  rest : List UInt8
/-- behind the digits -/
def rfEnd (hex : Bool) (R : RS × List UInt8) : Option RO :=
  if R.1.dig = false then none
  else
    let dp := if R.1.dot then R.1.dp else R.1.nd
    let k := if hex then 4 else 1
    if isX hex R.2 then
      match exAll (R.2.drop 1) R.1.us with
      | none => none
      | some (e, us, r) => some ⟨R.1.m, if R.1.m = 0 then 0 else dp * k + e - R.1.ndm * k, R.1.tr, us, r⟩
    else if hex then none
    else some ⟨R.1.m, if R.1.m = 0 then 0 else dp * k - R.1.ndm * k, R.1.tr, R.1.us, R.2⟩
/-- a decimal text behind its sign -/
def rfDec (l : List UInt8) : Option RO := rfEnd false (rfGo false l rs0)
end Go.Proofs.YtnccpddjdgndcaaGreatDoor.Pf
