/- PLAIN FUNCTIONS OF packages value and cond: values, conditions, how they are held against one another. No program in sight. -/
import Derived.Test.YtnccpddjdgndcaaGreatDoorOrdFn
import Derived.Lib.Bytealg
namespace Go.Proofs.YtnccpddjdgndcaaGreatDoor.Val
open Flt
/-- a value's five fields -/
structure V where
  kind : Int
  int : Int
  num : Nat
  text : List UInt8
  yes : Bool
/-- a condition -/
structure C where
  name : List UInt8
  op : Int
  val : V
def voidB (v : V) : Bool := v.kind == 1 && nan v.num
def sgn (less more : Bool) : Int := if less then -1 else if more then 1 else 0
/-- of two values of one kind that are none of them void -/
def cmp (a b : V) : Int :=
  if a.kind == 0 then sgn (decide (a.int < b.int)) (decide (b.int < a.int))
  else if a.kind == 1 then sgn (Flt.lt a.num b.num) (Flt.lt b.num a.num)
  else if a.kind == 2 then Lib.compareBytes a.text b.text
  else sgn (!a.yes && b.yes) (a.yes && !b.yes)
def cmpOk (a b : V) : Bool := a.kind == b.kind && !voidB a && !voidB b
def cmp1 (a b : V) : Int := if cmpOk a b then cmp a b else 0
def pre (s p : List UInt8) : Bool := Lib.hasPrefix s p
def holdsB (c : C) (v : V) : Bool :=
  if c.op == 7 then true
  else if c.op == 6 then cmpOk v c.val && v.kind == 2 && pre v.text c.val.text
  else if c.op == 0 then cmpOk v c.val && cmp1 v c.val == 0
  else if c.op == 1 then cmpOk v c.val && cmp1 v c.val != 0
  else if c.op == 2 then cmpOk v c.val && decide (cmp1 v c.val < 0)
  else if c.op == 3 then cmpOk v c.val && decide (cmp1 v c.val ≤ 0)
  else if c.op == 4 then cmpOk v c.val && decide (0 < cmp1 v c.val)
  else if c.op == 5 then cmpOk v c.val && decide (0 ≤ cmp1 v c.val)
  else false
def vRight (v : V) : Bool := decide (0 ≤ v.kind) && decide (v.kind ≤ 3) && decide (v.text.length ≤ 40)
end Go.Proofs.YtnccpddjdgndcaaGreatDoor.Val
