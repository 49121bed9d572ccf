import Derived.Test.YtinibpncbhmchaaK1
import Derived.Test.YtinibpncbhmchaaQ0
namespace Go.Proofs.Ytinibpncbhmchaa.Q
open Go Go.RowKit Go.Proofs.YtinibpncbhmchaaW.PrintWords
/-! What the functions of package field answer, on lists of bytes. -/
def mkS (l : List UInt8) : ByteArray := ⟨l.toArray⟩
/-- A number off a list of bytes: its value, was it there, what is left. -/
def numR : Nat → Nat → Int → List UInt8 → (Int × Bool) × List UInt8
  | 0, _, _, l => ((0, false), l)
  | f + 1, sh, n, l => match l with
    | [] => ((0, false), [])
    | c :: t => if c < 128 then ((n + (c.toNat : Int) * 2 ^ sh, (decide (0 < c.toNat) || sh == 0) && decide (n + (c.toNat : Int) * 2 ^ sh ≤ 4611686018427387904)), t)
      else numR f (sh + 7) (n + ((c.toNat % 128 : Nat) : Int) * 2 ^ sh) t
/-- A field off a list of bytes. -/
def fldR (l : List UInt8) : (S39 × Bool) × List UInt8 :=
  let c := l.headD 0
  let tg : Int := (c.toNat / 2 : Nat)
  let kd : Int := (c.toNat % 2 : Nat)
  let r := numR 9 0 0 l.tail
  if r.1.2 = false ∨ tg < 1 ∨ tg > 63 then ((⟨tg, kd, 0, mkS []⟩, false), r.2)
  else if kd = 0 then ((⟨tg, kd, r.1.1, mkS []⟩, true), r.2)
  else if r.1.1 > (r.2.length : Int) ∨ r.1.1 > 4096 then ((⟨tg, kd, 0, mkS []⟩, false), r.2)
  else ((⟨tg, kd, 0, mkS (r.2.take r.1.1.toNat)⟩, true), r.2.drop r.1.1.toNat)
/-- The fields of a list of bytes, behind one of a tag. -/
def decR : Nat → Int → List S39 → List UInt8 → List S39 × Int
  | 0, _, _, _ => ([], 5)
  | k + 1, ahead, out, l => if l = [] then (out, 0) else
    let r := fldR l
    if r.1.2 = false ∨ r.1.1.f0 < ahead then ([], 5) else decR k r.1.1.f0 (out ++ [r.1.1]) r.2
def field_Decode.f (a0 : ByteArray) : Option (List S39 × Int) := some (if a0.size > 65536 then ([], 5) else decR (a0.size + 1) 0 [] a0.data.toList)
end Go.Proofs.Ytinibpncbhmchaa.Q
