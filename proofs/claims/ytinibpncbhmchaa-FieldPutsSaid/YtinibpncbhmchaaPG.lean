import Derived.Test.YtinibpncbhmchaaPF
namespace Go.Proofs.Ytinibpncbhmchaa.Q
open Go Go.RowKit Go.Proofs.YtinibpncbhmchaaW.PrintWords
/-- Of a tag and a kind. -/
def isOf (tag kind : Int) (f : S39) : Bool := f.f0 == tag && f.f1 == kind
/-- The first number, the first text, all texts of a tag. -/
def field_Num.f (l : List S39) (tag : Int) : Option (Int × Bool) := if l.length ≤ 1048576 then some (match l.filter (isOf tag 0) with | f :: _ => (f.f2, true) | [] => (0, false)) else none
def field_Text.f (l : List S39) (tag : Int) : Option (ByteArray × Bool) := if l.length ≤ 1048576 then some (match l.filter (isOf tag 1) with | f :: _ => (f.f3, true) | [] => (mkS [], false)) else none
def field_Texts.f (l : List S39) (tag : Int) : Option (List ByteArray) := if l.length ≤ 1048576 then some ((l.filter (isOf tag 1)).map (·.f3)) else none
def field_Put.f (l : List S39) (a0 a1 a2 : Int) (a3 : ByteArray) : Option (List S39) := if l.length ≤ 1048576 then some (l.takeWhile (fun x => !(decide (x.f0 > a0))) ++ [⟨a0, a1, a2, a3⟩] ++ l.dropWhile (fun x => !(decide (x.f0 > a0)))) else none
end Go.Proofs.Ytinibpncbhmchaa.Q
