/-
  The lexer as plain functions on lists of bytes.
-/
import Derived.Lib.Hide
namespace Go.Proofs.YteghlkcgeadoaaaDoor
def letterB (b : UInt8) : Bool := (decide (97 ≤ b.toNat) && decide (b.toNat ≤ 122)) || (decide (65 ≤ b.toNat) && decide (b.toNat ≤ 90))
def digitB (b : UInt8) : Bool := decide (48 ≤ b.toNat) && decide (b.toNat ≤ 57)
def innerB (b : UInt8) : Bool := letterB b || digitB b || b == 95
def signB (b : UInt8) : Bool := b == 123 || b == 125 || b == 59 || b == 44 || b == 46 || b == 58
def blankB (b : UInt8) : Bool := b == 32 || b == 9 || b == 10 || b == 13
/-- How many bytes are blanks and comments (c: in a comment). -/
def skipN : Bool → List UInt8 → Nat
  | _, [] => 0
  | true, b :: r => if b == 10 then 1 + skipN false r else 1 + skipN true r
  | false, b :: r => if blankB b then 1 + skipN false r else if b == 35 then 1 + skipN true r else 0
def digV (b : UInt8) : Nat := b.toNat - 48
def numV (s : List UInt8) : Nat := s.foldl (fun n b => n * 10 + digV b) 0
/-- A valid number. -/
def numB (s : List UInt8) : Bool := s.all digitB && (match s with
  | [] => false
  | [_] => true
  | b :: _ => b != 48) && decide (numV s ≤ 1073741824)
structure Tok where
  kind : Nat
  text : List UInt8
  at_ : Nat
/-- How long a word or number is. -/
def runN (r : List UInt8) : Nat := (r.takeWhile innerB).length
/-- The token at the head: its kind and length, or the error. -/
def tokN : List UInt8 → Nat × Nat × Nat
  | [] => (0, 0, 70)
  | b :: r =>
    if letterB b then (if 24 < 1 + runN r then (1, 1 + runN r, 71) else (1, 1 + runN r, 0))
    else if digitB b then (if numB (b :: r.take (runN r)) then (2, 1 + runN r, 0) else (2, 1 + runN r, 72))
    else if signB b then (3, 1, 0)
    else (3, 0, 70)
/-- The tokens of what is left from p on: those before the first error, where it lies, the error. -/
def lexN : Nat → Nat → List UInt8 → List Tok × Nat × Nat
  | 0, _, _ => ([], 0, 0)
  | f + 1, p, l =>
    match l.drop (skipN false l) with
    | [] => ([], 0, 0)
    | b :: r =>
      let t := tokN (b :: r)
      if t.2.2 = 0 then
        let q := lexN f (p + skipN false l + t.2.1) ((b :: r).drop t.2.1)
        (⟨t.1, (b :: r).take t.2.1, p + skipN false l⟩ :: q.1, q.2)
      else ([], p + skipN false l, t.2.2)
end Go.Proofs.YteghlkcgeadoaaaDoor
