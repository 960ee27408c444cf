/-
  Merged texts: The lexer as plain functions on lists of bytes. | parse: the parser as plain functions on lists of tokens. | Small helper lemmas of this claim's walks. | 'Kept F w w'': every block of w that F does not name is in w' as it was. | Deep data in memory: a value that is a slice of rows, whose cells are values or slices again. | parse: configurations as data in memory. | A region that draws its order, whose operations read old cells and whose callees only make memory: one walk in the text's order. The class of worlds is 'W, and whatever has been laid since'. | nacellekit's Same functions: the plain part. | A region that draws its order and whose last operations are a chain that waits for all the others (a store into a cell that the region loads): the loads are taken first, the others are branched over, the chain comes last. | Short names for what the walks of drawn regions say often.
-/
import Derived.Lib.Hide
import Derived.Test.YtgbfaompondolaaGreatDoorProg
import Derived.WalkKit
import Derived.WalkSpells
import Derived.WalkLawsBesides
import Derived.Handy
import Derived.BigQuiet
import Derived.Deep.QuietTactic
import Derived.Deep.MidRow
import Derived.Deep.Draws
import Derived.Maps.AppendAt
import Derived.Deep.AppendLies
import Derived.Deep.Quiet
import Derived.OrdersHeld
import Derived.StillTail
import Derived.RegionTactic
import Derived.Deep.RegionHeld3
import Derived.Laws.Rows
namespace Go.Proofs.YtgbfaompondolaaGreatDoor
def letterB (b : UInt8) : Bool := (decide (97 ≤ b.toNat) && decide (b.toNat ≤ 122)) || (decide (65 ≤ b.toNat) && decide (b.toNat ≤ 90))
def digitB (b : UInt8) : Bool := decide (48 ≤ b.toNat) && decide (b.toNat ≤ 57)
def innerB (b : UInt8) : Bool := letterB b || digitB b || b == 95
def signB (b : UInt8) : Bool := b == 123 || b == 125 || b == 59 || b == 44 || b == 46 || b == 58
def blankB (b : UInt8) : Bool := b == 32 || b == 9 || b == 10 || b == 13
/-- How many bytes are blanks and comments (c: in a comment). -/
def skipN : Bool → List UInt8 → Nat
  | _, [] => 0
  | true, b :: r => if b == 10 then 1 + skipN false r else 1 + skipN true r
  | false, b :: r => if blankB b then 1 + skipN false r else if b == 35 then 1 + skipN true r else 0
def digV (b : UInt8) : Nat := b.toNat - 48
def numV (s : List UInt8) : Nat := s.foldl (fun n b => n * 10 + digV b) 0
/-- A valid number. -/
def numB (s : List UInt8) : Bool := s.all digitB && (match s with
  | [] => false
  | [_] => true
  | b :: _ => b != 48) && decide (numV s ≤ 1073741824)
structure Tok where
  kind : Nat
  text : List UInt8
  at_ : Nat
/-- How long a word or number is. -/
def runN (r : List UInt8) : Nat := (r.takeWhile innerB).length
/-- The token at the head: its kind and length, or the error. -/
def tokN : List UInt8 → Nat × Nat × Nat
  | [] => (0, 0, 70)
  | b :: r =>
    if letterB b then (if 24 < 1 + runN r then (1, 1 + runN r, 71) else (1, 1 + runN r, 0))
    else if digitB b then (if numB (b :: r.take (runN r)) then (2, 1 + runN r, 0) else (2, 1 + runN r, 72))
    else if signB b then (3, 1, 0)
    else (3, 0, 70)
/-- The tokens of what is left from p on: those before the first error, where it lies, the error. -/
def lexN : Nat → Nat → List UInt8 → List Tok × Nat × Nat
  | 0, _, _ => ([], 0, 0)
  | f + 1, p, l =>
    match l.drop (skipN false l) with
    | [] => ([], 0, 0)
    | b :: r =>
      let t := tokN (b :: r)
      if t.2.2 = 0 then
        let q := lexN f (p + skipN false l + t.2.1) ((b :: r).drop t.2.1)
        (⟨t.1, (b :: r).take t.2.1, p + skipN false l⟩ :: q.1, q.2)
      else ([], p + skipN false l, t.2.2)
end Go.Proofs.YtgbfaompondolaaGreatDoor
namespace Go.Proofs.YtgbfaompondolaaGreatDoor
inductive Res (α : Type) where
  | ok (a : α) (r : List Tok)
  | bad (e : Nat) (r : List Tok)
/-- A parser: what is left; the result and what is then left, or the error and what is left at it. -/
def Ps (α : Type) := List Tok → Res α
def Ps.ret {α : Type} (a : α) : Ps α := fun r => .ok a r
def Ps.bnd {α β : Type} (m : Ps α) (f : α → Ps β) : Ps β := fun r => match m r with
  | .ok a r' => f a r'
  | .bad e r' => .bad e r'
instance : Monad Ps where
  pure := Ps.ret
  bind := Ps.bnd
theorem bnd_ok {α β : Type} {m : Ps α} {f : α → Ps β} {r r' : List Tok} {a : α} (h : m r = .ok a r') : (m >>= f) r = f a r' := by
  show Ps.bnd m f r = _
  unfold Ps.bnd
  rw [h]
theorem bnd_bad {α β : Type} {m : Ps α} {f : α → Ps β} {r r' : List Tok} {e : Nat} (h : m r = .bad e r') : (m >>= f) r = .bad e r' := by
  show Ps.bnd m f r = _
  unfold Ps.bnd
  rw [h]
structure RefD where
  m : List UInt8
  p : List UInt8
  o : List UInt8
structure InsD where
  op : Nat
  a : Int
  b : Int
  c : Int
structure PortD where
  name : List UInt8
  kind : Nat
  out : Bool
  size : Int
  depth : Int
  refresh : Int
structure ProcD where
  name : List UInt8
  prio : Int
  period : Int
  limit : Int
  code : List InsD
structure PartD where
  name : List UInt8
  period : Int
  length : Int
  mem : Int
  semas : List Int
  events : Int
  boards : Int
  bufs : List Int
  ports : List PortD
  procs : List ProcD
structure ModD where
  name : List UInt8
  mem : Int
  frame : Int
  parts : List PartD
structure ChanD where
  from_ : RefD
  to : List RefD
structure SwD where
  name : List UInt8
  net : Int
  delay : Int
  store : Int
structure LinkD where
  a : List UInt8
  b : List UInt8
  net : Int
  slow : Int
structure VlD where
  name : List UInt8
  from_ : RefD
  bag : Int
  max : Int
  to : List RefD
structure HealthD where
  module : List UInt8
  part : List UInt8
  fault : Nat
  level : Nat
  do_ : Nat
structure RepD where
  unit : List UInt8
  code : Int
structure CauseD where
  unit : List UInt8
  needs : List RepD
  but : List (List UInt8)
structure VerD where
  a : List UInt8
  va : Int
  b : List UInt8
  vb : Int
structure CfgD where
  modules : List ModD
  channels : List ChanD
  switches : List SwD
  links : List LinkD
  vls : List VlD
  health : List HealthD
  causes : List CauseD
  versions : List VerD
def CfgD.none : CfgD := ⟨[], [], [], [], [], [], [], []⟩
def insWords : List (List UInt8) := [[119, 111, 114, 107], [115, 101, 116], [97, 100, 100], [115, 117, 98], [108, 111, 97, 100], [115, 116, 111, 114, 101], [115, 101, 110, 100], [114, 101, 99, 118], [119, 97, 105, 116], [115, 105, 103, 110, 97, 108], [114, 97, 105, 115, 101], [108, 111, 119, 101, 114], [117, 110, 116, 105, 108], [112, 117, 116], [103, 101, 116], [115, 104, 111, 119], [108, 111, 111, 107], [99, 108, 101, 97, 114], [110, 101, 120, 116], [106, 117, 109, 112], [122, 101, 114, 111], [108, 101, 115, 115], [100, 105, 118], [102, 97, 117, 108, 116], [115, 116, 111, 112]]
def insOps : List (List UInt8) := [[119], [114, 118], [114, 114], [114, 114], [114, 97, 114], [114, 97, 114], [111, 114, 108], [105, 114, 114], [115], [115], [101], [101], [101], [98, 114], [98, 114], [100, 114], [100, 114], [100], [], [106], [114, 106], [114, 114, 106], [114, 114], [99], []]
def faultWords : List (List UInt8) := [[100, 101, 97, 100, 108, 105, 110, 101], [109, 101, 109, 111, 114, 121], [114, 97, 105, 115, 101, 100], [110, 117, 109, 101, 114, 105, 99], [115, 116, 97, 99, 107], [112, 111, 119, 101, 114], [119, 105, 110, 100, 111, 119]]
def levelWords : List (List UInt8) := [[112, 114, 111, 99, 101, 115, 115], [112, 97, 114, 116], [109, 111, 100, 117, 108, 101]]
def actionWords : List (List UInt8) := [[105, 103, 110, 111, 114, 101], [115, 116, 111, 112], [114, 101, 115, 116, 97, 114, 116], [119, 97, 114, 109], [99, 111, 108, 100], [105, 100, 108, 101], [114, 101, 115, 101, 116], [104, 97, 108, 116]]
def netWords : List (List UInt8) := [[97], [98]]
def kindWords : List (List UInt8) := [[115, 97, 109, 112, 108, 105, 110, 103], [113, 117, 101, 117, 105, 110, 103]]
/-- The word of a constant. -/
def wordN (l : List (List UInt8)) (n : Nat) : List UInt8 := if n = 0 then [] else l.getD (n - 1) []
/-- The constant of a word; 0: none. -/
def findN (l : List (List UInt8)) (s : List UInt8) : Nat := match l.findIdx? (· == s) with
  | some i => i + 1
  | none => 0
def hdT (r : List Tok) : Tok := r.headD ⟨0, [], 0⟩
def seesB (s : List UInt8) (r : List Tok) : Bool := (hdT r).text == s && ((hdT r).kind == 1 || (hdT r).kind == 3)
def takesP (s : List UInt8) : Ps Bool := fun r => if seesB s r then .ok true r.tail else .ok false r
def failP {α : Type} (e : Nat) : Ps α := fun r => .bad e r
def mustP (s : List UInt8) : Ps Unit := fun r => if seesB s r then .ok () r.tail else .bad 80 r
def nextP (k : Nat) : Ps (List UInt8) := fun r => if (hdT r).kind == k then .ok (hdT r).text r.tail else .bad 80 r
def nameP : Ps (List UInt8) := nextP 1
def numP : Ps Int := do
  let t ← nextP 2
  pure ((numV t : Nat) : Int)
def afterP (s : List UInt8) : Ps Int := do
  mustP s
  numP
def ofP (l : List (List UInt8)) : Ps Nat := fun r => if findN l (hdT r).text != 0 && (hdT r).kind == 1 then .ok (findN l (hdT r).text) r.tail else .bad 80 r
/-- Further things behind commas. -/
def moreP {α : Type} (x : Ps α) : Nat → List α → Ps (List α)
  | 0, acc => pure acc
  | f + 1, acc => do
    let b ← takesP [44]
    if b then do
      let a ← x
      moreP x f (acc ++ [a])
    else pure acc
def listP {α : Type} (x : Ps α) : Ps (List α) := do
  let a ← x
  fun r => moreP x (r.length + 1) [a] r
def refP : Ps RefD := do
  let m ← nameP
  mustP [46]
  let p ← nameP
  mustP [46]
  let o ← nameP
  pure ⟨m, p, o⟩
def netP : Ps Int := do
  mustP [110, 101, 116]
  let n ← ofP netWords
  pure ((n : Int) - 1)
/-- As many numbers as an instruction has operands (0 to 3). -/
def opsP : Nat → Ps (List Int)
  | 0 => pure []
  | n + 1 => do
    let a ← numP
    let l ← opsP n
    pure (a :: l)
def insP : Ps InsD := do
  let op ← ofP insWords
  let l ← opsP (wordN insOps op).length
  mustP [59]
  pure ⟨op, l.getD 0 0, l.getD 1 0, l.getD 2 0⟩
def codeLoop : Nat → List InsD → Ps (List InsD)
  | 0, acc => pure acc
  | f + 1, acc => fun r => if (hdT r).kind == 1 then (do
      let x ← insP
      codeLoop f (acc ++ [x])) r
    else .ok acc r
def codeP : Ps (List InsD) := fun r => codeLoop (r.length + 1) [] r
def wayP : Ps Bool := fun r => if seesB [105, 110] r then .ok false r.tail else if seesB [111, 117, 116] r then .ok true r.tail else .bad 80 r
def portP : Ps PortD := do
  let out ← wayP
  let name ← nameP
  let kind ← ofP kindWords
  let size ← afterP [115, 105, 122, 101]
  if kind = 1 then do
    let x ← afterP [114, 101, 102, 114, 101, 115, 104]
    mustP [59]
    pure ⟨name, kind, out, size, 0, x⟩
  else do
    let x ← afterP [100, 101, 112, 116, 104]
    mustP [59]
    pure ⟨name, kind, out, size, x, 0⟩
def procP : Ps ProcD := do
  let name ← nameP
  let prio ← afterP [112, 114, 105, 111]
  let period ← afterP [112, 101, 114, 105, 111, 100]
  let limit ← afterP [108, 105, 109, 105, 116]
  mustP [123]
  let code ← codeP
  mustP [125]
  pure ⟨name, prio, period, limit, code⟩
/-- A partition that is being parsed, and which things of those that occur once it has had. -/
structure BuildD where
  p : PartD
  what : List (List UInt8)
def skipP : Ps Unit := fun r => .ok () r.tail
/-- A thing that occurs once. -/
def onceP (w : List UInt8) (b : BuildD) (x : Ps PartD) : Ps BuildD := fun r => if b.what.contains w then .bad 81 r else (do
  skipP
  let p ← x
  mustP [59]
  pure (BuildD.mk p (b.what ++ [w]))) r
def semasP (p : PartD) : Ps PartD := do
  let l ← listP numP
  pure { p with semas := l }
def bufsP (p : PartD) : Ps PartD := do
  let l ← listP numP
  pure { p with bufs := l }
def eventsP (p : PartD) : Ps PartD := do
  let n ← numP
  pure { p with events := n }
def boardsP (p : PartD) : Ps PartD := do
  let n ← numP
  pure { p with boards := n }
/-- A thing of a partition. -/
def thingP (b : BuildD) : Ps BuildD := fun r =>
  if seesB [115, 101, 109, 97, 115] r then onceP [115, 101, 109, 97, 115] b (semasP b.p) r
  else if seesB [98, 117, 102, 115] r then onceP [98, 117, 102, 115] b (bufsP b.p) r
  else if seesB [101, 118, 101, 110, 116, 115] r then onceP [101, 118, 101, 110, 116, 115] b (eventsP b.p) r
  else if seesB [98, 111, 97, 114, 100, 115] r then onceP [98, 111, 97, 114, 100, 115] b (boardsP b.p) r
  else if seesB [112, 114, 111, 99] r then (do
    skipP
    let x ← procP
    pure (BuildD.mk { b.p with procs := b.p.procs ++ [x] } b.what)) r
  else (do
    let x ← portP
    pure (BuildD.mk { b.p with ports := b.p.ports ++ [x] } b.what)) r
def thingsLoop : Nat → BuildD → Ps BuildD
  | 0, b => pure b
  | f + 1, b => fun r => if seesB [125] r then .ok b r.tail else (do
      let b' ← thingP b
      thingsLoop f b') r
def partP : Ps PartD := do
  let name ← nameP
  let period ← afterP [112, 101, 114, 105, 111, 100]
  let length ← afterP [108, 101, 110, 103, 116, 104]
  let mem ← afterP [109, 101, 109]
  mustP [123]
  let b ← fun r => thingsLoop (r.length + 1) ⟨⟨name, period, length, mem, [], 0, 0, [], [], []⟩, []⟩ r
  pure b.p
def partsLoop : Nat → List PartD → Ps (List PartD)
  | 0, acc => pure acc
  | f + 1, acc => do
    let b ← takesP [112, 97, 114, 116]
    if b then do
      let x ← partP
      partsLoop f (acc ++ [x])
    else pure acc
def modP : Ps ModD := do
  let name ← nameP
  let mem ← afterP [109, 101, 109]
  let frame ← afterP [102, 114, 97, 109, 101]
  mustP [123]
  let parts ← fun r => partsLoop (r.length + 1) [] r
  mustP [125]
  pure ⟨name, mem, frame, parts⟩
def chanP : Ps ChanD := do
  let f ← refP
  mustP [116, 111]
  let to ← listP refP
  mustP [59]
  pure ⟨f, to⟩
def swP : Ps SwD := do
  let name ← nameP
  let net ← netP
  let delay ← afterP [100, 101, 108, 97, 121]
  let store ← afterP [115, 116, 111, 114, 101]
  mustP [59]
  pure ⟨name, net, delay, store⟩
def linkP : Ps LinkD := do
  let a ← nameP
  let b ← nameP
  let net ← netP
  let slow ← afterP [115, 108, 111, 119]
  mustP [59]
  pure ⟨a, b, net, slow⟩
def vlP : Ps VlD := do
  let name ← nameP
  mustP [102, 114, 111, 109]
  let f ← refP
  let bag ← afterP [98, 97, 103]
  let max ← afterP [109, 97, 120]
  mustP [116, 111]
  let to ← listP refP
  mustP [59]
  pure ⟨name, f, bag, max, to⟩
/-- A name behind a word, if the word is there. -/
def optP (s : List UInt8) : Ps (List UInt8) := do
  let b ← takesP s
  if b then nameP else pure []
def healthP : Ps HealthD := do
  let f ← ofP faultWords
  let m ← optP [109, 111, 100, 117, 108, 101]
  let p ← optP [112, 97, 114, 116]
  mustP [108, 101, 118, 101, 108]
  let l ← ofP levelWords
  mustP [100, 111]
  let d ← ofP actionWords
  mustP [59]
  pure ⟨m, p, f, l, d⟩
def repP : Ps RepD := do
  let u ← nameP
  mustP [58]
  let c ← numP
  pure ⟨u, c⟩
def unlessP : Ps (List (List UInt8)) := do
  let b ← takesP [117, 110, 108, 101, 115, 115]
  if b then listP nameP else pure []
def causeP : Ps CauseD := do
  let u ← nameP
  mustP [110, 101, 101, 100, 115]
  let n ← listP repP
  let un ← unlessP
  mustP [59]
  pure ⟨u, n, un⟩
def worksP : Ps VerD := do
  let a ← nameP
  let va ← numP
  mustP [119, 105, 116, 104]
  let b ← nameP
  let vb ← numP
  mustP [59]
  pure ⟨a, va, b, vb⟩
def itemP (c : CfgD) : Ps CfgD := fun r =>
  if seesB [109, 111, 100, 117, 108, 101] r then (do skipP; let x ← modP; pure { c with modules := c.modules ++ [x] }) r
  else if seesB [99, 104, 97, 110, 110, 101, 108] r then (do skipP; let x ← chanP; pure { c with channels := c.channels ++ [x] }) r
  else if seesB [115, 119, 105, 116, 99, 104] r then (do skipP; let x ← swP; pure { c with switches := c.switches ++ [x] }) r
  else if seesB [108, 105, 110, 107] r then (do skipP; let x ← linkP; pure { c with links := c.links ++ [x] }) r
  else if seesB [118, 108] r then (do skipP; let x ← vlP; pure { c with vls := c.vls ++ [x] }) r
  else if seesB [111, 110] r then (do skipP; let x ← healthP; pure { c with health := c.health ++ [x] }) r
  else if seesB [99, 97, 117, 115, 101] r then (do skipP; let x ← causeP; pure { c with causes := c.causes ++ [x] }) r
  else if seesB [119, 111, 114, 107, 115] r then (do skipP; let x ← worksP; pure { c with versions := c.versions ++ [x] }) r
  else .bad 80 r
def itemsLoop : Nat → CfgD → Ps CfgD
  | 0, c => pure c
  | f + 1, c => fun r => match r with
    | [] => .ok c []
    | _ :: _ => (do
      let c' ← itemP c
      itemsLoop f c') r
def cfgP : Ps CfgD := fun r => itemsLoop (r.length + 1) CfgD.none r
end Go.Proofs.YtgbfaompondolaaGreatDoor
namespace Go.Proofs.YtgbfaompondolaaGreatDoor
open Go.RowKit
theorem hide {p : Prop} (h : p) : Hid p := h
theorem ret_bool {a b : Bool} (h : a = b) : Ending.returned (.bool a) = .returned (.bool b) := by rw [h]
theorem ret_int {k : IntKind} {a b : Int} (h : a = b) : Ending.returned (.int k a) = .returned (.int k b) := by rw [h]
theorem bcell {W w1 : World} (hb : Below W.heap.size W w1) : (∀ b o, b < W.heap.size → w1.cell? ⟨b, o, none⟩ = W.cell? ⟨b, o, none⟩) ∧ (∀ b o, b < W.heap.size → w1.frozen? ⟨b, o, none⟩ = W.frozen? ⟨b, o, none⟩) :=
  ⟨fun b o h => hb.cell (p := ⟨b, o, none⟩) h, fun b o h => hb.frozen (p := ⟨b, o, none⟩) h⟩
end Go.Proofs.YtgbfaompondolaaGreatDoor
namespace Go.Proofs.YtgbfaompondolaaGreatDoor
open Go.RowKit
structure Kept (F : Nat → Prop) (w w' : World) : Prop where
  os : w'.os = w.os
  tape : w'.tape = w.tape
  output : w'.output = w.output
  size : w.heap.size ≤ w'.heap.size
  block : ∀ k, k < w.heap.size → ¬ F k → w'.heap[k]? = w.heap[k]?
theorem Kept.refl (F : Nat → Prop) (w : World) : Kept F w w := ⟨rfl, rfl, rfl, Nat.le_refl _, fun _ _ _ => rfl⟩
theorem Kept.trans {F : Nat → Prop} {a b c : World} (h : Kept F a b) (k : Kept F b c) : Kept F a c :=
  ⟨k.os.trans h.os, k.tape.trans h.tape, k.output.trans h.output, Nat.le_trans h.size k.size, fun i hi hf => (k.block i (Nat.lt_of_lt_of_le hi h.size) hf).trans (h.block i hi hf)⟩
/-- Behind a step that may write what F names or what is new. -/
theorem Kept.trans2 {F G : Nat → Prop} {a b c : World} (h : Kept F a b) (k : Kept G b c) (hG : ∀ i, i < a.heap.size → G i → F i) : Kept F a c :=
  ⟨k.os.trans h.os, k.tape.trans h.tape, k.output.trans h.output, Nat.le_trans h.size k.size, fun i hi hf => (k.block i (Nat.lt_of_lt_of_le hi h.size) (fun hg => hf (hG i hi hg))).trans (h.block i hi hf)⟩
theorem Kept.mono {F G : Nat → Prop} {a b : World} (h : Kept F a b) (hG : ∀ i, F i → G i) : Kept G a b := ⟨h.os, h.tape, h.output, h.size, fun i hi hf => h.block i hi (fun hg => hf (hG i hg))⟩
theorem Kept.of_below {F : Nat → Prop} {a b : World} (h : Below a.heap.size a b) : Kept F a b := ⟨h.os, h.tape, h.output, h.size, fun i hi _ => h.block i hi⟩
theorem Kept.below {F : Nat → Prop} {a b : World} (h : Kept F a b) {B : Nat} (hB : B ≤ a.heap.size) (hF : ∀ i, i < B → ¬ F i) : Below B a b := ⟨h.os, h.tape, h.output, h.size, fun i hi => h.block i (Nat.lt_of_lt_of_le hi hB) (hF i hi)⟩
theorem Kept.drew {F : Nat → Prop} {a w : World} (h : Kept F a w) : Kept F a w.drew := ⟨h.os, h.tape, h.output, h.size, h.block⟩
theorem Kept.drewN {F : Nat → Prop} {a w : World} (h : Kept F a w) (n : Nat) : Kept F a (w.drewN n) := ⟨h.os, h.tape, h.output, h.size, h.block⟩
theorem Kept.alloc {F : Nat → Prop} {a w : World} (h : Kept F a w) (o : Obj) : Kept F a (w.alloc o) := h.trans (.of_below ((Below.refl _ _).alloc (Nat.le_refl _) o))
theorem Kept.setCell {F : Nat → Prop} {a w : World} (h : Kept F a w) {p : Addr} (hp : F p.block ∨ a.heap.size ≤ p.block) (u : Value) : Kept F a (w.setCell p u) :=
  ⟨h.os, h.tape, h.output, by simpa [World.setCell] using h.size, fun k hk hf => (Below.heap_setCell _ _ _ _ (by rintro rfl; rcases hp with hp | hp; exact hf hp; omega)).trans (h.block k hk hf)⟩
theorem Kept.setCells {F : Nat → Prop} {a : World} (b : Nat) (hp : F b ∨ a.heap.size ≤ b) : ∀ (vs : List Value) (o : Nat) (w : World), Kept F a w → Kept F a (w.setCells b o vs)
  | [], _, _, h => h
  | v :: r, o, _, h => Kept.setCells b hp r (o + 1) _ (h.setCell (p := ⟨b, o, none⟩) hp v)
theorem Kept.cell {F : Nat → Prop} {w w' : World} (h : Kept F w w') {p : Addr} (hp : p.block < w.heap.size) (hf : ¬ F p.block) : w'.cell? p = w.cell? p := World.cell?_of_block (w := w) (h.block p.block hp hf)
theorem Kept.frozen {F : Nat → Prop} {w w' : World} (h : Kept F w w') {p : Addr} (hp : p.block < w.heap.size) (hf : ¬ F p.block) : w'.frozen? p = w.frozen? p := World.frozen?_of_block (w := w) (h.block p.block hp hf)
theorem cell_lt {w : World} {p : Addr} {u : Value} (h : w.cell? p = some u) : p.block < w.heap.size := World.block_lt_of_cell? w p h
end Go.Proofs.YtgbfaompondolaaGreatDoor
namespace Go.Proofs.YtgbfaompondolaaGreatDoor
open Go.RowKit
/-- What a cell says: a value, or a slice of elements of some cells each. -/
inductive Dat where
  | leaf (v : Value)
  | row (size : Nat) (es : List (List Dat))
/-- The value v says d in w; every block that it reaches is among G. -/
inductive DAt (w : World) (G : Nat → Prop) : Value → Dat → Prop
  | leaf (v : Value) : DAt w G v (.leaf v)
  | nil (A : Option Addr) (c size : Nat) : DAt w G (.slice A 0 c) (.row size [])
  | row (b off c size n : Nat) (es : List (List Dat)) (val : Nat → Nat → Value) (hn : es.length = n) (hG : G b) (hb : b < w.heap.size)
      (hc : ∀ i j e d, es[i]? = some e → e[j]? = some d → w.cell? ⟨b, off + i * size + j, none⟩ = some (val i j))
      (hd : ∀ i j e d, es[i]? = some e → e[j]? = some d → DAt w G (val i j) d) (hcap : n ≤ c) : DAt w G (.slice (some ⟨b, off, none⟩) n c) (.row size es)
theorem DAt.keep {w w' : World} {G : Nat → Prop} {v : Value} {d : Dat} (h : DAt w G v d) (hz : w.heap.size ≤ w'.heap.size) (hk : ∀ b, G b → b < w.heap.size → w'.heap[b]? = w.heap[b]?) : DAt w' G v d := by
  induction h with
  | leaf v => exact .leaf v
  | nil A c size => exact .nil A c size
  | row b off c size n es val hn hG hb hc _ hcap ih => exact .row b off c size n es val hn hG (Nat.lt_of_lt_of_le hb hz) (fun i j e d he hd => (World.cell?_of_block (w := w) (hk b hG hb)).trans (hc i j e d he hd)) ih hcap
theorem DAt.mono {w : World} {G H : Nat → Prop} {v : Value} {d : Dat} (h : DAt w G v d) (hg : ∀ b, G b → b < w.heap.size → H b) : DAt w H v d := by
  induction h with
  | leaf v => exact .leaf v
  | nil A c size => exact .nil A c size
  | row b off c size n es val hn hG hb hc _ hcap ih => exact .row b off c size n es val hn (hg b hG hb) hb hc ih hcap
theorem DAt.later {w w' : World} {G : Nat → Prop} {v : Value} {d : Dat} (h : DAt w G v d) (hb : Below w.heap.size w w') : DAt w' G v d := h.keep hb.size (fun b _ hl => hb.block b hl)
theorem DAt.kept {w w' : World} {F G : Nat → Prop} {v : Value} {d : Dat} (h : DAt w G v d) (hk : Kept F w w') (hF : ∀ b, G b → ¬ F b) : DAt w' G v d := h.keep hk.size (fun b hg hl => hk.block b hl (hF b hg))
/-- Cells and what they say, one by one. -/
def DCells (w : World) (G : Nat → Prop) (vs : List Value) (ds : List Dat) : Prop := vs.length = ds.length ∧ ∀ (j : Nat) (v : Value) (d : Dat), vs[j]? = some v → ds[j]? = some d → DAt w G v d
theorem DCells.nil {w : World} {G : Nat → Prop} : DCells w G [] [] := ⟨rfl, fun j v d (h : ([] : List Value)[j]? = some v) => by simp at h⟩
theorem DCells.cons {w : World} {G : Nat → Prop} {v : Value} {d : Dat} {vs : List Value} {ds : List Dat} (h : DAt w G v d) (hs : DCells w G vs ds) : DCells w G (v :: vs) (d :: ds) := by
  refine ⟨by simp [hs.1], fun j u e hu he => ?_⟩
  cases j with
  | zero =>
    simp only [List.getElem?_cons_zero, Option.some.injEq] at hu he
    subst hu he
    exact h
  | succ j => exact hs.2 j u e (by simpa using hu) (by simpa using he)
theorem DCells.append {w : World} {G : Nat → Prop} {vs us : List Value} {ds es : List Dat} (h : DCells w G vs ds) (k : DCells w G us es) : DCells w G (vs ++ us) (ds ++ es) := by
  refine ⟨by simp [h.1, k.1], fun j v d hv hd => ?_⟩
  by_cases hj : j < vs.length
  · rw [List.getElem?_append_left hj] at hv
    rw [List.getElem?_append_left (by have := h.1; omega)] at hd
    exact h.2 j v d hv hd
  · rw [List.getElem?_append_right (by omega)] at hv
    rw [List.getElem?_append_right (by have := h.1; omega), ← h.1] at hd
    exact k.2 _ v d hv hd
theorem DCells.mono {w : World} {G H : Nat → Prop} {vs : List Value} {ds : List Dat} (h : DCells w G vs ds) (hg : ∀ b, G b → b < w.heap.size → H b) : DCells w H vs ds := ⟨h.1, fun j v d hv hd => (h.2 j v d hv hd).mono hg⟩
theorem DCells.keep {w w' : World} {G : Nat → Prop} {vs : List Value} {ds : List Dat} (h : DCells w G vs ds) (hz : w.heap.size ≤ w'.heap.size) (hk : ∀ b, G b → b < w.heap.size → w'.heap[b]? = w.heap[b]?) : DCells w' G vs ds := ⟨h.1, fun j v d hv hd => (h.2 j v d hv hd).keep hz hk⟩
theorem DCells.below {w w' : World} {G : Nat → Prop} {vs : List Value} {ds : List Dat} (h : DCells w G vs ds) (hb : Below w.heap.size w w') : DCells w' G vs ds := h.keep hb.size (fun b _ hl => hb.block b hl)
/-- A slice of the call's own: it owns its row; what its cells say lies elsewhere, in blocks from base on. -/
structure OwnD (w : World) (base : Nat) (t : TypeId) (size : Nat) (v : Value) (n : Nat) (es : List (List Dat)) : Prop where
  len : es.length = n
  wide : ∀ e ∈ es, e.length = size
  own : ∃ cs, w.ownsRow base t size v n cs ∧ DCells w (fun b => base ≤ b ∧ v.ownBlock ≠ some b) cs es.flatten
theorem OwnD.nil (w : World) (base : Nat) (t : TypeId) (size : Nat) : OwnD w base t size (.slice none 0 0) 0 [] :=
  ⟨rfl, fun _ h => (by cases h), [], World.ownsRow_nil _ _ _ _, .nil⟩
theorem own_keep {w w' : World} {base : Nat} {e : TypeId} {size : Nat} {v : Value} {n : Nat} {xs : List Value} (h : w.ownsRow base e size v n xs) (hb : ∀ g, v.ownBlock = some g → base ≤ g → w'.heap[g]? = w.heap[g]?) : w'.ownsRow base e size v n xs := by
  obtain ⟨h1, h2⟩ := h
  refine ⟨h1, ?_⟩
  rcases h2 with h2 | ⟨g, cap, cur, hv, hg, hh, r⟩
  · exact .inl h2
  · exact .inr ⟨g, cap, cur, hv, hg, (hb g (by rw [hv]; rfl) hg).trans hh, r⟩
theorem own_lt {w : World} {base : Nat} {e : TypeId} {size : Nat} {v : Value} {n : Nat} {xs : List Value} (h : w.ownsRow base e size v n xs) {g : Nat} (hg : v.ownBlock = some g) : base ≤ g ∧ g < w.heap.size := by
  rcases h.2 with ⟨rfl, _⟩ | ⟨g', cap, cur, rfl, hb, hh, _⟩
  · cases hg
  · injection hg with hg; subst hg
    exact ⟨hb, (Array.getElem?_eq_some_iff.1 hh).1⟩
theorem OwnD.lt {w : World} {base : Nat} {t : TypeId} {size : Nat} {v : Value} {n : Nat} {es : List (List Dat)} (h : OwnD w base t size v n es) {g : Nat} (hg : v.ownBlock = some g) : base ≤ g ∧ g < w.heap.size := by
  obtain ⟨cs, ho, _⟩ := h.own
  exact own_lt ho hg
theorem OwnD.keep {w w' : World} {base : Nat} {t : TypeId} {size : Nat} {v : Value} {n : Nat} {es : List (List Dat)} (h : OwnD w base t size v n es) (hz : w.heap.size ≤ w'.heap.size) (hk : ∀ b, base ≤ b → b < w.heap.size → w'.heap[b]? = w.heap[b]?) : OwnD w' base t size v n es := by
  obtain ⟨cs, ho, hc⟩ := h.own
  exact ⟨h.len, h.wide, cs, own_keep ho (fun g hg hb => hk g hb (own_lt ho hg).2), hc.keep hz (fun b hb hl => hk b hb.1 hl)⟩
theorem OwnD.below {w w' : World} {base : Nat} {t : TypeId} {size : Nat} {v : Value} {n : Nat} {es : List (List Dat)} (h : OwnD w base t size v n es) (hb : Below w.heap.size w w') : OwnD w' base t size v n es := h.keep hb.size (fun b _ hl => hb.block b hl)
theorem OwnD.kept {w w' : World} {F : Nat → Prop} {base : Nat} {t : TypeId} {size : Nat} {v : Value} {n : Nat} {es : List (List Dat)} (h : OwnD w base t size v n es) (hk : Kept F w w') (hF : ∀ b, base ≤ b → ¬ F b) : OwnD w' base t size v n es := h.keep hk.size (fun b hb hl => hk.block b hl (hF b hb))
theorem flat_at {α : Type} {size : Nat} : ∀ (es : List (List α)), (∀ e ∈ es, e.length = size) → ∀ (i j : Nat) (e : List α), es[i]? = some e → j < size → es.flatten[i * size + j]? = e[j]?
  | [], _, i, j, e, h, _ => by simp at h
  | x :: es, hw, 0, j, e, h, hj => by
    simp only [List.getElem?_cons_zero, Option.some.injEq] at h
    subst h
    rw [Nat.zero_mul, Nat.zero_add, List.flatten_cons, List.getElem?_append_left (by rw [hw x (by simp)]; exact hj)]
  | x :: es, hw, i + 1, j, e, h, hj => by
    have hx := hw x (by simp)
    rw [List.flatten_cons, List.getElem?_append_right (by rw [hx, Nat.add_mul]; omega)]
    have : (i + 1) * size + j - x.length = i * size + j := by rw [hx, Nat.add_mul]; omega
    rw [this]
    exact flat_at es (fun e he => hw e (by simp [he])) i j e (by simpa using h) hj
/-- The slice, read. -/
theorem own_dat {w : World} {base : Nat} {G : Nat → Prop} {t : TypeId} {size : Nat} {v : Value} {n : Nat} {es : List (List Dat)} {cs : List Value} (hl : es.length = n) (hw : ∀ e ∈ es, e.length = size) (ho : w.ownsRow base t size v n cs) (hc : DCells w G cs es.flatten) : DAt w (fun b => G b ∨ v.ownBlock = some b) v (.row size es) := by
  rcases ho.2 with ⟨rfl, rfl⟩ | ⟨g, cap, cur, rfl, hb, hh, hcap, _⟩
  · obtain rfl := List.eq_nil_of_length_eq_zero hl
    exact .nil none 0 size
  · have hlt := (Array.getElem?_eq_some_iff.1 hh).1
    have hcell : ∀ i j e d, es[i]? = some e → e[j]? = some d → ∃ u, w.cell? ⟨g, i * size + j, none⟩ = some u ∧ DAt w (fun b => G b ∨ (Value.slice (some ⟨g, 0, none⟩) n cap).ownBlock = some b) u d := by
      intro i j e d he hd
      have hil : i < n := by rw [← hl]; exact (List.getElem?_eq_some_iff.1 he).1
      have hjl : j < size := by rw [← hw e (List.mem_of_getElem? he)]; exact (List.getElem?_eq_some_iff.1 hd).1
      have hij : i * size + j < n * size := by
        have : (i + 1) * size ≤ n * size := Nat.mul_le_mul_right _ (by omega)
        rw [Nat.add_mul] at this; omega
      have hf := flat_at es hw i j e he hjl
      rw [hd] at hf
      have hlt2 := (List.getElem?_eq_some_iff.1 hf).1
      have hcl : i * size + j < cs.length := by rw [hc.1]; exact hlt2
      refine ⟨cs[i * size + j], ?_, (hc.2 _ _ d (List.getElem?_eq_getElem hcl) hf).mono (fun b hb _ => .inl hb)⟩
      rw [World.ownsRow.cellAt ho (i * size + j) hij, List.getElem?_eq_getElem hcl]
    have hv : ∃ val : Nat → Nat → Value, ∀ i j e d, es[i]? = some e → e[j]? = some d → w.cell? ⟨g, i * size + j, none⟩ = some (val i j) ∧ DAt w (fun b => G b ∨ (Value.slice (some ⟨g, 0, none⟩) n cap).ownBlock = some b) (val i j) d := by
      refine ⟨fun i j => (w.cell? ⟨g, i * size + j, none⟩).getD (.bool false), fun i j e d he hd => ?_⟩
      obtain ⟨u, hu, hdu⟩ := hcell i j e d he hd
      simp only [hu, Option.getD_some]
      exact ⟨trivial, hdu⟩
    obtain ⟨val, hval⟩ := hv
    refine .row g 0 cap size n es val hl (.inr rfl) hlt (fun i j e d he hd => ?_) (fun i j e d he hd => (hval i j e d he hd).2) hcap
    rw [Nat.zero_add]
    exact (hval i j e d he hd).1
theorem OwnD.dat {w : World} {base : Nat} {t : TypeId} {size : Nat} {v : Value} {n : Nat} {es : List (List Dat)} (h : OwnD w base t size v n es) : DAt w (fun b => base ≤ b) v (.row size es) := by
  obtain ⟨hl, hw, cs, ho, hc⟩ := h
  exact (own_dat hl hw ho hc).mono (fun b hb _ => hb.elim (·.1) (fun e => (own_lt ho e).1))
/-- Behind an append of new elements, whose data lie in blocks that the row has not. -/
theorem OwnD.push {w w2 : World} {base : Nat} {t : TypeId} {size : Nat} {v v' : Value} {n m k : Nat} {es fs : List (List Dat)} {cs news : List Value} (hl : es.length = n) (hwd : ∀ e ∈ es, e.length = size)
    (hc : DCells w (fun b => base ≤ b ∧ v.ownBlock ≠ some b) cs es.flatten) (hk : k = n + m) (hm : fs.length = m) (hw : ∀ e ∈ fs, e.length = size) (hnew : DCells w (fun b => base ≤ b ∧ v.ownBlock ≠ some b) news fs.flatten)
    (hown : w2.ownsRow base t size v' k (cs ++ news)) (hg : w.grownBy w2 v.ownBlock) (hat : v'.ownBlock = v.ownBlock ∨ v'.ownBlock = some w.heap.size) : OwnD w2 base t size v' k (es ++ fs) := by
  refine ⟨by rw [List.length_append]; omega, fun e he => ?_, cs ++ news, hown, ?_⟩
  · rcases List.mem_append.1 he with he | he
    · exact hwd e he
    · exact hw e he
  · rw [List.flatten_append]
    have hall := (hc.append hnew).mono (H := fun b => base ≤ b ∧ v.ownBlock ≠ some b ∧ b < w.heap.size) (fun b hb hlt => ⟨hb.1, hb.2, hlt⟩)
    refine (hall.keep hg.size (fun b hb hlt => hg.block b hlt (fun e => hb.2.1 e.symm))).mono (fun b hb _ => ⟨hb.1, fun e => ?_⟩)
    rcases hat with hat | hat
    · exact hb.2.1 (hat.symm.trans e)
    · rw [hat] at e
      injection e with e
      omega
end Go.Proofs.YtgbfaompondolaaGreatDoor
namespace Go.Proofs.YtgbfaompondolaaGreatDoor
open Go.RowKit
def strV (l : List UInt8) : Value := .string ⟨l.toArray⟩
def lS (l : List UInt8) : Dat := .leaf (strV l)
def lI (n : Int) : Dat := .leaf (.int .i64 n)
def lU (n : Nat) : Dat := .leaf (.int .u8 (n : Int))
def lB (b : Bool) : Dat := .leaf (.bool b)
def RefD.cells (x : RefD) : List Dat := [lS x.m, lS x.p, lS x.o]
def InsD.cells (x : InsD) : List Dat := [lU x.op, lI x.a, lI x.b, lI x.c]
def PortD.cells (x : PortD) : List Dat := [lS x.name, lU x.kind, lB x.out, lI x.size, lI x.depth, lI x.refresh]
def ProcD.cells (x : ProcD) : List Dat := [lS x.name, lI x.prio, lI x.period, lI x.limit, .row 4 (x.code.map InsD.cells)]
def intRows (l : List Int) : List (List Dat) := l.map fun n => [lI n]
def strRows (l : List (List UInt8)) : List (List Dat) := l.map fun s => [lS s]
def PartD.cells (x : PartD) : List Dat := [lS x.name, lI x.period, lI x.length, lI x.mem, .row 1 (intRows x.semas), lI x.events, lI x.boards, .row 1 (intRows x.bufs), .row 6 (x.ports.map PortD.cells), .row 5 (x.procs.map ProcD.cells)]
def ModD.cells (x : ModD) : List Dat := [lS x.name, lI x.mem, lI x.frame, .row 10 (x.parts.map PartD.cells)]
def ChanD.cells (x : ChanD) : List Dat := x.from_.cells ++ [.row 3 (x.to.map RefD.cells)]
def SwD.cells (x : SwD) : List Dat := [lS x.name, lI x.net, lI x.delay, lI x.store]
def LinkD.cells (x : LinkD) : List Dat := [lS x.a, lS x.b, lI x.net, lI x.slow]
def VlD.cells (x : VlD) : List Dat := lS x.name :: x.from_.cells ++ [lI x.bag, lI x.max, .row 3 (x.to.map RefD.cells)]
def HealthD.cells (x : HealthD) : List Dat := [lS x.module, lS x.part, lU x.fault, lU x.level, lU x.do_]
def RepD.cells (x : RepD) : List Dat := [lS x.unit, lI x.code]
def CauseD.cells (x : CauseD) : List Dat := [lS x.unit, .row 2 (x.needs.map RepD.cells), .row 1 (strRows x.but)]
def VerD.cells (x : VerD) : List Dat := [lS x.a, lI x.va, lS x.b, lI x.vb]
def CfgD.cells (x : CfgD) : List Dat := [.row 4 (x.modules.map ModD.cells), .row 4 (x.channels.map ChanD.cells), .row 4 (x.switches.map SwD.cells), .row 4 (x.links.map LinkD.cells), .row 7 (x.vls.map VlD.cells), .row 5 (x.health.map HealthD.cells), .row 3 (x.causes.map CauseD.cells), .row 4 (x.versions.map VerD.cells)]
end Go.Proofs.YtgbfaompondolaaGreatDoor
namespace Go.Proofs.YtgbfaompondolaaGreatDoor
open Go.RowKit
/-- A world that comes of W by new memory alone. -/
structure Later (W : World) where
  w : World
  below : Below W.heap.size W w
instance (W : World) : Nonempty (Later W) := ⟨⟨W, Below.refl _ _⟩⟩
theorem Later.cell {W : World} (s : Later W) (b o : Nat) (h : b < W.heap.size) : s.w.cell? ⟨b, o, none⟩ = W.cell? ⟨b, o, none⟩ := s.below.cell (p := ⟨b, o, none⟩) h
theorem Later.call {P : Program} {f : FuncId} {args : Array Value} {W : World} {s : Later W} {v : Value}
    (h : Calls P f args s.w fun e w' => e = .returned v ∧ Below s.w.heap.size s.w w') : Calls P f args s.w fun e w'' => e = .returned v ∧ ∃ s' : Later W, w'' = s'.w :=
  h.mono fun _ w' ⟨he, hb⟩ => ⟨he, ⟨w', s.below.trans (hb.mono s.below.size)⟩, rfl⟩
theorem Later.call_same {P : Program} {f : FuncId} {args : Array Value} {W : World} {s : Later W} {v : Value}
    (h : Calls P f args s.w fun e w' => e = .returned v ∧ s.w = w') : Calls P f args s.w fun e w'' => e = .returned v ∧ ∃ s' : Later W, w'' = s'.w :=
  h.mono fun _ _ ⟨he, hb⟩ => ⟨he, s, hb.symm⟩
theorem wp_region_later {P : Program} {id : Nat} {Q : Exit → Act → World → Prop} {a : Act} {W : World} {l : List Oper} (hm : P.follows .mixedOrders = true) (hB : Region.lexB .any l.toArray = true)
    (h : wpQuiet P l.toArray (fun w' => ∃ s : Later W, w' = s.w) (fun a' => ∀ w', (∃ s : Later W, w' = s.w) → Q .normal a' w') l a) : (Code.region id l.toArray true).wp P Q a W :=
  wp_region_quiet (C := fun w' => ∃ s : Later W, w' = s.w) hm hB ⟨⟨W.drew, (Below.refl _ _).drew⟩, rfl⟩ (by simpa using h)
end Go.Proofs.YtgbfaompondolaaGreatDoor
namespace Go.Proofs.YtgbfaompondolaaGreatDoor
open Go.RowKit
/-- Whether two things are equal. -/
noncomputable def eqB {α : Type} (a b : α) : Bool := @decide (a = b) (Classical.propDecidable _)
theorem eqB_yes {α : Type} {a b : α} (h : a = b) : eqB a b = true := by unfold eqB; simpa using h
theorem eqB_no {α : Type} {a b : α} (h : a ≠ b) : eqB a b = false := by unfold eqB; simpa using h
theorem eqB_iff {α : Type} {a b : α} : eqB a b = true ↔ a = b := by unfold eqB; simp
/-- A slice with an element: where it lies, what its cells say. -/
def DRow (w : World) (A : Option Addr) (size : Nat) (es : List (List Dat)) : Prop :=
  es = [] ∨ ∃ b off, A = some ⟨b, off, none⟩ ∧ b < w.heap.size ∧ ∀ (i j : Nat) e d, es[i]? = some e → e[j]? = some d → ∃ u, w.cell? ⟨b, off + i * size + j, none⟩ = some u ∧ DAt w (fun _ => True) u d
theorem DAt.slice {w : World} {v : Value} {size : Nat} {es : List (List Dat)} (h : DAt w (fun _ => True) v (.row size es)) : ∃ A c, v = .slice A es.length c ∧ DRow w A size es := by
  generalize hd : Dat.row size es = d at h
  cases h with
  | leaf v => cases hd
  | nil A c size' =>
    injection hd with h1 h2
    subst h2
    exact ⟨A, c, rfl, .inl rfl⟩
  | row b off c size' n es' val hn hG hb hc hdd =>
    injection hd with h1 h2
    subst h1 h2
    exact ⟨_, c, by rw [hn], .inr ⟨b, off, rfl, hb, fun i j e d he hd => ⟨_, hc i j e d he hd, hdd i j e d he hd⟩⟩⟩
theorem DAt.leaf_eq {w : World} {G : Nat → Prop} {u v : Value} (h : DAt w G u (.leaf v)) : u = v := by
  generalize hd : Dat.leaf v = d at h
  cases h with
  | leaf v => injection hd with h1; exact h1.symm
  | nil => cases hd
  | row => cases hd
/-- What cell j of an element says. -/
def CellAt (w : World) (p : Addr) (d : Dat) : Prop := ∃ u, w.cell? p = some u ∧ DAt w (fun _ => True) u d
theorem CellAt.leafc {w : World} {p : Addr} {v : Value} (h : CellAt w p (.leaf v)) : w.cell? p = some v := by
  obtain ⟨u, h1, h2⟩ := h
  rw [h1, h2.leaf_eq]
theorem DRow.at_ {α : Type} {w : World} {A : Option Addr} {size k : Nat} {l : List α} {cells : α → List Dat} {x : α} (h : DRow w A size (l.map cells)) (hx : l[k]? = some x) :
    ∃ b off, A = some ⟨b, off, none⟩ ∧ b < w.heap.size ∧ ∀ (j : Nat) d, (cells x)[j]? = some d → CellAt w ⟨b, off + k * size + j, none⟩ d := by
  rcases h with h | ⟨b, off, h1, h2, h3⟩
  · rw [List.map_eq_nil_iff] at h
    subst h
    simp at hx
  · exact ⟨b, off, h1, h2, fun j d hd => h3 k j (cells x) d (by rw [List.getElem?_map, hx]; rfl) hd⟩
theorem at_ne {α : Type} {la lb : List α} {k : Nat} {x y : α} (hx : la[k]? = some x) (hy : lb[k]? = some y) (h : x ≠ y) : eqB la lb = false := eqB_no (fun e => h (by rw [e, hy] at hx; injection hx with hx; exact hx.symm))
theorem take_step {α : Type} {la lb : List α} {k : Nat} {x : α} (h : la.take k = lb.take k) (hx : la[k]? = some x) (hy : lb[k]? = some x) : la.take (k + 1) = lb.take (k + 1) := by
  obtain ⟨h1, rfl⟩ := List.getElem?_eq_some_iff.1 hx
  obtain ⟨h2, h3⟩ := List.getElem?_eq_some_iff.1 hy
  rw [List.take_succ_eq_append_getElem h1, List.take_succ_eq_append_getElem h2, h, h3]
theorem all_taken {α : Type} {la lb : List α} {k : Nat} (h : la.take k = lb.take k) (hk : ¬ k < la.length) (hn : la.length = lb.length) : la = lb := by
  rwa [List.take_of_length_le (by omega), List.take_of_length_le (by omega)] at h
/-- Two things differ, as a walk asks for it, or they are the same. -/
theorem dS (p q : List UInt8) : ((⟨p.toArray⟩ : ByteArray).toList == (⟨q.toArray⟩ : ByteArray).toList) = false ∨ p = q := by
  by_cases h : p = q
  · exact .inr h
  · exact .inl (by rw [ByteArray.toList_eq, ByteArray.toList_eq]; simpa using h)
theorem dI (p q : Int) : ((p == q) = false ∧ (p != q) = true) ∨ p = q := by
  by_cases h : p = q
  · exact .inr h
  · exact .inl ⟨by simpa using h, by simpa using h⟩
theorem dU (p q : Nat) : (((p : Int) == (q : Int)) = false ∧ ((p : Int) != (q : Int)) = true) ∨ p = q := by
  rcases dI p q with h | h
  · exact .inl h
  · exact .inr (by omega)
theorem dB (p q : Bool) : ((p == q) = false ∧ (p != q) = true) ∨ p = q := by cases p <;> cases q <;> simp
theorem dR {α : Type} (p q : α) : eqB p q = false ∨ p = q := by
  by_cases h : p = q
  · exact .inr h
  · exact .inl (eqB_no h)
theorem eqB_self {α : Type} (p : α) : eqB p p = true := eqB_yes rfl
/-- A plain cell in a later world. -/
theorem lc {W wr : World} (hbr : Below W.heap.size W wr) {b o : Nat} {v : Value} (hb : b < W.heap.size) (h : CellAt W ⟨b, o, none⟩ (.leaf v)) : wr.cell? ⟨b, o, none⟩ = some v := (hbr.cell (p := ⟨b, o, none⟩) hb).trans h.leafc
/-- Nothing in it is longer than 2^40. -/
def ProcD.sm (x : ProcD) : Prop := x.code.length ≤ 1099511627776
def PartD.sm (x : PartD) : Prop := x.semas.length ≤ 1099511627776 ∧ x.bufs.length ≤ 1099511627776 ∧ x.ports.length ≤ 1099511627776 ∧ x.procs.length ≤ 1099511627776 ∧ ∀ p ∈ x.procs, p.sm
def ModD.sm (x : ModD) : Prop := x.parts.length ≤ 1099511627776 ∧ ∀ p ∈ x.parts, p.sm
def ChanD.sm (x : ChanD) : Prop := x.to.length ≤ 1099511627776
def VlD.sm (x : VlD) : Prop := x.to.length ≤ 1099511627776
def CauseD.sm (x : CauseD) : Prop := x.needs.length ≤ 1099511627776 ∧ x.but.length ≤ 1099511627776
structure CfgD.sm (x : CfgD) : Prop where
  modules : x.modules.length ≤ 1099511627776 ∧ ∀ p ∈ x.modules, p.sm
  channels : x.channels.length ≤ 1099511627776 ∧ ∀ p ∈ x.channels, p.sm
  switches : x.switches.length ≤ 1099511627776
  links : x.links.length ≤ 1099511627776
  vls : x.vls.length ≤ 1099511627776 ∧ ∀ p ∈ x.vls, p.sm
  health : x.health.length ≤ 1099511627776
  causes : x.causes.length ≤ 1099511627776 ∧ ∀ p ∈ x.causes, p.sm
  versions : x.versions.length ≤ 1099511627776
end Go.Proofs.YtgbfaompondolaaGreatDoor
namespace Go.Proofs.YtgbfaompondolaaGreatDoor
open Go.RowKit
section
variable {P : Program} {ops : Array Oper} {md : Region.Mode} {Q : Exit → Act → World → Prop} {S : World → Prop}
/-- Whatever order the first n operations come in; S holds behind each; then L. -/
def wpAnyT (P : Program) (md : Region.Mode) (ops : Array Oper) (Q : Exit → Act → World → Prop) (S : World → Prop) (n : Nat) (L : Array Bool → Act → World → Prop) : Nat → Array Bool → Act → World → Prop
  | 0, listed, a, w => L listed a w
  | f + 1, listed, a, w => Region.ready md ops listed ≠ [] ∧ ∀ i ∈ Region.ready md ops listed, i < n ∧ wpOp P ops Q i (fun a' w' => S w' ∧ wpAnyT P md ops Q S n L f (listed.setIfInBounds i true) a' w') a w
theorem wpAny_of_T {n g : Nat} {L : Array Bool → Act → World → Prop} (hL : ∀ listed a w, L listed a w → wpAny P md ops Q g listed a w) :
    ∀ (f : Nat) (listed : Array Bool) (a : Act) (w : World), wpAnyT P md ops Q S n L f listed a w → wpAny P md ops Q (f + g) listed a w
  | 0, listed, a, w, h => by rw [Nat.zero_add]; exact hL _ _ _ h
  | f + 1, listed, a, w, h => by
    rw [show f + 1 + g = (f + g) + 1 by omega]
    exact ⟨fun h0 => absurd h0 h.1, fun i hi => wpOp_mono (fun a' w' h' => wpAny_of_T hL f _ a' w' h'.2) (h.2 i hi).2⟩
/-- HeadInv as a Bool. -/
def headB (md : Region.Mode) (ops : Array Oper) (n : Nat) (listed : Array Bool) : Bool :=
  listed.size == ops.size && (List.range ops.size).all (fun j => !listed.getD j false || ((ops[j]?).map (·.after.all fun e => !Region.binds md e || listed.getD e.on false)).getD true) && (List.range ops.size).all (fun t => decide (t < n) || !listed.getD t true)
theorem headB_spec {n : Nat} {listed : Array Bool} (h : headB md ops n listed = true) : HeadInv md ops n listed := by
  unfold headB at h
  simp only [Bool.and_eq_true, beq_iff_eq] at h
  obtain ⟨⟨h1, h2⟩, h3⟩ := h
  refine ⟨h1, fun j oj hj hl e he hb => ?_, fun t ht ht' => ?_⟩
  · have hlt : j < ops.size := (Array.getElem?_eq_some_iff.1 hj).1
    have := List.all_eq_true.1 h2 j (List.mem_range.2 hlt)
    rw [hj, hl] at this
    simp only [Bool.not_true, Bool.false_or, Option.map_some, Option.getD_some] at this
    have := (Array.all_eq_true_iff_forall_mem).1 this e he
    simpa [hb] using this
  · have := List.all_eq_true.1 h3 t (List.mem_range.2 ht')
    have h4 : decide (t < n) = false := by simpa using ht
    rw [h4] at this
    simpa using this
theorem wpAnyT_first {n i : Nat} {oi : Oper} {v : Value} {L : Array Bool → Act → World → Prop} (hi : ops[i]? = some oi) (hsel : ∀ (j : Nat) (o : Oper) cs b, ops[j]? = some o → o.op ≠ .select cs b)
    (hs : Region.sinkB md ops n = true) (hc : Region.chainB md ops n = true) (hn : n < ops.size) (hin : i < n)
    (hQ : ∀ c a w, Q (.panic c) (a.put oi.dst v) w → Q (.panic c) a w)
    (hdone : ∀ listed a w, L listed a w → ∀ j ∈ Region.ready md ops listed, n ≤ j) :
    ∀ (f : Nat) (listed : Array Bool) (a : Act) (w : World), HeadInv md ops n listed →
      (∀ j oj, ops[j]? = some oj → j ≠ i → listed.getD j true = false → (∀ e ∈ oj.after, Region.binds md e = true → e.on ≠ i) → oi.apart ops oj = true) →
      i ∈ Region.ready md ops listed → YieldsIf P ops S oi v a → S w →
      wpAnyT P md ops Q S n L f (listed.setIfInBounds i true) (a.put oi.dst v) w → wpAnyT P md ops Q S n L (f + 1) listed a w := by
  intro f
  induction f with
  | zero =>
    intro listed a w inv _ hr hy hS H
    have hun := (mem_ready.1 hr).1
    refine ⟨fun h => (by rw [h] at hr; cases hr), fun j hj => ?_⟩
    have hjn : j < n := by
      rcases Nat.lt_or_ge j n with h | h
      · exact h
      · exact absurd hj (tail_waits hs hc hn inv _ i rfl hin hun j h)
    refine ⟨hjn, ?_⟩
    by_cases hji : j = i
    · subst hji; exact hy.wpOp hi hS ⟨hS, H⟩
    · have := hdone _ _ _ H j (ready_mono hj hji)
      omega
  | succ f ih =>
    intro listed a w inv hfree hr hy hS H
    have hun := (mem_ready.1 hr).1
    refine ⟨fun h => (by rw [h] at hr; cases hr), fun j hj => ?_⟩
    have hjn : j < n := by
      rcases Nat.lt_or_ge j n with h | h
      · exact h
      · exact absurd hj (tail_waits hs hc hn inv _ i rfl hin hun j h)
    refine ⟨hjn, ?_⟩
    by_cases hji : j = i
    · subst hji; exact hy.wpOp hi hS ⟨hS, H⟩
    · have h1 := (H.2 j (ready_mono hj hji)).2
      obtain ⟨hjun, oj, hoj, hall⟩ := mem_ready.1 hj
      have hnot : ∀ e ∈ oj.after, Region.binds md e = true → e.on ≠ i := fun e he hb heq => by
        have h1 := hall e he hb
        rw [heq, getD_both hun] at h1
        cases h1
      have h2 := wpOp_putIf hoj (hfree j oj hoj hji hjun hnot) (fun cs b => hsel i oi cs b hi) (fun cs b => hsel j oj cs b hoj) hQ hy h1
      have hfree' : ∀ k ok, ops[k]? = some ok → k ≠ i → (listed.setIfInBounds j true).getD k true = false →
          (∀ e ∈ ok.after, Region.binds md e = true → e.on ≠ i) → oi.apart ops ok = true := fun k ok hk hki hun hno => by
        refine hfree k ok hk hki ?_ hno
        by_cases hjk : j = k
        · subst hjk; exact hjun
        · rw [getD_set_ne true hjk] at hun; exact hun
      refine wpOp_mono (fun a' w' h3 => ⟨h3.2.1, ih (listed.setIfInBounds j true) a' w' (inv.set hj hjn) hfree' (ready_mono hr (Ne.symm hji)) h3.1 h3.2.1 ?_⟩) h2
      rw [Array.setIfInBounds_comm _ _ hji]
      exact h3.2.2
/-- What stands at the end of the head. -/
def TailL (P : Program) (ops : Array Oper) (Q : Exit → Act → World → Prop) (n : Nat) (listed : Array Bool) (a : Act) (w : World) : Prop :=
  Region.seqB .any ops (ops.size - n) n listed = true ∧ wpList P ops Q (ops.toList.drop n) a w
theorem TailL.any {n : Nat} {listed : Array Bool} {a : Act} {w : World} (h : TailL P ops Q n listed a w) : wpAny P .any ops Q (ops.size - n) listed a w := by
  have hdl : (ops.toList.drop n).length = ops.size - n := by simp
  have := wpAny_of_seq (md := .any) (Q' := Q) (ops.toList.drop n) n listed a w (fun j => by simp [List.getElem?_drop]) (by rw [hdl]; exact h.1) h.2
  rwa [hdl] at this
theorem TailL.done {n : Nat} : ∀ listed a w, TailL P ops Q n listed a w → ∀ j ∈ Region.ready .any ops listed, n ≤ j := fun _ _ _ h => seqB_ready h.1
/-- THE BEGINNING. -/
theorem wp_region_tail {id : Nat} {a : Act} {w : World} (n : Nat) (hm : P.follows .mixedOrders = true) (hn : decide (n ≤ ops.size) = true) (hS : S w.drew)
    (h : S w.drew → wpAnyT P .any ops Q S n (TailL P ops Q n) n (Array.replicate ops.size false) a w.drew) : (Code.region id ops true).wp P Q a w := by
  refine wp_region_any hm ?_
  have hn' := of_decide_eq_true hn
  have := wpAny_of_T (fun _ _ _ h => TailL.any h) _ _ _ _ (h hS)
  rw [show n + (ops.size - n) = ops.size by omega] at this
  exact this
/-- TAKE NUMBER i FIRST. -/
theorem wpAnyT_take {n i : Nat} {oi : Oper} {v : Value} {fuel : Nat} {listed : Array Bool} {a : Act} {w : World} (hi : ops[i]? = some oi)
    (hB : (Region.noSelect ops && Region.sinkB .any ops n && Region.chainB .any ops n && decide (n < ops.size) && decide (i < n) && headB .any ops n listed && Region.free .any ops listed i && (Region.ready .any ops listed).contains i) = true)
    (hQ : ∀ c a w, Q (.panic c) (a.put oi.dst v) w → Q (.panic c) a w) (hy : YieldsIf P ops S oi v a) (hS : S w)
    (h : wpAnyT P .any ops Q S n (TailL P ops Q n) fuel (listed.setIfInBounds i true) (a.put oi.dst v) w) : wpAnyT P .any ops Q S n (TailL P ops Q n) (fuel + 1) listed a w := by
  simp only [Bool.and_eq_true, decide_eq_true_eq] at hB
  obtain ⟨⟨⟨⟨⟨⟨⟨h1, h2⟩, h3⟩, h4⟩, h5⟩, h6⟩, h7⟩, h8⟩ := hB
  exact wpAnyT_first hi (Region.noSelect_spec h1) h2 h3 h4 h5 hQ TailL.done fuel listed a w (headB_spec h6) (Region.free_spec hi h7) (by simpa using h8) hy hS h
/-- BRANCH OVER THOSE THAT MAY COME UP. -/
def AllT (P : Program) (ops : Array Oper) (Q : Exit → Act → World → Prop) (S : World → Prop) (n fuel : Nat) (listed : Array Bool) (a : Act) (w : World) (rs : List Nat) : Prop :=
  ∀ i ∈ rs, wpOp P ops Q i (fun a' w' => S w' ∧ wpAnyT P .any ops Q S n (TailL P ops Q n) fuel (listed.setIfInBounds i true) a' w') a w
theorem AllT.nil {n fuel : Nat} {listed : Array Bool} {a : Act} {w : World} : AllT P ops Q S n fuel listed a w [] := fun _ h => by cases h
theorem AllT.cons {n fuel : Nat} {listed : Array Bool} {a : Act} {w : World} {i : Nat} {o : Oper} {rs : List Nat} (ho : ops[i]? = some o)
    (h : ∀ K' : Act → World → Prop, Shut (∀ a w, S w → (S w → wpAnyT P .any ops Q S n (TailL P ops Q n) fuel (listed.setIfInBounds i true) a w) → K' a w) → if Region.wanted o (yielded ops a.tmps) = true then Oper.wp P o a w K' Q else K' (a.put o.dst undef) w)
    (hs : AllT P ops Q S n fuel listed a w rs) : AllT P ops Q S n fuel listed a w (i :: rs) := fun j hj => by
  rcases List.mem_cons.1 hj with rfl | hj
  · exact wpOp_step ho (fun K' hK => h K' (fun a w hS hW => hK a w ⟨hS, hW hS⟩))
  · exact hs j hj
theorem wpAnyT_ready {n : Nat} {rs : List Nat} {fuel : Nat} {listed : Array Bool} {a : Act} {w : World} (hr : Region.ready .any ops listed = rs) (hne : rs ≠ []) (hlt : (rs.all fun i => decide (i < n)) = true)
    (h : AllT P ops Q S n fuel listed a w rs) : wpAnyT P .any ops Q S n (TailL P ops Q n) (fuel + 1) listed a w :=
  ⟨by rw [hr]; exact hne, fun i hi => by rw [hr] at hi; exact ⟨of_decide_eq_true (List.all_eq_true.1 hlt i hi), h i hi⟩⟩
/-- THE HEAD IS DONE: the chain. -/
theorem wpAnyT_done {n : Nat} {listed : Array Bool} {a : Act} {w : World} (hB : Region.seqB .any ops (ops.size - n) n listed = true) (h : wpList P ops Q (ops.toList.drop n) a w) : wpAnyT P .any ops Q S n (TailL P ops Q n) 0 listed a w := ⟨hB, h⟩
end
end Go.Proofs.YtgbfaompondolaaGreatDoor
namespace Go.Proofs.YtgbfaompondolaaGreatDoor
section
variable {P : Program} {ops : Array Oper} {Q : Exit → Act → World → Prop} {S : World → Prop}
theorem putA {α : Type _} {l : List α} {i : Nat} {a : α} : l.toArray.setIfInBounds i a = (l.set i a).toArray := List.setIfInBounds_toArray ..
theorem putB {α : Type _} {x a : α} {xs : List α} : (x :: xs).set 0 a = a :: xs := List.set_cons_zero
theorem putC {α : Type _} {x a : α} {xs : List α} {n : Nat} : (x :: xs).set (n + 1) a = x :: xs.set n a := List.set_cons_succ
/-- Take number i, whose slot is d. -/
theorem tk (i d : Nat) {op : Op} {ty : TypeId} {pos : String} {after : Array Edge} {guard : Option (Nat × Bool)} {n : Nat} {v : Value} {fuel : Nat} {listed : Array Bool} {a : Act} {w : World} (hi : ops[i]? = some ⟨some d, op, ty, pos, after, guard⟩)
    (hB : (Region.noSelect ops && Region.sinkB .any ops n && Region.chainB .any ops n && decide (n < ops.size) && decide (i < n) && headB .any ops n listed && Region.free .any ops listed i && (Region.ready .any ops listed).contains i) = true)
    (hQ : ∀ c a w, Q (.panic c) (a.put (some d) v) w → Q (.panic c) a w) (hw : Region.wanted ⟨some d, op, ty, pos, after, guard⟩ (yielded ops a.tmps) = true) (hy : ∀ w, S w → (execOp a.eval ⟨some d, op, ty, pos, after, guard⟩).run P w = .ok (.value v) w) (hS : S w)
    (h : wpAnyT P .any ops Q S n (TailL P ops Q n) fuel (listed.setIfInBounds i true) (a.put (some d) v) w) : wpAnyT P .any ops Q S n (TailL P ops Q n) (fuel + 1) listed a w :=
  wpAnyT_take hi hB hQ (.inl ⟨hw, hy⟩) hS h
/-- The first cells of a row. -/
theorem row3 {w : World} {b : Nat} {cs : Array Value} {t : TypeId} {u0 u1 u2 : Value} {us : List Value} (h : w.heap[b]? = some (.cells cs t (0, 0))) (e : cs.toList = u0 :: u1 :: u2 :: us) :
    w.cell? ⟨b, 0, none⟩ = some u0 ∧ w.cell? ⟨b, 1, none⟩ = some u1 ∧ w.cell? ⟨b, 2, none⟩ = some u2 ∧ w.frozen? ⟨b, 0, none⟩ = false ∧ w.frozen? ⟨b, 1, none⟩ = false ∧ w.frozen? ⟨b, 2, none⟩ = false := by and_intros <;> first | exact frozen_of_row _ _ _ _ _ h | (rw [cell_of_row _ _ _ _ _ _ h, ← Array.getElem?_toList, e]; rfl)
theorem row4 {w : World} {b : Nat} {cs : Array Value} {t : TypeId} {u0 u1 u2 u3 : Value} {us : List Value} (h : w.heap[b]? = some (.cells cs t (0, 0))) (e : cs.toList = u0 :: u1 :: u2 :: u3 :: us) :
    w.cell? ⟨b, 0, none⟩ = some u0 ∧ w.cell? ⟨b, 1, none⟩ = some u1 ∧ w.cell? ⟨b, 2, none⟩ = some u2 ∧ w.cell? ⟨b, 3, none⟩ = some u3 ∧ w.frozen? ⟨b, 0, none⟩ = false ∧ w.frozen? ⟨b, 1, none⟩ = false ∧ w.frozen? ⟨b, 2, none⟩ = false ∧ w.frozen? ⟨b, 3, none⟩ = false := by and_intros <;> first | exact frozen_of_row _ _ _ _ _ h | (rw [cell_of_row _ _ _ _ _ _ h, ← Array.getElem?_toList, e]; rfl)
theorem row5 {w : World} {b : Nat} {cs : Array Value} {t : TypeId} {u0 u1 u2 u3 u4 : Value} {us : List Value} (h : w.heap[b]? = some (.cells cs t (0, 0))) (e : cs.toList = u0 :: u1 :: u2 :: u3 :: u4 :: us) :
    w.cell? ⟨b, 0, none⟩ = some u0 ∧ w.cell? ⟨b, 1, none⟩ = some u1 ∧ w.cell? ⟨b, 2, none⟩ = some u2 ∧ w.cell? ⟨b, 3, none⟩ = some u3 ∧ w.cell? ⟨b, 4, none⟩ = some u4 ∧ w.frozen? ⟨b, 0, none⟩ = false ∧ w.frozen? ⟨b, 1, none⟩ = false ∧ w.frozen? ⟨b, 2, none⟩ = false ∧ w.frozen? ⟨b, 3, none⟩ = false ∧ w.frozen? ⟨b, 4, none⟩ = false := by and_intros <;> first | exact frozen_of_row _ _ _ _ _ h | (rw [cell_of_row _ _ _ _ _ _ h, ← Array.getElem?_toList, e]; rfl)
theorem row6 {w : World} {b : Nat} {cs : Array Value} {t : TypeId} {u0 u1 u2 u3 u4 u5 : Value} {us : List Value} (h : w.heap[b]? = some (.cells cs t (0, 0))) (e : cs.toList = u0 :: u1 :: u2 :: u3 :: u4 :: u5 :: us) :
    w.cell? ⟨b, 0, none⟩ = some u0 ∧ w.cell? ⟨b, 1, none⟩ = some u1 ∧ w.cell? ⟨b, 2, none⟩ = some u2 ∧ w.cell? ⟨b, 3, none⟩ = some u3 ∧ w.cell? ⟨b, 4, none⟩ = some u4 ∧ w.cell? ⟨b, 5, none⟩ = some u5 ∧ w.frozen? ⟨b, 0, none⟩ = false ∧ w.frozen? ⟨b, 1, none⟩ = false ∧ w.frozen? ⟨b, 2, none⟩ = false ∧ w.frozen? ⟨b, 3, none⟩ = false ∧ w.frozen? ⟨b, 4, none⟩ = false ∧ w.frozen? ⟨b, 5, none⟩ = false := by and_intros <;> first | exact frozen_of_row _ _ _ _ _ h | (rw [cell_of_row _ _ _ _ _ _ h, ← Array.getElem?_toList, e]; rfl)
theorem row7 {w : World} {b : Nat} {cs : Array Value} {t : TypeId} {u0 u1 u2 u3 u4 u5 u6 : Value} {us : List Value} (h : w.heap[b]? = some (.cells cs t (0, 0))) (e : cs.toList = u0 :: u1 :: u2 :: u3 :: u4 :: u5 :: u6 :: us) :
    w.cell? ⟨b, 0, none⟩ = some u0 ∧ w.cell? ⟨b, 1, none⟩ = some u1 ∧ w.cell? ⟨b, 2, none⟩ = some u2 ∧ w.cell? ⟨b, 3, none⟩ = some u3 ∧ w.cell? ⟨b, 4, none⟩ = some u4 ∧ w.cell? ⟨b, 5, none⟩ = some u5 ∧ w.cell? ⟨b, 6, none⟩ = some u6 ∧ w.frozen? ⟨b, 0, none⟩ = false ∧ w.frozen? ⟨b, 1, none⟩ = false ∧ w.frozen? ⟨b, 2, none⟩ = false ∧ w.frozen? ⟨b, 3, none⟩ = false ∧ w.frozen? ⟨b, 4, none⟩ = false ∧ w.frozen? ⟨b, 5, none⟩ = false ∧ w.frozen? ⟨b, 6, none⟩ = false := by and_intros <;> first | exact frozen_of_row _ _ _ _ _ h | (rw [cell_of_row _ _ _ _ _ _ h, ← Array.getElem?_toList, e]; rfl)
theorem row8 {w : World} {b : Nat} {cs : Array Value} {t : TypeId} {u0 u1 u2 u3 u4 u5 u6 u7 : Value} {us : List Value} (h : w.heap[b]? = some (.cells cs t (0, 0))) (e : cs.toList = u0 :: u1 :: u2 :: u3 :: u4 :: u5 :: u6 :: u7 :: us) :
    w.cell? ⟨b, 0, none⟩ = some u0 ∧ w.cell? ⟨b, 1, none⟩ = some u1 ∧ w.cell? ⟨b, 2, none⟩ = some u2 ∧ w.cell? ⟨b, 3, none⟩ = some u3 ∧ w.cell? ⟨b, 4, none⟩ = some u4 ∧ w.cell? ⟨b, 5, none⟩ = some u5 ∧ w.cell? ⟨b, 6, none⟩ = some u6 ∧ w.cell? ⟨b, 7, none⟩ = some u7 ∧ w.frozen? ⟨b, 0, none⟩ = false ∧ w.frozen? ⟨b, 1, none⟩ = false ∧ w.frozen? ⟨b, 2, none⟩ = false ∧ w.frozen? ⟨b, 3, none⟩ = false ∧ w.frozen? ⟨b, 4, none⟩ = false ∧ w.frozen? ⟨b, 5, none⟩ = false ∧ w.frozen? ⟨b, 6, none⟩ = false ∧ w.frozen? ⟨b, 7, none⟩ = false := by and_intros <;> first | exact frozen_of_row _ _ _ _ _ h | (rw [cell_of_row _ _ _ _ _ _ h, ← Array.getElem?_toList, e]; rfl)
end
end Go.Proofs.YtgbfaompondolaaGreatDoor
