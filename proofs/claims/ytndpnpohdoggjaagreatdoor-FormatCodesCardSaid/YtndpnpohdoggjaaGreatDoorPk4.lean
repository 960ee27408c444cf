/-
  Merged texts: parse: what is left never grows; the loops' fuel does not matter. | parse: configurations as data in memory. | Appending what a slice that came in holds onto a slice of the call's own. | parse: records whose cells are rows of the call's own; the parser's block (made by tools/mkcodes.py). | parse: what parsing a source yields.
-/
import Derived.Test.YtndpnpohdoggjaaGreatDoorPk2
import Derived.Test.YtndpnpohdoggjaaGreatDoorPk3
import Derived.Test.YtndpnpohdoggjaaGreatDoorPk1
import Derived.Below
import Derived.Laws.OwnMore
import Derived.Deep.Draws
import Derived.Laws.Rows
import Derived.Maps.AppendAt
import Derived.Deep.AppendLies
import Derived.RegionTactic
import Derived.OwnWalk
namespace Go.Proofs.YtndpnpohdoggjaaGreatDoor
def NI {α : Type} (m : Ps α) : Prop := ∀ r a r', m r = .ok a r' → r'.length ≤ r.length
def LT {α : Type} (m : Ps α) : Prop := ∀ r a r', m r = .ok a r' → r'.length < r.length
theorem LT.ni {α : Type} {m : Ps α} (h : LT m) : NI m := fun r a r' e => Nat.le_of_lt (h r a r' e)
theorem bnd_inv {α β : Type} {m : Ps α} {f : α → Ps β} {r r' : List Tok} {b : β} (h : (m >>= f) r = .ok b r') : ∃ a r1, m r = .ok a r1 ∧ f a r1 = .ok b r' := by
  have h : Ps.bnd m f r = .ok b r' := h
  unfold Ps.bnd at h
  cases hm : m r with
  | ok a r1 => rw [hm] at h; exact ⟨a, r1, rfl, h⟩
  | bad e r1 => rw [hm] at h; cases h
theorem NI.ret {α : Type} (a : α) : NI (pure a : Ps α) := fun r b r' h => by
  have h : Res.ok a r = .ok b r' := h
  injection h with _ h2
  rw [h2]
  exact Nat.le_refl _
theorem NI.bind {α β : Type} {m : Ps α} {f : α → Ps β} (h : NI m) (k : ∀ a, NI (f a)) : NI (m >>= f) := fun r b r' e => by
  obtain ⟨a, r1, h1, h2⟩ := bnd_inv e
  exact Nat.le_trans (k a _ _ _ h2) (h _ _ _ h1)
theorem LT.bind {α β : Type} {m : Ps α} {f : α → Ps β} (h : LT m) (k : ∀ a, NI (f a)) : LT (m >>= f) := fun r b r' e => by
  obtain ⟨a, r1, h1, h2⟩ := bnd_inv e
  exact Nat.lt_of_le_of_lt (k a _ _ _ h2) (h _ _ _ h1)
theorem tail_lt {r : List Tok} (h : r ≠ []) : r.tail.length < r.length := by
  cases r with
  | nil => exact absurd rfl h
  | cons t r => simp
theorem sees_ne {t : List UInt8} {r : List Tok} (h : seesB t r = true) : r ≠ [] := by
  rintro rfl
  unfold seesB hdT at h
  simp at h
theorem kind_ne {r : List Tok} {k : Nat} (h : ((hdT r).kind == k) = true) (hk : k ≠ 0) : r ≠ [] := by
  rintro rfl
  unfold hdT at h
  have : (0 : Nat) = k := by simpa using h
  omega
theorem takes_ni (t : List UInt8) : NI (takesP t) := fun r a r' h => by
  unfold takesP at h
  split at h
  · injection h with _ h2; rw [← h2]; simp
  · injection h with _ h2; rw [← h2]; exact Nat.le_refl _
theorem must_lt (t : List UInt8) : LT (mustP t) := fun r a r' h => by
  unfold mustP at h
  split at h
  · rename_i hs; injection h with _ h2; rw [← h2]; exact tail_lt (sees_ne hs)
  · cases h
theorem next_lt (k : Nat) (hk : k ≠ 0) : LT (nextP k) := fun r a r' h => by
  unfold nextP at h
  split at h
  · rename_i hs; injection h with _ h2; rw [← h2]; exact tail_lt (kind_ne hs hk)
  · cases h
theorem name_lt : LT nameP := next_lt 1 (by decide)
theorem num_lt : LT numP := (next_lt 2 (by decide)).bind fun _ => .ret _
theorem after_lt (t : List UInt8) : LT (afterP t) := (must_lt t).bind fun _ => num_lt.ni
theorem of_lt (l : List (List UInt8)) : LT (ofP l) := fun r a r' h => by
  unfold ofP at h
  split at h
  · rename_i hs
    injection h with _ h2
    rw [← h2]
    refine tail_lt (kind_ne (k := 1) ?_ (by decide))
    simp only [Bool.and_eq_true] at hs
    exact hs.2
  · cases h
theorem more_ni {α : Type} {x : Ps α} (h : NI x) : ∀ (f : Nat) (acc : List α), NI (moreP x f acc)
  | 0, acc => .ret acc
  | f + 1, acc => (takes_ni _).bind fun b => by
    cases b
    · exact .ret acc
    · exact h.bind fun a => more_ni h f (acc ++ [a])
theorem list_ni {α : Type} {x : Ps α} (h : NI x) : NI (listP x) := h.bind fun _a r b r' e => more_ni h _ _ r b r' e
theorem list_lt {α : Type} {x : Ps α} (h : LT x) : LT (listP x) := h.bind fun _a r b r' e => more_ni h.ni _ _ r b r' e
theorem ref_lt : LT refP := name_lt.bind fun _ => (must_lt _).ni.bind fun _ => name_lt.ni.bind fun _ => (must_lt _).ni.bind fun _ => name_lt.ni.bind fun _ => .ret _
theorem net_lt : LT netP := (must_lt _).bind fun _ => (of_lt _).ni.bind fun _ => .ret _
theorem ops_ni : ∀ n, NI (opsP n)
  | 0 => .ret _
  | n + 1 => num_lt.ni.bind fun _ => (ops_ni n).bind fun _ => .ret _
theorem ins_lt : LT insP := (of_lt _).bind fun _ => (ops_ni _).bind fun _ => (must_lt _).ni.bind fun _ => .ret _
theorem code_loop_ni : ∀ (f : Nat) (acc : List InsD), NI (codeLoop f acc)
  | 0, acc => .ret acc
  | f + 1, acc => fun r a r' h => by
    unfold codeLoop at h
    split at h
    · exact (ins_lt.ni.bind fun x => code_loop_ni f (acc ++ [x])) r a r' h
    · injection h with _ h2; rw [h2]; exact Nat.le_refl _
theorem code_ni : NI codeP := fun r a r' h => code_loop_ni _ _ r a r' h
theorem way_lt : LT wayP := fun r a r' h => by
  unfold wayP at h
  split at h
  · rename_i hs; injection h with _ h2; rw [← h2]; exact tail_lt (sees_ne hs)
  · split at h
    · rename_i hs; injection h with _ h2; rw [← h2]; exact tail_lt (sees_ne hs)
    · cases h
theorem port_lt : LT portP := way_lt.bind fun _ => name_lt.ni.bind fun _ => (of_lt _).ni.bind fun kind => (after_lt _).ni.bind fun _ => by
  by_cases hk : kind = 1
  · simp only [hk, if_true]
    exact (after_lt _).ni.bind fun _ => (must_lt _).ni.bind fun _ => .ret _
  · simp only [hk, if_false]
    exact (after_lt _).ni.bind fun _ => (must_lt _).ni.bind fun _ => .ret _
theorem proc_lt : LT procP := name_lt.bind fun _ => (after_lt _).ni.bind fun _ => (after_lt _).ni.bind fun _ => (after_lt _).ni.bind fun _ => (must_lt _).ni.bind fun _ => code_ni.bind fun _ => (must_lt _).ni.bind fun _ => .ret _
theorem skip_ni : NI skipP := fun r a r' h => by
  unfold skipP at h
  injection h with _ h2; rw [← h2]; simp
/-- Behind a first token that is taken. -/
theorem skip_lt {α : Type} {m : Ps α} (h : NI m) {r r' : List Tok} {a : α} (hr : r ≠ []) (e : (do skipP; m : Ps α) r = .ok a r') : r'.length < r.length := by
  obtain ⟨u, r1, h1, h2⟩ := bnd_inv e
  unfold skipP at h1
  injection h1 with _ h3
  rw [← h3] at h2
  exact Nat.lt_of_le_of_lt (h _ _ _ h2) (tail_lt hr)
theorem once_lt (w : List UInt8) (b : BuildD) {x : Ps PartD} (h : NI x) {r r' : List Tok} {a : BuildD} (hs : seesB w r = true) (e : onceP w b x r = .ok a r') : r'.length < r.length := by
  unfold onceP at e
  split at e
  · cases e
  · exact skip_lt (h.bind fun _ => (must_lt _).ni.bind fun _ => .ret _) (sees_ne hs) e
theorem thing_lt (b : BuildD) : LT (thingP b) := fun r a r' h => by
  unfold thingP at h
  split at h
  · rename_i hs; exact once_lt _ b ((list_ni num_lt.ni).bind fun _ => .ret _) hs h
  · split at h
    · rename_i hs; exact once_lt _ b ((list_ni num_lt.ni).bind fun _ => .ret _) hs h
    · split at h
      · rename_i hs; exact once_lt _ b (num_lt.ni.bind fun _ => .ret _) hs h
      · split at h
        · rename_i hs; exact once_lt _ b (num_lt.ni.bind fun _ => .ret _) hs h
        · split at h
          · rename_i hs; exact skip_lt (proc_lt.ni.bind fun _ => .ret _) (sees_ne hs) h
          · exact (port_lt.bind fun _ => .ret _) r a r' h
theorem things_ni : ∀ (f : Nat) (b : BuildD), NI (thingsLoop f b)
  | 0, b => .ret b
  | f + 1, b => fun r a r' h => by
    unfold thingsLoop at h
    split at h
    · injection h with _ h2; rw [← h2]; simp
    · exact ((thing_lt b).ni.bind fun b' => things_ni f b') r a r' h
theorem part_lt : LT partP := name_lt.bind fun _ => (after_lt _).ni.bind fun _ => (after_lt _).ni.bind fun _ => (after_lt _).ni.bind fun _ => (must_lt _).ni.bind fun _ =>
  NI.bind (fun r a r' h => things_ni _ _ r a r' h) fun _ => .ret _
theorem parts_ni : ∀ (f : Nat) (acc : List PartD), NI (partsLoop f acc)
  | 0, acc => .ret acc
  | f + 1, acc => (takes_ni _).bind fun b => by
    cases b
    · exact .ret acc
    · exact part_lt.ni.bind fun a => parts_ni f (acc ++ [a])
theorem mod_lt : LT modP := name_lt.bind fun _ => (after_lt _).ni.bind fun _ => (after_lt _).ni.bind fun _ => (must_lt _).ni.bind fun _ =>
  NI.bind (fun r a r' h => parts_ni _ _ r a r' h) fun _ => (must_lt _).ni.bind fun _ => .ret _
theorem chan_lt : LT chanP := ref_lt.bind fun _ => (must_lt _).ni.bind fun _ => (list_ni ref_lt.ni).bind fun _ => (must_lt _).ni.bind fun _ => .ret _
theorem sw_lt : LT swP := name_lt.bind fun _ => net_lt.ni.bind fun _ => (after_lt _).ni.bind fun _ => (after_lt _).ni.bind fun _ => (must_lt _).ni.bind fun _ => .ret _
theorem link_lt : LT linkP := name_lt.bind fun _ => name_lt.ni.bind fun _ => net_lt.ni.bind fun _ => (after_lt _).ni.bind fun _ => (must_lt _).ni.bind fun _ => .ret _
theorem vl_lt : LT vlP := name_lt.bind fun _ => (must_lt _).ni.bind fun _ => ref_lt.ni.bind fun _ => (after_lt _).ni.bind fun _ => (after_lt _).ni.bind fun _ => (must_lt _).ni.bind fun _ => (list_ni ref_lt.ni).bind fun _ => (must_lt _).ni.bind fun _ => .ret _
theorem opt_ni (t : List UInt8) : NI (optP t) := (takes_ni t).bind fun b => by
  cases b
  · exact .ret _
  · exact name_lt.ni
theorem health_lt : LT healthP := (of_lt _).bind fun _ => (opt_ni _).bind fun _ => (opt_ni _).bind fun _ => (must_lt _).ni.bind fun _ => (of_lt _).ni.bind fun _ => (must_lt _).ni.bind fun _ => (of_lt _).ni.bind fun _ => (must_lt _).ni.bind fun _ => .ret _
theorem rep_lt : LT repP := name_lt.bind fun _ => (must_lt _).ni.bind fun _ => num_lt.ni.bind fun _ => .ret _
theorem unless_ni : NI unlessP := (takes_ni _).bind fun b => by
  cases b
  · exact .ret _
  · exact list_ni name_lt.ni
theorem cause_lt : LT causeP := name_lt.bind fun _ => (must_lt _).ni.bind fun _ => (list_ni rep_lt.ni).bind fun _ => unless_ni.bind fun _ => (must_lt _).ni.bind fun _ => .ret _
theorem works_lt : LT worksP := name_lt.bind fun _ => num_lt.ni.bind fun _ => (must_lt _).ni.bind fun _ => name_lt.ni.bind fun _ => num_lt.ni.bind fun _ => (must_lt _).ni.bind fun _ => .ret _
theorem item_lt (c : CfgD) : LT (itemP c) := fun r a r' h => by
  unfold itemP at h
  split at h
  · rename_i hs; exact skip_lt (mod_lt.ni.bind fun _ => .ret _) (sees_ne hs) h
  · split at h
    · rename_i hs; exact skip_lt (chan_lt.ni.bind fun _ => .ret _) (sees_ne hs) h
    · split at h
      · rename_i hs; exact skip_lt (sw_lt.ni.bind fun _ => .ret _) (sees_ne hs) h
      · split at h
        · rename_i hs; exact skip_lt (link_lt.ni.bind fun _ => .ret _) (sees_ne hs) h
        · split at h
          · rename_i hs; exact skip_lt (vl_lt.ni.bind fun _ => .ret _) (sees_ne hs) h
          · split at h
            · rename_i hs; exact skip_lt (health_lt.ni.bind fun _ => .ret _) (sees_ne hs) h
            · split at h
              · rename_i hs; exact skip_lt (cause_lt.ni.bind fun _ => .ret _) (sees_ne hs) h
              · split at h
                · rename_i hs; exact skip_lt (works_lt.ni.bind fun _ => .ret _) (sees_ne hs) h
                · cases h
/-- The loops, by their rounds. -/
theorem more_fuel {α : Type} {x : Ps α} (h : NI x) : ∀ (f g : Nat) (acc : List α) (r : List Tok), r.length < f → r.length < g → moreP x f acc r = moreP x g acc r
  | 0, g, acc, r, hf, _ => by omega
  | f + 1, 0, acc, r, _, hg => by omega
  | f + 1, g + 1, acc, r, hf, hg => by
    have hu : ∀ k, moreP x (k + 1) acc r = if seesB [44] r then (do let a ← x; moreP x k (acc ++ [a]) : Ps (List α)) r.tail else .ok acc r := fun k => by
      have e : moreP x (k + 1) acc r = ((takesP [44]) >>= fun b => if b then (do let a ← x; moreP x k (acc ++ [a]) : Ps (List α)) else pure acc) r := rfl
      rw [e]
      by_cases hs : seesB [44] r = true
      · rw [bnd_ok (a := true) (r' := r.tail) (by unfold takesP; rw [hs]; rfl), hs]; rfl
      · have hs' : seesB [44] r = false := by simpa using hs
        rw [bnd_ok (a := false) (r' := r) (by unfold takesP; rw [hs']; rfl), hs']; rfl
    rw [hu f, hu g]
    by_cases hs : seesB [44] r = true
    · rw [hs, if_pos rfl, if_pos rfl]
      have hl := tail_lt (sees_ne hs)
      cases hx : x r.tail with
      | ok a r2 =>
        have hn := h _ _ _ hx
        rw [bnd_ok hx, bnd_ok hx]
        exact more_fuel h f g _ r2 (by omega) (by omega)
      | bad e r2 => rw [bnd_bad hx, bnd_bad hx]
    · have hs' : seesB [44] r = false := by simpa using hs
      rw [hs']; rfl
end Go.Proofs.YtndpnpohdoggjaaGreatDoor
namespace Go.Proofs.YtndpnpohdoggjaaGreatDoor
open Go.RowKit
def strV (l : List UInt8) : Value := .string ⟨l.toArray⟩
def lS (l : List UInt8) : Dat := .leaf (strV l)
def lI (n : Int) : Dat := .leaf (.int .i64 n)
def lU (n : Nat) : Dat := .leaf (.int .u8 (n : Int))
def lB (b : Bool) : Dat := .leaf (.bool b)
def RefD.cells (x : RefD) : List Dat := [lS x.m, lS x.p, lS x.o]
def InsD.cells (x : InsD) : List Dat := [lU x.op, lI x.a, lI x.b, lI x.c]
def PortD.cells (x : PortD) : List Dat := [lS x.name, lU x.kind, lB x.out, lI x.size, lI x.depth, lI x.refresh]
def ProcD.cells (x : ProcD) : List Dat := [lS x.name, lI x.prio, lI x.period, lI x.limit, .row 4 (x.code.map InsD.cells)]
def intRows (l : List Int) : List (List Dat) := l.map fun n => [lI n]
def strRows (l : List (List UInt8)) : List (List Dat) := l.map fun s => [lS s]
def PartD.cells (x : PartD) : List Dat := [lS x.name, lI x.period, lI x.length, lI x.mem, .row 1 (intRows x.semas), lI x.events, lI x.boards, .row 1 (intRows x.bufs), .row 6 (x.ports.map PortD.cells), .row 5 (x.procs.map ProcD.cells)]
def ModD.cells (x : ModD) : List Dat := [lS x.name, lI x.mem, lI x.frame, .row 10 (x.parts.map PartD.cells)]
def ChanD.cells (x : ChanD) : List Dat := x.from_.cells ++ [.row 3 (x.to.map RefD.cells)]
def SwD.cells (x : SwD) : List Dat := [lS x.name, lI x.net, lI x.delay, lI x.store]
def LinkD.cells (x : LinkD) : List Dat := [lS x.a, lS x.b, lI x.net, lI x.slow]
def VlD.cells (x : VlD) : List Dat := lS x.name :: x.from_.cells ++ [lI x.bag, lI x.max, .row 3 (x.to.map RefD.cells)]
def HealthD.cells (x : HealthD) : List Dat := [lS x.module, lS x.part, lU x.fault, lU x.level, lU x.do_]
def RepD.cells (x : RepD) : List Dat := [lS x.unit, lI x.code]
def CauseD.cells (x : CauseD) : List Dat := [lS x.unit, .row 2 (x.needs.map RepD.cells), .row 1 (strRows x.but)]
def VerD.cells (x : VerD) : List Dat := [lS x.a, lI x.va, lS x.b, lI x.vb]
def CfgD.cells (x : CfgD) : List Dat := [.row 4 (x.modules.map ModD.cells), .row 4 (x.channels.map ChanD.cells), .row 4 (x.switches.map SwD.cells), .row 4 (x.links.map LinkD.cells), .row 7 (x.vls.map VlD.cells), .row 5 (x.health.map HealthD.cells), .row 3 (x.causes.map CauseD.cells), .row 4 (x.versions.map VerD.cells)]
end Go.Proofs.YtndpnpohdoggjaaGreatDoor
namespace Go.Proofs.YtndpnpohdoggjaaGreatDoor
open Go.RowKit
theorem block_of_add (a : Addr) (n : Nat) : (a.add n).block = a.block := by unfold Addr.add; split <;> rfl
theorem add_of_add (a : Addr) (i j : Nat) : (a.add i).add j = a.add (i + j) := by
  unfold Addr.add
  by_cases hi : i = 0 <;> by_cases hj : j = 0 <;> simp [hi, hj, Nat.add_assoc]

def Reads (w : World) (B size : Nat) (A : Option Addr) (n : Nat) (xs : List Value) : Prop :=
  xs.length = n * size ∧ (0 < n → ∃ ad, A = some ad ∧ ad.block < B ∧ ∀ j u, xs[j]? = some u → w.cell? (ad.add j) = some u)

section
variable {w w' : World} {B B' size n : Nat} {A : Option Addr} {xs : List Value}
theorem Reads.none_ : Reads w B size A 0 [] := ⟨by simp, fun h => absurd h (by omega)⟩
theorem Reads.at_ {k : Nat} (h : Reads w B 1 A n xs) (hk : k < n) : ∃ ad u, A = some ad ∧ ad.block < B ∧ xs[k]? = some u ∧ w.cell? (ad.add k) = some u := by
  obtain ⟨ad, e, hb, hc⟩ := h.2 (by omega)
  have hl : k < xs.length := by have := h.1; omega
  exact ⟨ad, xs[k], e, hb, List.getElem?_eq_getElem hl, hc k _ (List.getElem?_eq_getElem hl)⟩
theorem Reads.keep (h : Reads w B size A n xs) (hk : ∀ p : Addr, p.block < B → w'.cell? p = w.cell? p) : Reads w' B size A n xs :=
  ⟨h.1, fun hn => by
    obtain ⟨ad, e, hb, hc⟩ := h.2 hn
    exact ⟨ad, e, hb, fun j u hu => (hk _ (by rw [block_of_add]; exact hb)).trans (hc j u hu)⟩⟩
theorem Reads.more (h : Reads w B size A n xs) (hB : B ≤ B') : Reads w B' size A n xs :=
  ⟨h.1, fun hn => by
    obtain ⟨ad, e, hb, hc⟩ := h.2 hn
    exact ⟨ad, e, by omega, hc⟩⟩
theorem Reads.below (h : Reads w B size A n xs) (hb : Below B w w') : Reads w' B size A n xs := h.keep fun _ hp => hb.cell hp
theorem Reads.drew (h : Reads w B size A n xs) : Reads w.drew B size A n xs := h
theorem Reads.drewN (h : Reads w B size A n xs) (k : Nat) : Reads (w.drewN k) B size A n xs := h
theorem Reads.alloc (h : Reads w B size A n xs) (hB : B ≤ w.heap.size) (o : Obj) : Reads (w.alloc o) B size A n xs := h.keep fun p hp => World.cell?_alloc_lt w o p (by omega)
theorem Reads.setCell (h : Reads w B size A n xs) {p : Addr} (hB : B ≤ p.block) (u : Value) : Reads (w.setCell p u) B size A n xs :=
  h.keep fun q hq => World.cell?_setCell_other w p q u (fun e => by subst e; omega)
theorem Reads.grown (h : Reads w B size A n xs) {row : Option Nat} (hg : w.grownBy w' row) (hB : B ≤ w.heap.size) (hr : ∀ g, row = some g → B ≤ g) : Reads w' B size A n xs :=
  h.keep fun p hp => World.cell?_of_block (hg.block p.block (by omega) (fun e => by have := hr _ e.symm; omega))
theorem Reads.cut (h : Reads w B size A n xs) {k cap : Nat} (hk : k ≤ n) (hc : n ≤ cap) :
    Reads w B size (if cap = k then A else A.map (·.add (k * size))) (n - k) (xs.drop (k * size)) := by
  refine ⟨by rw [List.length_drop, h.1, Nat.sub_mul], fun hn => ?_⟩
  obtain ⟨ad, rfl, hb, hcell⟩ := h.2 (by omega)
  rw [if_neg (by omega)]
  refine ⟨ad.add (k * size), rfl, by rw [block_of_add]; exact hb, fun j u hu => ?_⟩
  rw [add_of_add]
  exact hcell _ u (by rw [← hu, List.getElem?_drop])
theorem Reads.of_own {base : Nat} {e : TypeId} {c : Nat} (h : w.ownsRow base e size (.slice A n c) n xs) : Reads w w.heap.size size A n xs := by
  refine ⟨h.1, fun hn => ?_⟩
  obtain ⟨g, cap, hv, _, hlt⟩ := h.form hn
  have hA : A = some ⟨g, 0, none⟩ := by injection hv
  subst hA
  exact ⟨_, rfl, hlt, h.cells (g := g) rfl⟩
end
section
variable {P : Program} (w : World)

theorem run_append_of_nil (base : Nat) (t ty e : TypeId) (i : TypeInfo) (size : Nat) (ht : P.underlying t = some (.slice e)) (hi : P.info? e = some i)
    (v : Value) (n : Nat) (xs : List Value) (hown : w.ownsRow base e size v n xs) (c : Nat) : (Builtin.append_ #[t, t] ty #[v, .slice none 0 c]).run P w = .ok v w := by
  rcases hown.2 with ⟨rfl, rfl⟩ | ⟨g, cap, cur, rfl, _, _, hnc, _⟩
  · simp [Builtin.append_, run_underlying ht, sizeOf, typeInfo, hi, Builtin.lenOf, Builtin.firstCells]
  · simp [Builtin.append_, run_underlying ht, sizeOf, typeInfo, hi, Builtin.lenOf, Builtin.firstCells, hnc, storeCells]

theorem run_append_any (base : Nat) (t ty e : TypeId) (i : TypeInfo) (z : Value) (size bytes : Nat) (ht : P.underlying t = some (.slice e)) (hi : P.info? e = some i) (hz : i.zero = some z)
    (hsize : i.size = size) (hby : i.bytes = bytes) (hzs : z.cells.size = size) (hsz : 0 < size)
    (v : Value) (n : Nat) (xs : List Value) (hown : w.ownsRow base e size v n xs)
    (B : Nat) (A : Option Addr) (m c : Nat) (news : List Value) (hr : Reads w B size A m news) (h1 : ∀ u ∈ news, u.oneCell' = true)
    (h63 : n + m ≤ maxLen) (hbytes : (n + m) * bytes ≤ 140737488355328) (hbase : base ≤ w.heap.size) :
    ∃ v' w', (Builtin.append_ #[t, t] ty #[v, .slice A m c]).run P w = .ok v' w' ∧ w'.ownsRow base e size v' (n + m) (xs ++ news) ∧ w.grownBy w' v.ownBlock ∧
      (v'.ownBlock = v.ownBlock ∨ v'.ownBlock = some w.heap.size) := by
  rcases A with _ | ad
  · have hm : m = 0 := by
      rcases Nat.eq_zero_or_pos m with h0 | h0
      · exact h0
      · obtain ⟨ad, h, _⟩ := hr.2 h0
        cases h
    subst hm
    have hn : news = [] := List.eq_nil_of_length_eq_zero (by simpa using hr.1)
    subst hn
    exact ⟨v, w, run_append_of_nil w base t ty e i size ht hi v n xs hown c, by simpa using hown, World.grownBy.refl w _, .inl rfl⟩
  · have hcells : ∀ j u, news[j]? = some u → w.cell? (ad.add j) = some u := by
      intro j u hu
      rcases Nat.eq_zero_or_pos m with h0 | h0
      · subst h0
        have hn : news = [] := List.eq_nil_of_length_eq_zero (by simpa using hr.1)
        subst hn
        simp at hu
      · obtain ⟨ad', h, _, hc⟩ := hr.2 h0
        injection h with h
        subst h
        exact hc j u hu
    obtain ⟨v', w', hrun, h2, h3, _, h5⟩ := run_append_own_at (P := P) w base t ty e i z size bytes ht hi hz hsize hby hzs hsz v n xs hown ad m c news hr.1 hcells h1 h63 hbytes hbase
    exact ⟨v', w', hrun, h2, h3, h5⟩

theorem wp_append_any {o : Oper} {a : Act} {K : Act → World → Prop} {Q : Exit → Act → World → Prop} (s x : Operand) (t : TypeId)
    (ho : o.op = .call { callee := .builtin .append, args := #[s, x], argTypes := #[t, t] })
    (base : Nat) (e : TypeId) (i : TypeInfo) (z : Value) (size bytes : Nat) (ht : P.underlying t = some (.slice e)) (hi : P.info? e = some i) (hz : i.zero = some z)
    (hsize : i.size = size) (hby : i.bytes = bytes) (hzs : z.cells.size = size) (hsz : 0 < size)
    (v : Value) (n : Nat) (xs : List Value) (hs : a.eval s = v) (hown : w.ownsRow base e size v n xs)
    (B : Nat) (A : Option Addr) (m c : Nat) (news : List Value) (hx : a.eval x = .slice A m c) (hr : Reads w B size A m news) (h1 : ∀ u ∈ news, u.oneCell' = true)
    (h63 : n + m ≤ maxLen) (hbytes : (n + m) * bytes ≤ 140737488355328) (hbase : base ≤ w.heap.size)
    (h : ∀ v' w', w'.ownsRow base e size v' (n + m) (xs ++ news) → w.grownBy w' v.ownBlock → (v'.ownBlock = v.ownBlock ∨ v'.ownBlock = some w.heap.size) → K (a.put o.dst v') w') : o.wp P a w K Q := by
  obtain ⟨v', w', hrun, h2, h3, h4⟩ := run_append_any (P := P) w base t o.type e i z size bytes ht hi hz hsize hby hzs hsz v n xs hown B A m c news hr h1 h63 hbytes hbase
  unfold Oper.wp execOp
  simp only [ho, resolve, invoke, builtin, Sem.run_bind, Sem.run_pure, Result.andThen_ok, List.map_toArray, List.map_cons, List.map_nil, hs, hx, hrun]
  exact h v' w' h2 h3 h4

theorem wpList_append_any {ops : Array Oper} {rest : List Oper} {o : Oper} {a : Act} {Q : Exit → Act → World → Prop} (hgd : o.guard = none) (s x : Operand) (t : TypeId)
    (ho : o.op = .call { callee := .builtin .append, args := #[s, x], argTypes := #[t, t] })
    (base : Nat) (e : TypeId) (i : TypeInfo) (z : Value) (size bytes : Nat) (ht : P.underlying t = some (.slice e)) (hi : P.info? e = some i) (hz : i.zero = some z)
    (hsize : i.size = size) (hby : i.bytes = bytes) (hzs : z.cells.size = size) (hsz : 0 < size)
    (v : Value) (n : Nat) (xs : List Value) (hs : a.eval s = v) (hown : w.ownsRow base e size v n xs)
    (B : Nat) (A : Option Addr) (m c : Nat) (news : List Value) (hx : a.eval x = .slice A m c) (hr : Reads w B size A m news) (h1 : ∀ u ∈ news, u.oneCell' = true)
    (h63 : n + m ≤ maxLen) (hbytes : (n + m) * bytes ≤ 140737488355328) (hbase : base ≤ w.heap.size)
    (h : ∀ v' w', w'.ownsRow base e size v' (n + m) (xs ++ news) → w.grownBy w' v.ownBlock → (v'.ownBlock = v.ownBlock ∨ v'.ownBlock = some w.heap.size) → wpList P ops Q rest (a.put o.dst v') w') : wpList P ops Q (o :: rest) a w :=
  wpList_plain hgd fun _ hK => wp_append_any w s x t ho base e i z size bytes ht hi hz hsize hby hzs hsz v n xs hs hown B A m c news hx hr h1 h63 hbytes hbase fun v' w' h2 h3 h4 => hK _ _ (h v' w' h2 h3 h4)

theorem step_append_any {ops : Array Oper} {o : Oper} {a : Act} {K : Act → World → Prop} {Q : Exit → Act → World → Prop} {E : Prop} (hgd : o.guard = none) (s x : Operand) (t : TypeId)
    (ho : o.op = .call { callee := .builtin .append, args := #[s, x], argTypes := #[t, t] })
    (base : Nat) (e : TypeId) (i : TypeInfo) (z : Value) (size bytes : Nat) (ht : P.underlying t = some (.slice e)) (hi : P.info? e = some i) (hz : i.zero = some z)
    (hsize : i.size = size) (hby : i.bytes = bytes) (hzs : z.cells.size = size) (hsz : 0 < size)
    (v : Value) (n : Nat) (xs : List Value) (hs : a.eval s = v) (hown : w.ownsRow base e size v n xs)
    (B : Nat) (A : Option Addr) (m c : Nat) (news : List Value) (hx : a.eval x = .slice A m c) (hr : Reads w B size A m news) (h1 : ∀ u ∈ news, u.oneCell' = true)
    (h63 : n + m ≤ maxLen) (hbytes : (n + m) * bytes ≤ 140737488355328) (hbase : base ≤ w.heap.size)
    (h : ∀ v' w', w'.ownsRow base e size v' (n + m) (xs ++ news) → w.grownBy w' v.ownBlock → (v'.ownBlock = v.ownBlock ∨ v'.ownBlock = some w.heap.size) → K (a.put o.dst v') w') :
    if Region.wanted o (yielded ops a.tmps) = true then Oper.wp P o a w K Q else E := by
  have hw : Region.wanted o (yielded ops a.tmps) = true := by simp [Region.wanted, hgd]
  rw [if_pos hw]
  exact wp_append_any w s x t ho base e i z size bytes ht hi hz hsize hby hzs hsz v n xs hs hown B A m c news hx hr h1 h63 hbytes hbase h
end
end Go.Proofs.YtndpnpohdoggjaaGreatDoor
namespace Go.Proofs.YtndpnpohdoggjaaGreatDoor
open Go.RowKit
attribute [local go_sem] Later.cell
/-- How a parser's call that hands back a slice of its own ends. -/
def EndsL {α : Type} (pb : Nat) (ts : List Tok) (W : World) (T : TypeId) (size : Nat) (cells : α → List Value) (res : Res (List α)) (e : Ending) (W' : World) : Prop :=
  ∃ j, j ≤ ts.length ∧ AtJ pb j W W' ∧ match res with
    | .ok l r => r = ts.drop j ∧ ∃ v, e = .returned v ∧ W'.ownsRow W.heap.size T size v l.length (l.flatMap cells)
    | .bad n r => r = ts.drop j ∧ e = .panicked [{ v := .iface 159 (.agg #[.int .i64 (n : Int)]), recovered := false }]
theorem EndsL.mk_bad {α : Type} {pb j n : Nat} {ts : List Tok} {W W' : World} {T : TypeId} {size : Nat} {cells : α → List Value} {res : Res (List α)} (h : res = .bad n (ts.drop j)) (hj : j ≤ ts.length) (hA : AtJ pb j W W') : EndsL pb ts W T size cells res (.panicked [{ v := .iface 159 (.agg #[.int .i64 (n : Int)]), recovered := false }]) W' := by
  subst h
  exact ⟨j, hj, hA, rfl, rfl⟩
theorem EndsL.mk_ok {α : Type} {pb j : Nat} {ts : List Tok} {W W' : World} {T : TypeId} {size : Nat} {cells : α → List Value} {res : Res (List α)} {l : List α} {v : Value} {e : Ending} (h : res = .ok l (ts.drop j)) (hj : j ≤ ts.length) (hA : AtJ pb j W W') (he : e = .returned v) (ho : W'.ownsRow W.heap.size T size v l.length (l.flatMap cells)) : EndsL pb ts W T size cells res e W' := by
  subst h
  exact ⟨j, hj, hA, rfl, v, he, ho⟩
theorem listP_bad {α : Type} {x : Ps α} {r r' : List Tok} {n : Nat} (h : x r = .bad n r') : listP x r = .bad n r' := bnd_bad h
theorem listP_ok {α : Type} {x : Ps α} {r r' : List Tok} {a : α} (h : x r = .ok a r') : listP x r = moreP x (r'.length + 1) [a] r' := bnd_ok h
theorem moreP_end {α : Type} {x : Ps α} {f : Nat} {acc : List α} {r r' : List Tok} (h : takesP [44] r = .ok false r') : moreP x (f + 1) acc r = .ok acc r' := bnd_ok h
theorem moreP_go {α : Type} {x : Ps α} {f : Nat} {acc : List α} {r r' r'' : List Tok} {a : α} (h : takesP [44] r = .ok true r') (h2 : x r' = .ok a r'') : moreP x (f + 1) acc r = moreP x f (acc ++ [a]) r'' :=
  (bnd_ok h).trans (bnd_ok h2)
theorem moreP_bad {α : Type} {x : Ps α} {f n : Nat} {acc : List α} {r r' r'' : List Tok} (h : takesP [44] r = .ok true r') (h2 : x r' = .bad n r'') : moreP x (f + 1) acc r = .bad n r'' :=
  (bnd_ok h).trans (bnd_bad h2)
theorem AtJ.belowW {sb j : Nat} {a b c : World} (h : AtJ sb j a b) (hsb : sb < a.heap.size) (k : Below a.heap.size b c) : AtJ sb j a c :=
  ⟨⟨k.os.trans h.kept.os, k.tape.trans h.kept.tape, k.output.trans h.kept.output, Nat.le_trans h.kept.size k.size, fun i hi hf => (k.block i hi).trans (h.kept.block i hi hf)⟩,
    (k.cell (p := ⟨sb, 1, none⟩) hsb).trans h.here, fun o ho => (k.cell (p := ⟨sb, o, none⟩) hsb).trans (h.rest o ho), (World.frozen?_of_block (w := b) (a := ⟨sb, 1, none⟩) (k.block sb hsb)).trans h.free, fun o => (World.frozen?_of_block (w := b) (a := ⟨sb, o, none⟩) (k.block sb hsb)).trans (h.hold o)⟩
theorem LTj {α : Type} {x : Ps α} {ts : List Tok} {j k : Nat} {a : α} (h : x (ts.drop j) = .ok a (ts.drop k)) (hx : LT x) (hk : k ≤ ts.length) : j + 1 ≤ k := by
  have := hx _ _ _ h
  simp only [List.length_drop] at this
  omega
theorem takes_ne (s : List UInt8) (r : List Tok) {n : Nat} {r' : List Tok} : takesP s r ≠ .bad n r' := by
  unfold takesP
  split <;> exact fun h => by cases h
theorem takes_step {s : List UInt8} {ts : List Tok} {j k : Nat} (h : takesP s (ts.drop j) = .ok true (ts.drop k)) (hk : k ≤ ts.length) : j + 1 ≤ k := by
  unfold takesP at h
  split at h
  · rename_i hs
    injection h with _ h
    have hl := congrArg List.length h
    simp only [List.length_tail, List.length_drop] at hl
    rcases Nat.lt_or_ge j ts.length with h' | h'
    · omega
    · rw [List.drop_eq_nil_of_le h'] at hs
      simp [seesB, hdT] at hs
  · injection h with h _
    cases h
/-- A row of a record: its element's type and size, its elements. -/
structure RowS where
  t : TypeId
  size : Nat
  es : List (List Dat)
/-- The blocks that hold the elements' data: of the call's own, no row of the record. -/
def OwnSet (B : Nat) (vs : List Value) (b : Nat) : Prop := B ≤ b ∧ ∀ u ∈ vs, u.ownBlock ≠ some b
structure RowsAt (w : World) (B : Nat) (vs : List Value) (rs : List RowS) : Prop where
  len : vs.length = rs.length
  wide : ∀ (k : Nat) (r : RowS), rs[k]? = some r → ∀ e ∈ r.es, e.length = r.size
  own : ∀ (k : Nat) (v : Value) (r : RowS), vs[k]? = some v → rs[k]? = some r → ∃ cs, w.ownsRow B r.t r.size v r.es.length cs ∧ DCells w (OwnSet B vs) cs r.es.flatten
  apart : ∀ (k l : Nat) (u v : Value) (g : Nat), vs[k]? = some u → vs[l]? = some v → u.ownBlock = some g → v.ownBlock = some g → k = l
theorem RowsAt.keep {w w' : World} {B : Nat} {vs : List Value} {rs : List RowS} (h : RowsAt w B vs rs) (hz : w.heap.size ≤ w'.heap.size) (hk : ∀ b, B ≤ b → b < w.heap.size → w'.heap[b]? = w.heap[b]?) : RowsAt w' B vs rs :=
  ⟨h.len, h.wide, fun k v r hv hr => by
    obtain ⟨cs, ho, hc⟩ := h.own k v r hv hr
    exact ⟨cs, own_keep ho (fun g hg hb => hk g hb (own_lt ho hg).2), hc.keep hz (fun b hb hl => hk b hb.1 hl)⟩, h.apart⟩
theorem RowsAt.kept {F : Nat → Prop} {w w' : World} {B : Nat} {vs : List Value} {rs : List RowS} (h : RowsAt w B vs rs) (hk : Kept F w w') (hF : ∀ b, B ≤ b → ¬ F b) : RowsAt w' B vs rs := h.keep hk.size (fun b hb hl => hk.block b hl (hF b hb))
theorem RowsAt.below {w w' : World} {B : Nat} {vs : List Value} {rs : List RowS} (h : RowsAt w B vs rs) (hb : Below w.heap.size w w') : RowsAt w' B vs rs := h.keep hb.size (fun b _ hl => hb.block b hl)
theorem set_get {α : Type} {l : List α} {k i : Nat} {a x : α} (h : (l.set k a)[i]? = some x) : (i = k ∧ k < l.length ∧ x = a) ∨ (i ≠ k ∧ l[i]? = some x) := by
  by_cases e : i = k
  · subst e
    by_cases hl : i < l.length
    · rw [List.getElem?_set_self hl] at h
      injection h with h
      exact .inl ⟨rfl, hl, h.symm⟩
    · rw [List.getElem?_eq_none (by simp; omega)] at h
      cases h
  · rw [List.getElem?_set_ne (fun h => e h.symm)] at h
    exact .inr ⟨e, h⟩
/-- New elements behind a row. -/
theorem RowsAt.join {w1 w2 : World} {B k : Nat} {vs : List Value} {rs : List RowS} {v v' : Value} {r : RowS} {fs : List (List Dat)} {cs news : List Value} (h : RowsAt w1 B vs rs) (_hB : B ≤ w1.heap.size) (hv : vs[k]? = some v) (hr : rs[k]? = some r) (hf : ∀ e ∈ fs, e.length = r.size)
    (hc : DCells w1 (OwnSet B vs) cs r.es.flatten) (hnew : DCells w1 (OwnSet B vs) news fs.flatten) (hown : w2.ownsRow B r.t r.size v' (r.es.length + fs.length) (cs ++ news)) (hg : w1.grownBy w2 v.ownBlock)
    (hat : v'.ownBlock = v.ownBlock ∨ v'.ownBlock = some w1.heap.size) : RowsAt w2 B (vs.set k v') (rs.set k ⟨r.t, r.size, r.es ++ fs⟩) := by
  have hvm : v ∈ vs := List.mem_of_getElem? hv
  have hG : ∀ b, OwnSet B vs b → b < w1.heap.size → OwnSet B (vs.set k v') b := fun b hb hl => ⟨hb.1, fun u hu => by
    rcases List.mem_or_eq_of_mem_set hu with hu | rfl
    · exact hb.2 u hu
    · rcases hat with e | e
      · rw [e]; exact hb.2 v hvm
      · rw [e]; intro e2; injection e2 with e2; omega⟩
  have hK : ∀ b, OwnSet B vs b → b < w1.heap.size → w2.heap[b]? = w1.heap[b]? := fun b hb hl => hg.block b hl (fun e => hb.2 v hvm e.symm)
  refine ⟨by simp [h.len], fun i x hx => ?_, fun i u x hu hx => ?_, fun i l u x g hu hx hug hxg => ?_⟩
  · rcases set_get hx with ⟨rfl, _, rfl⟩ | ⟨_, hx⟩
    · intro e he
      rcases List.mem_append.1 he with he | he
      · exact h.wide _ r hr e he
      · exact hf e he
    · exact h.wide i x hx
  · rcases set_get hu with ⟨rfl, _, rfl⟩ | ⟨hik, hu⟩
    · rcases set_get hx with ⟨_, _, rfl⟩ | ⟨hne, _⟩
      · refine ⟨cs ++ news, by simpa using hown, ?_⟩
        have : (r.es ++ fs).flatten = r.es.flatten ++ fs.flatten := by simp
        show DCells w2 _ _ (r.es ++ fs).flatten
        rw [this]
        have := ((hc.append hnew).mono (H := fun b => OwnSet B vs b ∧ b < w1.heap.size) (fun b hb hl => ⟨hb, hl⟩)).keep (w' := w2) hg.size (fun b hb hl => hK b hb.1 hl)
        exact this.mono (fun b hb _ => hG b hb.1 hb.2)
      · exact absurd rfl hne
    · rcases set_get hx with ⟨e, _, _⟩ | ⟨_, hx⟩
      · exact absurd e hik
      · obtain ⟨cs', ho, hc'⟩ := h.own i u x hu hx
        refine ⟨cs', own_keep ho (fun g hg' hb => hg.block g (own_lt ho hg').2 (fun e => hik (h.apart i k u v g hu hv hg' e.symm))), ?_⟩
        have := (hc'.mono (H := fun b => OwnSet B vs b ∧ b < w1.heap.size) (fun b hb hl => ⟨hb, hl⟩)).keep (w' := w2) hg.size (fun b hb hl => hK b hb.1 hl)
        exact this.mono (fun b hb _ => hG b hb.1 hb.2)
  · have hlt : ∀ (i : Nat) (u : Value) (g : Nat), vs[i]? = some u → u.ownBlock = some g → g < w1.heap.size := fun i u g hu hug => by
      have hi : i < rs.length := by rw [← h.len]; exact (List.getElem?_eq_some_iff.1 hu).1
      obtain ⟨cs', ho, _⟩ := h.own i u rs[i] hu (List.getElem?_eq_getElem hi)
      exact (own_lt ho hug).2
    rcases set_get hu with ⟨rfl, _, rfl⟩ | ⟨hik, hu'⟩
    · rcases set_get hx with ⟨rfl, _, _⟩ | ⟨hlk, hx'⟩
      · rfl
      · rcases hat with e | e
        · exact h.apart _ l v x g hv hx' (e.symm.trans hug) hxg
        · rw [e] at hug
          injection hug with hug
          have := hlt l x g hx' hxg
          omega
    · rcases set_get hx with ⟨rfl, _, rfl⟩ | ⟨hlk, hx'⟩
      · rcases hat with e | e
        · exact h.apart i _ u v g hu' hv hug (e.symm.trans hxg)
        · rw [e] at hxg
          injection hxg with hxg
          have := hlt i u g hu' hug
          omega
      · exact h.apart i l u x g hu' hx' hug hxg
/-- A new element behind a row. -/
theorem RowsAt.push {w1 w2 : World} {B k : Nat} {vs : List Value} {rs : List RowS} {v v' : Value} {r : RowS} {f : List Dat} {cs news : List Value} (h : RowsAt w1 B vs rs) (hB : B ≤ w1.heap.size) (hv : vs[k]? = some v) (hr : rs[k]? = some r) (hf : f.length = r.size)
    (hc : DCells w1 (OwnSet B vs) cs r.es.flatten) (hnew : DCells w1 (OwnSet B vs) news f) (hown : w2.ownsRow B r.t r.size v' (r.es.length + 1) (cs ++ news)) (hg : w1.grownBy w2 v.ownBlock)
    (hat : v'.ownBlock = v.ownBlock ∨ v'.ownBlock = some w1.heap.size) : RowsAt w2 B (vs.set k v') (rs.set k ⟨r.t, r.size, r.es ++ [f]⟩) :=
  h.join (fs := [f]) hB hv hr (fun e he => by rw [List.mem_singleton.1 he]; exact hf) hc (by simpa using hnew) hown hg hat
/-- What each row reads as. -/
theorem RowsAt.dat {w : World} {B k : Nat} {vs : List Value} {rs : List RowS} {v : Value} {r : RowS} (h : RowsAt w B vs rs) (hv : vs[k]? = some v) (hr : rs[k]? = some r) : DAt w (fun b => B ≤ b) v (.row r.size r.es) := by
  obtain ⟨cs, ho, hc⟩ := h.own k v r hv hr
  have hvm : v ∈ vs := List.mem_of_getElem? hv
  exact OwnD.dat (t := r.t) (n := r.es.length) ⟨rfl, h.wide k r hr, cs, ho, hc.mono (fun b hb _ => ⟨hb.1, hb.2 v hvm⟩)⟩
theorem own_leaf {α : Type} {w : World} {base : Nat} {t : TypeId} {size : Nat} {v : Value} {l : List α} {cells : α → List Value} (hw : ∀ a, (cells a).length = size) (h : w.ownsRow base t size v l.length (l.flatMap cells)) : DAt w (fun b => base ≤ b) v (.row size (l.map fun a => (cells a).map Dat.leaf)) := by
  refine OwnD.dat (t := t) (n := l.length) ⟨by simp, fun e he => ?_, _, h, ?_⟩
  · obtain ⟨a, _, rfl⟩ := List.mem_map.1 he
    simp [hw]
  · have e : (l.map fun a => (cells a).map Dat.leaf).flatten = (l.flatMap cells).map Dat.leaf := by
      rw [List.flatMap_def, List.map_flatten, List.map_map]
      rfl
    rw [e]
    refine ⟨by simp, fun j u d hu hd => ?_⟩
    rw [List.getElem?_map, hu] at hd
    injection hd with hd
    subst hd
    exact .leaf u
theorem dcells_leaf {w : World} {G : Nat → Prop} (l : List Value) : DCells w G l (l.map Dat.leaf) := ⟨by simp, fun j u d hu hd => by
  rw [List.getElem?_map, hu] at hd
  injection hd with hd
  subst hd
  exact .leaf u⟩
/-- The rows of a configuration. -/
def cfgRows (c : CfgD) : List RowS := [⟨39, 4, c.modules.map ModD.cells⟩, ⟨90, 4, c.channels.map ChanD.cells⟩, ⟨94, 4, c.switches.map SwD.cells⟩, ⟨98, 4, c.links.map LinkD.cells⟩, ⟨62, 7, c.vls.map VlD.cells⟩, ⟨104, 5, c.health.map HealthD.cells⟩, ⟨68, 3, c.causes.map CauseD.cells⟩, ⟨110, 4, c.versions.map VerD.cells⟩]
/-- The parser's block: the cursor, and the configuration c so far. -/
structure PSt (pb : Nat) (ts : List Tok) (j : Nat) (c : CfgD) (B : Nat) (w : World) : Prop where
  cur : Cur pb ts j w
  low : pb < B
  big : B ≤ w.heap.size
  tlow : ∀ A c, w.cell? ⟨pb, 0, none⟩ = some (.slice A ts.length c) → ∀ a, A = some a → a.block < B
  at_ : ∃ vs, RowsAt w B vs (cfgRows c) ∧ ∀ (k : Nat) v, vs[k]? = some v → w.cell? ⟨pb, 2 + k, none⟩ = some v
  free : ∀ o, o < 10 → w.frozen? ⟨pb, o, none⟩ = false
theorem PSt.to {pb j k B : Nat} {ts : List Tok} {c : CfgD} {w w' : World} (h : PSt pb ts j c B w) (a : AtJ pb k w w') : PSt pb ts k c B w' := by
  obtain ⟨vs, hr, hc⟩ := h.at_
  exact ⟨h.cur.to a, h.low, Nat.le_trans h.big a.kept.size, fun A c hc => h.tlow A c ((a.rest 0 (by decide)).symm.trans hc), ⟨vs, hr.kept a.kept (fun b hb => by have := h.low; omega), fun i v hv => (a.rest (2 + i) (by omega)).trans (hc i v hv)⟩, fun o ho => (a.hold o).trans (h.free o ho)⟩
theorem Cur.same {F : Nat → Prop} {pb j : Nat} {ts : List Tok} {w w' : World} (h : Cur pb ts j w) (hk : Kept F w w') (h0 : w'.cell? ⟨pb, 0, none⟩ = w.cell? ⟨pb, 0, none⟩) (h1 : w'.cell? ⟨pb, 1, none⟩ = w.cell? ⟨pb, 1, none⟩) (hf : w'.frozen? ⟨pb, 1, none⟩ = w.frozen? ⟨pb, 1, none⟩)
    (hF : ∀ A c, w.cell? ⟨pb, 0, none⟩ = some (.slice A ts.length c) → ∀ a, A = some a → ¬ F a.block) : Cur pb ts j w' := by
  obtain ⟨A, c, e0, hr, hA⟩ := h.toks
  exact ⟨⟨A, c, h0.trans e0, hr.kept hk (fun a ha => hF A c e0 a ha), hA⟩, h1.trans h.now, hf.trans h.free⟩
/-- A new item: the worlds w (the item stands ready), w1 (it lies in a block of its own), w2 (it is appended). -/
theorem PSt.push {pb j B k : Nat} {ts : List Tok} {c c' : CfgD} {w w1 w2 : World} {vs : List Value} {v v' : Value} {r : RowS} {f : List Dat} {cs news : List Value} (h : PSt pb ts j c B w) (hvs : RowsAt w B vs (cfgRows c))
    (hcell : ∀ (i : Nat) u, vs[i]? = some u → w.cell? ⟨pb, 2 + i, none⟩ = some u) (hv : vs[k]? = some v) (hr : (cfgRows c)[k]? = some r) (hc : DCells w (OwnSet B vs) cs r.es.flatten) (hf : f.length = r.size) (hb : Below w.heap.size w w1)
    (hnew : DCells w1 (OwnSet B vs) news f) (hown : w2.ownsRow B r.t r.size v' (r.es.length + 1) (cs ++ news)) (hg : w1.grownBy w2 v.ownBlock) (hat : v'.ownBlock = v.ownBlock ∨ v'.ownBlock = some w1.heap.size)
    (hc' : cfgRows c' = (cfgRows c).set k ⟨r.t, r.size, r.es ++ [f]⟩) : PSt pb ts j c' B (w2.setCell ⟨pb, 2 + k, none⟩ v') ∧ Kept (fun b => b = pb ∨ B ≤ b) w (w2.setCell ⟨pb, 2 + k, none⟩ v') := by
  have hlow := h.low
  have hbig := h.big
  have hown0 : ∀ g, v.ownBlock = some g → B ≤ g := fun g hg => by
    obtain ⟨cs', ho, _⟩ := hvs.own k v r hv hr
    exact (own_lt ho hg).1
  have hpw : pb < w1.heap.size := by have := hb.size; omega
  have hp2 : w2.heap[pb]? = w.heap[pb]? := (hg.block pb hpw (fun e => by have := hown0 pb e.symm; omega)).trans (hb.block pb (by omega))
  have hcl : ∀ o, w2.cell? ⟨pb, o, none⟩ = w.cell? ⟨pb, o, none⟩ := fun o => World.cell?_of_block (w := w) (a := ⟨pb, o, none⟩) hp2
  have hfr : ∀ o, w2.frozen? ⟨pb, o, none⟩ = w.frozen? ⟨pb, o, none⟩ := fun o => World.frozen?_of_block (w := w) (a := ⟨pb, o, none⟩) hp2
  have hK1 : Kept (fun b => b = pb ∨ B ≤ b) w w2 := (Kept.of_below hb).trans ⟨hg.os, hg.tape, hg.output, hg.size, fun i hi hn => hg.block i hi (fun e => hn (.inr (hown0 i e.symm)))⟩
  have hK : Kept (fun b => b = pb ∨ B ≤ b) w (w2.setCell ⟨pb, 2 + k, none⟩ v') := hK1.setCell (p := ⟨pb, 2 + k, none⟩) (.inl (.inl rfl)) v'
  have hsz : (w2.setCell ⟨pb, 2 + k, none⟩ v').heap.size = w2.heap.size := by simp [World.setCell]
  have hne : ∀ o, o ≠ 2 + k → (w2.setCell ⟨pb, 2 + k, none⟩ v').cell? ⟨pb, o, none⟩ = w.cell? ⟨pb, o, none⟩ := fun o ho => by
    rw [World.cell?_setCell_other _ _ _ _ (fun e => ho (by injection e with _ e2 _; exact e2.symm)), hcl]
  have hfz : ∀ o, (w2.setCell ⟨pb, 2 + k, none⟩ v').frozen? ⟨pb, o, none⟩ = w.frozen? ⟨pb, o, none⟩ := fun o => by rw [World.frozen?_setCell, hfr]
  have hRows := (hvs.below hb).push (by have := hb.size; omega) hv hr hf (hc.below hb) hnew hown hg hat
  refine ⟨⟨h.cur.same hK (hne 0 (by omega)) (hne 1 (by omega)) (hfz 1) (fun A c e a ha => by
      rintro (h1 | h1)
      · obtain ⟨A', c2, e0, _, hA⟩ := h.cur.toks
        rw [e0] at e
        injection e with e
        injection e with e1 _ _
        subst e1
        exact hA a ha h1
      · have := h.tlow A c e a ha
        omega), hlow, by rw [hsz]; have := hb.size; have := hg.size; omega, fun A c e => h.tlow A c ((hne 0 (by omega)).symm.trans e), ⟨vs.set k v', ?_, fun i u hu => ?_⟩, fun o ho => (hfz o).trans (h.free o ho)⟩, hK⟩
  · rw [hc']
    exact hRows.keep (by rw [hsz]; exact Nat.le_refl _) (fun b hb _ => Below.heap_setCell _ _ _ _ (by show b ≠ pb; omega))
  · rcases set_get hu with ⟨rfl, _, rfl⟩ | ⟨hik, hu⟩
    · exact World.cell?_setCell_same w2 _ _ ((hcl _).trans (hcell _ v hv))
    · rw [hne (2 + i) (by omega)]
      exact hcell i u hu
theorem reads_blk {w : World} {g m size : Nat} {cs : Array Value} {t : TypeId} (h : w.heap[g]? = some (.cells cs t (0, 0))) (hs : cs.size = m * size) : Reads w w.heap.size size (some ⟨g, 0, none⟩) m cs.toList := by
  refine ⟨by simpa using hs, fun _ => ⟨_, rfl, (Array.getElem?_eq_some_iff.1 h).1, fun j u hu => ?_⟩⟩
  have e : (⟨g, 0, none⟩ : Addr).add j = ⟨g, j, none⟩ := by
    unfold Addr.add
    split
    · rename_i hj; rw [hj]
    · simp
  rw [e]
  exact (cell_of_row w g j _ _ _ h).trans (by simpa using hu)
theorem opt_yes {α : Type} {s : List UInt8} {x : Ps α} {d a : α} {r r' r'' : List Tok} (h : takesP s r = .ok true r') (h2 : x r' = .ok a r'') : (takesP s >>= fun b => if b then x else pure d) r = .ok a r'' := (bnd_ok h).trans h2
theorem opt_bad {α : Type} {s : List UInt8} {x : Ps α} {d : α} {n : Nat} {r r' r'' : List Tok} (h : takesP s r = .ok true r') (h2 : x r' = .bad n r'') : (takesP s >>= fun b => if b then x else pure d) r = .bad n r'' := (bnd_ok h).trans h2
theorem opt_no {α : Type} {s : List UInt8} {x : Ps α} {d : α} {r r' : List Tok} (h : takesP s r = .ok false r') : (takesP s >>= fun b => if b then x else pure d) r = .ok d r' := (bnd_ok h).trans rfl
/-- How an item's call ends: the configuration res, or the panic. -/
def EndsC (pb : Nat) (ts : List Tok) (W : World) (B : Nat) (res : Res CfgD) (e : Ending) (W' : World) : Prop :=
  ∃ j, j ≤ ts.length ∧ Kept (fun b => b = pb ∨ B ≤ b) W W' ∧ match res with
    | .ok c r => r = ts.drop j ∧ PSt pb ts j c B W' ∧ e = .returned (.tuple #[])
    | .bad n r => r = ts.drop j ∧ Cur pb ts j W' ∧ e = .panicked [{ v := .iface 159 (.agg #[.int .i64 (n : Int)]), recovered := false }]
theorem EndsC.mk_ok {pb j B : Nat} {ts : List Tok} {W W' : World} {res : Res CfgD} {c : CfgD} (h : res = .ok c (ts.drop j)) (hj : j ≤ ts.length) (hk : Kept (fun b => b = pb ∨ B ≤ b) W W') (hp : PSt pb ts j c B W') : EndsC pb ts W B res (.returned (.tuple #[])) W' := by
  subst h
  exact ⟨j, hj, hk, rfl, hp, rfl⟩
theorem EndsC.mk_bad {pb j n B : Nat} {ts : List Tok} {W W' : World} {res : Res CfgD} (h : res = .bad n (ts.drop j)) (hj : j ≤ ts.length) (hk : Kept (fun b => b = pb ∨ B ≤ b) W W') (hp : Cur pb ts j W') : EndsC pb ts W B res (.panicked [{ v := .iface 159 (.agg #[.int .i64 (n : Int)]), recovered := false }]) W' := by
  subst h
  exact ⟨j, hj, hk, rfl, hp, rfl⟩
theorem EndsC.split {pb B : Nat} {ts : List Tok} {W W' : World} {res : Res CfgD} {e : Ending} (h : EndsC pb ts W B res e W') :
    (∃ c j, res = .ok c (ts.drop j) ∧ j ≤ ts.length ∧ Kept (fun b => b = pb ∨ B ≤ b) W W' ∧ PSt pb ts j c B W' ∧ e = .returned (.tuple #[])) ∨
    (∃ n j, res = .bad n (ts.drop j) ∧ j ≤ ts.length ∧ Kept (fun b => b = pb ∨ B ≤ b) W W' ∧ Cur pb ts j W' ∧ e = .panicked [{ v := .iface 159 (.agg #[.int .i64 (n : Int)]), recovered := false }]) := by
  obtain ⟨j, hj, hk, hm⟩ := h
  cases res with
  | ok c r => exact .inl ⟨c, j, by rw [hm.1], hj, hk, hm.2.1, hm.2.2⟩
  | bad n r => exact .inr ⟨n, j, by rw [hm.1], hj, hk, hm.2.1, hm.2.2⟩
theorem AtJ.drew {pb j : Nat} {w w' : World} (h : AtJ pb j w w') : AtJ pb j w w'.drew := ⟨h.kept.drew, h.here, h.rest, h.free, h.hold⟩
theorem AtJ.kp {pb j B : Nat} {w w' : World} (h : AtJ pb j w w') : Kept (fun b => b = pb ∨ B ≤ b) w w' := h.kept.mono (fun _ h => .inl h)
/-- How a call ends that hands back a struct with rows of its own. -/
def EndsD {α : Type} (pb : Nat) (ts : List Tok) (W : World) (conv : α → List Value → Value) (deep : α → List Dat) (res : Res α) (e : Ending) (W' : World) : Prop :=
  ∃ j, j ≤ ts.length ∧ AtJ pb j W W' ∧ match res with
    | .ok a r => r = ts.drop j ∧ ∃ us, e = .returned (conv a us) ∧ DCells W' (fun b => W.heap.size ≤ b) us (deep a)
    | .bad n r => r = ts.drop j ∧ e = .panicked [{ v := .iface 159 (.agg #[.int .i64 (n : Int)]), recovered := false }]
theorem EndsD.mk_ok {α : Type} {pb j : Nat} {ts : List Tok} {W W' : World} {conv : α → List Value → Value} {deep : α → List Dat} {res : Res α} {e : Ending} {a : α} {us : List Value} (h : res = .ok a (ts.drop j)) (hj : j ≤ ts.length) (hA : AtJ pb j W W') (hd : DCells W' (fun b => W.heap.size ≤ b) us (deep a)) (he : e = .returned (conv a us)) : EndsD pb ts W conv deep res e W' := by
  subst h
  exact ⟨j, hj, hA, rfl, us, he, hd⟩
theorem EndsD.mk_bad {α : Type} {pb j n : Nat} {ts : List Tok} {W W' : World} {conv : α → List Value → Value} {deep : α → List Dat} {res : Res α} (h : res = .bad n (ts.drop j)) (hj : j ≤ ts.length) (hA : AtJ pb j W W') : EndsD pb ts W conv deep res (.panicked [{ v := .iface 159 (.agg #[.int .i64 (n : Int)]), recovered := false }]) W' := by
  subst h
  exact ⟨j, hj, hA, rfl, rfl⟩
theorem EndsD.split {α : Type} {pb : Nat} {ts : List Tok} {W W' : World} {conv : α → List Value → Value} {deep : α → List Dat} {res : Res α} {e : Ending} (h : EndsD pb ts W conv deep res e W') :
    (∃ a j us, res = .ok a (ts.drop j) ∧ j ≤ ts.length ∧ AtJ pb j W W' ∧ DCells W' (fun b => W.heap.size ≤ b) us (deep a) ∧ e = .returned (conv a us)) ∨ (∃ n j, res = .bad n (ts.drop j) ∧ j ≤ ts.length ∧ AtJ pb j W W' ∧ e = .panicked [{ v := .iface 159 (.agg #[.int .i64 (n : Int)]), recovered := false }]) := by
  obtain ⟨j, hj, hA, hm⟩ := h
  cases res with
  | ok a r =>
    obtain ⟨h1, us, h2, h3⟩ := hm
    exact .inl ⟨a, j, us, by rw [h1], hj, hA, h3, h2⟩
  | bad n r => exact .inr ⟨n, j, by rw [hm.1], hj, hA, hm.2⟩
theorem EndsL.split {α : Type} {pb : Nat} {ts : List Tok} {W W' : World} {T : TypeId} {size : Nat} {cells : α → List Value} {res : Res (List α)} {e : Ending} (h : EndsL pb ts W T size cells res e W') :
    (∃ l j v, res = .ok l (ts.drop j) ∧ j ≤ ts.length ∧ AtJ pb j W W' ∧ W'.ownsRow W.heap.size T size v l.length (l.flatMap cells) ∧ e = .returned v) ∨ (∃ n j, res = .bad n (ts.drop j) ∧ j ≤ ts.length ∧ AtJ pb j W W' ∧ e = .panicked [{ v := .iface 159 (.agg #[.int .i64 (n : Int)]), recovered := false }]) := by
  obtain ⟨j, hj, hA, hm⟩ := h
  cases res with
  | ok a r =>
    obtain ⟨h1, v, h2, h3⟩ := hm
    exact .inl ⟨a, j, v, by rw [h1], hj, hA, h3, h2⟩
  | bad n r => exact .inr ⟨n, j, by rw [hm.1], hj, hA, hm.2⟩
theorem own_form {w : World} {base : Nat} {e : TypeId} {size : Nat} {v : Value} {n : Nat} {xs : List Value} (h : w.ownsRow base e size v n xs) : ∃ A c, v = .slice A n c := by
  rcases h.2 with ⟨rfl, rfl⟩ | ⟨g, cap, cur, rfl, _⟩
  · exact ⟨none, 0, rfl⟩
  · exact ⟨_, _, rfl⟩
theorem own_base {w : World} {B base : Nat} {t : TypeId} {size n : Nat} {v : Value} {xs : List Value} (h : w.ownsRow base t size v n xs) (hB : B ≤ base) : w.ownsRow B t size v n xs := by
  refine ⟨h.1, ?_⟩
  rcases h.2 with h2 | ⟨g, cap, cur, hv, hg, r⟩
  · exact .inl h2
  · exact .inr ⟨g, cap, cur, hv, Nat.le_trans hB hg, r⟩
/-- What is asked of a list of tokens. -/
structure TokOk (ts : List Tok) : Prop where
  good : Good ts
  size : ∀ t ∈ ts, t.text.length ≤ 1000000
  kind : ∀ t ∈ ts, t.kind = 1 ∨ t.kind = 2 ∨ t.kind = 3
theorem AtJ.drewN {pb j : Nat} {w w' : World} (h : AtJ pb j w w') (n : Nat) : AtJ pb j w (w'.drewN n) := ⟨h.kept.drewN n, h.here, h.rest, h.free, h.hold⟩
/-- A store into a variable that holds no tokens. -/
theorem Cur.off {pb cb j : Nat} {ts : List Tok} {w w' : World} (h : Cur pb ts j w) (hz : ∀ o n, w.cell? ⟨cb, o, none⟩ ≠ some (.int .u8 n)) (hk : Kept (fun k => k = cb) w w') (hp : pb ≠ cb) : Cur pb ts j w' := by
  have hl := h.lt
  have hb := hk.block pb hl hp
  obtain ⟨A, c, h0, hr, hA⟩ := h.toks
  refine ⟨⟨A, c, (World.cell?_of_block (a := ⟨pb, 0, none⟩) hb).trans h0, ?_, hA⟩, (World.cell?_of_block (a := ⟨pb, 1, none⟩) hb).trans h.now, (World.frozen?_of_block (a := ⟨pb, 1, none⟩) hb).trans h.free⟩
  have hr0 := hr
  rcases hr with hr | ⟨b, off, rfl, hbl, hc⟩
  · exact .inl hr
  · by_cases hn : ts.map Tok.toZ = []
    · exact .inl hn
    · refine hr0.kept hk (fun a ha => ?_)
      injection ha with ha
      subst ha
      show ¬ b = cb
      rintro rfl
      obtain ⟨t, l, he⟩ := List.exists_cons_of_ne_nil hn
      obtain ⟨e1, _, _⟩ := hc 0 t (by rw [he]; rfl)
      exact hz _ _ e1
end Go.Proofs.YtndpnpohdoggjaaGreatDoor
namespace Go.Proofs.YtndpnpohdoggjaaGreatDoor
/-- What parsing a source yields: the configuration, or where the error lies and the error. -/
def atT (r : List Tok) (size : Nat) : Nat := (r.headD ⟨0, [], size⟩).at_
def parseT (x : List Tok × Nat × Nat) (size : Nat) : CfgD × Nat × Nat :=
  if x.2.2 = 0 then match cfgP x.1 with
    | .ok c _ => (c, 0, 0)
    | .bad e r => (CfgD.none, atT r size, e)
  else (CfgD.none, x.2.1, x.2.2)
/-- Code: all tokens are consumed. -/
def endP (l : List InsD) : Ps (List InsD) := fun r => match r with
  | [] => .ok l []
  | t :: r => .bad 80 (t :: r)
def allCodeP : Ps (List InsD) := do
  let l ← codeP
  endP l
def codeP9 (x : List Tok × Nat × Nat) (size : Nat) : List InsD × Nat × Nat :=
  if x.2.2 = 0 then match allCodeP x.1 with
    | .ok c _ => (c, 0, 0)
    | .bad e r => ([], atT r size, e)
  else ([], x.2.1, x.2.2)
def CfgD.count (c : CfgD) : Nat := c.modules.length + c.channels.length + c.switches.length + c.links.length + c.vls.length + c.health.length + c.causes.length + c.versions.length
end Go.Proofs.YtndpnpohdoggjaaGreatDoor
