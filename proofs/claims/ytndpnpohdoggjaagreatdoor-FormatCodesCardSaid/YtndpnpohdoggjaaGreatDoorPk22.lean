/-
  Merged texts: Opening a configuration (printed by tools/mkop.py).
-/
import Derived.Test.YtndpnpohdoggjaaGreatDoorPk21
import Derived.Test.YtndpnpohdoggjaaGreatDoorRows
namespace Go.Proofs.YtndpnpohdoggjaaGreatDoor
open Go.ChangeShapes Go.WideShapes Go.Deep Go.RowKit
section
variable {H : Type} {enc : TypeId × Value → H} {W : World}
theorem bulk_pos (d : DataW H) : 1 ≤ Rows.uptoBulk d := by
  unfold Rows.uptoBulk
  split <;> omega
theorem sum_rel {α : Type} {Q : α → DataW H → Prop} (f : α → Nat) (hf : ∀ x y, Q x y → f x ≤ 3 * Rows.uptoBulk y) : ∀ (l : List α) (ds : List (DataW H)), ds.length = l.length → (∀ (i : Nat) x y, l[i]? = some x → ds[i]? = some y → Q x y) → (l.map f).sum ≤ 3 * Rows.uptoBulkAll ds
  | [], ds, _, _ => by simp
  | x :: l, [], h, _ => by simp at h
  | x :: l, d :: ds, h, hq => by
    have h1 := hf x d (hq 0 x d rfl rfl)
    have h2 := sum_rel f hf l ds (by simpa using h) (fun i a b ha hb => hq (i + 1) a b (by simpa using ha) (by simpa using hb))
    simp only [List.map_cons, List.sum_cons, Rows.uptoBulkAll]
    omega
theorem SlQ.sum {α : Type} {Q : α → DataW H → Prop} {l : List α} {d : DataW H} (h : SlQ Q l d) (f : α → Nat) (hf : ∀ x y, Q x y → f x ≤ 3 * Rows.uptoBulk y) : (l.map f).sum + 3 ≤ 3 * Rows.uptoBulk d := by
  rcases h.2 with ⟨rfl, rfl⟩ | ⟨ds, spare, rfl, hl, hq⟩
  · simp [Rows.uptoBulk]
  · have := sum_rel f hf l ds hl hq
    simp only [Rows.uptoBulk]
    omega
theorem SlQ.len {α : Type} {Q : α → DataW H → Prop} {l : List α} {d : DataW H} (h : SlQ Q l d) : l.length + 1 ≤ Rows.uptoBulk d := by
  have := h.sum (fun _ => 3) (fun x y _ => by have := bulk_pos y; omega)
  rw [sum_const] at this
  omega
theorem bulk_mem {ds : List (DataW H)} {y : DataW H} (h : y ∈ ds) : Rows.uptoBulk y ≤ Rows.uptoBulkAll ds := by
  induction ds with
  | nil => simp at h
  | cons d ds ih =>
    simp only [Rows.uptoBulkAll]
    rcases List.mem_cons.1 h with rfl | h
    · omega
    · have := ih h
      omega
theorem SlQ.each {α : Type} {Q : α → DataW H → Prop} {l : List α} {d : DataW H} (h : SlQ Q l d) {x : α} (hx : x ∈ l) : ∃ y, Q x y ∧ Rows.uptoBulk y ≤ Rows.uptoBulk d := by
  rcases h.2 with ⟨rfl, rfl⟩ | ⟨ds, spare, rfl, hl, hq⟩
  · simp at hx
  · obtain ⟨i, hi, e⟩ := List.getElem_of_mem hx
    have hy : ds[i]? = some (ds[i]'(by omega)) := List.getElem?_eq_getElem (by omega)
    refine ⟨_, hq i x _ (by rw [List.getElem?_eq_getElem hi, e]) hy, ?_⟩
    have := bulk_mem (List.mem_of_getElem? hy)
    simp only [Rows.uptoBulk]
    omega
theorem sum_add {α : Type} (f g : α → Nat) (l : List α) : (l.map fun x => f x + g x).sum = (l.map f).sum + (l.map g).sum := by
  induction l with
  | nil => rfl
  | cons a l ih =>
    simp only [List.map_cons, List.sum_cons] at ih ⊢
    omega
def QRef (x : RefD) (d : DataW H) : Prop := refC x + 2 ≤ 3 * Rows.uptoBulk d
theorem opn_ref : Opn H enc W 57 RefD.cells QRef := by
  refine opn_struct [(9, 1), (9, 1), (9, 1)] Tryz.underlying57 (by kernel_rfl) (by kernel_rfl) (by kernel_rfl) (fun us ds h => ?_)
  obtain ⟨x0, vs0, us, d0, ds, rfl, rfl, c0, q0, h⟩ := Flds.cons (opn_str Tryz.underlying9) h
  obtain ⟨x1, vs1, us, d1, ds, rfl, rfl, c1, q1, h⟩ := Flds.cons (opn_str Tryz.underlying9) h
  obtain ⟨x2, vs2, us, d2, ds, rfl, rfl, c2, q2, h⟩ := Flds.cons (opn_str Tryz.underlying9) h
  obtain ⟨rfl, rfl⟩ := h.nil
  have bb : Rows.uptoBulk (.agg [d0, d1, d2]) = Rows.uptoBulk d0 + Rows.uptoBulk d1 + Rows.uptoBulk d2 + 1 := by simp [Rows.uptoBulk, Rows.uptoBulkAll]; try omega
  have p0 := bulk_pos d0
  have p1 := bulk_pos d1
  have p2 := bulk_pos d2
  have b0 : Rows.uptoBulk d0 = x0.length + 1 := by rw [q0]; simp [Rows.uptoBulk]
  clear q0
  have b1 : Rows.uptoBulk d1 = x1.length + 1 := by rw [q1]; simp [Rows.uptoBulk]
  clear q1
  have b2 : Rows.uptoBulk d2 = x2.length + 1 := by rw [q2]; simp [Rows.uptoBulk]
  clear q2
  refine ⟨⟨x0, x1, x2⟩, c0.append (c1.append (c2.append DCells.nil)), ?_⟩
  unfold QRef refC
  rw [bb]
  show x0.length + x1.length + x2.length + 2 ≤ _
  omega
def QIns (x : InsD) (_d : DataW H) : Prop := x.op ≤ 255
theorem opn_ins : Opn H enc W 70 InsD.cells QIns := by
  refine opn_struct [(5, 1), (3, 1), (3, 1), (3, 1)] Tryz.underlying70 (by kernel_rfl) (by kernel_rfl) (by kernel_rfl) (fun us ds h => ?_)
  obtain ⟨x0, vs0, us, d0, ds, rfl, rfl, c0, q0, h⟩ := Flds.cons (opn_u8 Tryz.underlying5) h
  obtain ⟨x1, vs1, us, d1, ds, rfl, rfl, c1, q1, h⟩ := Flds.cons (opn_int Tryz.underlying3) h
  obtain ⟨x2, vs2, us, d2, ds, rfl, rfl, c2, q2, h⟩ := Flds.cons (opn_int Tryz.underlying3) h
  obtain ⟨x3, vs3, us, d3, ds, rfl, rfl, c3, q3, h⟩ := Flds.cons (opn_int Tryz.underlying3) h
  obtain ⟨rfl, rfl⟩ := h.nil
  have bb : Rows.uptoBulk (.agg [d0, d1, d2, d3]) = Rows.uptoBulk d0 + Rows.uptoBulk d1 + Rows.uptoBulk d2 + Rows.uptoBulk d3 + 1 := by simp [Rows.uptoBulk, Rows.uptoBulkAll]; try omega
  have p0 := bulk_pos d0
  have p1 := bulk_pos d1
  have p2 := bulk_pos d2
  have p3 := bulk_pos d3
  refine ⟨⟨x0, x1, x2, x3⟩, c0.append (c1.append (c2.append (c3.append DCells.nil))), ?_⟩
  exact q0
def QPort (x : PortD) (d : DataW H) : Prop := 2 + x.name.length ≤ 3 * Rows.uptoBulk d
theorem opn_port : Opn H enc W 59 PortD.cells QPort := by
  refine opn_struct [(9, 1), (5, 1), (4, 1), (3, 1), (3, 1), (3, 1)] Tryz.underlying59 (by kernel_rfl) (by kernel_rfl) (by kernel_rfl) (fun us ds h => ?_)
  obtain ⟨x0, vs0, us, d0, ds, rfl, rfl, c0, q0, h⟩ := Flds.cons (opn_str Tryz.underlying9) h
  obtain ⟨x1, vs1, us, d1, ds, rfl, rfl, c1, q1, h⟩ := Flds.cons (opn_u8 Tryz.underlying5) h
  obtain ⟨x2, vs2, us, d2, ds, rfl, rfl, c2, q2, h⟩ := Flds.cons (opn_bool Tryz.underlying4) h
  obtain ⟨x3, vs3, us, d3, ds, rfl, rfl, c3, q3, h⟩ := Flds.cons (opn_int Tryz.underlying3) h
  obtain ⟨x4, vs4, us, d4, ds, rfl, rfl, c4, q4, h⟩ := Flds.cons (opn_int Tryz.underlying3) h
  obtain ⟨x5, vs5, us, d5, ds, rfl, rfl, c5, q5, h⟩ := Flds.cons (opn_int Tryz.underlying3) h
  obtain ⟨rfl, rfl⟩ := h.nil
  have bb : Rows.uptoBulk (.agg [d0, d1, d2, d3, d4, d5]) = Rows.uptoBulk d0 + Rows.uptoBulk d1 + Rows.uptoBulk d2 + Rows.uptoBulk d3 + Rows.uptoBulk d4 + Rows.uptoBulk d5 + 1 := by simp [Rows.uptoBulk, Rows.uptoBulkAll]; try omega
  have p0 := bulk_pos d0
  have p1 := bulk_pos d1
  have p2 := bulk_pos d2
  have p3 := bulk_pos d3
  have p4 := bulk_pos d4
  have p5 := bulk_pos d5
  have b0 : Rows.uptoBulk d0 = x0.length + 1 := by rw [q0]; simp [Rows.uptoBulk]
  clear q0
  refine ⟨⟨x0, x1, x2, x3, x4, x5⟩, c0.append (c1.append (c2.append (c3.append (c4.append (c5.append DCells.nil))))), ?_⟩
  unfold QPort
  rw [bb]
  show 2 + x0.length ≤ _
  omega
def QProc (x : ProcD) (d : DataW H) : Prop := (Rows.uptoBulk d ≤ 1048576 → ProcFit x) ∧ procN x + x.name.length ≤ 3 * Rows.uptoBulk d
theorem opn_proc : Opn H enc W 31 ProcD.cells QProc := by
  refine opn_struct [(9, 1), (3, 1), (3, 1), (3, 1), (22, 1)] Tryz.underlying31 (by kernel_rfl) (by kernel_rfl) (by kernel_rfl) (fun us ds h => ?_)
  obtain ⟨x0, vs0, us, d0, ds, rfl, rfl, c0, q0, h⟩ := Flds.cons (opn_str Tryz.underlying9) h
  obtain ⟨x1, vs1, us, d1, ds, rfl, rfl, c1, q1, h⟩ := Flds.cons (opn_int Tryz.underlying3) h
  obtain ⟨x2, vs2, us, d2, ds, rfl, rfl, c2, q2, h⟩ := Flds.cons (opn_int Tryz.underlying3) h
  obtain ⟨x3, vs3, us, d3, ds, rfl, rfl, c3, q3, h⟩ := Flds.cons (opn_int Tryz.underlying3) h
  obtain ⟨x4, vs4, us, d4, ds, rfl, rfl, c4, q4, h⟩ := Flds.cons (opn_slice (size := 4) Tryz.underlying22 (by kernel_rfl) (by decide) (fun _ => rfl) opn_ins) h
  obtain ⟨rfl, rfl⟩ := h.nil
  have bb : Rows.uptoBulk (.agg [d0, d1, d2, d3, d4]) = Rows.uptoBulk d0 + Rows.uptoBulk d1 + Rows.uptoBulk d2 + Rows.uptoBulk d3 + Rows.uptoBulk d4 + 1 := by simp [Rows.uptoBulk, Rows.uptoBulkAll]; try omega
  have p0 := bulk_pos d0
  have p1 := bulk_pos d1
  have p2 := bulk_pos d2
  have p3 := bulk_pos d3
  have p4 := bulk_pos d4
  have b0 : Rows.uptoBulk d0 = x0.length + 1 := by rw [q0]; simp [Rows.uptoBulk]
  clear q0
  refine ⟨⟨x0, x1, x2, x3, x4⟩, c0.append (c1.append (c2.append (c3.append (c4.append DCells.nil)))), ?_⟩
  have l4 := q4.len
  rw [QProc, bb]
  refine ⟨fun hb => ⟨by show x4.length ≤ _; omega, fun z hz => ?_⟩, by show 2 + x4.length + x0.length ≤ _; omega⟩
  obtain ⟨y, hy, -⟩ := q4.each hz
  exact hy
def QPart (x : PartD) (d : DataW H) : Prop := (Rows.uptoBulk d ≤ 1048576 → PartFit x) ∧ partN x + partC x ≤ 3 * Rows.uptoBulk d
theorem opn_part : Opn H enc W 36 PartD.cells QPart := by
  refine opn_struct [(9, 1), (3, 1), (3, 1), (3, 1), (33, 1), (3, 1), (3, 1), (33, 1), (34, 1), (32, 1)] Tryz.underlying36 (by kernel_rfl) (by kernel_rfl) (by kernel_rfl) (fun us ds h => ?_)
  obtain ⟨x0, vs0, us, d0, ds, rfl, rfl, c0, q0, h⟩ := Flds.cons (opn_str Tryz.underlying9) h
  obtain ⟨x1, vs1, us, d1, ds, rfl, rfl, c1, q1, h⟩ := Flds.cons (opn_int Tryz.underlying3) h
  obtain ⟨x2, vs2, us, d2, ds, rfl, rfl, c2, q2, h⟩ := Flds.cons (opn_int Tryz.underlying3) h
  obtain ⟨x3, vs3, us, d3, ds, rfl, rfl, c3, q3, h⟩ := Flds.cons (opn_int Tryz.underlying3) h
  obtain ⟨x4, vs4, us, d4, ds, rfl, rfl, c4, q4, h⟩ := Flds.cons (opn_slice (size := 1) Tryz.underlying33 (by kernel_rfl) (by decide) (fun _ => rfl) (opn_int Tryz.underlying3)) h
  obtain ⟨x5, vs5, us, d5, ds, rfl, rfl, c5, q5, h⟩ := Flds.cons (opn_int Tryz.underlying3) h
  obtain ⟨x6, vs6, us, d6, ds, rfl, rfl, c6, q6, h⟩ := Flds.cons (opn_int Tryz.underlying3) h
  obtain ⟨x7, vs7, us, d7, ds, rfl, rfl, c7, q7, h⟩ := Flds.cons (opn_slice (size := 1) Tryz.underlying33 (by kernel_rfl) (by decide) (fun _ => rfl) (opn_int Tryz.underlying3)) h
  obtain ⟨x8, vs8, us, d8, ds, rfl, rfl, c8, q8, h⟩ := Flds.cons (opn_slice (size := 6) Tryz.underlying34 (by kernel_rfl) (by decide) (fun _ => rfl) opn_port) h
  obtain ⟨x9, vs9, us, d9, ds, rfl, rfl, c9, q9, h⟩ := Flds.cons (opn_slice (size := 5) Tryz.underlying32 (by kernel_rfl) (by decide) (fun _ => rfl) opn_proc) h
  obtain ⟨rfl, rfl⟩ := h.nil
  have bb : Rows.uptoBulk (.agg [d0, d1, d2, d3, d4, d5, d6, d7, d8, d9]) = Rows.uptoBulk d0 + Rows.uptoBulk d1 + Rows.uptoBulk d2 + Rows.uptoBulk d3 + Rows.uptoBulk d4 + Rows.uptoBulk d5 + Rows.uptoBulk d6 + Rows.uptoBulk d7 + Rows.uptoBulk d8 + Rows.uptoBulk d9 + 1 := by simp [Rows.uptoBulk, Rows.uptoBulkAll]; try omega
  have p0 := bulk_pos d0
  have p1 := bulk_pos d1
  have p2 := bulk_pos d2
  have p3 := bulk_pos d3
  have p4 := bulk_pos d4
  have p5 := bulk_pos d5
  have p6 := bulk_pos d6
  have p7 := bulk_pos d7
  have p8 := bulk_pos d8
  have p9 := bulk_pos d9
  have b0 : Rows.uptoBulk d0 = x0.length + 1 := by rw [q0]; simp [Rows.uptoBulk]
  clear q0
  refine ⟨⟨x0, x1, x2, x3, x4, x5, x6, x7, x8, x9⟩, c0.append (c1.append (c2.append (c3.append (c4.append (c5.append (c6.append (c7.append (c8.append (c9.append DCells.nil))))))))), ?_⟩
  have l4 := q4.len
  have l7 := q7.len
  have l8 := q8.len
  have l9 := q9.len
  have s8 := q8.sum (fun y => 2 + y.name.length) (fun x y h => h)
  have s9 := q9.sum (fun y => procN y + y.name.length) (fun x y h => h.2)
  rw [sum_add] at s8 s9
  rw [sum_const] at s8
  rw [QPart, bb]
  refine ⟨fun hb => ⟨by show x4.length ≤ _; omega, by show x7.length ≤ _; omega, by show x8.length ≤ _; omega, by show x9.length ≤ _; omega, fun z hz => ?_⟩, ?_⟩
  · obtain ⟨y, hy, hyb⟩ := q9.each hz
    exact hy.1 (by omega)
  · show 2 + x4.length + x7.length + 2 * x8.length + (x9.map procN).sum + (x0.length + (x8.map fun y => y.name.length).sum + (x9.map fun y => y.name.length).sum) ≤ _
    omega
def QMod (x : ModD) (d : DataW H) : Prop := (Rows.uptoBulk d ≤ 1048576 → ModFit x) ∧ modN x + modC x ≤ 3 * Rows.uptoBulk d
theorem opn_mod : Opn H enc W 39 ModD.cells QMod := by
  refine opn_struct [(9, 1), (3, 1), (3, 1), (37, 1)] Tryz.underlying39 (by kernel_rfl) (by kernel_rfl) (by kernel_rfl) (fun us ds h => ?_)
  obtain ⟨x0, vs0, us, d0, ds, rfl, rfl, c0, q0, h⟩ := Flds.cons (opn_str Tryz.underlying9) h
  obtain ⟨x1, vs1, us, d1, ds, rfl, rfl, c1, q1, h⟩ := Flds.cons (opn_int Tryz.underlying3) h
  obtain ⟨x2, vs2, us, d2, ds, rfl, rfl, c2, q2, h⟩ := Flds.cons (opn_int Tryz.underlying3) h
  obtain ⟨x3, vs3, us, d3, ds, rfl, rfl, c3, q3, h⟩ := Flds.cons (opn_slice (size := 10) Tryz.underlying37 (by kernel_rfl) (by decide) (fun _ => rfl) opn_part) h
  obtain ⟨rfl, rfl⟩ := h.nil
  have bb : Rows.uptoBulk (.agg [d0, d1, d2, d3]) = Rows.uptoBulk d0 + Rows.uptoBulk d1 + Rows.uptoBulk d2 + Rows.uptoBulk d3 + 1 := by simp [Rows.uptoBulk, Rows.uptoBulkAll]; try omega
  have p0 := bulk_pos d0
  have p1 := bulk_pos d1
  have p2 := bulk_pos d2
  have p3 := bulk_pos d3
  have b0 : Rows.uptoBulk d0 = x0.length + 1 := by rw [q0]; simp [Rows.uptoBulk]
  clear q0
  refine ⟨⟨x0, x1, x2, x3⟩, c0.append (c1.append (c2.append (c3.append DCells.nil))), ?_⟩
  have l3 := q3.len
  have s3 := q3.sum (fun y => partN y + partC y) (fun x y h => h.2)
  rw [sum_add] at s3
  rw [QMod, bb]
  refine ⟨fun hb => ⟨by show x3.length ≤ _; omega, fun z hz => ?_⟩, ?_⟩
  · obtain ⟨y, hy, hyb⟩ := q3.each hz
    exact hy.1 (by omega)
  · show 1 + (x3.map partN).sum + (x0.length + (x3.map partC).sum) ≤ _
    omega
def QChan (x : ChanD) (d : DataW H) : Prop := (Rows.uptoBulk d ≤ 1048576 → x.to.length ≤ 140737488355328) ∧ chanN x + chanC x ≤ 3 * Rows.uptoBulk d
theorem opn_chan : Opn H enc W 90 ChanD.cells QChan := by
  refine opn_struct [(57, 3), (60, 1)] Tryz.underlying90 (by kernel_rfl) (by kernel_rfl) (by kernel_rfl) (fun us ds h => ?_)
  obtain ⟨x0, vs0, us, d0, ds, rfl, rfl, c0, q0, h⟩ := Flds.cons opn_ref h
  obtain ⟨x1, vs1, us, d1, ds, rfl, rfl, c1, q1, h⟩ := Flds.cons (opn_slice (size := 3) Tryz.underlying60 (by kernel_rfl) (by decide) (fun _ => rfl) opn_ref) h
  obtain ⟨rfl, rfl⟩ := h.nil
  have bb : Rows.uptoBulk (.agg [d0, d1]) = Rows.uptoBulk d0 + Rows.uptoBulk d1 + 1 := by simp [Rows.uptoBulk, Rows.uptoBulkAll]; try omega
  have p0 := bulk_pos d0
  have p1 := bulk_pos d1
  refine ⟨⟨x0, x1⟩, c0.append (c1.append DCells.nil), ?_⟩
  have l1 := q1.len
  have s1 := q1.sum (fun y => refC y + 2) (fun x y h => h)
  rw [sum_add, sum_const] at s1
  unfold QRef at q0
  rw [QChan, bb]
  refine ⟨fun hb => by show x1.length ≤ _; omega, ?_⟩
  show 2 + 2 * x1.length + (refC x0 + (x1.map refC).sum) ≤ _
  omega
def QSw (x : SwD) (d : DataW H) : Prop := 2 + x.name.length ≤ 3 * Rows.uptoBulk d
theorem opn_sw : Opn H enc W 94 SwD.cells QSw := by
  refine opn_struct [(9, 1), (3, 1), (3, 1), (3, 1)] Tryz.underlying94 (by kernel_rfl) (by kernel_rfl) (by kernel_rfl) (fun us ds h => ?_)
  obtain ⟨x0, vs0, us, d0, ds, rfl, rfl, c0, q0, h⟩ := Flds.cons (opn_str Tryz.underlying9) h
  obtain ⟨x1, vs1, us, d1, ds, rfl, rfl, c1, q1, h⟩ := Flds.cons (opn_int Tryz.underlying3) h
  obtain ⟨x2, vs2, us, d2, ds, rfl, rfl, c2, q2, h⟩ := Flds.cons (opn_int Tryz.underlying3) h
  obtain ⟨x3, vs3, us, d3, ds, rfl, rfl, c3, q3, h⟩ := Flds.cons (opn_int Tryz.underlying3) h
  obtain ⟨rfl, rfl⟩ := h.nil
  have bb : Rows.uptoBulk (.agg [d0, d1, d2, d3]) = Rows.uptoBulk d0 + Rows.uptoBulk d1 + Rows.uptoBulk d2 + Rows.uptoBulk d3 + 1 := by simp [Rows.uptoBulk, Rows.uptoBulkAll]; try omega
  have p0 := bulk_pos d0
  have p1 := bulk_pos d1
  have p2 := bulk_pos d2
  have p3 := bulk_pos d3
  have b0 : Rows.uptoBulk d0 = x0.length + 1 := by rw [q0]; simp [Rows.uptoBulk]
  clear q0
  refine ⟨⟨x0, x1, x2, x3⟩, c0.append (c1.append (c2.append (c3.append DCells.nil))), ?_⟩
  unfold QSw
  rw [bb]
  show 2 + x0.length ≤ _
  omega
def QLink (x : LinkD) (d : DataW H) : Prop := 3 + linkC x ≤ 3 * Rows.uptoBulk d
theorem opn_link : Opn H enc W 98 LinkD.cells QLink := by
  refine opn_struct [(9, 1), (9, 1), (3, 1), (3, 1)] Tryz.underlying98 (by kernel_rfl) (by kernel_rfl) (by kernel_rfl) (fun us ds h => ?_)
  obtain ⟨x0, vs0, us, d0, ds, rfl, rfl, c0, q0, h⟩ := Flds.cons (opn_str Tryz.underlying9) h
  obtain ⟨x1, vs1, us, d1, ds, rfl, rfl, c1, q1, h⟩ := Flds.cons (opn_str Tryz.underlying9) h
  obtain ⟨x2, vs2, us, d2, ds, rfl, rfl, c2, q2, h⟩ := Flds.cons (opn_int Tryz.underlying3) h
  obtain ⟨x3, vs3, us, d3, ds, rfl, rfl, c3, q3, h⟩ := Flds.cons (opn_int Tryz.underlying3) h
  obtain ⟨rfl, rfl⟩ := h.nil
  have bb : Rows.uptoBulk (.agg [d0, d1, d2, d3]) = Rows.uptoBulk d0 + Rows.uptoBulk d1 + Rows.uptoBulk d2 + Rows.uptoBulk d3 + 1 := by simp [Rows.uptoBulk, Rows.uptoBulkAll]; try omega
  have p0 := bulk_pos d0
  have p1 := bulk_pos d1
  have p2 := bulk_pos d2
  have p3 := bulk_pos d3
  have b0 : Rows.uptoBulk d0 = x0.length + 1 := by rw [q0]; simp [Rows.uptoBulk]
  clear q0
  have b1 : Rows.uptoBulk d1 = x1.length + 1 := by rw [q1]; simp [Rows.uptoBulk]
  clear q1
  refine ⟨⟨x0, x1, x2, x3⟩, c0.append (c1.append (c2.append (c3.append DCells.nil))), ?_⟩
  unfold QLink
  rw [bb]
  show 3 + (x0.length + x1.length) ≤ _
  omega
def QVl (x : VlD) (d : DataW H) : Prop := (Rows.uptoBulk d ≤ 1048576 → x.to.length ≤ 140737488355328) ∧ vlN x + vlC x ≤ 3 * Rows.uptoBulk d
theorem opn_vl : Opn H enc W 62 VlD.cells QVl := by
  refine opn_struct [(9, 1), (57, 3), (3, 1), (3, 1), (60, 1)] Tryz.underlying62 (by kernel_rfl) (by kernel_rfl) (by kernel_rfl) (fun us ds h => ?_)
  obtain ⟨x0, vs0, us, d0, ds, rfl, rfl, c0, q0, h⟩ := Flds.cons (opn_str Tryz.underlying9) h
  obtain ⟨x1, vs1, us, d1, ds, rfl, rfl, c1, q1, h⟩ := Flds.cons opn_ref h
  obtain ⟨x2, vs2, us, d2, ds, rfl, rfl, c2, q2, h⟩ := Flds.cons (opn_int Tryz.underlying3) h
  obtain ⟨x3, vs3, us, d3, ds, rfl, rfl, c3, q3, h⟩ := Flds.cons (opn_int Tryz.underlying3) h
  obtain ⟨x4, vs4, us, d4, ds, rfl, rfl, c4, q4, h⟩ := Flds.cons (opn_slice (size := 3) Tryz.underlying60 (by kernel_rfl) (by decide) (fun _ => rfl) opn_ref) h
  obtain ⟨rfl, rfl⟩ := h.nil
  have bb : Rows.uptoBulk (.agg [d0, d1, d2, d3, d4]) = Rows.uptoBulk d0 + Rows.uptoBulk d1 + Rows.uptoBulk d2 + Rows.uptoBulk d3 + Rows.uptoBulk d4 + 1 := by simp [Rows.uptoBulk, Rows.uptoBulkAll]; try omega
  have p0 := bulk_pos d0
  have p1 := bulk_pos d1
  have p2 := bulk_pos d2
  have p3 := bulk_pos d3
  have p4 := bulk_pos d4
  have b0 : Rows.uptoBulk d0 = x0.length + 1 := by rw [q0]; simp [Rows.uptoBulk]
  clear q0
  refine ⟨⟨x0, x1, x2, x3, x4⟩, c0.append (c1.append (c2.append (c3.append (c4.append DCells.nil)))), ?_⟩
  have l4 := q4.len
  have s4 := q4.sum (fun y => refC y + 2) (fun x y h => h)
  rw [sum_add, sum_const] at s4
  unfold QRef at q1
  rw [QVl, bb]
  refine ⟨fun hb => by show x4.length ≤ _; omega, ?_⟩
  show 3 + 2 * x4.length + (x0.length + (refC x1 + (x4.map refC).sum)) ≤ _
  omega
def QHealth (x : HealthD) (d : DataW H) : Prop := HealthFit x ∧ 3 + healthC x ≤ 3 * Rows.uptoBulk d
theorem opn_health : Opn H enc W 104 HealthD.cells QHealth := by
  refine opn_struct [(9, 1), (9, 1), (5, 1), (5, 1), (5, 1)] Tryz.underlying104 (by kernel_rfl) (by kernel_rfl) (by kernel_rfl) (fun us ds h => ?_)
  obtain ⟨x0, vs0, us, d0, ds, rfl, rfl, c0, q0, h⟩ := Flds.cons (opn_str Tryz.underlying9) h
  obtain ⟨x1, vs1, us, d1, ds, rfl, rfl, c1, q1, h⟩ := Flds.cons (opn_str Tryz.underlying9) h
  obtain ⟨x2, vs2, us, d2, ds, rfl, rfl, c2, q2, h⟩ := Flds.cons (opn_u8 Tryz.underlying5) h
  obtain ⟨x3, vs3, us, d3, ds, rfl, rfl, c3, q3, h⟩ := Flds.cons (opn_u8 Tryz.underlying5) h
  obtain ⟨x4, vs4, us, d4, ds, rfl, rfl, c4, q4, h⟩ := Flds.cons (opn_u8 Tryz.underlying5) h
  obtain ⟨rfl, rfl⟩ := h.nil
  have bb : Rows.uptoBulk (.agg [d0, d1, d2, d3, d4]) = Rows.uptoBulk d0 + Rows.uptoBulk d1 + Rows.uptoBulk d2 + Rows.uptoBulk d3 + Rows.uptoBulk d4 + 1 := by simp [Rows.uptoBulk, Rows.uptoBulkAll]; try omega
  have p0 := bulk_pos d0
  have p1 := bulk_pos d1
  have p2 := bulk_pos d2
  have p3 := bulk_pos d3
  have p4 := bulk_pos d4
  have b0 : Rows.uptoBulk d0 = x0.length + 1 := by rw [q0]; simp [Rows.uptoBulk]
  clear q0
  have b1 : Rows.uptoBulk d1 = x1.length + 1 := by rw [q1]; simp [Rows.uptoBulk]
  clear q1
  refine ⟨⟨x0, x1, x2, x3, x4⟩, c0.append (c1.append (c2.append (c3.append (c4.append DCells.nil)))), ?_⟩
  rw [QHealth, bb]
  refine ⟨⟨q2, q3, q4⟩, ?_⟩
  show 3 + (x0.length + x1.length) ≤ _
  omega
def QRep (x : RepD) (d : DataW H) : Prop := 2 + x.unit.length ≤ 3 * Rows.uptoBulk d
theorem opn_rep : Opn H enc W 64 RepD.cells QRep := by
  refine opn_struct [(9, 1), (3, 1)] Tryz.underlying64 (by kernel_rfl) (by kernel_rfl) (by kernel_rfl) (fun us ds h => ?_)
  obtain ⟨x0, vs0, us, d0, ds, rfl, rfl, c0, q0, h⟩ := Flds.cons (opn_str Tryz.underlying9) h
  obtain ⟨x1, vs1, us, d1, ds, rfl, rfl, c1, q1, h⟩ := Flds.cons (opn_int Tryz.underlying3) h
  obtain ⟨rfl, rfl⟩ := h.nil
  have bb : Rows.uptoBulk (.agg [d0, d1]) = Rows.uptoBulk d0 + Rows.uptoBulk d1 + 1 := by simp [Rows.uptoBulk, Rows.uptoBulkAll]; try omega
  have p0 := bulk_pos d0
  have p1 := bulk_pos d1
  have b0 : Rows.uptoBulk d0 = x0.length + 1 := by rw [q0]; simp [Rows.uptoBulk]
  clear q0
  refine ⟨⟨x0, x1⟩, c0.append (c1.append DCells.nil), ?_⟩
  unfold QRep
  rw [bb]
  show 2 + x0.length ≤ _
  omega
def QCause (x : CauseD) (d : DataW H) : Prop := (Rows.uptoBulk d ≤ 1048576 → CauseFit x) ∧ causeN x + causeC x ≤ 3 * Rows.uptoBulk d
theorem opn_cause : Opn H enc W 68 CauseD.cells QCause := by
  refine opn_struct [(9, 1), (65, 1), (66, 1)] Tryz.underlying68 (by kernel_rfl) (by kernel_rfl) (by kernel_rfl) (fun us ds h => ?_)
  obtain ⟨x0, vs0, us, d0, ds, rfl, rfl, c0, q0, h⟩ := Flds.cons (opn_str Tryz.underlying9) h
  obtain ⟨x1, vs1, us, d1, ds, rfl, rfl, c1, q1, h⟩ := Flds.cons (opn_slice (size := 2) Tryz.underlying65 (by kernel_rfl) (by decide) (fun _ => rfl) opn_rep) h
  obtain ⟨x2, vs2, us, d2, ds, rfl, rfl, c2, q2, h⟩ := Flds.cons (opn_slice (size := 1) Tryz.underlying66 (by kernel_rfl) (by decide) (fun _ => rfl) (opn_str Tryz.underlying9)) h
  obtain ⟨rfl, rfl⟩ := h.nil
  have bb : Rows.uptoBulk (.agg [d0, d1, d2]) = Rows.uptoBulk d0 + Rows.uptoBulk d1 + Rows.uptoBulk d2 + 1 := by simp [Rows.uptoBulk, Rows.uptoBulkAll]; try omega
  have p0 := bulk_pos d0
  have p1 := bulk_pos d1
  have p2 := bulk_pos d2
  have b0 : Rows.uptoBulk d0 = x0.length + 1 := by rw [q0]; simp [Rows.uptoBulk]
  clear q0
  refine ⟨⟨x0, x1, x2⟩, c0.append (c1.append (c2.append DCells.nil)), ?_⟩
  have l1 := q1.len
  have l2 := q2.len
  have s1 := q1.sum (fun y => 2 + y.unit.length) (fun x y h => h)
  have s2 := q2.sum (fun y => 1 + y.length) (fun x y h => by rw [h]; simp [Rows.uptoBulk]; omega)
  rw [sum_add, sum_const] at s1 s2
  rw [QCause, bb]
  refine ⟨fun hb => ⟨by show x1.length ≤ _; omega, by show x2.length < _; omega⟩, ?_⟩
  have e2 : (x2.map List.length).sum = (x2.map fun y => y.length).sum := rfl
  show 1 + 2 * x1.length + x2.length + (x0.length + (x1.map fun y => y.unit.length).sum + (x2.map fun y => y.length).sum) ≤ _
  omega
def QVer (x : VerD) (d : DataW H) : Prop := 3 + verC x ≤ 3 * Rows.uptoBulk d
theorem opn_ver : Opn H enc W 110 VerD.cells QVer := by
  refine opn_struct [(9, 1), (3, 1), (9, 1), (3, 1)] Tryz.underlying110 (by kernel_rfl) (by kernel_rfl) (by kernel_rfl) (fun us ds h => ?_)
  obtain ⟨x0, vs0, us, d0, ds, rfl, rfl, c0, q0, h⟩ := Flds.cons (opn_str Tryz.underlying9) h
  obtain ⟨x1, vs1, us, d1, ds, rfl, rfl, c1, q1, h⟩ := Flds.cons (opn_int Tryz.underlying3) h
  obtain ⟨x2, vs2, us, d2, ds, rfl, rfl, c2, q2, h⟩ := Flds.cons (opn_str Tryz.underlying9) h
  obtain ⟨x3, vs3, us, d3, ds, rfl, rfl, c3, q3, h⟩ := Flds.cons (opn_int Tryz.underlying3) h
  obtain ⟨rfl, rfl⟩ := h.nil
  have bb : Rows.uptoBulk (.agg [d0, d1, d2, d3]) = Rows.uptoBulk d0 + Rows.uptoBulk d1 + Rows.uptoBulk d2 + Rows.uptoBulk d3 + 1 := by simp [Rows.uptoBulk, Rows.uptoBulkAll]; try omega
  have p0 := bulk_pos d0
  have p1 := bulk_pos d1
  have p2 := bulk_pos d2
  have p3 := bulk_pos d3
  have b0 : Rows.uptoBulk d0 = x0.length + 1 := by rw [q0]; simp [Rows.uptoBulk]
  clear q0
  have b2 : Rows.uptoBulk d2 = x2.length + 1 := by rw [q2]; simp [Rows.uptoBulk]
  clear q2
  refine ⟨⟨x0, x1, x2, x3⟩, c0.append (c1.append (c2.append (c3.append DCells.nil))), ?_⟩
  unfold QVer
  rw [bb]
  show 3 + (x0.length + x2.length) ≤ _
  omega
def QCfg (x : CfgD) (d : DataW H) : Prop := (Rows.uptoBulk d ≤ 1048576 → CfgFit x) ∧ cfgN x + cfgC x ≤ 3 * Rows.uptoBulk d
theorem opn_cfg : Opn H enc W 49 CfgD.cells QCfg := by
  refine opn_struct [(40, 1), (41, 1), (42, 1), (43, 1), (44, 1), (45, 1), (46, 1), (47, 1)] Tryz.underlying49 (by kernel_rfl) (by kernel_rfl) (by kernel_rfl) (fun us ds h => ?_)
  obtain ⟨x0, vs0, us, d0, ds, rfl, rfl, c0, q0, h⟩ := Flds.cons (opn_slice (size := 4) Tryz.underlying40 (by kernel_rfl) (by decide) (fun _ => rfl) opn_mod) h
  obtain ⟨x1, vs1, us, d1, ds, rfl, rfl, c1, q1, h⟩ := Flds.cons (opn_slice (size := 4) Tryz.underlying41 (by kernel_rfl) (by decide) (fun _ => rfl) opn_chan) h
  obtain ⟨x2, vs2, us, d2, ds, rfl, rfl, c2, q2, h⟩ := Flds.cons (opn_slice (size := 4) Tryz.underlying42 (by kernel_rfl) (by decide) (fun _ => rfl) opn_sw) h
  obtain ⟨x3, vs3, us, d3, ds, rfl, rfl, c3, q3, h⟩ := Flds.cons (opn_slice (size := 4) Tryz.underlying43 (by kernel_rfl) (by decide) (fun _ => rfl) opn_link) h
  obtain ⟨x4, vs4, us, d4, ds, rfl, rfl, c4, q4, h⟩ := Flds.cons (opn_slice (size := 7) Tryz.underlying44 (by kernel_rfl) (by decide) (fun _ => rfl) opn_vl) h
  obtain ⟨x5, vs5, us, d5, ds, rfl, rfl, c5, q5, h⟩ := Flds.cons (opn_slice (size := 5) Tryz.underlying45 (by kernel_rfl) (by decide) (fun _ => rfl) opn_health) h
  obtain ⟨x6, vs6, us, d6, ds, rfl, rfl, c6, q6, h⟩ := Flds.cons (opn_slice (size := 3) Tryz.underlying46 (by kernel_rfl) (by decide) (fun _ => rfl) opn_cause) h
  obtain ⟨x7, vs7, us, d7, ds, rfl, rfl, c7, q7, h⟩ := Flds.cons (opn_slice (size := 4) Tryz.underlying47 (by kernel_rfl) (by decide) (fun _ => rfl) opn_ver) h
  obtain ⟨rfl, rfl⟩ := h.nil
  have bb : Rows.uptoBulk (.agg [d0, d1, d2, d3, d4, d5, d6, d7]) = Rows.uptoBulk d0 + Rows.uptoBulk d1 + Rows.uptoBulk d2 + Rows.uptoBulk d3 + Rows.uptoBulk d4 + Rows.uptoBulk d5 + Rows.uptoBulk d6 + Rows.uptoBulk d7 + 1 := by simp [Rows.uptoBulk, Rows.uptoBulkAll]; try omega
  have p0 := bulk_pos d0
  have p1 := bulk_pos d1
  have p2 := bulk_pos d2
  have p3 := bulk_pos d3
  have p4 := bulk_pos d4
  have p5 := bulk_pos d5
  have p6 := bulk_pos d6
  have p7 := bulk_pos d7
  refine ⟨⟨x0, x1, x2, x3, x4, x5, x6, x7⟩, c0.append (c1.append (c2.append (c3.append (c4.append (c5.append (c6.append (c7.append DCells.nil))))))), ?_⟩
  have l0 := q0.len
  have l1 := q1.len
  have l2 := q2.len
  have l3 := q3.len
  have l4 := q4.len
  have l5 := q5.len
  have l6 := q6.len
  have l7 := q7.len
  have s0 := q0.sum (fun y => modN y + modC y) (fun x y h => h.2)
  have s1 := q1.sum (fun y => chanN y + chanC y) (fun x y h => h.2)
  have s2 := q2.sum (fun y => 2 + y.name.length) (fun x y h => h)
  have s3 := q3.sum (fun y => 3 + linkC y) (fun x y h => h)
  have s4 := q4.sum (fun y => vlN y + vlC y) (fun x y h => h.2)
  have s5 := q5.sum (fun y => 3 + healthC y) (fun x y h => h.2)
  have s6 := q6.sum (fun y => causeN y + causeC y) (fun x y h => h.2)
  have s7 := q7.sum (fun y => 3 + verC y) (fun x y h => h)
  rw [sum_add] at s0 s1 s2 s3 s4 s5 s6 s7
  rw [sum_const] at s2 s3 s5 s7
  rw [QCfg, bb]
  refine ⟨fun hb => ⟨by show x0.length ≤ _; omega, fun y hy => ?_, by show x1.length ≤ _; omega, fun y hy => ?_, by show x2.length ≤ _; omega, by show x3.length ≤ _; omega, by show x4.length ≤ _; omega, fun y hy => ?_, by show x5.length ≤ _; omega, fun y hy => ?_, by show x6.length ≤ _; omega, fun y hy => ?_, by show x7.length ≤ _; omega⟩, ?_⟩
  · obtain ⟨z, hz, hzb⟩ := q0.each hy
    exact hz.1 (by omega)
  · obtain ⟨z, hz, hzb⟩ := q1.each hy
    exact hz.1 (by omega)
  · obtain ⟨z, hz, hzb⟩ := q4.each hy
    exact hz.1 (by omega)
  · obtain ⟨z, hz, hzb⟩ := q5.each hy
    exact hz.1
  · obtain ⟨z, hz, hzb⟩ := q6.each hy
    exact hz.1 (by omega)
  · show x3.length * 3 + x2.length * 2 + x7.length * 3 + x5.length * 3 + (x0.map modN).sum + (x1.map chanN).sum + (x4.map vlN).sum + (x6.map causeN).sum + ((x0.map modC).sum + (x1.map chanC).sum + (x4.map vlC).sum + (x6.map causeC).sum + (x2.map fun y => y.name.length).sum + (x3.map linkC).sum + (x5.map healthC).sum + (x7.map verC).sum) ≤ _
    omega
end
end Go.Proofs.YtndpnpohdoggjaaGreatDoor
