/- Written by a program of this session (drive.py) over the translation: a part of the proofs of the laws; nothing is asked beyond what each statement says. -/
import Derived.Test.YtbgfdhabfgeglaaQ0
import Derived.Test.YtbgfdhabfgeglaaOpn
import Derived.KernelRfl
namespace Go.Proofs.Ytbgfdhabfgeglaa.Q
open Go Go.RowKit Go.Proofs.YtbgfdhabfgeglaaW.PrintWords Go.Proofs.YtbgfdhabfgeglaaW.PrintLast Go.Proofs.Ytbgfdhabfgeglaa.Opn
set_option linter.unusedVariables false
theorem cells3 : Try.prog.cellsOf 3 = 1 := by kernel_rfl
theorem cells4 : Try.prog.cellsOf 4 = 1 := by kernel_rfl
theorem cells9 : Try.prog.cellsOf 9 = 1 := by kernel_rfl
theorem cells22 : Try.prog.cellsOf 22 = 1 := by kernel_rfl
theorem cells23 : Try.prog.cellsOf 23 = 1 := by kernel_rfl
theorem cells25 : Try.prog.cellsOf 25 = 4 := by kernel_rfl
theorem cells50 : Try.prog.cellsOf 50 = 1 := by kernel_rfl
theorem cells51 : Try.prog.cellsOf 51 = 1 := by kernel_rfl
theorem cells52 : Try.prog.cellsOf 52 = 1 := by kernel_rfl
theorem cells53 : Try.prog.cellsOf 53 = 1 := by kernel_rfl
theorem cells54 : Try.prog.cellsOf 54 = 1 := by kernel_rfl
theorem cells56 : Try.prog.cellsOf 56 = 6 := by kernel_rfl
theorem cells63 : Try.prog.cellsOf 63 = 1 := by kernel_rfl
theorem cells117 : Try.prog.cellsOf 117 = 3 := by kernel_rfl
theorem cells118 : Try.prog.cellsOf 118 = 1 := by kernel_rfl
theorem cells120 : Try.prog.cellsOf 120 = 6 := by kernel_rfl
theorem cells123 : Try.prog.cellsOf 123 = 6 := by kernel_rfl
theorem cells146 : Try.prog.cellsOf 146 = 2 := by kernel_rfl
theorem cells148 : Try.prog.cellsOf 148 = 2 := by kernel_rfl
theorem cells150 : Try.prog.cellsOf 150 = 4 := by kernel_rfl
theorem cells153 : Try.prog.cellsOf 153 = 4 := by kernel_rfl
theorem cells184 : Try.prog.cellsOf 184 = 4 := by kernel_rfl
def G117 (x_ : S117) : Prop := (fun n_ : Int => (Lit.int .i64 n_).wf = true) x_.f0 ∧ (fun n_ : Int => (Lit.int .i64 n_).wf = true) x_.f1 ∧ (fun s_ : ByteArray => s_.size ≤ maxLen) x_.f2
theorem opn117 {H : Type} (enc : TypeId × Value → H) (w : World) (spare : Nat → Bool) : ∀ (fuel : Nat) (cs : List Value) (x : DataW H × List MemPlace), DataW.trod enc Try.prog w 0 spare true fuel 117 cs = some x → ∃ v : S117, k117.K w v cs ∧ G117 v := by
  intro fuel
  intro cs x h
  obtain ⟨xs, n, rfl, -, hl, hx, hf⟩ := DataW.trod_struct Try.underlying117 h
  rw [cells117] at hl
  clear h
  obtain ⟨c0, cs0, rfl, hl0⟩ := cons_of_len hl
  obtain ⟨c1, cs1, rfl, hl1⟩ := cons_of_len hl0
  obtain ⟨c2, cs2, rfl, hl2⟩ := cons_of_len hl1
  obtain rfl := List.length_eq_zero_iff.1 hl2
  obtain ⟨y0, q0⟩ : ∃ y_, xs[0]? = some y_ := ⟨xs[0]'(by rw [hx]; decide), List.getElem?_eq_getElem _⟩
  have r0 : DataW.trod enc Try.prog w 0 spare true n 3 (([c0, c1, c2].drop 0).take (Try.prog.cellsOf 3)) = some y0 := (hf 0 _ rfl).trans q0
  rw [cells3] at r0
  have r0 : DataW.trod enc Try.prog w 0 spare true n 3 [c0] = some y0 := r0
  obtain ⟨a0, e0, -, g0⟩ := DataW.trod_int Try.underlying3 r0
  have z0 : c0 = .int .i64 a0 := by simpa using e0
  obtain ⟨y1, q1⟩ : ∃ y_, xs[1]? = some y_ := ⟨xs[1]'(by rw [hx]; decide), List.getElem?_eq_getElem _⟩
  have r1 : DataW.trod enc Try.prog w 0 spare true n 3 (([c0, c1, c2].drop 1).take (Try.prog.cellsOf 3)) = some y1 := (hf 1 _ rfl).trans q1
  rw [cells3] at r1
  have r1 : DataW.trod enc Try.prog w 0 spare true n 3 [c1] = some y1 := r1
  obtain ⟨a1, e1, -, g1⟩ := DataW.trod_int Try.underlying3 r1
  have z1 : c1 = .int .i64 a1 := by simpa using e1
  obtain ⟨y2, q2⟩ : ∃ y_, xs[2]? = some y_ := ⟨xs[2]'(by rw [hx]; decide), List.getElem?_eq_getElem _⟩
  have r2 : DataW.trod enc Try.prog w 0 spare true n 9 (([c0, c1, c2].drop 2).take (Try.prog.cellsOf 9)) = some y2 := (hf 2 _ rfl).trans q2
  rw [cells9] at r2
  have r2 : DataW.trod enc Try.prog w 0 spare true n 9 [c2] = some y2 := r2
  obtain ⟨a2, e2, -, g2⟩ := DataW.trod_string Try.underlying9 r2
  have z2 : c2 = .string a2 := by simpa using e2
  subst z0 z1 z2
  exact ⟨⟨a0, a1, a2⟩, k117_mk w _ , ⟨g0, g1, g2⟩⟩
inductive G184 : S184 → Prop
  | mk {x_ : S184} (h0 : (fun n_ : Int => (Lit.int .i64 n_).wf = true) x_.f0) (h1 : (fun s_ : ByteArray => s_.size ≤ maxLen) x_.f1) (h2 : (fun n_ : Int => (Lit.int .i64 n_).wf = true) x_.f2) (h3 : x_.f3.length ≤ 9223372036854775807) (h4 : (∀ y_ ∈ x_.f3, G184 y_)) : G184 x_
theorem opn184 {H : Type} (enc : TypeId × Value → H) (w : World) (spare : Nat → Bool) : ∀ (fuel : Nat) (cs : List Value) (x : DataW H × List MemPlace), DataW.trod enc Try.prog w 0 spare true fuel 184 cs = some x → ∃ v : S184, k184.K w v cs ∧ G184 v := by
  intro fuel
  induction fuel using Nat.strongRecOn with
  | _ fuel ih =>
  intro cs x h
  obtain ⟨xs, n, rfl, -, hl, hx, hf⟩ := DataW.trod_struct Try.underlying184 h
  rw [cells184] at hl
  clear h
  obtain ⟨c0, cs0, rfl, hl0⟩ := cons_of_len hl
  obtain ⟨c1, cs1, rfl, hl1⟩ := cons_of_len hl0
  obtain ⟨c2, cs2, rfl, hl2⟩ := cons_of_len hl1
  obtain ⟨c3, cs3, rfl, hl3⟩ := cons_of_len hl2
  obtain rfl := List.length_eq_zero_iff.1 hl3
  obtain ⟨y0, q0⟩ : ∃ y_, xs[0]? = some y_ := ⟨xs[0]'(by rw [hx]; decide), List.getElem?_eq_getElem _⟩
  have r0 : DataW.trod enc Try.prog w 0 spare true n 3 (([c0, c1, c2, c3].drop 0).take (Try.prog.cellsOf 3)) = some y0 := (hf 0 _ rfl).trans q0
  rw [cells3] at r0
  have r0 : DataW.trod enc Try.prog w 0 spare true n 3 [c0] = some y0 := r0
  obtain ⟨a0, e0, -, g0⟩ := DataW.trod_int Try.underlying3 r0
  have z0 : c0 = .int .i64 a0 := by simpa using e0
  obtain ⟨y1, q1⟩ : ∃ y_, xs[1]? = some y_ := ⟨xs[1]'(by rw [hx]; decide), List.getElem?_eq_getElem _⟩
  have r1 : DataW.trod enc Try.prog w 0 spare true n 9 (([c0, c1, c2, c3].drop 1).take (Try.prog.cellsOf 9)) = some y1 := (hf 1 _ rfl).trans q1
  rw [cells9] at r1
  have r1 : DataW.trod enc Try.prog w 0 spare true n 9 [c1] = some y1 := r1
  obtain ⟨a1, e1, -, g1⟩ := DataW.trod_string Try.underlying9 r1
  have z1 : c1 = .string a1 := by simpa using e1
  obtain ⟨y2, q2⟩ : ∃ y_, xs[2]? = some y_ := ⟨xs[2]'(by rw [hx]; decide), List.getElem?_eq_getElem _⟩
  have r2 : DataW.trod enc Try.prog w 0 spare true n 3 (([c0, c1, c2, c3].drop 2).take (Try.prog.cellsOf 3)) = some y2 := (hf 2 _ rfl).trans q2
  rw [cells3] at r2
  have r2 : DataW.trod enc Try.prog w 0 spare true n 3 [c2] = some y2 := r2
  obtain ⟨a2, e2, -, g2⟩ := DataW.trod_int Try.underlying3 r2
  have z2 : c2 = .int .i64 a2 := by simpa using e2
  obtain ⟨y3, q3⟩ : ∃ y_, xs[3]? = some y_ := ⟨xs[3]'(by rw [hx]; decide), List.getElem?_eq_getElem _⟩
  have r3 : DataW.trod enc Try.prog w 0 spare true n 118 (([c0, c1, c2, c3].drop 3).take (Try.prog.cellsOf 118)) = some y3 := (hf 3 _ rfl).trans q3
  rw [cells118] at r3
  have r3 : DataW.trod enc Try.prog w 0 spare true n 118 [c3] = some y3 := r3
  obtain ⟨A3, k3, l3, e3, b3, C3, g3⟩ := slice_at (d := k184) (G := G184) Try.underlying118 cells184 (fun m_ hm_ cs_ x_ h_ => ih m_ (by omega) cs_ x_ h_) r3
  have z3 : c3 = .slice A3 l3.length k3 := by simpa using e3
  subst z0 z1 z2 z3
  exact ⟨⟨a0, a1, a2, l3⟩, k184_mk w _ b3 C3, .mk g0 g1 g2 g3.1 g3.2⟩
def G120 (x_ : S120) : Prop := (fun s_ : ByteArray => s_.size ≤ maxLen) x_.f0 ∧ G117 x_.f1 ∧ (fun _ : Bool => True) x_.f2 ∧ x_.f3.length ≤ 9223372036854775807 ∧ (∀ y_ ∈ x_.f3, G184 y_)
theorem opn120 {H : Type} (enc : TypeId × Value → H) (w : World) (spare : Nat → Bool) : ∀ (fuel : Nat) (cs : List Value) (x : DataW H × List MemPlace), DataW.trod enc Try.prog w 0 spare true fuel 120 cs = some x → ∃ v : S120, k120.K w v cs ∧ G120 v := by
  intro fuel
  intro cs x h
  obtain ⟨xs, n, rfl, -, hl, hx, hf⟩ := DataW.trod_struct Try.underlying120 h
  rw [cells120] at hl
  clear h
  obtain ⟨c0, cs0, rfl, hl0⟩ := cons_of_len hl
  obtain ⟨c1, cs1, rfl, hl1⟩ := cons_of_len hl0
  obtain ⟨c2, cs2, rfl, hl2⟩ := cons_of_len hl1
  obtain ⟨c3, cs3, rfl, hl3⟩ := cons_of_len hl2
  obtain ⟨c4, cs4, rfl, hl4⟩ := cons_of_len hl3
  obtain ⟨c5, cs5, rfl, hl5⟩ := cons_of_len hl4
  obtain rfl := List.length_eq_zero_iff.1 hl5
  obtain ⟨y0, q0⟩ : ∃ y_, xs[0]? = some y_ := ⟨xs[0]'(by rw [hx]; decide), List.getElem?_eq_getElem _⟩
  have r0 : DataW.trod enc Try.prog w 0 spare true n 9 (([c0, c1, c2, c3, c4, c5].drop 0).take (Try.prog.cellsOf 9)) = some y0 := (hf 0 _ rfl).trans q0
  rw [cells9] at r0
  have r0 : DataW.trod enc Try.prog w 0 spare true n 9 [c0] = some y0 := r0
  obtain ⟨a0, e0, -, g0⟩ := DataW.trod_string Try.underlying9 r0
  have z0 : c0 = .string a0 := by simpa using e0
  obtain ⟨y1, q1⟩ : ∃ y_, xs[1]? = some y_ := ⟨xs[1]'(by rw [hx]; decide), List.getElem?_eq_getElem _⟩
  have r1 : DataW.trod enc Try.prog w 0 spare true n 117 (([c0, c1, c2, c3, c4, c5].drop 1).take (Try.prog.cellsOf 117)) = some y1 := (hf 1 _ rfl).trans q1
  rw [cells117] at r1
  have r1 : DataW.trod enc Try.prog w 0 spare true n 117 [c1, c2, c3] = some y1 := r1
  obtain ⟨s1, K1, g1⟩ := opn117 enc w spare n _ _ r1
  have e1 := k117_open K1
  simp only [List.cons.injEq, and_true] at e1
  obtain ⟨z1, z2, z3⟩ := e1
  obtain ⟨y2, q2⟩ : ∃ y_, xs[2]? = some y_ := ⟨xs[2]'(by rw [hx]; decide), List.getElem?_eq_getElem _⟩
  have r2 : DataW.trod enc Try.prog w 0 spare true n 4 (([c0, c1, c2, c3, c4, c5].drop 4).take (Try.prog.cellsOf 4)) = some y2 := (hf 2 _ rfl).trans q2
  rw [cells4] at r2
  have r2 : DataW.trod enc Try.prog w 0 spare true n 4 [c4] = some y2 := r2
  obtain ⟨a2, e2, -⟩ := DataW.trod_bool Try.underlying4 r2
  have z4 : c4 = .bool a2 := by simpa using e2
  have g2 : True := trivial
  obtain ⟨y3, q3⟩ : ∃ y_, xs[3]? = some y_ := ⟨xs[3]'(by rw [hx]; decide), List.getElem?_eq_getElem _⟩
  have r3 : DataW.trod enc Try.prog w 0 spare true n 118 (([c0, c1, c2, c3, c4, c5].drop 5).take (Try.prog.cellsOf 118)) = some y3 := (hf 3 _ rfl).trans q3
  rw [cells118] at r3
  have r3 : DataW.trod enc Try.prog w 0 spare true n 118 [c5] = some y3 := r3
  obtain ⟨A3, k3, l3, e3, b3, C3, g3⟩ := slice_at (d := k184) (G := G184) Try.underlying118 cells184 (fun m_ _ cs_ x_ h_ => opn184 enc w spare m_ cs_ x_ h_) r3
  have z5 : c5 = .slice A3 l3.length k3 := by simpa using e3
  subst z0 z1 z2 z3 z4 z5
  exact ⟨⟨a0, s1, a2, l3⟩, k120_mk w _ b3 C3, ⟨g0, g1, g2, g3.1, g3.2⟩⟩
def G123 (x_ : S123) : Prop := (fun s_ : ByteArray => s_.size ≤ maxLen) x_.f0 ∧ (fun n_ : Int => (Lit.int .i64 n_).wf = true) x_.f1 ∧ x_.f2.length ≤ 9223372036854775807 ∧ (∀ y_ ∈ x_.f2, (fun s_ : ByteArray => s_.size ≤ maxLen) y_) ∧ x_.f3.length ≤ 9223372036854775807 ∧ (∀ y_ ∈ x_.f3, G184 y_) ∧ (fun s_ : ByteArray => s_.size ≤ maxLen) x_.f4 ∧ x_.f5.length ≤ 9223372036854775807 ∧ (∀ y_ ∈ x_.f5, (fun s_ : ByteArray => s_.size ≤ maxLen) y_)
theorem opn123 {H : Type} (enc : TypeId × Value → H) (w : World) (spare : Nat → Bool) : ∀ (fuel : Nat) (cs : List Value) (x : DataW H × List MemPlace), DataW.trod enc Try.prog w 0 spare true fuel 123 cs = some x → ∃ v : S123, k123.K w v cs ∧ G123 v := by
  intro fuel
  intro cs x h
  obtain ⟨xs, n, rfl, -, hl, hx, hf⟩ := DataW.trod_struct Try.underlying123 h
  rw [cells123] at hl
  clear h
  obtain ⟨c0, cs0, rfl, hl0⟩ := cons_of_len hl
  obtain ⟨c1, cs1, rfl, hl1⟩ := cons_of_len hl0
  obtain ⟨c2, cs2, rfl, hl2⟩ := cons_of_len hl1
  obtain ⟨c3, cs3, rfl, hl3⟩ := cons_of_len hl2
  obtain ⟨c4, cs4, rfl, hl4⟩ := cons_of_len hl3
  obtain ⟨c5, cs5, rfl, hl5⟩ := cons_of_len hl4
  obtain rfl := List.length_eq_zero_iff.1 hl5
  obtain ⟨y0, q0⟩ : ∃ y_, xs[0]? = some y_ := ⟨xs[0]'(by rw [hx]; decide), List.getElem?_eq_getElem _⟩
  have r0 : DataW.trod enc Try.prog w 0 spare true n 9 (([c0, c1, c2, c3, c4, c5].drop 0).take (Try.prog.cellsOf 9)) = some y0 := (hf 0 _ rfl).trans q0
  rw [cells9] at r0
  have r0 : DataW.trod enc Try.prog w 0 spare true n 9 [c0] = some y0 := r0
  obtain ⟨a0, e0, -, g0⟩ := DataW.trod_string Try.underlying9 r0
  have z0 : c0 = .string a0 := by simpa using e0
  obtain ⟨y1, q1⟩ : ∃ y_, xs[1]? = some y_ := ⟨xs[1]'(by rw [hx]; decide), List.getElem?_eq_getElem _⟩
  have r1 : DataW.trod enc Try.prog w 0 spare true n 3 (([c0, c1, c2, c3, c4, c5].drop 1).take (Try.prog.cellsOf 3)) = some y1 := (hf 1 _ rfl).trans q1
  rw [cells3] at r1
  have r1 : DataW.trod enc Try.prog w 0 spare true n 3 [c1] = some y1 := r1
  obtain ⟨a1, e1, -, g1⟩ := DataW.trod_int Try.underlying3 r1
  have z1 : c1 = .int .i64 a1 := by simpa using e1
  obtain ⟨y2, q2⟩ : ∃ y_, xs[2]? = some y_ := ⟨xs[2]'(by rw [hx]; decide), List.getElem?_eq_getElem _⟩
  have r2 : DataW.trod enc Try.prog w 0 spare true n 63 (([c0, c1, c2, c3, c4, c5].drop 2).take (Try.prog.cellsOf 63)) = some y2 := (hf 2 _ rfl).trans q2
  rw [cells63] at r2
  have r2 : DataW.trod enc Try.prog w 0 spare true n 63 [c2] = some y2 := r2
  obtain ⟨A2, k2, l2, e2, b2, C2, g2⟩ := slice_at (d := Kd.string) (G := (fun s_ : ByteArray => s_.size ≤ maxLen)) Try.underlying63 cells9 (fun m_ _ cs_ x_ h_ => by obtain ⟨a_, e_, -, g_⟩ := DataW.trod_string Try.underlying9 h_; exact ⟨a_, e_, g_⟩) r2
  have z2 : c2 = .slice A2 l2.length k2 := by simpa using e2
  obtain ⟨y3, q3⟩ : ∃ y_, xs[3]? = some y_ := ⟨xs[3]'(by rw [hx]; decide), List.getElem?_eq_getElem _⟩
  have r3 : DataW.trod enc Try.prog w 0 spare true n 118 (([c0, c1, c2, c3, c4, c5].drop 3).take (Try.prog.cellsOf 118)) = some y3 := (hf 3 _ rfl).trans q3
  rw [cells118] at r3
  have r3 : DataW.trod enc Try.prog w 0 spare true n 118 [c3] = some y3 := r3
  obtain ⟨A3, k3, l3, e3, b3, C3, g3⟩ := slice_at (d := k184) (G := G184) Try.underlying118 cells184 (fun m_ _ cs_ x_ h_ => opn184 enc w spare m_ cs_ x_ h_) r3
  have z3 : c3 = .slice A3 l3.length k3 := by simpa using e3
  obtain ⟨y4, q4⟩ : ∃ y_, xs[4]? = some y_ := ⟨xs[4]'(by rw [hx]; decide), List.getElem?_eq_getElem _⟩
  have r4 : DataW.trod enc Try.prog w 0 spare true n 9 (([c0, c1, c2, c3, c4, c5].drop 4).take (Try.prog.cellsOf 9)) = some y4 := (hf 4 _ rfl).trans q4
  rw [cells9] at r4
  have r4 : DataW.trod enc Try.prog w 0 spare true n 9 [c4] = some y4 := r4
  obtain ⟨a4, e4, -, g4⟩ := DataW.trod_string Try.underlying9 r4
  have z4 : c4 = .string a4 := by simpa using e4
  obtain ⟨y5, q5⟩ : ∃ y_, xs[5]? = some y_ := ⟨xs[5]'(by rw [hx]; decide), List.getElem?_eq_getElem _⟩
  have r5 : DataW.trod enc Try.prog w 0 spare true n 63 (([c0, c1, c2, c3, c4, c5].drop 5).take (Try.prog.cellsOf 63)) = some y5 := (hf 5 _ rfl).trans q5
  rw [cells63] at r5
  have r5 : DataW.trod enc Try.prog w 0 spare true n 63 [c5] = some y5 := r5
  obtain ⟨A5, k5, l5, e5, b5, C5, g5⟩ := slice_at (d := Kd.string) (G := (fun s_ : ByteArray => s_.size ≤ maxLen)) Try.underlying63 cells9 (fun m_ _ cs_ x_ h_ => by obtain ⟨a_, e_, -, g_⟩ := DataW.trod_string Try.underlying9 h_; exact ⟨a_, e_, g_⟩) r5
  have z5 : c5 = .slice A5 l5.length k5 := by simpa using e5
  subst z0 z1 z2 z3 z4 z5
  exact ⟨⟨a0, a1, l2, l3, a4, l5⟩, k123_mk w _ b2 C2 b3 C3 b5 C5, ⟨g0, g1, g2.1, g2.2, g3.1, g3.2, g4, g5.1, g5.2⟩⟩
def G25 (x_ : S25) : Prop := (fun s_ : ByteArray => s_.size ≤ maxLen) x_.f0 ∧ x_.f1.length ≤ 9223372036854775807 ∧ (∀ y_ ∈ x_.f1, G120 y_) ∧ x_.f2.length ≤ 9223372036854775807 ∧ (∀ y_ ∈ x_.f2, G123 y_) ∧ (fun n_ : Int => (Lit.int .i64 n_).wf = true) x_.f3
theorem opn25 {H : Type} (enc : TypeId × Value → H) (w : World) (spare : Nat → Bool) : ∀ (fuel : Nat) (cs : List Value) (x : DataW H × List MemPlace), DataW.trod enc Try.prog w 0 spare true fuel 25 cs = some x → ∃ v : S25, k25.K w v cs ∧ G25 v := by
  intro fuel
  intro cs x h
  obtain ⟨xs, n, rfl, -, hl, hx, hf⟩ := DataW.trod_struct Try.underlying25 h
  rw [cells25] at hl
  clear h
  obtain ⟨c0, cs0, rfl, hl0⟩ := cons_of_len hl
  obtain ⟨c1, cs1, rfl, hl1⟩ := cons_of_len hl0
  obtain ⟨c2, cs2, rfl, hl2⟩ := cons_of_len hl1
  obtain ⟨c3, cs3, rfl, hl3⟩ := cons_of_len hl2
  obtain rfl := List.length_eq_zero_iff.1 hl3
  obtain ⟨y0, q0⟩ : ∃ y_, xs[0]? = some y_ := ⟨xs[0]'(by rw [hx]; decide), List.getElem?_eq_getElem _⟩
  have r0 : DataW.trod enc Try.prog w 0 spare true n 9 (([c0, c1, c2, c3].drop 0).take (Try.prog.cellsOf 9)) = some y0 := (hf 0 _ rfl).trans q0
  rw [cells9] at r0
  have r0 : DataW.trod enc Try.prog w 0 spare true n 9 [c0] = some y0 := r0
  obtain ⟨a0, e0, -, g0⟩ := DataW.trod_string Try.underlying9 r0
  have z0 : c0 = .string a0 := by simpa using e0
  obtain ⟨y1, q1⟩ : ∃ y_, xs[1]? = some y_ := ⟨xs[1]'(by rw [hx]; decide), List.getElem?_eq_getElem _⟩
  have r1 : DataW.trod enc Try.prog w 0 spare true n 22 (([c0, c1, c2, c3].drop 1).take (Try.prog.cellsOf 22)) = some y1 := (hf 1 _ rfl).trans q1
  rw [cells22] at r1
  have r1 : DataW.trod enc Try.prog w 0 spare true n 22 [c1] = some y1 := r1
  obtain ⟨A1, k1, l1, e1, b1, C1, g1⟩ := slice_at (d := k120) (G := G120) Try.underlying22 cells120 (fun m_ _ cs_ x_ h_ => opn120 enc w spare m_ cs_ x_ h_) r1
  have z1 : c1 = .slice A1 l1.length k1 := by simpa using e1
  obtain ⟨y2, q2⟩ : ∃ y_, xs[2]? = some y_ := ⟨xs[2]'(by rw [hx]; decide), List.getElem?_eq_getElem _⟩
  have r2 : DataW.trod enc Try.prog w 0 spare true n 23 (([c0, c1, c2, c3].drop 2).take (Try.prog.cellsOf 23)) = some y2 := (hf 2 _ rfl).trans q2
  rw [cells23] at r2
  have r2 : DataW.trod enc Try.prog w 0 spare true n 23 [c2] = some y2 := r2
  obtain ⟨A2, k2, l2, e2, b2, C2, g2⟩ := slice_at (d := k123) (G := G123) Try.underlying23 cells123 (fun m_ _ cs_ x_ h_ => opn123 enc w spare m_ cs_ x_ h_) r2
  have z2 : c2 = .slice A2 l2.length k2 := by simpa using e2
  obtain ⟨y3, q3⟩ : ∃ y_, xs[3]? = some y_ := ⟨xs[3]'(by rw [hx]; decide), List.getElem?_eq_getElem _⟩
  have r3 : DataW.trod enc Try.prog w 0 spare true n 3 (([c0, c1, c2, c3].drop 3).take (Try.prog.cellsOf 3)) = some y3 := (hf 3 _ rfl).trans q3
  rw [cells3] at r3
  have r3 : DataW.trod enc Try.prog w 0 spare true n 3 [c3] = some y3 := r3
  obtain ⟨a3, e3, -, g3⟩ := DataW.trod_int Try.underlying3 r3
  have z3 : c3 = .int .i64 a3 := by simpa using e3
  subst z0 z1 z2 z3
  exact ⟨⟨a0, l1, l2, a3⟩, k25_mk w _ b1 C1 b2 C2, ⟨g0, g1.1, g1.2, g2.1, g2.2, g3⟩⟩
def G146 (x_ : S146) : Prop := (fun s_ : ByteArray => s_.size ≤ maxLen) x_.f0 ∧ x_.f1.length ≤ 9223372036854775807 ∧ (∀ y_ ∈ x_.f1, (fun s_ : ByteArray => s_.size ≤ maxLen) y_)
theorem opn146 {H : Type} (enc : TypeId × Value → H) (w : World) (spare : Nat → Bool) : ∀ (fuel : Nat) (cs : List Value) (x : DataW H × List MemPlace), DataW.trod enc Try.prog w 0 spare true fuel 146 cs = some x → ∃ v : S146, k146.K w v cs ∧ G146 v := by
  intro fuel
  intro cs x h
  obtain ⟨xs, n, rfl, -, hl, hx, hf⟩ := DataW.trod_struct Try.underlying146 h
  rw [cells146] at hl
  clear h
  obtain ⟨c0, cs0, rfl, hl0⟩ := cons_of_len hl
  obtain ⟨c1, cs1, rfl, hl1⟩ := cons_of_len hl0
  obtain rfl := List.length_eq_zero_iff.1 hl1
  obtain ⟨y0, q0⟩ : ∃ y_, xs[0]? = some y_ := ⟨xs[0]'(by rw [hx]; decide), List.getElem?_eq_getElem _⟩
  have r0 : DataW.trod enc Try.prog w 0 spare true n 9 (([c0, c1].drop 0).take (Try.prog.cellsOf 9)) = some y0 := (hf 0 _ rfl).trans q0
  rw [cells9] at r0
  have r0 : DataW.trod enc Try.prog w 0 spare true n 9 [c0] = some y0 := r0
  obtain ⟨a0, e0, -, g0⟩ := DataW.trod_string Try.underlying9 r0
  have z0 : c0 = .string a0 := by simpa using e0
  obtain ⟨y1, q1⟩ : ∃ y_, xs[1]? = some y_ := ⟨xs[1]'(by rw [hx]; decide), List.getElem?_eq_getElem _⟩
  have r1 : DataW.trod enc Try.prog w 0 spare true n 63 (([c0, c1].drop 1).take (Try.prog.cellsOf 63)) = some y1 := (hf 1 _ rfl).trans q1
  rw [cells63] at r1
  have r1 : DataW.trod enc Try.prog w 0 spare true n 63 [c1] = some y1 := r1
  obtain ⟨A1, k1, l1, e1, b1, C1, g1⟩ := slice_at (d := Kd.string) (G := (fun s_ : ByteArray => s_.size ≤ maxLen)) Try.underlying63 cells9 (fun m_ _ cs_ x_ h_ => by obtain ⟨a_, e_, -, g_⟩ := DataW.trod_string Try.underlying9 h_; exact ⟨a_, e_, g_⟩) r1
  have z1 : c1 = .slice A1 l1.length k1 := by simpa using e1
  subst z0 z1
  exact ⟨⟨a0, l1⟩, k146_mk w _ b1 C1, ⟨g0, g1.1, g1.2⟩⟩
def G148 (x_ : S148) : Prop := (fun s_ : ByteArray => s_.size ≤ maxLen) x_.f0 ∧ (fun n_ : Int => (Lit.int .i64 n_).wf = true) x_.f1
theorem opn148 {H : Type} (enc : TypeId × Value → H) (w : World) (spare : Nat → Bool) : ∀ (fuel : Nat) (cs : List Value) (x : DataW H × List MemPlace), DataW.trod enc Try.prog w 0 spare true fuel 148 cs = some x → ∃ v : S148, k148.K w v cs ∧ G148 v := by
  intro fuel
  intro cs x h
  obtain ⟨xs, n, rfl, -, hl, hx, hf⟩ := DataW.trod_struct Try.underlying148 h
  rw [cells148] at hl
  clear h
  obtain ⟨c0, cs0, rfl, hl0⟩ := cons_of_len hl
  obtain ⟨c1, cs1, rfl, hl1⟩ := cons_of_len hl0
  obtain rfl := List.length_eq_zero_iff.1 hl1
  obtain ⟨y0, q0⟩ : ∃ y_, xs[0]? = some y_ := ⟨xs[0]'(by rw [hx]; decide), List.getElem?_eq_getElem _⟩
  have r0 : DataW.trod enc Try.prog w 0 spare true n 9 (([c0, c1].drop 0).take (Try.prog.cellsOf 9)) = some y0 := (hf 0 _ rfl).trans q0
  rw [cells9] at r0
  have r0 : DataW.trod enc Try.prog w 0 spare true n 9 [c0] = some y0 := r0
  obtain ⟨a0, e0, -, g0⟩ := DataW.trod_string Try.underlying9 r0
  have z0 : c0 = .string a0 := by simpa using e0
  obtain ⟨y1, q1⟩ : ∃ y_, xs[1]? = some y_ := ⟨xs[1]'(by rw [hx]; decide), List.getElem?_eq_getElem _⟩
  have r1 : DataW.trod enc Try.prog w 0 spare true n 3 (([c0, c1].drop 1).take (Try.prog.cellsOf 3)) = some y1 := (hf 1 _ rfl).trans q1
  rw [cells3] at r1
  have r1 : DataW.trod enc Try.prog w 0 spare true n 3 [c1] = some y1 := r1
  obtain ⟨a1, e1, -, g1⟩ := DataW.trod_int Try.underlying3 r1
  have z1 : c1 = .int .i64 a1 := by simpa using e1
  subst z0 z1
  exact ⟨⟨a0, a1⟩, k148_mk w _ , ⟨g0, g1⟩⟩
def G150 (x_ : S150) : Prop := (fun s_ : ByteArray => s_.size ≤ maxLen) x_.f0 ∧ (fun s_ : ByteArray => s_.size ≤ maxLen) x_.f1 ∧ x_.f2.length ≤ 9223372036854775807 ∧ (∀ y_ ∈ x_.f2, (fun s_ : ByteArray => s_.size ≤ maxLen) y_) ∧ (fun _ : Bool => True) x_.f3
theorem opn150 {H : Type} (enc : TypeId × Value → H) (w : World) (spare : Nat → Bool) : ∀ (fuel : Nat) (cs : List Value) (x : DataW H × List MemPlace), DataW.trod enc Try.prog w 0 spare true fuel 150 cs = some x → ∃ v : S150, k150.K w v cs ∧ G150 v := by
  intro fuel
  intro cs x h
  obtain ⟨xs, n, rfl, -, hl, hx, hf⟩ := DataW.trod_struct Try.underlying150 h
  rw [cells150] at hl
  clear h
  obtain ⟨c0, cs0, rfl, hl0⟩ := cons_of_len hl
  obtain ⟨c1, cs1, rfl, hl1⟩ := cons_of_len hl0
  obtain ⟨c2, cs2, rfl, hl2⟩ := cons_of_len hl1
  obtain ⟨c3, cs3, rfl, hl3⟩ := cons_of_len hl2
  obtain rfl := List.length_eq_zero_iff.1 hl3
  obtain ⟨y0, q0⟩ : ∃ y_, xs[0]? = some y_ := ⟨xs[0]'(by rw [hx]; decide), List.getElem?_eq_getElem _⟩
  have r0 : DataW.trod enc Try.prog w 0 spare true n 9 (([c0, c1, c2, c3].drop 0).take (Try.prog.cellsOf 9)) = some y0 := (hf 0 _ rfl).trans q0
  rw [cells9] at r0
  have r0 : DataW.trod enc Try.prog w 0 spare true n 9 [c0] = some y0 := r0
  obtain ⟨a0, e0, -, g0⟩ := DataW.trod_string Try.underlying9 r0
  have z0 : c0 = .string a0 := by simpa using e0
  obtain ⟨y1, q1⟩ : ∃ y_, xs[1]? = some y_ := ⟨xs[1]'(by rw [hx]; decide), List.getElem?_eq_getElem _⟩
  have r1 : DataW.trod enc Try.prog w 0 spare true n 9 (([c0, c1, c2, c3].drop 1).take (Try.prog.cellsOf 9)) = some y1 := (hf 1 _ rfl).trans q1
  rw [cells9] at r1
  have r1 : DataW.trod enc Try.prog w 0 spare true n 9 [c1] = some y1 := r1
  obtain ⟨a1, e1, -, g1⟩ := DataW.trod_string Try.underlying9 r1
  have z1 : c1 = .string a1 := by simpa using e1
  obtain ⟨y2, q2⟩ : ∃ y_, xs[2]? = some y_ := ⟨xs[2]'(by rw [hx]; decide), List.getElem?_eq_getElem _⟩
  have r2 : DataW.trod enc Try.prog w 0 spare true n 63 (([c0, c1, c2, c3].drop 2).take (Try.prog.cellsOf 63)) = some y2 := (hf 2 _ rfl).trans q2
  rw [cells63] at r2
  have r2 : DataW.trod enc Try.prog w 0 spare true n 63 [c2] = some y2 := r2
  obtain ⟨A2, k2, l2, e2, b2, C2, g2⟩ := slice_at (d := Kd.string) (G := (fun s_ : ByteArray => s_.size ≤ maxLen)) Try.underlying63 cells9 (fun m_ _ cs_ x_ h_ => by obtain ⟨a_, e_, -, g_⟩ := DataW.trod_string Try.underlying9 h_; exact ⟨a_, e_, g_⟩) r2
  have z2 : c2 = .slice A2 l2.length k2 := by simpa using e2
  obtain ⟨y3, q3⟩ : ∃ y_, xs[3]? = some y_ := ⟨xs[3]'(by rw [hx]; decide), List.getElem?_eq_getElem _⟩
  have r3 : DataW.trod enc Try.prog w 0 spare true n 4 (([c0, c1, c2, c3].drop 3).take (Try.prog.cellsOf 4)) = some y3 := (hf 3 _ rfl).trans q3
  rw [cells4] at r3
  have r3 : DataW.trod enc Try.prog w 0 spare true n 4 [c3] = some y3 := r3
  obtain ⟨a3, e3, -⟩ := DataW.trod_bool Try.underlying4 r3
  have z3 : c3 = .bool a3 := by simpa using e3
  have g3 : True := trivial
  subst z0 z1 z2 z3
  exact ⟨⟨a0, a1, l2, a3⟩, k150_mk w _ b2 C2, ⟨g0, g1, g2.1, g2.2, g3⟩⟩
def G153 (x_ : S153) : Prop := (fun s_ : ByteArray => s_.size ≤ maxLen) x_.f0 ∧ (fun s_ : ByteArray => s_.size ≤ maxLen) x_.f1 ∧ x_.f2.length ≤ 9223372036854775807 ∧ (∀ y_ ∈ x_.f2, (fun s_ : ByteArray => s_.size ≤ maxLen) y_) ∧ x_.f3.length ≤ 9223372036854775807 ∧ (∀ y_ ∈ x_.f3, G184 y_)
theorem opn153 {H : Type} (enc : TypeId × Value → H) (w : World) (spare : Nat → Bool) : ∀ (fuel : Nat) (cs : List Value) (x : DataW H × List MemPlace), DataW.trod enc Try.prog w 0 spare true fuel 153 cs = some x → ∃ v : S153, k153.K w v cs ∧ G153 v := by
  intro fuel
  intro cs x h
  obtain ⟨xs, n, rfl, -, hl, hx, hf⟩ := DataW.trod_struct Try.underlying153 h
  rw [cells153] at hl
  clear h
  obtain ⟨c0, cs0, rfl, hl0⟩ := cons_of_len hl
  obtain ⟨c1, cs1, rfl, hl1⟩ := cons_of_len hl0
  obtain ⟨c2, cs2, rfl, hl2⟩ := cons_of_len hl1
  obtain ⟨c3, cs3, rfl, hl3⟩ := cons_of_len hl2
  obtain rfl := List.length_eq_zero_iff.1 hl3
  obtain ⟨y0, q0⟩ : ∃ y_, xs[0]? = some y_ := ⟨xs[0]'(by rw [hx]; decide), List.getElem?_eq_getElem _⟩
  have r0 : DataW.trod enc Try.prog w 0 spare true n 9 (([c0, c1, c2, c3].drop 0).take (Try.prog.cellsOf 9)) = some y0 := (hf 0 _ rfl).trans q0
  rw [cells9] at r0
  have r0 : DataW.trod enc Try.prog w 0 spare true n 9 [c0] = some y0 := r0
  obtain ⟨a0, e0, -, g0⟩ := DataW.trod_string Try.underlying9 r0
  have z0 : c0 = .string a0 := by simpa using e0
  obtain ⟨y1, q1⟩ : ∃ y_, xs[1]? = some y_ := ⟨xs[1]'(by rw [hx]; decide), List.getElem?_eq_getElem _⟩
  have r1 : DataW.trod enc Try.prog w 0 spare true n 9 (([c0, c1, c2, c3].drop 1).take (Try.prog.cellsOf 9)) = some y1 := (hf 1 _ rfl).trans q1
  rw [cells9] at r1
  have r1 : DataW.trod enc Try.prog w 0 spare true n 9 [c1] = some y1 := r1
  obtain ⟨a1, e1, -, g1⟩ := DataW.trod_string Try.underlying9 r1
  have z1 : c1 = .string a1 := by simpa using e1
  obtain ⟨y2, q2⟩ : ∃ y_, xs[2]? = some y_ := ⟨xs[2]'(by rw [hx]; decide), List.getElem?_eq_getElem _⟩
  have r2 : DataW.trod enc Try.prog w 0 spare true n 63 (([c0, c1, c2, c3].drop 2).take (Try.prog.cellsOf 63)) = some y2 := (hf 2 _ rfl).trans q2
  rw [cells63] at r2
  have r2 : DataW.trod enc Try.prog w 0 spare true n 63 [c2] = some y2 := r2
  obtain ⟨A2, k2, l2, e2, b2, C2, g2⟩ := slice_at (d := Kd.string) (G := (fun s_ : ByteArray => s_.size ≤ maxLen)) Try.underlying63 cells9 (fun m_ _ cs_ x_ h_ => by obtain ⟨a_, e_, -, g_⟩ := DataW.trod_string Try.underlying9 h_; exact ⟨a_, e_, g_⟩) r2
  have z2 : c2 = .slice A2 l2.length k2 := by simpa using e2
  obtain ⟨y3, q3⟩ : ∃ y_, xs[3]? = some y_ := ⟨xs[3]'(by rw [hx]; decide), List.getElem?_eq_getElem _⟩
  have r3 : DataW.trod enc Try.prog w 0 spare true n 118 (([c0, c1, c2, c3].drop 3).take (Try.prog.cellsOf 118)) = some y3 := (hf 3 _ rfl).trans q3
  rw [cells118] at r3
  have r3 : DataW.trod enc Try.prog w 0 spare true n 118 [c3] = some y3 := r3
  obtain ⟨A3, k3, l3, e3, b3, C3, g3⟩ := slice_at (d := k184) (G := G184) Try.underlying118 cells184 (fun m_ _ cs_ x_ h_ => opn184 enc w spare m_ cs_ x_ h_) r3
  have z3 : c3 = .slice A3 l3.length k3 := by simpa using e3
  subst z0 z1 z2 z3
  exact ⟨⟨a0, a1, l2, l3⟩, k153_mk w _ b2 C2 b3 C3, ⟨g0, g1, g2.1, g2.2, g3.1, g3.2⟩⟩
def G56 (x_ : S56) : Prop := x_.f0.length ≤ 9223372036854775807 ∧ (∀ y_ ∈ x_.f0, G146 y_) ∧ x_.f1.length ≤ 9223372036854775807 ∧ (∀ y_ ∈ x_.f1, G148 y_) ∧ x_.f2.length ≤ 9223372036854775807 ∧ (∀ y_ ∈ x_.f2, G25 y_) ∧ x_.f3.length ≤ 9223372036854775807 ∧ (∀ y_ ∈ x_.f3, G150 y_) ∧ x_.f4.length ≤ 9223372036854775807 ∧ (∀ y_ ∈ x_.f4, G153 y_) ∧ (fun n_ : Int => (Lit.int .i64 n_).wf = true) x_.f5
theorem opn56 {H : Type} (enc : TypeId × Value → H) (w : World) (spare : Nat → Bool) : ∀ (fuel : Nat) (cs : List Value) (x : DataW H × List MemPlace), DataW.trod enc Try.prog w 0 spare true fuel 56 cs = some x → ∃ v : S56, k56.K w v cs ∧ G56 v := by
  intro fuel
  intro cs x h
  obtain ⟨xs, n, rfl, -, hl, hx, hf⟩ := DataW.trod_struct Try.underlying56 h
  rw [cells56] at hl
  clear h
  obtain ⟨c0, cs0, rfl, hl0⟩ := cons_of_len hl
  obtain ⟨c1, cs1, rfl, hl1⟩ := cons_of_len hl0
  obtain ⟨c2, cs2, rfl, hl2⟩ := cons_of_len hl1
  obtain ⟨c3, cs3, rfl, hl3⟩ := cons_of_len hl2
  obtain ⟨c4, cs4, rfl, hl4⟩ := cons_of_len hl3
  obtain ⟨c5, cs5, rfl, hl5⟩ := cons_of_len hl4
  obtain rfl := List.length_eq_zero_iff.1 hl5
  obtain ⟨y0, q0⟩ : ∃ y_, xs[0]? = some y_ := ⟨xs[0]'(by rw [hx]; decide), List.getElem?_eq_getElem _⟩
  have r0 : DataW.trod enc Try.prog w 0 spare true n 50 (([c0, c1, c2, c3, c4, c5].drop 0).take (Try.prog.cellsOf 50)) = some y0 := (hf 0 _ rfl).trans q0
  rw [cells50] at r0
  have r0 : DataW.trod enc Try.prog w 0 spare true n 50 [c0] = some y0 := r0
  obtain ⟨A0, k0, l0, e0, b0, C0, g0⟩ := slice_at (d := k146) (G := G146) Try.underlying50 cells146 (fun m_ _ cs_ x_ h_ => opn146 enc w spare m_ cs_ x_ h_) r0
  have z0 : c0 = .slice A0 l0.length k0 := by simpa using e0
  obtain ⟨y1, q1⟩ : ∃ y_, xs[1]? = some y_ := ⟨xs[1]'(by rw [hx]; decide), List.getElem?_eq_getElem _⟩
  have r1 : DataW.trod enc Try.prog w 0 spare true n 51 (([c0, c1, c2, c3, c4, c5].drop 1).take (Try.prog.cellsOf 51)) = some y1 := (hf 1 _ rfl).trans q1
  rw [cells51] at r1
  have r1 : DataW.trod enc Try.prog w 0 spare true n 51 [c1] = some y1 := r1
  obtain ⟨A1, k1, l1, e1, b1, C1, g1⟩ := slice_at (d := k148) (G := G148) Try.underlying51 cells148 (fun m_ _ cs_ x_ h_ => opn148 enc w spare m_ cs_ x_ h_) r1
  have z1 : c1 = .slice A1 l1.length k1 := by simpa using e1
  obtain ⟨y2, q2⟩ : ∃ y_, xs[2]? = some y_ := ⟨xs[2]'(by rw [hx]; decide), List.getElem?_eq_getElem _⟩
  have r2 : DataW.trod enc Try.prog w 0 spare true n 52 (([c0, c1, c2, c3, c4, c5].drop 2).take (Try.prog.cellsOf 52)) = some y2 := (hf 2 _ rfl).trans q2
  rw [cells52] at r2
  have r2 : DataW.trod enc Try.prog w 0 spare true n 52 [c2] = some y2 := r2
  obtain ⟨A2, k2, l2, e2, b2, C2, g2⟩ := slice_at (d := k25) (G := G25) Try.underlying52 cells25 (fun m_ _ cs_ x_ h_ => opn25 enc w spare m_ cs_ x_ h_) r2
  have z2 : c2 = .slice A2 l2.length k2 := by simpa using e2
  obtain ⟨y3, q3⟩ : ∃ y_, xs[3]? = some y_ := ⟨xs[3]'(by rw [hx]; decide), List.getElem?_eq_getElem _⟩
  have r3 : DataW.trod enc Try.prog w 0 spare true n 53 (([c0, c1, c2, c3, c4, c5].drop 3).take (Try.prog.cellsOf 53)) = some y3 := (hf 3 _ rfl).trans q3
  rw [cells53] at r3
  have r3 : DataW.trod enc Try.prog w 0 spare true n 53 [c3] = some y3 := r3
  obtain ⟨A3, k3, l3, e3, b3, C3, g3⟩ := slice_at (d := k150) (G := G150) Try.underlying53 cells150 (fun m_ _ cs_ x_ h_ => opn150 enc w spare m_ cs_ x_ h_) r3
  have z3 : c3 = .slice A3 l3.length k3 := by simpa using e3
  obtain ⟨y4, q4⟩ : ∃ y_, xs[4]? = some y_ := ⟨xs[4]'(by rw [hx]; decide), List.getElem?_eq_getElem _⟩
  have r4 : DataW.trod enc Try.prog w 0 spare true n 54 (([c0, c1, c2, c3, c4, c5].drop 4).take (Try.prog.cellsOf 54)) = some y4 := (hf 4 _ rfl).trans q4
  rw [cells54] at r4
  have r4 : DataW.trod enc Try.prog w 0 spare true n 54 [c4] = some y4 := r4
  obtain ⟨A4, k4, l4, e4, b4, C4, g4⟩ := slice_at (d := k153) (G := G153) Try.underlying54 cells153 (fun m_ _ cs_ x_ h_ => opn153 enc w spare m_ cs_ x_ h_) r4
  have z4 : c4 = .slice A4 l4.length k4 := by simpa using e4
  obtain ⟨y5, q5⟩ : ∃ y_, xs[5]? = some y_ := ⟨xs[5]'(by rw [hx]; decide), List.getElem?_eq_getElem _⟩
  have r5 : DataW.trod enc Try.prog w 0 spare true n 3 (([c0, c1, c2, c3, c4, c5].drop 5).take (Try.prog.cellsOf 3)) = some y5 := (hf 5 _ rfl).trans q5
  rw [cells3] at r5
  have r5 : DataW.trod enc Try.prog w 0 spare true n 3 [c5] = some y5 := r5
  obtain ⟨a5, e5, -, g5⟩ := DataW.trod_int Try.underlying3 r5
  have z5 : c5 = .int .i64 a5 := by simpa using e5
  subst z0 z1 z2 z3 z4 z5
  exact ⟨⟨l0, l1, l2, l3, l4, a5⟩, k56_mk w _ b0 C0 b1 C1 b2 C2 b3 C3 b4 C4, ⟨g0.1, g0.2, g1.1, g1.2, g2.1, g2.2, g3.1, g3.2, g4.1, g4.2, g5⟩⟩
end Go.Proofs.Ytbgfdhabfgeglaa.Q
