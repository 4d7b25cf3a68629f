/- Written by a program of this session (drive.py) over the translation: a part of the proofs of the laws; nothing is asked beyond what each statement says. -/
import Derived.Test.YtnjbpdbdeidngaaQ0
import Derived.Test.YtnjbpdbdeidngaaOpn
import Derived.KernelRfl
namespace Go.Proofs.Ytnjbpdbdeidngaa.Q
open Go Go.RowKit Go.Proofs.YtnjbpdbdeidngaaW.PrintWords Go.Proofs.YtnjbpdbdeidngaaW.PrintLast Go.Proofs.Ytnjbpdbdeidngaa.Opn
set_option linter.unusedVariables false
theorem cells3 : Try.prog.cellsOf 3 = 1 := by kernel_rfl
theorem cells5 : Try.prog.cellsOf 5 = 1 := by kernel_rfl
theorem cells9 : Try.prog.cellsOf 9 = 1 := by kernel_rfl
theorem cells25 : Try.prog.cellsOf 25 = 3 := by kernel_rfl
theorem cells41 : Try.prog.cellsOf 41 = 1 := by kernel_rfl
theorem cells43 : Try.prog.cellsOf 43 = 4 := by kernel_rfl
def G25 (x_ : S25) : Prop := (fun n_ : Int => (Lit.int .i64 n_).wf = true) x_.f0 ∧ (fun n_ : Int => (Lit.int .i64 n_).wf = true) x_.f1 ∧ (fun s_ : ByteArray => s_.size ≤ maxLen) x_.f2
theorem opn25 {H : Type} (enc : TypeId × Value → H) (w : World) (spare : Nat → Bool) : ∀ (fuel : Nat) (cs : List Value) (x : DataW H × List MemPlace), DataW.trod enc Try.prog w 0 spare true fuel 25 cs = some x → ∃ v : S25, k25.K w v cs ∧ G25 v := by
  intro fuel
  intro cs x h
  obtain ⟨xs, n, rfl, -, hl, hx, hf⟩ := DataW.trod_struct Try.underlying25 h
  rw [cells25] at hl
  clear h
  obtain ⟨c0, cs0, rfl, hl0⟩ := cons_of_len hl
  obtain ⟨c1, cs1, rfl, hl1⟩ := cons_of_len hl0
  obtain ⟨c2, cs2, rfl, hl2⟩ := cons_of_len hl1
  obtain rfl := List.length_eq_zero_iff.1 hl2
  obtain ⟨y0, q0⟩ : ∃ y_, xs[0]? = some y_ := ⟨xs[0]'(by rw [hx]; decide), List.getElem?_eq_getElem _⟩
  have r0 : DataW.trod enc Try.prog w 0 spare true n 3 (([c0, c1, c2].drop 0).take (Try.prog.cellsOf 3)) = some y0 := (hf 0 _ rfl).trans q0
  rw [cells3] at r0
  have r0 : DataW.trod enc Try.prog w 0 spare true n 3 [c0] = some y0 := r0
  obtain ⟨a0, e0, -, g0⟩ := DataW.trod_int Try.underlying3 r0
  have z0 : c0 = .int .i64 a0 := by simpa using e0
  obtain ⟨y1, q1⟩ : ∃ y_, xs[1]? = some y_ := ⟨xs[1]'(by rw [hx]; decide), List.getElem?_eq_getElem _⟩
  have r1 : DataW.trod enc Try.prog w 0 spare true n 3 (([c0, c1, c2].drop 1).take (Try.prog.cellsOf 3)) = some y1 := (hf 1 _ rfl).trans q1
  rw [cells3] at r1
  have r1 : DataW.trod enc Try.prog w 0 spare true n 3 [c1] = some y1 := r1
  obtain ⟨a1, e1, -, g1⟩ := DataW.trod_int Try.underlying3 r1
  have z1 : c1 = .int .i64 a1 := by simpa using e1
  obtain ⟨y2, q2⟩ : ∃ y_, xs[2]? = some y_ := ⟨xs[2]'(by rw [hx]; decide), List.getElem?_eq_getElem _⟩
  have r2 : DataW.trod enc Try.prog w 0 spare true n 9 (([c0, c1, c2].drop 2).take (Try.prog.cellsOf 9)) = some y2 := (hf 2 _ rfl).trans q2
  rw [cells9] at r2
  have r2 : DataW.trod enc Try.prog w 0 spare true n 9 [c2] = some y2 := r2
  obtain ⟨a2, e2, -, g2⟩ := DataW.trod_string Try.underlying9 r2
  have z2 : c2 = .string a2 := by simpa using e2
  subst z0 z1 z2
  exact ⟨⟨a0, a1, a2⟩, k25_mk w _ , ⟨g0, g1, g2⟩⟩
inductive G43 : S43 → Prop
  | mk {x_ : S43} (h0 : (fun n_ : Int => (Lit.int .i64 n_).wf = true) x_.f0) (h1 : (fun s_ : ByteArray => s_.size ≤ maxLen) x_.f1) (h2 : (fun n_ : Int => (Lit.int .i64 n_).wf = true) x_.f2) (h3 : x_.f3.length ≤ 9223372036854775807) (h4 : (∀ y_ ∈ x_.f3, G43 y_)) : G43 x_
theorem opn43 {H : Type} (enc : TypeId × Value → H) (w : World) (spare : Nat → Bool) : ∀ (fuel : Nat) (cs : List Value) (x : DataW H × List MemPlace), DataW.trod enc Try.prog w 0 spare true fuel 43 cs = some x → ∃ v : S43, k43.K w v cs ∧ G43 v := by
  intro fuel
  induction fuel using Nat.strongRecOn with
  | _ fuel ih =>
  intro cs x h
  obtain ⟨xs, n, rfl, -, hl, hx, hf⟩ := DataW.trod_struct Try.underlying43 h
  rw [cells43] at hl
  clear h
  obtain ⟨c0, cs0, rfl, hl0⟩ := cons_of_len hl
  obtain ⟨c1, cs1, rfl, hl1⟩ := cons_of_len hl0
  obtain ⟨c2, cs2, rfl, hl2⟩ := cons_of_len hl1
  obtain ⟨c3, cs3, rfl, hl3⟩ := cons_of_len hl2
  obtain rfl := List.length_eq_zero_iff.1 hl3
  obtain ⟨y0, q0⟩ : ∃ y_, xs[0]? = some y_ := ⟨xs[0]'(by rw [hx]; decide), List.getElem?_eq_getElem _⟩
  have r0 : DataW.trod enc Try.prog w 0 spare true n 3 (([c0, c1, c2, c3].drop 0).take (Try.prog.cellsOf 3)) = some y0 := (hf 0 _ rfl).trans q0
  rw [cells3] at r0
  have r0 : DataW.trod enc Try.prog w 0 spare true n 3 [c0] = some y0 := r0
  obtain ⟨a0, e0, -, g0⟩ := DataW.trod_int Try.underlying3 r0
  have z0 : c0 = .int .i64 a0 := by simpa using e0
  obtain ⟨y1, q1⟩ : ∃ y_, xs[1]? = some y_ := ⟨xs[1]'(by rw [hx]; decide), List.getElem?_eq_getElem _⟩
  have r1 : DataW.trod enc Try.prog w 0 spare true n 9 (([c0, c1, c2, c3].drop 1).take (Try.prog.cellsOf 9)) = some y1 := (hf 1 _ rfl).trans q1
  rw [cells9] at r1
  have r1 : DataW.trod enc Try.prog w 0 spare true n 9 [c1] = some y1 := r1
  obtain ⟨a1, e1, -, g1⟩ := DataW.trod_string Try.underlying9 r1
  have z1 : c1 = .string a1 := by simpa using e1
  obtain ⟨y2, q2⟩ : ∃ y_, xs[2]? = some y_ := ⟨xs[2]'(by rw [hx]; decide), List.getElem?_eq_getElem _⟩
  have r2 : DataW.trod enc Try.prog w 0 spare true n 3 (([c0, c1, c2, c3].drop 2).take (Try.prog.cellsOf 3)) = some y2 := (hf 2 _ rfl).trans q2
  rw [cells3] at r2
  have r2 : DataW.trod enc Try.prog w 0 spare true n 3 [c2] = some y2 := r2
  obtain ⟨a2, e2, -, g2⟩ := DataW.trod_int Try.underlying3 r2
  have z2 : c2 = .int .i64 a2 := by simpa using e2
  obtain ⟨y3, q3⟩ : ∃ y_, xs[3]? = some y_ := ⟨xs[3]'(by rw [hx]; decide), List.getElem?_eq_getElem _⟩
  have r3 : DataW.trod enc Try.prog w 0 spare true n 41 (([c0, c1, c2, c3].drop 3).take (Try.prog.cellsOf 41)) = some y3 := (hf 3 _ rfl).trans q3
  rw [cells41] at r3
  have r3 : DataW.trod enc Try.prog w 0 spare true n 41 [c3] = some y3 := r3
  obtain ⟨A3, k3, l3, e3, b3, C3, g3⟩ := slice_at (d := k43) (G := G43) Try.underlying41 cells43 (fun m_ hm_ cs_ x_ h_ => ih m_ (by omega) cs_ x_ h_) r3
  have z3 : c3 = .slice A3 l3.length k3 := by simpa using e3
  subst z0 z1 z2 z3
  exact ⟨⟨a0, a1, a2, l3⟩, k43_mk w _ b3 C3, .mk g0 g1 g2 g3.1 g3.2⟩
end Go.Proofs.Ytnjbpdbdeidngaa.Q
