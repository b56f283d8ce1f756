-- Printed by wip/print (my turned copy of the kit's print) out of the translation; Lean checks it.
import Derived.Test.YtooidjdgfoioiaaP0
import Derived.OpenShut
import Derived.Deep.Slices
import Derived.ChangeArms
import Derived.ChangeSame
import Derived.Lib.SmallJoins
import Derived.DataReads
import Derived.DataElems
import Derived.Deep.Strs
namespace Go.Proofs.Ytooidjdgfoioiaa.P
open Go.RowKit Go.ChangeShapes Go.Proofs.YtooidjdgfoioiaaW.PrintWords Go.Proofs.YtooidjdgfoioiaaW.PrintLast
/-- What a reading of type t says: the cells hold a value of kind d, and 'ok' holds of it. -/
def Rd {α : Type} (P : Program) (t : TypeId) (d : Kd α) (ok : α → Prop) : Prop :=
  ∀ {H : Type} {enc : TypeId × Value → H} {w : World} {base : Nat} {spare : Nat → Bool} {held : Bool} {fuel : Nat} {cs : List Value} {x : DataW H × List MemPlace},
    DataW.trod enc P w base spare held fuel t cs = some x → ∃ a : α, d.K w a cs ∧ ok a
theorem Rd.int {P : Program} {t : TypeId} {k : IntKind} (hu : P.underlying t = some (.int k)) : Rd P t (Kd.int k) (fun a => (Lit.int k a).wf = true) := by
  intro H enc w base spare held fuel cs x h
  obtain ⟨a, rfl, _, hw⟩ := DataW.trod_int hu h
  exact ⟨a, rfl, hw⟩
theorem Rd.bool {P : Program} {t : TypeId} (hu : P.underlying t = some .bool) : Rd P t Kd.bool (fun _ => True) := by
  intro H enc w base spare held fuel cs x h
  obtain ⟨a, rfl, _⟩ := DataW.trod_bool hu h
  exact ⟨a, rfl, trivial⟩
theorem Rd.string {P : Program} {t : TypeId} (hu : P.underlying t = some .string) : Rd P t Kd.string (fun s => s.size ≤ 9223372036854775807) := by
  intro H enc w base spare held fuel cs x h
  obtain ⟨a, rfl, _, hs⟩ := DataW.trod_string hu h
  exact ⟨a, rfl, hs⟩
theorem list_of {α : Type} {p : Nat → α → Prop} : ∀ n : Nat, (∀ i, i < n → ∃ a, p i a) → ∃ xs : List α, xs.length = n ∧ ∀ (j : Nat) (a : α), xs[j]? = some a → p j a
  | 0, _ => ⟨[], rfl, fun j a h => by simp at h⟩
  | n + 1, h => by
    obtain ⟨xs, hl, hx⟩ := list_of n (fun i hi => h i (by omega))
    obtain ⟨a, ha⟩ := h n (by omega)
    refine ⟨xs ++ [a], by simp [hl], fun j b hb => ?_⟩
    by_cases hj : j < n
    · rw [List.getElem?_append_left (by omega)] at hb
      exact hx j b hb
    · rw [List.getElem?_append_right (by omega)] at hb
      have : j = n := by
        by_cases e : j = n
        · exact e
        · rw [List.getElem?_eq_none (by simp; omega)] at hb
          simp at hb
      subst this
      rw [hl, Nat.sub_self] at hb
      simp at hb
      subst hb
      exact ha
theorem Rd.slice {α : Type} {P : Program} {t e : TypeId} {d : Kd α} {ok : α → Prop} (hu : P.underlying t = some (.slice e)) (hc : P.cellsOf e = d.sz) (hd : Rd P e d ok) :
    Rd P t (Kd.slice e d) (fun xs => xs.length ≤ 9223372036854775807 ∧ ∀ x ∈ xs, ok x) := by
  intro H enc w base spare held fuel cs x h
  rcases Go.Deep.open_slice hu h with ⟨rfl, _⟩ | ⟨a, len, cap, m, n, D, Pl, rfl, _, hl, hm, hmm, _, hx⟩
  · exact ⟨[], ⟨none, 0, rfl, Nat.le_refl _, rfl, by simp, fun h0 => absurd h0 (by simp)⟩, by simp, by simp⟩
  · have hlm : len ≤ m := by rw [hmm]; split <;> omega
    obtain ⟨xs, hxl, hxs⟩ := list_of (p := fun i a' => ∃ cs', w.cells? base (a.add (i * P.cellsOf e)) (P.cellsOf e) = some cs' ∧ d.K w a' cs' ∧ ok a') len (fun i hi => by
      obtain ⟨cs', h1, h2⟩ := hx i (by omega)
      obtain ⟨a', h3, h4⟩ := hd h2
      exact ⟨a', cs', h1, h3, h4⟩)
    have hmax : len ≤ 9223372036854775807 := by
      simp only [maxLen] at hm
      omega
    subst hxl
    refine ⟨xs, ⟨some a, cap, rfl, hl, rfl, hmax, fun _ => ⟨a, rfl, fun j p hp => ?_⟩⟩, hmax, fun y hy => ?_⟩
    · obtain ⟨cs', h1, h2, _⟩ := hxs j p hp
      obtain ⟨_, hlen, hcell⟩ := World.cells?_some h1
      refine ⟨cs', by rw [hlen, hc], h2, fun i u hu' => ?_⟩
      have hi : i < P.cellsOf e := by
        rw [← hlen]
        exact (List.getElem?_eq_some_iff.1 hu').1
      have hq := hcell i hi
      rw [hu', Addr.add_add, hc] at hq
      exact hq
    · obtain ⟨j, hj⟩ := List.mem_iff_getElem?.1 hy
      obtain ⟨_, _, _, h3⟩ := hxs j y hj
      exact h3

set_option maxRecDepth 100000 in
theorem rd24 : Rd Try.prog 24 k24 (fun a => ((Lit.int .u16 a.f0).wf = true) ∧ ((Lit.int .u16 a.f1).wf = true) ∧ ((Lit.int .u16 a.f2).wf = true) ∧ ((Lit.int .u16 a.f3).wf = true) ∧ ((Lit.int .u16 a.f4).wf = true) ∧ ((Lit.int .u16 a.f5).wf = true) ∧ ((Lit.int .u16 a.f6).wf = true) ∧ ((Lit.int .u16 a.f7).wf = true) ∧ ((Lit.int .u16 a.f8).wf = true) ∧ ((Lit.int .u16 a.f9).wf = true)) := by
  intro H enc w base spare held fuel cs x h
  obtain ⟨ys, n, _, _, hl, hn, hx⟩ := DataW.trod_array Try.underlying24 h
  have hC : Try.prog.cellsOf 24 = 10 := by kernel_rfl
  rw [hC] at hl
  match cs, hl with
  | [u0, u1, u2, u3, u4, u5, u6, u7, u8, u9], _ =>
    match ys, hn with
    | [y0, y1, y2, y3, y4, y5, y6, y7, y8, y9], _ =>
    have hE : Try.prog.cellsOf 23 = 1 := by kernel_rfl
    have h0 : DataW.trod enc Try.prog w base spare held n 23 [u0] = some y0 := by
      have q := hx 0 (by decide)
      rw [hE] at q
      exact q
    obtain ⟨a0, K0, o0⟩ := (Rd.int Try.underlying23) h0
    have h1 : DataW.trod enc Try.prog w base spare held n 23 [u1] = some y1 := by
      have q := hx 1 (by decide)
      rw [hE] at q
      exact q
    obtain ⟨a1, K1, o1⟩ := (Rd.int Try.underlying23) h1
    have h2 : DataW.trod enc Try.prog w base spare held n 23 [u2] = some y2 := by
      have q := hx 2 (by decide)
      rw [hE] at q
      exact q
    obtain ⟨a2, K2, o2⟩ := (Rd.int Try.underlying23) h2
    have h3 : DataW.trod enc Try.prog w base spare held n 23 [u3] = some y3 := by
      have q := hx 3 (by decide)
      rw [hE] at q
      exact q
    obtain ⟨a3, K3, o3⟩ := (Rd.int Try.underlying23) h3
    have h4 : DataW.trod enc Try.prog w base spare held n 23 [u4] = some y4 := by
      have q := hx 4 (by decide)
      rw [hE] at q
      exact q
    obtain ⟨a4, K4, o4⟩ := (Rd.int Try.underlying23) h4
    have h5 : DataW.trod enc Try.prog w base spare held n 23 [u5] = some y5 := by
      have q := hx 5 (by decide)
      rw [hE] at q
      exact q
    obtain ⟨a5, K5, o5⟩ := (Rd.int Try.underlying23) h5
    have h6 : DataW.trod enc Try.prog w base spare held n 23 [u6] = some y6 := by
      have q := hx 6 (by decide)
      rw [hE] at q
      exact q
    obtain ⟨a6, K6, o6⟩ := (Rd.int Try.underlying23) h6
    have h7 : DataW.trod enc Try.prog w base spare held n 23 [u7] = some y7 := by
      have q := hx 7 (by decide)
      rw [hE] at q
      exact q
    obtain ⟨a7, K7, o7⟩ := (Rd.int Try.underlying23) h7
    have h8 : DataW.trod enc Try.prog w base spare held n 23 [u8] = some y8 := by
      have q := hx 8 (by decide)
      rw [hE] at q
      exact q
    obtain ⟨a8, K8, o8⟩ := (Rd.int Try.underlying23) h8
    have h9 : DataW.trod enc Try.prog w base spare held n 23 [u9] = some y9 := by
      have q := hx 9 (by decide)
      rw [hE] at q
      exact q
    obtain ⟨a9, K9, o9⟩ := (Rd.int Try.underlying23) h9
    injection K0 with q0
    subst q0
    injection K1 with q1
    subst q1
    injection K2 with q2
    subst q2
    injection K3 with q3
    subst q3
    injection K4 with q4
    subst q4
    injection K5 with q5
    subst q5
    injection K6 with q6
    subst q6
    injection K7 with q7
    subst q7
    injection K8 with q8
    subst q8
    injection K9 with q9
    subst q9
    exact ⟨⟨a0, a1, a2, a3, a4, a5, a6, a7, a8, a9⟩, k24_mk w ⟨a0, a1, a2, a3, a4, a5, a6, a7, a8, a9⟩ , o0, o1, o2, o3, o4, o5, o6, o7, o8, o9⟩
set_option maxRecDepth 100000 in
theorem rd26 : Rd Try.prog 26 k26 (fun a => ((Lit.int .i8 a.f0).wf = true) ∧ ((Lit.int .i8 a.f1).wf = true) ∧ (((Lit.int .u16 a.f2.f0).wf = true) ∧ ((Lit.int .u16 a.f2.f1).wf = true) ∧ ((Lit.int .u16 a.f2.f2).wf = true) ∧ ((Lit.int .u16 a.f2.f3).wf = true) ∧ ((Lit.int .u16 a.f2.f4).wf = true) ∧ ((Lit.int .u16 a.f2.f5).wf = true) ∧ ((Lit.int .u16 a.f2.f6).wf = true) ∧ ((Lit.int .u16 a.f2.f7).wf = true) ∧ ((Lit.int .u16 a.f2.f8).wf = true) ∧ ((Lit.int .u16 a.f2.f9).wf = true))) := by
  intro H enc w base spare held fuel cs x h
  obtain ⟨y0, y1, y2, n, _, hl, h0, h1, h2⟩ := Deep.trod_struct3 Try.underlying26 h
  have hC : Try.prog.cellsOf 26 = 12 := by kernel_rfl
  rw [hC] at hl
  match cs, hl with
  | [u0, u1, u2, u3, u4, u5, u6, u7, u8, u9, u10, u11], _ =>
    have e0 : Try.prog.cellsOf 22 = 1 := by kernel_rfl
    rw [show (([u0, u1, u2, u3, u4, u5, u6, u7, u8, u9, u10, u11] : List Value).drop 0).take (Try.prog.cellsOf 22) = [u0] from by rw [e0]; rfl] at h0
    obtain ⟨a0, K0, o0⟩ := (Rd.int Try.underlying22) h0
    have e1 : Try.prog.cellsOf 22 = 1 := by kernel_rfl
    rw [show (([u0, u1, u2, u3, u4, u5, u6, u7, u8, u9, u10, u11] : List Value).drop 1).take (Try.prog.cellsOf 22) = [u1] from by rw [e1]; rfl] at h1
    obtain ⟨a1, K1, o1⟩ := (Rd.int Try.underlying22) h1
    have e2 : Try.prog.cellsOf 24 = 10 := by kernel_rfl
    rw [show (([u0, u1, u2, u3, u4, u5, u6, u7, u8, u9, u10, u11] : List Value).drop 2).take (Try.prog.cellsOf 24) = [u2, u3, u4, u5, u6, u7, u8, u9, u10, u11] from by rw [e2]; rfl] at h2
    obtain ⟨a2, K2, o2⟩ := rd24 h2
    injection K0 with q0
    subst q0
    injection K1 with q1
    subst q1
    have q2 := k24_open K2
    simp only [List.cons.injEq, and_true] at q2
    obtain ⟨rfl, rfl, rfl, rfl, rfl, rfl, rfl, rfl, rfl, rfl⟩ := q2
    exact ⟨⟨a0, a1, a2⟩, k26_mk w ⟨a0, a1, a2⟩ , o0, o1, o2⟩
set_option maxRecDepth 100000 in
theorem rd82 : Rd Try.prog 82 k82 (fun a => ((Lit.int .i8 a.f0).wf = true) ∧ ((Lit.int .i8 a.f1).wf = true)) := by
  intro H enc w base spare held fuel cs x h
  obtain ⟨y0, y1, n, _, hl, h0, h1⟩ := ChangeShapes.trod_struct2 Try.underlying82 h
  have hC : Try.prog.cellsOf 82 = 2 := by kernel_rfl
  rw [hC] at hl
  match cs, hl with
  | [u0, u1], _ =>
    have e0 : Try.prog.cellsOf 22 = 1 := by kernel_rfl
    rw [show (([u0, u1] : List Value).drop 0).take (Try.prog.cellsOf 22) = [u0] from by rw [e0]; rfl] at h0
    obtain ⟨a0, K0, o0⟩ := (Rd.int Try.underlying22) h0
    have e1 : Try.prog.cellsOf 22 = 1 := by kernel_rfl
    rw [show (([u0, u1] : List Value).drop 1).take (Try.prog.cellsOf 22) = [u1] from by rw [e1]; rfl] at h1
    obtain ⟨a1, K1, o1⟩ := (Rd.int Try.underlying22) h1
    injection K0 with q0
    subst q0
    injection K1 with q1
    subst q1
    exact ⟨⟨a0, a1⟩, k82_mk w ⟨a0, a1⟩ , o0, o1⟩
set_option maxRecDepth 100000 in
theorem rd44 : Rd Try.prog 44 k44 (fun a => ((Lit.int .i16 a.f0).wf = true) ∧ (a.f1.length ≤ 9223372036854775807 ∧ ∀ x_ ∈ a.f1, ((Lit.int .i16 x_).wf = true))) := by
  intro H enc w base spare held fuel cs x h
  obtain ⟨y0, y1, n, _, hl, h0, h1⟩ := ChangeShapes.trod_struct2 Try.underlying44 h
  have hC : Try.prog.cellsOf 44 = 2 := by kernel_rfl
  rw [hC] at hl
  match cs, hl with
  | [u0, u1], _ =>
    have e0 : Try.prog.cellsOf 29 = 1 := by kernel_rfl
    rw [show (([u0, u1] : List Value).drop 0).take (Try.prog.cellsOf 29) = [u0] from by rw [e0]; rfl] at h0
    obtain ⟨a0, K0, o0⟩ := (Rd.int Try.underlying29) h0
    have e1 : Try.prog.cellsOf 30 = 1 := by kernel_rfl
    rw [show (([u0, u1] : List Value).drop 1).take (Try.prog.cellsOf 30) = [u1] from by rw [e1]; rfl] at h1
    obtain ⟨a1, K1, o1⟩ := (Rd.slice Try.underlying30 (by kernel_rfl) (Rd.int Try.underlying29)) h1
    injection K0 with q0
    subst q0
    obtain ⟨A1, c1, q1, l1, g1⟩ := K1
    injection q1 with q1
    subst q1
    exact ⟨⟨a0, a1⟩, k44_mk w ⟨a0, a1⟩ l1 g1, o0, o1⟩
set_option maxRecDepth 100000 in
theorem rd92 : Rd Try.prog 92 k92 (fun a => ((Lit.int .i16 a.f0).wf = true) ∧ ((Lit.int .i8 a.f1).wf = true)) := by
  intro H enc w base spare held fuel cs x h
  obtain ⟨y0, y1, n, _, hl, h0, h1⟩ := ChangeShapes.trod_struct2 Try.underlying92 h
  have hC : Try.prog.cellsOf 92 = 2 := by kernel_rfl
  rw [hC] at hl
  match cs, hl with
  | [u0, u1], _ =>
    have e0 : Try.prog.cellsOf 29 = 1 := by kernel_rfl
    rw [show (([u0, u1] : List Value).drop 0).take (Try.prog.cellsOf 29) = [u0] from by rw [e0]; rfl] at h0
    obtain ⟨a0, K0, o0⟩ := (Rd.int Try.underlying29) h0
    have e1 : Try.prog.cellsOf 22 = 1 := by kernel_rfl
    rw [show (([u0, u1] : List Value).drop 1).take (Try.prog.cellsOf 22) = [u1] from by rw [e1]; rfl] at h1
    obtain ⟨a1, K1, o1⟩ := (Rd.int Try.underlying22) h1
    injection K0 with q0
    subst q0
    injection K1 with q1
    subst q1
    exact ⟨⟨a0, a1⟩, k92_mk w ⟨a0, a1⟩ , o0, o1⟩
end Go.Proofs.Ytooidjdgfoioiaa.P
