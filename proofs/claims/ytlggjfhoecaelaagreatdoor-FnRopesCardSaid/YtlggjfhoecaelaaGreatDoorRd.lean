-- Printed by wip/print (my turned copy of the kit's print) out of the translation; Lean checks it.
import Derived.Test.YtlggjfhoecaelaaGreatDoorP0
import Derived.OpenShut
import Derived.Deep.Slices
import Derived.ChangeArms
import Derived.ChangeSame
import Derived.Lib.SmallJoins
import Derived.DataReads
import Derived.DataElems
import Derived.Deep.Strs
namespace Go.Proofs.YtlggjfhoecaelaaGreatDoor.P
open Go.RowKit Go.ChangeShapes Go.Proofs.YtlggjfhoecaelaaGreatDoorW.PrintWords Go.Proofs.YtlggjfhoecaelaaGreatDoorW.PrintLast
/-- What a reading of type t says: the cells hold a value of kind d, and 'ok' holds of it. -/
def Rd {α : Type} (P : Program) (t : TypeId) (d : Kd α) (ok : α → Prop) : Prop :=
  ∀ {H : Type} {enc : TypeId × Value → H} {w : World} {base : Nat} {spare : Nat → Bool} {held : Bool} {fuel : Nat} {cs : List Value} {x : DataW H × List MemPlace},
    DataW.trod enc P w base spare held fuel t cs = some x → ∃ a : α, d.K w a cs ∧ ok a
theorem Rd.int {P : Program} {t : TypeId} {k : IntKind} (hu : P.underlying t = some (.int k)) : Rd P t (Kd.int k) (fun a => (Lit.int k a).wf = true) := by
  intro H enc w base spare held fuel cs x h
  obtain ⟨a, rfl, _, hw⟩ := DataW.trod_int hu h
  exact ⟨a, rfl, hw⟩
theorem Rd.bool {P : Program} {t : TypeId} (hu : P.underlying t = some .bool) : Rd P t Kd.bool (fun _ => True) := by
  intro H enc w base spare held fuel cs x h
  obtain ⟨a, rfl, _⟩ := DataW.trod_bool hu h
  exact ⟨a, rfl, trivial⟩
theorem Rd.string {P : Program} {t : TypeId} (hu : P.underlying t = some .string) : Rd P t Kd.string (fun s => s.size ≤ 9223372036854775807) := by
  intro H enc w base spare held fuel cs x h
  obtain ⟨a, rfl, _, hs⟩ := DataW.trod_string hu h
  exact ⟨a, rfl, hs⟩
theorem list_of {α : Type} {p : Nat → α → Prop} : ∀ n : Nat, (∀ i, i < n → ∃ a, p i a) → ∃ xs : List α, xs.length = n ∧ ∀ (j : Nat) (a : α), xs[j]? = some a → p j a
  | 0, _ => ⟨[], rfl, fun j a h => by simp at h⟩
  | n + 1, h => by
    obtain ⟨xs, hl, hx⟩ := list_of n (fun i hi => h i (by omega))
    obtain ⟨a, ha⟩ := h n (by omega)
    refine ⟨xs ++ [a], by simp [hl], fun j b hb => ?_⟩
    by_cases hj : j < n
    · rw [List.getElem?_append_left (by omega)] at hb
      exact hx j b hb
    · rw [List.getElem?_append_right (by omega)] at hb
      have : j = n := by
        by_cases e : j = n
        · exact e
        · rw [List.getElem?_eq_none (by simp; omega)] at hb
          simp at hb
      subst this
      rw [hl, Nat.sub_self] at hb
      simp at hb
      subst hb
      exact ha
theorem Rd.slice {α : Type} {P : Program} {t e : TypeId} {d : Kd α} {ok : α → Prop} (hu : P.underlying t = some (.slice e)) (hc : P.cellsOf e = d.sz) (hd : Rd P e d ok) :
    Rd P t (Kd.slice e d) (fun xs => xs.length ≤ 9223372036854775807 ∧ ∀ x ∈ xs, ok x) := by
  intro H enc w base spare held fuel cs x h
  rcases Go.Deep.open_slice hu h with ⟨rfl, _⟩ | ⟨a, len, cap, m, n, D, Pl, rfl, _, hl, hm, hmm, _, hx⟩
  · exact ⟨[], ⟨none, 0, rfl, Nat.le_refl _, rfl, by simp, fun h0 => absurd h0 (by simp)⟩, by simp, by simp⟩
  · have hlm : len ≤ m := by rw [hmm]; split <;> omega
    obtain ⟨xs, hxl, hxs⟩ := list_of (p := fun i a' => ∃ cs', w.cells? base (a.add (i * P.cellsOf e)) (P.cellsOf e) = some cs' ∧ d.K w a' cs' ∧ ok a') len (fun i hi => by
      obtain ⟨cs', h1, h2⟩ := hx i (by omega)
      obtain ⟨a', h3, h4⟩ := hd h2
      exact ⟨a', cs', h1, h3, h4⟩)
    have hmax : len ≤ 9223372036854775807 := by
      simp only [maxLen] at hm
      omega
    subst hxl
    refine ⟨xs, ⟨some a, cap, rfl, hl, rfl, hmax, fun _ => ⟨a, rfl, fun j p hp => ?_⟩⟩, hmax, fun y hy => ?_⟩
    · obtain ⟨cs', h1, h2, _⟩ := hxs j p hp
      obtain ⟨_, hlen, hcell⟩ := World.cells?_some h1
      refine ⟨cs', by rw [hlen, hc], h2, fun i u hu' => ?_⟩
      have hi : i < P.cellsOf e := by
        rw [← hlen]
        exact (List.getElem?_eq_some_iff.1 hu').1
      have hq := hcell i hi
      rw [hu', Addr.add_add, hc] at hq
      exact hq
    · obtain ⟨j, hj⟩ := List.mem_iff_getElem?.1 hy
      obtain ⟨_, _, _, h3⟩ := hxs j y hj
      exact h3

end Go.Proofs.YtlggjfhoecaelaaGreatDoor.P
