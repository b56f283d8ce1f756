-- Printed by wip/print (my turned copy of the kit's print) out of the translation; Lean checks it.
import Derived.Test.YtlggjfhoecaelaaGreatDoorP0
namespace Go.Proofs.YtlggjfhoecaelaaGreatDoor.P
open Go.RowKit Go.Proofs.YtlggjfhoecaelaaGreatDoorW.PrintWords Go.Proofs.YtlggjfhoecaelaaGreatDoorW.PrintLast Go.Proofs.YtlggjfhoecaelaaGreatDoorW.PrintMore
attribute [local go_sem] max2_int min2_int max_two min_two max_three min_three max_four min_four   -- for this text's walks alone
set_option linter.unusedVariables false
set_option linter.unusedSimpArgs false

theorem set2_eq_ (a b c : Value) (X Y : Int) (h : X = Y) : (#[a, b, c] : Array Value).setIfInBounds 2 (.int .u8 X) = #[a, b, .int .u8 Y] := by subst h; rfl

/-! ### laws_f6big: function 4 -/
def laws_f6big.f (l0 : List Int) : Option (Bool) := some (decide ((l0.length : Int) > 4096))
set_option maxHeartbeats 8000000 in
set_option maxRecDepth 100000 in
theorem laws_f6big.calls (A0 : Option Addr) (c0 : Nat) (l0 : List Int) (r : Bool) (w : World) (AB : Kd.C (Kd.int .u8) w A0 l0.length l0) (AA : l0.length ≤ c0) (h : laws_f6big.f l0 = some r) :
    Calls Tryz.prog 4 #[.slice A0 l0.length c0] w fun e w' => e = .returned (.bool r) ∧ Drawn0 w w' := by
 have AD := ak AB
 have AC := ak AA
 clear AB AA
 have H := h
 unfold laws_f6big.f at H
 clear h
 obtain rfl := Option.some.inj H
 go_enter Tryz.func4, Tryz.ntmps4
 go_wp2
 go_ret
 exact ⟨by first | rfl | (simp; done) | (simp [*]; done), by repeat (first | exact Drawn0.refl _ | apply Drawn0.step)⟩
/-- A state of type 86 at block g of W; what its slices lead to came in by w0. -/
def IsS86 (w0 W : World) (g : Nat) (f0 : List Int) (f1 : Int) (f2 : Int) : Prop := ∃ A0 c0, W.heap[g]? = some (.cells #[.slice A0 f0.length c0, .int .i64 f1, .int .u64 f2] 86 (0, 0)) ∧ w0.heap.size ≤ g ∧ Kd.C (Kd.int .u8) w0 A0 f0.length f0
theorem IsS86.grown {w0 W : World} {g : Nat} {f0 : List Int} {f1 : Int} {f2 : Int} {W1 : World} {row : Option Nat} (h : IsS86 w0 W g f0 f1 f2) (hw : W.grownBy W1 row) (hne : some g ≠ row) : IsS86 w0 W1 g f0 f1 f2 := by
  obtain ⟨A0, c0, hb, hg, AA⟩ := h
  exact ⟨A0, c0, blk_grown hb hw hne, hg, AA⟩
theorem IsS86.own_neN {w0 W : World} {g : Nat} {f0 : List Int} {f1 : Int} {f2 : Int} {α : Type} {d : Kd α} {e : Nat} {base : Nat} {ok : Nat → Prop} {v : Value} {xs : List α} (h : IsS86 w0 W g f0 f1 f2) (ho : Kd.N d e W base ok v xs) (ht : e ≠ 86) : some g ≠ v.ownBlock := by
  obtain ⟨A0, c0, hb, hg, AA⟩ := h
  exact Kd.N_ne ho hb ht
theorem IsS86.fresh {w0 W : World} {g : Nat} {f0 : List Int} {f1 : Int} {f2 : Int} (h : IsS86 w0 W g f0 f1 f2) : ∀ k, W.heap.size ≤ k → k ≠ g := by
  obtain ⟨A0, c0, hb, hg, AA⟩ := h
  exact Kd.freshB hb
theorem IsS86.kept {w0 W : World} {g : Nat} {f0 : List Int} {f1 : Int} {f2 : Int} {W1 : World} {S : Nat → Prop} (h : IsS86 w0 W g f0 f1 f2) (hk : Kept W W1 S) (hne : ¬ S g) : IsS86 w0 W1 g f0 f1 f2 := by
  obtain ⟨A0, c0, hb, hg, AA⟩ := h
  exact ⟨A0, c0, blk_kept hb hk hne, hg, AA⟩
theorem IsS86.below {w0 W : World} {g : Nat} {f0 : List Int} {f1 : Int} {f2 : Int} {W1 : World} (h : IsS86 w0 W g f0 f1 f2) (hw : Below W.heap.size W W1) : IsS86 w0 W1 g f0 f1 f2 := h.grown (grown_of_below hw none) (by simp)
theorem IsS86.alloc {w0 W : World} {g : Nat} {f0 : List Int} {f1 : Int} {f2 : Int} (h : IsS86 w0 W g f0 f1 f2) (o : Obj) : IsS86 w0 (W.alloc o) g f0 f1 f2 := h.below (below_alloc (Below.refl _ _) o)
theorem IsS86.drewN {w0 W : World} {g : Nat} {f0 : List Int} {f1 : Int} {f2 : Int} (h : IsS86 w0 W g f0 f1 f2) (m : Nat) : IsS86 w0 (W.drewN m) g f0 f1 f2 := h
theorem IsS86.drew {w0 W : World} {g : Nat} {f0 : List Int} {f1 : Int} {f2 : Int} (h : IsS86 w0 W g f0 f1 f2) : IsS86 w0 W.drew g f0 f1 f2 := h
theorem IsS86.at_ {w0 W : World} {g : Nat} {f0 : List Int} {f1 : Int} {f2 : Int} {w' : World} {m : Nat} (hq : W.drewN m = w') (h : IsS86 w0 W g f0 f1 f2) : IsS86 w0 w' g f0 f1 f2 := by subst hq; exact IsS86.drewN h m
theorem IsS86.apart {w0 W : World} {g : Nat} {f0 : List Int} {f1 : Int} {f2 : Int} {α : Type} {d : Kd α} {e : Nat} {base : Nat} {ok : Nat → Prop} {v : Value} {xs : List α} (h : IsS86 w0 W g f0 f1 f2) (ho : d.R e W base ok v xs) (ht : ∀ q, q ∈ e :: d.E → q ≠ 86) : d.R e W base (fun k => ok k ∧ k ≠ g) v xs := by
  obtain ⟨A0, c0, hb, hg, AA⟩ := h
  exact Kd.R_types ho hb ht
theorem IsS86.own_ne {w0 W : World} {g : Nat} {f0 : List Int} {f1 : Int} {f2 : Int} {α : Type} {d : Kd α} {e : Nat} {base : Nat} {ok : Nat → Prop} {v : Value} {xs : List α} (h : IsS86 w0 W g f0 f1 f2) (ho : d.R e W base ok v xs) (ht : e ≠ 86) : some g ≠ v.ownBlock := by
  obtain ⟨A0, c0, hb, hg, AA⟩ := h
  exact Kd.R_ne ho hb ht
theorem IsS86.apartQ {w0 W : World} {g : Nat} {f0 : List Int} {f1 : Int} {f2 : Int} {α : Type} {d : Kd α} {e : Nat} {base : Nat} {ok : Nat → Prop} {v : Value} {xs : List α} (h : IsS86 w0 W g f0 f1 f2) (ho : d.Q e W base ok v xs) (ht : ∀ q, q ∈ e :: d.E → q ≠ 86) : d.Q e W base (fun k => ok k ∧ k ≠ g) v xs := by
  obtain ⟨A0, c0, hb, hg, AA⟩ := h
  exact Kd.Q_types ho hb ht
theorem IsS86.own_neQ {w0 W : World} {g : Nat} {f0 : List Int} {f1 : Int} {f2 : Int} {α : Type} {d : Kd α} {e : Nat} {base : Nat} {ok : Nat → Prop} {v : Value} {xs : List α} (h : IsS86 w0 W g f0 f1 f2) (ho : d.Q e W base ok v xs) (ht : e ≠ 86) : some g ≠ v.ownBlock := by
  obtain ⟨A0, c0, hb, hg, AA⟩ := h
  exact Kd.Q_ne ho hb ht
theorem IsS86.apartS {w0 W : World} {g : Nat} {f0 : List Int} {f1 : Int} {f2 : Int} {α : Type} {d : Kd α} {e : Nat} {base : Nat} {ok : Nat → Prop} {v : Value} {xs : List α} (h : IsS86 w0 W g f0 f1 f2) (ho : d.S e W base ok v xs) (ht : ∀ q, q ∈ e :: d.E → q ≠ 86) : d.S e W base (fun k => ok k ∧ k ≠ g) v xs := by
  obtain ⟨A0, c0, hb, hg, AA⟩ := h
  exact Kd.S_types ho hb ht
theorem IsS86.own_neS {w0 W : World} {g : Nat} {f0 : List Int} {f1 : Int} {f2 : Int} {α : Type} {d : Kd α} {e : Nat} {base : Nat} {ok : Nat → Prop} {v : Value} {xs : List α} (h : IsS86 w0 W g f0 f1 f2) (ho : d.S e W base ok v xs) (ht : e ≠ 86) : some g ≠ v.ownBlock := by
  obtain ⟨A0, c0, hb, hg, AA⟩ := h
  exact Kd.S_ne ho hb ht
theorem IsS86.lt {w0 W : World} {g : Nat} {f0 : List Int} {f1 : Int} {f2 : Int} (h : IsS86 w0 W g f0 f1 f2) : g < W.heap.size := by
  obtain ⟨A0, c0, hb, hg, AA⟩ := h
  exact blk_lt hb
theorem IsS86.ge {w0 W : World} {g : Nat} {f0 : List Int} {f1 : Int} {f2 : Int} (h : IsS86 w0 W g f0 f1 f2) : w0.heap.size ≤ g := by
  obtain ⟨A0, c0, hb, hg, AA⟩ := h
  exact hg
theorem IsS86.ne_blk {w0 W : World} {g : Nat} {f0 : List Int} {f1 : Int} {f2 : Int} {a : Nat} {cs : Array Value} {t : TypeId} {fr : Nat × Nat} (h : IsS86 w0 W g f0 f1 f2) (AA : W.heap[a]? = some (.cells cs t fr)) (ht : t ≠ 86) : g ≠ a := by
  obtain ⟨A0, c0, hb, hg, AB⟩ := h
  rintro rfl
  rw [hb] at AA
  injection AA with AA
  injection AA with _ ht2
  exact ht ht2.symm
theorem IsS86.far {w0 W : World} {g : Nat} {f0 : List Int} {f1 : Int} {f2 : Int} {p : Addr} (h : IsS86 w0 W g f0 f1 f2) (hne : g ≠ p.block) (u : Value) : IsS86 w0 (W.setCell p u) g f0 f1 f2 := by
  obtain ⟨A0, c0, hb, hg, AA⟩ := h
  exact ⟨A0, c0, blk_far hb hne u, hg, AA⟩
theorem cellS86_0 {W : World} {g : Nat} {A0 : Option Addr} {c0 : Nat} {f0 : List Int} {f1 : Int} {f2 : Int} (h : W.heap[g]? = some (.cells #[.slice A0 f0.length c0, .int .i64 f1, .int .u64 f2] 86 (0, 0))) : W.cell? ⟨g, 0, none⟩ = some (.slice A0 f0.length c0) := (blk_cell h 0).trans rfl
theorem cellS86_1 {W : World} {g : Nat} {A0 : Option Addr} {c0 : Nat} {f0 : List Int} {f1 : Int} {f2 : Int} (h : W.heap[g]? = some (.cells #[.slice A0 f0.length c0, .int .i64 f1, .int .u64 f2] 86 (0, 0))) : W.cell? ⟨g, 1, none⟩ = some (.int .i64 f1) := (blk_cell h 1).trans rfl
theorem IsS86.set_1 {w0 W : World} {g : Nat} {f0 : List Int} {f1 : Int} {f2 : Int} (h : IsS86 w0 W g f0 f1 f2) (x : Int) : IsS86 w0 (W.setCell ⟨g, 1, none⟩ (.int .i64 x)) g f0 x f2 := by
  obtain ⟨A0, c0, hb, hg, AA⟩ := h
  exact ⟨A0, c0, by simpa using blk_set hb 1 (.int .i64 x), hg, AA⟩
theorem cellS86_2 {W : World} {g : Nat} {A0 : Option Addr} {c0 : Nat} {f0 : List Int} {f1 : Int} {f2 : Int} (h : W.heap[g]? = some (.cells #[.slice A0 f0.length c0, .int .i64 f1, .int .u64 f2] 86 (0, 0))) : W.cell? ⟨g, 2, none⟩ = some (.int .u64 f2) := (blk_cell h 2).trans rfl
theorem IsS86.set_2 {w0 W : World} {g : Nat} {f0 : List Int} {f1 : Int} {f2 : Int} (h : IsS86 w0 W g f0 f1 f2) (x : Int) : IsS86 w0 (W.setCell ⟨g, 2, none⟩ (.int .u64 x)) g f0 f1 x := by
  obtain ⟨A0, c0, hb, hg, AA⟩ := h
  exact ⟨A0, c0, by simpa using blk_set hb 2 (.int .u64 x), hg, AA⟩
theorem IsS86.new (w0 W : World) (A0 : Option Addr) (c0 : Nat) (f0 : List Int) (f1 : Int) (f2 : Int) (hB : Below w0.heap.size w0 W) (AA : Kd.C (Kd.int .u8) w0 A0 f0.length f0) : IsS86 w0 (W.alloc (.cells #[.slice A0 f0.length c0, .int .i64 f1, .int .u64 f2] 86)) W.heap.size f0 f1 f2 := ⟨A0, c0, by simpa using heap_alloc_new W _, hB.size, AA⟩

/-! ### spec_l00From: function 33 -/
def spec_l00From.f (l0 : List Int) : Option (List Int × Int × Int) := some (l0, 0, 0)
set_option maxHeartbeats 8000000 in
set_option maxRecDepth 100000 in
theorem spec_l00From.calls (A0 : Option Addr) (c0 : Nat) (l0 : List Int) (r1 : List Int) (r2 : Int) (r3 : Int) (w0 w : World) (hB : Below w0.heap.size w0 w) (AG : Kd.C (Kd.int .u8) w0 A0 l0.length l0) (AF : l0.length ≤ c0) (h : spec_l00From.f l0 = some (r1, r2, r3)) :
    Calls Tryz.prog 33 #[.slice A0 l0.length c0] w fun e w' => ∃ g_ : Nat, e = .returned (.pointer (some ⟨g_, 0, none⟩)) ∧ IsS86 w0 w' g_ r1 r2 r3 ∧ Below w0.heap.size w0 w' ∧ Below w.heap.size w w' := by
 have AI := Tryz.underlying86
 have AJ := ak AG
 have AK := ak AF
 clear AG AF
 have AC := ak (Below.refl w.heap.size w)
 have AH := ak hB.size
 have HB := ak hB
 clear hB
 have H := h
 unfold spec_l00From.f at H
 clear h
 simp only [Option.some.injEq, Prod.mk.injEq] at H
 obtain ⟨rfl, rfl, rfl⟩ := H
 go_enter Tryz.func33, Tryz.ntmps33
 go_wp2_with (first | ((with_reducible refine gate_dst (N := 5) rfl ?_); refine box_event ?hg (N := 5) ?hd (cs := #[.slice A0 l0.length c0, .int .i64 0, .int .u64 0]) (t := 86) ?hr ?_; (case hd => rfl); (case hg => rfl); (case hr => first | (go_simp; done) | (go_simp; rfl)); intro AA hg w2 hbox hb; have AE := ak (hbox); have AD := gS AC hg; have AB := ak ((Nat.le_trans AH.out (by rw [hg]; exact (below_size (zB AC.out)) : w.heap.size ≤ AA) : w0.heap.size ≤ AA)); replace AC := ak (below_step AC.out hb); replace HB := kB HB hb; clear hb hbox hg))
 go_ret
 exact ⟨_, rfl, (show IsS86 w0 _ AA l0 0 0 from ⟨_, _, by exact AE.out, AB.out, AJ.out⟩), zBG HB.out AB.out, by repeat (first | (with_reducible first | exact AC.out | apply below_alloc | apply pw_below_drewN | apply below_drew1 | refine below_set ?_ AD.out) | exact AC.out)⟩
/-! ### spec_l00Src_next: function 69 -/
def spec_l00Src_next.f (AB : List Int) (AA : Int) (AC : Int) : Option (Int × Int × Int) := if AA < (AB.length : Int) then (if 0 ≤ AA then (if (wrap64 (AA + 1)) ≤ (AB.length : Int) then (some (wrap64 (rd AB AA), wrap64 (AA + 1), IntKind.u64.wrap ((IntKind.u64.wrap ((IntKind.u64.wrap (AC * 6364136223846793005)) + (IntKind.u64.wrap (wrap64 (rd AB AA))))) + 1442695040888963407))) else (some (wrap64 (Go.bits .and .u64 ((IntKind.u64.wrap ((IntKind.u64.wrap ((IntKind.u64.wrap (AC * 6364136223846793005)) + (IntKind.u64.wrap (wrap64 (rd AB AA))))) + 1442695040888963407)) / 1099511627776) 255), wrap64 (AA + 1), IntKind.u64.wrap ((IntKind.u64.wrap ((IntKind.u64.wrap (AC * 6364136223846793005)) + (IntKind.u64.wrap (wrap64 (rd AB AA))))) + 1442695040888963407)))) else (none)) else (if (wrap64 (AA + 1)) ≤ (AB.length : Int) then (some (0, wrap64 (AA + 1), IntKind.u64.wrap ((IntKind.u64.wrap ((IntKind.u64.wrap (AC * 6364136223846793005)) + 0)) + 1442695040888963407))) else (some (wrap64 (Go.bits .and .u64 ((IntKind.u64.wrap ((IntKind.u64.wrap ((IntKind.u64.wrap (AC * 6364136223846793005)) + 0)) + 1442695040888963407)) / 1099511627776) 255), wrap64 (AA + 1), IntKind.u64.wrap ((IntKind.u64.wrap ((IntKind.u64.wrap (AC * 6364136223846793005)) + 0)) + 1442695040888963407))))
set_option maxHeartbeats 8000000 in
set_option maxRecDepth 100000 in
theorem spec_l00Src_next.calls (g : Nat) (AB : List Int) (AA : Int) (AO : Int) (r1 : Int) (r2 : Int) (r3 : Int) (w0 w : World) (hI : IsS86 w0 w g AB AA AO) (hB : Below w0.heap.size w0 w) (h : spec_l00Src_next.f AB AA AO = some (r1, r2, r3)) :
    Calls Tryz.prog 69 #[.pointer (some ⟨g, 0, none⟩)] w fun e w' => e = .returned (.int .i64 r1) ∧ IsS86 w0 w' g AB r2 r3 ∧ Below w0.heap.size w0 w' ∧ KeepBut w w' g none := by
 have AD := ak hI
 have HK := ak (KeepBut.refl w g none)
 have HL := ak hB.size
 clear hI
 have A3 := ak hB.size
 have HB := ak hB
 clear hB
 have H := h
 unfold spec_l00Src_next.f at H
 clear h
 by_cases c2 : AA < (AB.length : Int)
 {
 rw [if_pos c2] at H
 have Ah : decide (AA < (AB.length : Int)) = true := decide_eq_true c2
 clear c2
 by_cases c3 : 0 ≤ AA
 {
 rw [if_pos c3] at H
 have A2 : decide (0 ≤ AA) = true := decide_eq_true c3
 clear c3
 by_cases c4 : (wrap64 (AA + 1)) ≤ (AB.length : Int)
 {
 rw [if_pos c4] at H
 have Al : decide ((wrap64 (AA + 1)) ≤ (AB.length : Int)) = true := decide_eq_true c4
 (try (have Ax : decide ((IntKind.i64.wrap (AA + 1)) ≤ (AB.length : Int)) = true := by first | simpa only [i64_w, i32_w] using (show decide ((wrap64 (AA + 1)) ≤ (AB.length : Int)) = true from decide_eq_true c4) | simpa only [i64_w] using (show decide ((wrap64 (AA + 1)) ≤ (AB.length : Int)) = true from decide_eq_true c4)))
 clear c4
 simp only [Option.some.injEq, Prod.mk.injEq] at H
 obtain ⟨rfl, rfl, rfl⟩ := H
 obtain ⟨Aa, A1, AJ, Ae, AL⟩ := AD.out
 have Av := cellS86_0 AJ
 have Aq := cellS86_1 AJ
 have Ab := cellS86_2 AJ
 have A0 := blk_frozen AJ 1
 have Ap := blk_frozen AJ 2
 clear AJ Ae
 have AE : 0 ≤ (AA : Int) := of_decide_eq_true (by assumption)
 have AF : AA < (AB.length : Int) := of_decide_eq_true (by assumption)
 obtain ⟨AN, AM, AC⟩ := Kd.at_int AL AA AE AF
 cases AM
 replace AC := pw_cell_below HB.out AC
 replace AE := eq_true AE
 replace AF := eq_true AF
 go_enter Tryz.func69, Tryz.ntmps69
 go_wp2
 repeat (go_quiet (fail); try go_wp2)
 go_ret
 (try simp only [Int.add_zero])
 exact ⟨rfl, by repeat (first | (with_reducible first | exact AD.out | apply IsS86.alloc | apply IsS86.drewN | apply IsS86.drew | apply IsS86.set_1 | apply IsS86.set_2) | exact AD.out), by repeat (first | (with_reducible first | exact HB.out | apply below_alloc | apply pw_below_drewN | apply below_drew1 | refine below_set ?_ (IsS86.ge AD.out)) | exact HB.out), by repeat (first | (with_reducible first | exact HK.out | apply KeepBut.set_ | apply keep_drewN | apply keep_drew | apply keep_alloc) | exact HK.out)⟩
 }
 {
 rw [if_neg c4] at H
 have Al : decide ((wrap64 (AA + 1)) ≤ (AB.length : Int)) = false := decide_eq_false c4
 (try (have Ax : decide ((IntKind.i64.wrap (AA + 1)) ≤ (AB.length : Int)) = false := by first | simpa only [i64_w, i32_w] using (show decide ((wrap64 (AA + 1)) ≤ (AB.length : Int)) = false from decide_eq_false c4) | simpa only [i64_w] using (show decide ((wrap64 (AA + 1)) ≤ (AB.length : Int)) = false from decide_eq_false c4)))
 clear c4
 simp only [Option.some.injEq, Prod.mk.injEq] at H
 obtain ⟨rfl, rfl, rfl⟩ := H
 obtain ⟨AZ, Ai, AH, An, AK⟩ := AD.out
 have Ad := cellS86_0 AH
 have AQ := cellS86_1 AH
 have Aj := cellS86_2 AH
 have As := blk_frozen AH 1
 have Ay := blk_frozen AH 2
 clear AH An
 have AE : 0 ≤ (AA : Int) := of_decide_eq_true (by assumption)
 have AF : AA < (AB.length : Int) := of_decide_eq_true (by assumption)
 obtain ⟨AN, AM, AC⟩ := Kd.at_int AK AA AE AF
 cases AM
 replace AC := pw_cell_below HB.out AC
 replace AE := eq_true AE
 replace AF := eq_true AF
 go_enter Tryz.func69, Tryz.ntmps69
 go_wp2
 repeat (go_quiet (fail); try go_wp2)
 go_ret
 (try simp only [Int.add_zero])
 exact ⟨rfl, by repeat (first | (with_reducible first | exact AD.out | apply IsS86.alloc | apply IsS86.drewN | apply IsS86.drew | apply IsS86.set_1 | apply IsS86.set_2) | exact AD.out), by repeat (first | (with_reducible first | exact HB.out | apply below_alloc | apply pw_below_drewN | apply below_drew1 | refine below_set ?_ (IsS86.ge AD.out)) | exact HB.out), by repeat (first | (with_reducible first | exact HK.out | apply KeepBut.set_ | apply keep_drewN | apply keep_drew | apply keep_alloc) | exact HK.out)⟩
 }
 }
 · rw [if_neg c3] at H; exact absurd H (by simp)
 }
 {
 rw [if_neg c2] at H
 have Ah : decide (AA < (AB.length : Int)) = false := decide_eq_false c2
 clear c2
 by_cases c7 : (wrap64 (AA + 1)) ≤ (AB.length : Int)
 {
 rw [if_pos c7] at H
 have AU : decide ((wrap64 (AA + 1)) ≤ (AB.length : Int)) = true := decide_eq_true c7
 (try (have Ak : decide ((IntKind.i64.wrap (AA + 1)) ≤ (AB.length : Int)) = true := by first | simpa only [i64_w, i32_w] using (show decide ((wrap64 (AA + 1)) ≤ (AB.length : Int)) = true from decide_eq_true c7) | simpa only [i64_w] using (show decide ((wrap64 (AA + 1)) ≤ (AB.length : Int)) = true from decide_eq_true c7)))
 clear c7
 simp only [Option.some.injEq, Prod.mk.injEq] at H
 obtain ⟨rfl, rfl, rfl⟩ := H
 obtain ⟨Ao, AV, AI, AY, Am⟩ := AD.out
 have AT := cellS86_0 AI
 have AW := cellS86_1 AI
 have Ag := cellS86_2 AI
 have At := blk_frozen AI 1
 have Au := blk_frozen AI 2
 clear AI AY
 go_enter Tryz.func69, Tryz.ntmps69
 go_wp2
 repeat (go_quiet (fail); try go_wp2)
 go_ret
 (try simp only [Int.add_zero])
 exact ⟨rfl, by repeat (first | (with_reducible first | exact AD.out | apply IsS86.alloc | apply IsS86.drewN | apply IsS86.drew | apply IsS86.set_1 | apply IsS86.set_2) | exact AD.out), by repeat (first | (with_reducible first | exact HB.out | apply below_alloc | apply pw_below_drewN | apply below_drew1 | refine below_set ?_ (IsS86.ge AD.out)) | exact HB.out), by repeat (first | (with_reducible first | exact HK.out | apply KeepBut.set_ | apply keep_drewN | apply keep_drew | apply keep_alloc) | exact HK.out)⟩
 }
 {
 rw [if_neg c7] at H
 have AU : decide ((wrap64 (AA + 1)) ≤ (AB.length : Int)) = false := decide_eq_false c7
 (try (have Ak : decide ((IntKind.i64.wrap (AA + 1)) ≤ (AB.length : Int)) = false := by first | simpa only [i64_w, i32_w] using (show decide ((wrap64 (AA + 1)) ≤ (AB.length : Int)) = false from decide_eq_false c7) | simpa only [i64_w] using (show decide ((wrap64 (AA + 1)) ≤ (AB.length : Int)) = false from decide_eq_false c7)))
 clear c7
 simp only [Option.some.injEq, Prod.mk.injEq] at H
 obtain ⟨rfl, rfl, rfl⟩ := H
 obtain ⟨Az, Ar, AG, Af, AR⟩ := AD.out
 have Aw := cellS86_0 AG
 have Ac := cellS86_1 AG
 have AX := cellS86_2 AG
 have AS := blk_frozen AG 1
 have AP := blk_frozen AG 2
 clear AG Af
 go_enter Tryz.func69, Tryz.ntmps69
 go_wp2
 repeat (go_quiet (fail); try go_wp2)
 go_ret
 (try simp only [Int.add_zero])
 exact ⟨rfl, by repeat (first | (with_reducible first | exact AD.out | apply IsS86.alloc | apply IsS86.drewN | apply IsS86.drew | apply IsS86.set_1 | apply IsS86.set_2) | exact AD.out), by repeat (first | (with_reducible first | exact HB.out | apply below_alloc | apply pw_below_drewN | apply below_drew1 | refine below_set ?_ (IsS86.ge AD.out)) | exact HB.out), by repeat (first | (with_reducible first | exact HK.out | apply KeepBut.set_ | apply keep_drewN | apply keep_drew | apply keep_alloc) | exact HK.out)⟩
 }
 }
/-! ### spec_l00Src_pick: function 49 -/
def spec_l00Src_pick.f (AC : List Int) (AD : Int) (AE : Int) (a1 : Int) : Option (Int × Int × Int) := if a1 ≤ 1 then (some (0, AD, AE)) else ((spec_l00Src_next.f AC AD AE).bind fun AA => (if a1 > 200 then ((spec_l00Src_next.f AC AA.2.1 AA.2.2).bind fun AB => (if a1 = 0 then (none) else (some (Int.tmod (wrap64 ((wrap64 (AA.1 * 256)) + AB.1)) a1, AB.2.1, AB.2.2)))) else (if a1 = 0 then (none) else (some (Int.tmod AA.1 a1, AA.2.1, AA.2.2)))))
set_option maxHeartbeats 8000000 in
set_option maxRecDepth 100000 in
theorem spec_l00Src_pick.calls (g : Nat) (AB : List Int) (AD : Int) (AC : Int) (a1 : Int) (r1 : Int) (r2 : Int) (r3 : Int) (w0 w : World) (hI : IsS86 w0 w g AB AD AC) (hB : Below w0.heap.size w0 w) (h : spec_l00Src_pick.f AB AD AC a1 = some (r1, r2, r3)) :
    Calls Tryz.prog 49 #[.pointer (some ⟨g, 0, none⟩), .int .i64 a1] w fun e w' => e = .returned (.int .i64 r1) ∧ IsS86 w0 w' g AB r2 r3 ∧ Below w0.heap.size w0 w' ∧ KeepBut w w' g none := by
 have AA := ak hI
 have HK := ak (KeepBut.refl w g none)
 have HL := ak hB.size
 clear hI
 have AT := ak hB.size
 have HB := ak hB
 clear hB
 have H := h
 unfold spec_l00Src_pick.f at H
 clear h
 by_cases c3 : a1 ≤ 1
 {
 rw [if_pos c3] at H
 have AM : decide (a1 ≤ 1) = true := decide_eq_true c3
 clear c3
 simp only [Option.some.injEq, Prod.mk.injEq] at H
 obtain ⟨rfl, rfl, rfl⟩ := H
 go_enter Tryz.func49, Tryz.ntmps49
 go_wp2
 go_ret
 exact ⟨rfl, by repeat (first | (with_reducible first | exact AA.out | apply IsS86.alloc | apply IsS86.drewN | apply IsS86.drew | apply IsS86.set_1 | apply IsS86.set_2) | exact AA.out), by repeat (first | (with_reducible first | exact HB.out | apply below_alloc | apply pw_below_drewN | apply below_drew1 | refine below_set ?_ (IsS86.ge AA.out)) | exact HB.out), by repeat (first | (with_reducible first | exact HK.out | apply KeepBut.set_ | apply keep_drewN | apply keep_drew | apply keep_alloc) | exact HK.out)⟩
 }
 {
 rw [if_neg c3] at H
 have AM : decide (a1 ≤ 1) = false := decide_eq_false c3
 clear c3
 replace H := Option.bind_eq_some_iff.mp H
 obtain ⟨⟨AG, AF, AE⟩, AQ, H⟩ := H
 have A4 := ak AQ
 clear AQ
 by_cases c5 : a1 > 200
 {
 rw [if_pos c5] at H
 have AK : decide (200 < a1) = true := decide_eq_true c5
 clear c5
 replace H := Option.bind_eq_some_iff.mp H
 obtain ⟨⟨AJ, AI, AL⟩, AN, H⟩ := H
 have A6 := ak AN
 clear AN
 by_cases c7 : a1 = 0
 · rw [if_pos c7] at H; exact absurd H (by simp)
 {
 rw [if_neg c7] at H
 have AS : (a1 == 0) = false := beq_eq_false_iff_ne.mpr c7
 have AR : (a1 != 0) = true := bne_iff_ne.mpr c7
 simp only [Option.some.injEq, Prod.mk.injEq] at H
 obtain ⟨rfl, rfl, rfl⟩ := H
 go_enter Tryz.func49, Tryz.ntmps49
 go_wp2_with (first | ((with_reducible refine gate_callee (f := 69) rfl ?_); refine goesL_ (some 9) rfl rfl Tryz.func69 (by kernel_rfl) rfl #[.pointer (some ⟨g, 0, none⟩)] rfl gl_ ?_; (with_reducible refine (spec_l00Src_next.calls g AB AD AC AG AF AE w0 _ ?side1 ?side2 A4.out).mono ?_); (case side1 => repeat (first | (with_reducible first | exact AA.out | apply IsS86.alloc | apply IsS86.drewN | apply IsS86.drew | apply IsS86.set_1 | apply IsS86.set_2) | exact AA.out)); (case side2 => repeat (first | (with_reducible first | exact HB.out | apply below_alloc | apply pw_below_drewN | apply below_drew1 | refine below_set ?_ (IsS86.ge AA.out)) | exact HB.out)); rintro e w8 ⟨rfl, hi, hb, hk⟩; refine ⟨_, rfl, ?_⟩; replace HK := ak (KeepBut.trans (by repeat (first | (with_reducible first | exact HK.out | apply KeepBut.set_ | apply keep_drewN | apply keep_drew | apply keep_alloc) | exact HK.out)) hk (.inl rfl)); replace HB := ak (hb); replace AA := ak (hi); (try clear hb); (try clear hk); (try clear hi)) | ((with_reducible refine gate_callee (f := 69) rfl ?_); refine goesL_ (some 15) rfl rfl Tryz.func69 (by kernel_rfl) rfl #[.pointer (some ⟨g, 0, none⟩)] rfl gl_ ?_; (with_reducible refine (spec_l00Src_next.calls g AB AF AE AJ AI AL w0 _ ?side1 ?side2 A6.out).mono ?_); (case side1 => repeat (first | (with_reducible first | exact AA.out | apply IsS86.alloc | apply IsS86.drewN | apply IsS86.drew | apply IsS86.set_1 | apply IsS86.set_2) | exact AA.out)); (case side2 => repeat (first | (with_reducible first | exact HB.out | apply below_alloc | apply pw_below_drewN | apply below_drew1 | refine below_set ?_ (IsS86.ge AA.out)) | exact HB.out)); rintro e w9 ⟨rfl, hi, hb, hk⟩; refine ⟨_, rfl, ?_⟩; replace HK := ak (KeepBut.trans (by repeat (first | (with_reducible first | exact HK.out | apply KeepBut.set_ | apply keep_drewN | apply keep_drew | apply keep_alloc) | exact HK.out)) hk (.inl rfl)); replace HB := ak (hb); replace AA := ak (hi); (try clear hb); (try clear hk); (try clear hi)))
 go_ret
 exact ⟨rfl, by repeat (first | (with_reducible first | exact AA.out | apply IsS86.alloc | apply IsS86.drewN | apply IsS86.drew | apply IsS86.set_1 | apply IsS86.set_2) | exact AA.out), by repeat (first | (with_reducible first | exact HB.out | apply below_alloc | apply pw_below_drewN | apply below_drew1 | refine below_set ?_ (IsS86.ge AA.out)) | exact HB.out), by repeat (first | (with_reducible first | exact HK.out | apply KeepBut.set_ | apply keep_drewN | apply keep_drew | apply keep_alloc) | exact HK.out)⟩
 }
 }
 {
 rw [if_neg c5] at H
 have AK : decide (200 < a1) = false := decide_eq_false c5
 clear c5
 by_cases AH : a1 = 0
 · rw [if_pos AH] at H; exact absurd H (by simp)
 {
 rw [if_neg AH] at H
 have AO : (a1 == 0) = false := beq_eq_false_iff_ne.mpr AH
 have AP : (a1 != 0) = true := bne_iff_ne.mpr AH
 simp only [Option.some.injEq, Prod.mk.injEq] at H
 obtain ⟨rfl, rfl, rfl⟩ := H
 go_enter Tryz.func49, Tryz.ntmps49
 go_wp2_with (first | ((with_reducible refine gate_callee (f := 69) rfl ?_); refine goesL_ (some 9) rfl rfl Tryz.func69 (by kernel_rfl) rfl #[.pointer (some ⟨g, 0, none⟩)] rfl gl_ ?_; (with_reducible refine (spec_l00Src_next.calls g AB AD AC AG AF AE w0 _ ?side1 ?side2 A4.out).mono ?_); (case side1 => repeat (first | (with_reducible first | exact AA.out | apply IsS86.alloc | apply IsS86.drewN | apply IsS86.drew | apply IsS86.set_1 | apply IsS86.set_2) | exact AA.out)); (case side2 => repeat (first | (with_reducible first | exact HB.out | apply below_alloc | apply pw_below_drewN | apply below_drew1 | refine below_set ?_ (IsS86.ge AA.out)) | exact HB.out)); rintro e AU ⟨rfl, hi, hb, hk⟩; refine ⟨_, rfl, ?_⟩; replace HK := ak (KeepBut.trans (by repeat (first | (with_reducible first | exact HK.out | apply KeepBut.set_ | apply keep_drewN | apply keep_drew | apply keep_alloc) | exact HK.out)) hk (.inl rfl)); replace HB := ak (hb); replace AA := ak (hi); (try clear hb); (try clear hk); (try clear hi)))
 go_ret
 exact ⟨rfl, by repeat (first | (with_reducible first | exact AA.out | apply IsS86.alloc | apply IsS86.drewN | apply IsS86.drew | apply IsS86.set_1 | apply IsS86.set_2) | exact AA.out), by repeat (first | (with_reducible first | exact HB.out | apply below_alloc | apply pw_below_drewN | apply below_drew1 | refine below_set ?_ (IsS86.ge AA.out)) | exact HB.out), by repeat (first | (with_reducible first | exact HK.out | apply KeepBut.set_ | apply keep_drewN | apply keep_drew | apply keep_alloc) | exact HK.out)⟩
 }
 }
 }
/-! ### spec_l03Drawn: function 32 -/
def spec_l03Drawn.l0 : Nat → Int → List Int → Int → Int → Int → List Int → Option (Int × List Int × Int × Int)
  | 0, _, _, _, _, _, _ => none
  | k + 1, x4, AD, AF, AE, AA, AB => if x4 > 0 then ((spec_l00Src_pick.f AD AF AE 6).bind fun AC => (if AB.length < 70368744177664 then (spec_l03Drawn.l0 k (wrap64 (x4 - 1)) AD AC.2.1 AC.2.2 (IntKind.i16.wrap (AA + (IntKind.i16.wrap (wrap64 (1 + AC.1))))) (AB ++ [IntKind.i16.wrap (AA + (IntKind.i16.wrap (wrap64 (1 + AC.1))))])) else (none))) else (some (AA, AB, AF, AE))
def spec_l03Drawn.f (k : Nat) (AB : List Int) (AC : Int) (AD : Int) : Option (Int × List Int × Int × Int) := (spec_l00Src_pick.f AB AC AD 7).bind fun AA => (spec_l03Drawn.l0 k (wrap64 (1 + AA.1)) AB AA.2.1 AA.2.2 0 (([0] : List Int)))
def spec_l03Drawn.T5 : Bool × List (List Nat × List Nat) := (true, [([], []), ([0], [0]), ([], []), ([2], [2]), ([3], [3]), ([4], [4]), ([1, 5], [1, 5]), ([0, 1, 2, 3, 4, 5, 6], []), ([7, 6, 3, 0, 1, 2, 3, 4, 5, 6], [6, 7])])
def spec_l03Drawn.B5 : List Nat := [0, 1, 0, 4, 12, 28, 63, 127, 255]
theorem spec_l03Drawn.tab5 : rtab .any (opsOf Tryz.f32 5) = spec_l03Drawn.T5 := by kernel_rfl
theorem spec_l03Drawn.bits5 : waitsOk spec_l03Drawn.T5.2 spec_l03Drawn.B5 = true := by kernel_rfl
set_option maxHeartbeats 8000000 in
set_option maxRecDepth 100000 in
theorem spec_l03Drawn.calls (k : Nat) (g : Nat) (AN : List Int) (AX : Int) (AZ : Int) (r1 : Int) (r2 : List Int) (r3 : Int) (r4 : Int) (w0 w : World) (hI : IsS86 w0 w g AN AX AZ) (hB : Below w0.heap.size w0 w) (h : spec_l03Drawn.f k AN AX AZ = some (r1, r2, r3, r4)) :
    Calls Tryz.prog 32 #[.pointer (some ⟨g, 0, none⟩)] w fun e w' => ∃ v1_ : Value, e = .returned (.agg #[.int .i16 r1, v1_]) ∧ Kd.R (Kd.int .i16) 24 w' w.heap.size (fun _ => True) v1_ r2 ∧ IsS86 w0 w' g AN r3 r4 ∧ Below w0.heap.size w0 w' ∧ KeepBut w w' g none := by
 have Bu := Tryz.underlying27
 have AK := ak hI
 have HK := ak (KeepBut.refl w g none)
 have HL := ak hB.size
 clear hI
 have BZ := ak hB.size
 have HB := ak hB
 clear hB
 have H := h
 unfold spec_l03Drawn.f at H
 clear h
 obtain ⟨Ae, Ab⟩ : ∃ y_ : List Int, y_ = (([0] : List Int)) := ⟨_, rfl⟩
 replace H : ((spec_l00Src_pick.f AN AX AZ 7).bind fun Ad => (spec_l03Drawn.l0 k (wrap64 (1 + Ad.1)) AN Ad.2.1 Ad.2.2 0 Ae)) = some (r1, r2, r3, r4) := by first | (rw [Ab]; with_reducible exact H) | (have Ao := (Option.bind_some _ _).symm.trans H; rw [Ab]; with_reducible exact Ao) | (have Ao := (Option.bind_some _ _).symm.trans H; with_reducible exact Ao) | with_reducible exact H | (rw [Ab]; exact H) | exact H
 have Am := ak Ab
 clear Ab
 replace H := Option.bind_eq_some_iff.mp H
 obtain ⟨⟨Au, At, As⟩, BW, H⟩ := H
 have A2 := ak BW
 clear BW
 have H' := ak H
 clear H
 go_enter Tryz.func32, Tryz.ntmps32
 go_wp2_with (first | ((with_reducible refine gate_dst (N := 2) rfl ?_); refine box_event ?hg (N := 2) ?hd (cs := #[.int .i16 0, .slice none 0 0]) (t := 27) ?hr ?_; (case hd => rfl); (case hg => rfl); (case hr => first | (go_simp; done) | (go_simp; rfl)); intro AL hg w3 hbox hb; have AD := ak (hbox); have AM := ak ((by rw [hg]; exact (keep_size (w := w) (g := g) (row := none) (by repeat (first | (with_reducible first | exact HK.out | apply KeepBut.set_ | apply keep_drewN | apply keep_drew | apply keep_alloc) | exact HK.out))) : w.heap.size ≤ AL)); have AS := ak ((Nat.le_trans BZ.out (by rw [hg]; exact (keep_size (w := w) (g := g) (row := none) (by repeat (first | (with_reducible first | exact HK.out | apply KeepBut.set_ | apply keep_drewN | apply keep_drew | apply keep_alloc) | exact HK.out))) : w.heap.size ≤ AL) : w0.heap.size ≤ AL)); have AE := ak ((by rw [hg]; exact Nat.ne_of_lt (IsS86.lt (show IsS86 w0 _ g AN AX AZ from by repeat (first | (with_reducible first | exact AK.out | apply IsS86.alloc | apply IsS86.drewN | apply IsS86.drew | apply IsS86.set_1 | apply IsS86.set_2) | exact AK.out))) : g ≠ AL)); have AY := ak ((by rw [hg]; exact Nat.ne_of_gt (IsS86.lt (show IsS86 w0 _ g AN AX AZ from by repeat (first | (with_reducible first | exact AK.out | apply IsS86.alloc | apply IsS86.drewN | apply IsS86.drew | apply IsS86.set_1 | apply IsS86.set_2) | exact AK.out))) : AL ≠ g)); replace HK := ak (KeepBut.trans (by repeat (first | (with_reducible first | exact HK.out | apply KeepBut.set_ | apply keep_drewN | apply keep_drew | apply keep_alloc) | exact HK.out)) (KeepBut.of_below hb g none) (.inl rfl)); replace HB := ak (below_step (by repeat (first | (with_reducible first | exact HB.out | apply below_alloc | apply pw_below_drewN | apply below_drew1 | refine below_set ?_ (IsS86.ge AK.out)) | exact HB.out)) hb); replace AK := ak (IsS86.below (by repeat (first | (with_reducible first | exact AK.out | apply IsS86.alloc | apply IsS86.drewN | apply IsS86.drew | apply IsS86.set_1 | apply IsS86.set_2) | exact AK.out)) hb); clear hb hbox hg) | ((with_reducible refine gate_dst (N := 5) rfl ?_); refine Kd.R_lit (Kd.int .i16) _ 24 ?hg (N := 5) ?hd (xs := ([0] : List Int)) (inner := [.int .i16 0]) (ok := fun _ => True) (okp := fun _ => True) ?hr ?hp (fun _ hk => hk) trivial (Below.refl _ _) (Nat.le_refl _) (by simp) ?_; (case hd => rfl); (case hg => rfl); (case hr => first | (go_simp; done) | (go_simp; rfl)); (case hp => exact (Reps.one (show Kd.M (Kd.int .i16) _ _ _ 0 [.int .i16 0] from rfl) (Reps.none _ _))); intro Bs w4 Aq hb Bq Az; clear Bq Az; (first | rw [← Am.out] at Aq | (simp only [Int.reduceToNat] at Aq; rw [← Am.out] at Aq)); have AV := ak (Kd.R_lower Aq (keep_size (w := w) (g := g) (row := none) (by repeat (first | (with_reducible first | exact HK.out | apply KeepBut.set_ | apply keep_drewN | apply keep_drew | apply keep_alloc | refine keep_far ?_ AM.out _) | exact HK.out)))); replace AD := kK AD hb; replace HK := ak (KeepBut.trans (by repeat (first | (with_reducible first | exact HK.out | apply KeepBut.set_ | apply keep_drewN | apply keep_drew | apply keep_alloc | refine keep_far ?_ AM.out _) | exact HK.out)) (KeepBut.of_below hb g none) (.inl rfl)); replace HB := ak (below_step (by repeat (first | (with_reducible first | exact HB.out | apply below_alloc | apply pw_below_drewN | apply below_drew1 | refine below_set ?_ (IsS86.ge AK.out) | refine below_set ?_ AS.out) | exact HB.out)) hb); replace AK := ak (IsS86.below (by repeat (first | (with_reducible first | exact AK.out | apply IsS86.alloc | apply IsS86.drewN | apply IsS86.drew | apply IsS86.set_1 | apply IsS86.set_2 | refine IsS86.far ?_ AE.out _) | exact AK.out)) hb); clear hb Aq; obtain ⟨BN, BP, Bp⟩ := Kd.R_slice AV.out; subst Bp) | ((with_reducible refine gate_dst (N := 3) rfl ?_); refine box_event ?hg (N := 3) ?hd (cs := #[.int .i16 0, .slice none 0 0]) (t := 27) ?hr ?_; (case hd => rfl); (case hg => rfl); (case hr => first | (go_simp; done) | (go_simp; rfl)); intro AF hg w7 hbox hb; have AB := ak (hbox); have AT := ak ((by rw [hg]; exact (keep_size (w := w) (g := g) (row := none) (by repeat (first | (with_reducible first | exact HK.out | apply KeepBut.set_ | apply keep_drewN | apply keep_drew | apply keep_alloc | refine keep_far ?_ AM.out _) | exact HK.out))) : w.heap.size ≤ AF)); have AW := ak ((Nat.le_trans BZ.out (by rw [hg]; exact (keep_size (w := w) (g := g) (row := none) (by repeat (first | (with_reducible first | exact HK.out | apply KeepBut.set_ | apply keep_drewN | apply keep_drew | apply keep_alloc | refine keep_far ?_ AM.out _) | exact HK.out))) : w.heap.size ≤ AF) : w0.heap.size ≤ AF)); have AH := nL AD hg; have AO := nG AD hg; have AJ := ak ((by rw [hg]; exact Nat.ne_of_lt (IsS86.lt (show IsS86 w0 _ g AN AX AZ from by repeat (first | (with_reducible first | exact AK.out | apply IsS86.alloc | apply IsS86.drewN | apply IsS86.drew | apply IsS86.set_1 | apply IsS86.set_2 | refine IsS86.far ?_ AE.out _) | exact AK.out))) : g ≠ AF)); have AR := ak ((by rw [hg]; exact Nat.ne_of_gt (IsS86.lt (show IsS86 w0 _ g AN AX AZ from by repeat (first | (with_reducible first | exact AK.out | apply IsS86.alloc | apply IsS86.drewN | apply IsS86.drew | apply IsS86.set_1 | apply IsS86.set_2 | refine IsS86.far ?_ AE.out _) | exact AK.out))) : AF ≠ g)); replace AV := kR AV hb; replace AD := kK AD hb; replace HK := ak (KeepBut.trans (by repeat (first | (with_reducible first | exact HK.out | apply KeepBut.set_ | apply keep_drewN | apply keep_drew | apply keep_alloc | refine keep_far ?_ AM.out _) | exact HK.out)) (KeepBut.of_below hb g none) (.inl rfl)); replace HB := ak (below_step (by repeat (first | (with_reducible first | exact HB.out | apply below_alloc | apply pw_below_drewN | apply below_drew1 | refine below_set ?_ (IsS86.ge AK.out) | refine below_set ?_ AS.out) | exact HB.out)) hb); replace AK := ak (IsS86.below (by repeat (first | (with_reducible first | exact AK.out | apply IsS86.alloc | apply IsS86.drewN | apply IsS86.drew | apply IsS86.set_1 | apply IsS86.set_2 | refine IsS86.far ?_ AE.out _) | exact AK.out)) hb); clear hb hbox hg; have Bo := AO.out; have Bt := AH.out; have Bn := AR.out; have Br := AJ.out; obtain ⟨Al, Ak, Ah, Ai⟩ := cz2 w7 AB) | ((with_reducible refine gate_callee (f := 49) rfl ?_); refine goesL_ (some 8) rfl rfl Tryz.func49 (by kernel_rfl) rfl #[.pointer (some ⟨g, 0, none⟩), .int .i64 7] rfl gl_ ?_; (with_reducible refine (spec_l00Src_pick.calls g AN AX AZ 7 Au At As w0 _ ?side1 ?side2 A2.out).mono ?_); (case side1 => repeat (first | (with_reducible first | exact AK.out | apply IsS86.alloc | apply IsS86.drewN | apply IsS86.drew | apply IsS86.set_1 | apply IsS86.set_2 | refine IsS86.far ?_ AE.out _ | refine IsS86.far ?_ AJ.out _) | exact AK.out)); (case side2 => repeat (first | (with_reducible first | exact HB.out | apply below_alloc | apply pw_below_drewN | apply below_drew1 | refine below_set ?_ (IsS86.ge AK.out) | refine below_set ?_ AS.out | refine below_set ?_ AW.out) | exact HB.out)); rintro e By ⟨rfl, hi, hb, hk⟩; refine ⟨_, rfl, ?_⟩; replace AD := ak (KeepBut.blk hk (g' := AL) (o := .cells #[.int .i16 0, .slice none 0 0] 27 (0, 0)) (by refine blk_far ?_ AH.out _; refine blk_far ?_ AH.out _; exact AD.out) AY.out (by simp)); replace AV := ak (Kd.R_mono (Kd.R_keep (IsS86.apart (show IsS86 w0 _ g AN AX AZ from by repeat (first | (with_reducible first | exact AK.out | apply IsS86.alloc | apply IsS86.drewN | apply IsS86.drew | apply IsS86.set_1 | apply IsS86.set_2 | refine IsS86.far ?_ AE.out _ | refine IsS86.far ?_ AJ.out _) | exact AK.out)) ((Kd.R_mono (Kd.R_far (p := ⟨AF, 1, none⟩) (Kd.R_far (p := ⟨AF, 0, none⟩) (Kd.R_types AV.out AB.out (by decide)) (fun _ hk => hk.2) (.int .i16 0)) (fun _ hk => hk.2) (.slice BN Ae.length BP)) (fun _ h_ => h_.1))) (by decide)) hk (fun _ h => h.2)) (fun _ h => h.1)); replace AB := ak (KeepBut.blk hk (g' := AF) (o := .cells #[.int .i16 0, .slice BN Ae.length BP] 27 (0, 0)) (by refine blk_put (cs := #[.int .i16 0, .slice none 0 0]) ?_ 1 _ rfl; refine blk_put (cs := #[.int .i16 0, .slice none 0 0]) ?_ 0 _ rfl; exact AB.out) AR.out (by simp)); replace HK := ak (KeepBut.trans (by repeat (first | (with_reducible first | exact HK.out | apply KeepBut.set_ | apply keep_drewN | apply keep_drew | apply keep_alloc | refine keep_far ?_ AM.out _ | refine keep_far ?_ AT.out _) | exact HK.out)) hk (.inl rfl)); replace HB := ak (hb); replace AK := ak (hi); (try clear hb); (try clear hk); (try clear hi)))
 go_loopg [4] k (fun kq v4 w' => ∃ (Aa : Int) (AP : Int) (AQ : Int) (AA : Int) (AI : List Int) (AG : Value), v4 = .int .i64 Aa ∧ Aside0 (spec_l03Drawn.l0 kq Aa AN AP AQ AA AI = some (r1, r2, r3, r4)) ∧ Aside0 (kq ≤ k) ∧ Aside0 (Kd.R (Kd.int .i16) 24 w' w.heap.size (fun _ => True) AG AI) ∧ Aside0 (w'.heap[AL]? = some (.cells #[.int .i16 0, (.slice none 0 0)] 27 (0, 0))) ∧ Aside0 (w'.heap[AF]? = some (.cells #[.int .i16 AA, AG] 27 (0, 0))) ∧ Aside0 (IsS86 w0 w' g AN AP AQ) ∧ Aside0 (KeepBut w w' g none) ∧ Aside0 (Below w0.heap.size w0 w'))
 case atStart => exact ⟨(wrap64 (1 + Au)), (At), (As), (0), (Ae), (.slice BN Ae.length BP), rfl, H', ⟨Nat.le_refl _⟩, ⟨(zR AV.out)⟩, ⟨(zK AD.out)⟩, ⟨(zK AB.out)⟩, ⟨by repeat (first | (with_reducible first | exact AK.out | apply IsS86.alloc | apply IsS86.drewN | apply IsS86.drew | apply IsS86.set_1 | apply IsS86.set_2 | refine IsS86.far ?_ AE.out _ | refine IsS86.far ?_ AJ.out _) | exact AK.out)⟩, ⟨by repeat (first | (with_reducible first | exact HK.out | apply KeepBut.set_ | apply keep_drewN | apply keep_drew | apply keep_alloc | refine keep_far ?_ AM.out _ | refine keep_far ?_ AT.out _) | exact HK.out)⟩, ⟨by repeat (first | (with_reducible first | exact HB.out | apply below_alloc | apply pw_below_drewN | apply below_drew1 | refine below_set ?_ (IsS86.ge AK.out) | refine below_set ?_ AS.out | refine below_set ?_ AW.out) | exact HB.out)⟩⟩
 case round => (
 clear H'
 obtain ⟨Aa, AP, AQ, AA, AI, AG, rfl, HA, Be, AC, AD, AB, AK, HK, HB⟩ := hrel
 cases gk with
 | zero => exact absurd HA.out (by simp [spec_l03Drawn.l0])
 | succ k1 => (
 have H := HA.out
 clear HA
 simp only [spec_l03Drawn.l0] at H
 by_cases Ap : Aa > 0
 {
 rw [if_pos Ap] at H
 have Ax : decide (0 < Aa) = true := decide_eq_true Ap
 clear Ap
 replace H := Option.bind_eq_some_iff.mp H
 obtain ⟨⟨AU, Aj, Ag⟩, Aw, H⟩ := H
 have Bx := ak Aw
 clear Aw
 by_cases A9 : AI.length < 70368744177664
 {
 rw [if_pos A9] at H
 have Ar := ak A9
 clear A9
 obtain ⟨Af, Ac⟩ : ∃ y_ : List Int, y_ = (AI ++ [IntKind.i16.wrap (AA + (IntKind.i16.wrap (wrap64 (1 + AU))))]) := ⟨_, rfl⟩
 replace H : (spec_l03Drawn.l0 k1 (wrap64 (Aa - 1)) AN Aj Ag (IntKind.i16.wrap (AA + (IntKind.i16.wrap (wrap64 (1 + AU))))) Af) = some (r1, r2, r3, r4) := by first | (rw [Ac]; with_reducible exact H) | (have Ao := (Option.bind_some _ _).symm.trans H; rw [Ac]; with_reducible exact Ao) | (have Ao := (Option.bind_some _ _).symm.trans H; with_reducible exact Ao) | with_reducible exact H | (rw [Ac]; exact H) | exact H
 have A0 := ak Ac
 clear Ac
 have H' := ak H
 clear H
 try go_wp2
 replace AC := ak (Kd.R_drew AC.out)
 replace AD := ak (blk_drew AD.out)
 replace AB := ak (blk_drew AB.out)
 replace AK := ak (IsS86.drew AK.out)
 replace HK := ak (keep_drew HK.out)
 replace HB := ak (below_drew1 HB.out)
 refine start_ (n := 9) (S := fun w' => w'.cell? ⟨AF, 0, none⟩ = some (.int .i16 AA) ∧ w'.cell? ⟨AF, 1, none⟩ = some (AG)) (ds := [8]) (bA 9 0) (by kernel_rfl) rfl rfl ⟨(blk_cell AB.out 0).trans rfl, (blk_cell AB.out 1).trans rfl⟩ (fun hHeld => ?_); refine with_tabW spec_l03Drawn.tab5 spec_l03Drawn.bits5 (fun HT_ HW_ => ?_)
 generalize wr.drew = Bz at AC AD AB AK HK HB hHeld ⊢
 refine pU 0 14 (bA 9 1) HT_ ?_
 refine pU 2 16 (bA 9 5) HT_ ?_
 refine tK 1 15 (bA 9 7) HT_ HW_ hHeld ?_
 refine one_ (i := 3) (N := some 17) (bA 9 15) rfl rfl (one_of HT_.out (by kernel_rfl)) (by decide) (fun K hK => ?_)
 refine goes_ Tryz.func49 (by kernel_rfl) rfl #[.pointer (some ⟨g, 0, none⟩), .int .i64 6] (by rfl) rfl rfl gl_ ?_
 with_reducible refine (spec_l00Src_pick.calls g AN AP AQ 6 AU Aj Ag w0 _ ?side1 ?side2 Bx.out).mono ?_
 (case side1 => repeat (first | (with_reducible first | exact AK.out | apply IsS86.alloc | apply IsS86.drewN | apply IsS86.drew | apply IsS86.set_1 | apply IsS86.set_2 | refine IsS86.far ?_ AE.out _ | refine IsS86.far ?_ AJ.out _) | exact AK.out))
 (case side2 => repeat (first | (with_reducible first | exact HB.out | apply below_alloc | apply pw_below_drewN | apply below_drew1 | refine below_set ?_ (IsS86.ge AK.out) | refine below_set ?_ AS.out | refine below_set ?_ AW.out) | exact HB.out))
 rintro e BQ ⟨rfl, hi, hb, hk⟩
 refine ⟨_, rfl, ?_⟩
 replace AC := ak (Kd.R_mono (Kd.R_keep (IsS86.apart (show IsS86 w0 _ g AN AP AQ from by repeat (first | (with_reducible first | exact AK.out | apply IsS86.alloc | apply IsS86.drewN | apply IsS86.drew | apply IsS86.set_1 | apply IsS86.set_2 | refine IsS86.far ?_ AE.out _ | refine IsS86.far ?_ AJ.out _) | exact AK.out)) (zR AC.out) (by decide)) hk (fun _ h => h.2)) (fun _ h => h.1))
 replace AD := ak (KeepBut.blk hk (g' := AL) (o := .cells #[.int .i16 0, .slice none 0 0] 27 (0, 0)) (zK AD.out) AY.out (by simp))
 replace AB := ak (KeepBut.blk hk (g' := AF) (o := .cells #[.int .i16 AA, AG] 27 (0, 0)) (zK AB.out) AR.out (by simp))
 replace HK := ak (KeepBut.trans (by repeat (first | (with_reducible first | exact HK.out | apply KeepBut.set_ | apply keep_drewN | apply keep_drew | apply keep_alloc | refine keep_far ?_ AM.out _ | refine keep_far ?_ AT.out _) | exact HK.out)) hk (.inl rfl))
 replace HB := ak (hb)
 replace AK := ak (hi)
 refine hK.out _ _ ⟨(blk_cell AB.out 0).trans rfl, (blk_cell AB.out 1).trans rfl⟩ (fun hHeld => ?_)
 clear hK K
 refine norm_ (a' := ?_) ?_ ?_
 rotate_left
 {
 show Act.put _ (some 17) _ = _
 simp only [Act.put, zs, zz, zk, i64_w, i32_w]
 rfl
 }
 refine pU 4 18 (bA 9 31) HT_ ?_
 refine pU 5 19 (bA 9 63) HT_ ?_
 refine pU 6 20 (bA 9 127) HT_ ?_
 refine pU 7 21 (bA 9 255) HT_ ?_
 refine last_ (i := 8) (N := none) #[true, true, true, true, true, true, true, true, true] rfl rfl (one_of HT_.out (by kernel_rfl)) (by decide) (fun K hK => ?_)
 have Bw : BQ.cell? ⟨AF, 0, none⟩ = some (.int .i16 AA) := (blk_cell AB.out 0).trans rfl
 have Ba := blk_frozen AB.out 0
 have A6 := AH.out
 have BF := AO.out
 refine skip_ (w1 := ?_) (by rfl) rfl ?_ ?_
 rotate_left
 · go_simp; rfl
 refine hK.out _ _ ?_
 clear hK K
 refine done_ (done_of HT_.out (by kernel_rfl)) ?_
 have Bc := AO.out
 have Bk := AH.out
 have Bm := AR.out
 have BU := AJ.out
 have A5 : BQ.cell? ⟨AF, 0, none⟩ = some (.int .i16 AA) := (blk_cell AB.out 0).trans rfl
 have BL : BQ.cell? ⟨AF, 1, none⟩ = some (AG) := (blk_cell AB.out 1).trans rfl
 have A8 := blk_frozen AB.out 0
 have BE := blk_frozen AB.out 1
 try go_wp2_with (first | ((with_reducible refine gate_builtin (b := .append) (xs := #[.tmp 23, .tmp 26]) rfl ?_); at_builtin; refine Kd.R_append (Kd.int .i16) w.heap.size rfl (.tmp 23) (.tmp 26) 25 24 (.int .i16 0) 2 rfl Tryz.underlying25 info24 rfl (by decide) (by omega) AG AI (IntKind.i16.wrap (AA + (IntKind.i16.wrap (wrap64 (1 + AU))))) [.int .i16 (IntKind.i16.wrap (AA + (IntKind.i16.wrap (wrap64 (1 + AU)))))] (fun _ => True) (fun _ => False) rfl (by first | (go_simp; done) | (go_simp; rfl)) ?aP (fun _ hk => hk.elim) ?aF ?aO (Below.refl _ _) ?aS ?aL ?_; (case aP => exact rfl); (case aF => exact (fun _ _ => trivial)); (case aO => exact (Kd.R_mono (Kd.R_far (p := ⟨AF, 0, none⟩) (Kd.R_types AC.out AB.out (by decide)) (fun _ hk => hk.2) (.int .i16 (IntKind.i16.wrap (AA + (IntKind.i16.wrap (wrap64 (1 + AU))))))) (fun _ hk => trivial))); (case aS => exact (keep_size (w := w) (g := g) (row := none) (by repeat (first | (with_reducible first | exact HK.out | apply KeepBut.set_ | apply keep_drewN | apply keep_drew | apply keep_alloc | refine keep_far ?_ AM.out _ | refine keep_far ?_ AT.out _) | exact HK.out)))); (case aL => have := Ar.out; omega); intro Bv Bg ho hb hg hat; rw [← A0.out] at ho; have BS := ak (blk_grown (g := AL) (o := .cells #[.int .i16 0, .slice none 0 0] 27 (0, 0)) (by refine blk_far ?_ AH.out _; exact AD.out) hg (Kd.R_ne AC.out AD.out (by decide))); have BX := ak (blk_grown (g := AF) (o := .cells #[.int .i16 (IntKind.i16.wrap (AA + (IntKind.i16.wrap (wrap64 (1 + AU))))), AG] 27 (0, 0)) (by refine blk_put (cs := #[.int .i16 AA, AG]) ?_ 0 _ rfl; exact AB.out) hg (Kd.R_ne AC.out AB.out (by decide))); have BY := ak (IsS86.grown (w0 := w0) (f0 := AN) (f1 := Aj) (f2 := Ag) (by repeat (first | (with_reducible first | exact AK.out | apply IsS86.alloc | apply IsS86.drewN | apply IsS86.drew | apply IsS86.set_1 | apply IsS86.set_2 | refine IsS86.far ?_ AE.out _ | refine IsS86.far ?_ AJ.out _) | exact AK.out)) hg (IsS86.own_ne AK.out AC.out (by decide))); have Bh := ak (below_weaken (by repeat (first | (with_reducible first | exact HB.out | apply below_alloc | apply pw_below_drewN | apply below_drew1 | refine below_set ?_ (IsS86.ge AK.out) | refine below_set ?_ AS.out | refine below_set ?_ AW.out) | exact HB.out)) HL.out hb); have BT := ak (KeepBut.trans (by repeat (first | (with_reducible first | exact HK.out | apply KeepBut.set_ | apply keep_drewN | apply keep_drew | apply keep_alloc | refine keep_far ?_ AM.out _ | refine keep_far ?_ AT.out _) | exact HK.out)) (KeepBut.of_grown hg g) (Kd.R_base2 AC.out)); have Bj := ak (ho); clear AD AB AK HB HK AC; have AD := BS; have AB := BX; have AK := BY; have HB := Bh; have HK := BT; have An := Bj; clear BS BX BY Bh BT Bj; clear ho hb hg hat; obtain ⟨Av, A3, BR⟩ := Kd.R_slice An.out; subst BR; have BH : Bg.cell? ⟨AF, 0, none⟩ = some (.int .i16 (IntKind.i16.wrap (AA + (IntKind.i16.wrap (wrap64 (1 + AU)))))) := (blk_cell AB.out 0).trans rfl; have BJ : Bg.cell? ⟨AF, 1, none⟩ = some (AG) := (blk_cell AB.out 1).trans rfl; have BC := blk_frozen AB.out 0; have BA := blk_frozen AB.out 1))
 go_roundg k1
 case measure => have := Be.out; omega
 case rel => exact ⟨(wrap64 (Aa - 1)), (Aj), (Ag), (IntKind.i16.wrap (AA + (IntKind.i16.wrap (wrap64 (1 + AU))))), (Af), (.slice Av Af.length A3), rfl, H', ⟨by have := Be.out; omega⟩, ⟨Kd.R_mono (Kd.R_far (p := ⟨AF, 1, none⟩) (Kd.R_types An.out AB.out (by decide)) (fun _ hk => hk.2) (.slice Av Af.length A3)) (fun _ hk => trivial)⟩, ⟨by refine blk_far ?_ AH.out _; exact AD.out⟩, ⟨by refine blk_put (cs := #[.int .i16 (IntKind.i16.wrap (AA + (IntKind.i16.wrap (wrap64 (1 + AU))))), AG]) ?_ 1 _ rfl; exact AB.out⟩, ⟨by repeat (first | (with_reducible first | exact AK.out | apply IsS86.alloc | apply IsS86.drewN | apply IsS86.drew | apply IsS86.set_1 | apply IsS86.set_2 | refine IsS86.far ?_ AE.out _ | refine IsS86.far ?_ AJ.out _) | exact AK.out)⟩, ⟨by repeat (first | (with_reducible first | exact HK.out | apply KeepBut.set_ | apply keep_drewN | apply keep_drew | apply keep_alloc | refine keep_far ?_ AM.out _ | refine keep_far ?_ AT.out _) | exact HK.out)⟩, ⟨by repeat (first | (with_reducible first | exact HB.out | apply below_alloc | apply pw_below_drewN | apply below_drew1 | refine below_set ?_ (IsS86.ge AK.out) | refine below_set ?_ AS.out | refine below_set ?_ AW.out) | exact HB.out)⟩⟩
 }
 · rw [if_neg A9] at H; exact absurd H (by simp)
 }
 {
 rw [if_neg Ap] at H
 have Ax : decide (0 < Aa) = false := decide_eq_false Ap
 clear Ap
 simp only [Option.some.injEq, Prod.mk.injEq] at H
 obtain ⟨rfl, rfl, rfl, rfl⟩ := H
 have Bb := AO.out
 have BV := AH.out
 have Bd := AR.out
 have Bi := AJ.out
 have A4 : wr.cell? ⟨AF, 0, none⟩ = some (.int .i16 AA) := (blk_cell AB.out 0).trans rfl
 have BM : wr.cell? ⟨AF, 1, none⟩ = some (AG) := (blk_cell AB.out 1).trans rfl
 have BB := blk_frozen AB.out 0
 have BG := blk_frozen AB.out 1
 have Bf := AY.out
 have Bl := AE.out
 have BI : wr.cell? ⟨AL, 0, none⟩ = some (.int .i16 0) := (blk_cell AD.out 0).trans rfl
 have BK : wr.cell? ⟨AL, 1, none⟩ = some (.slice none 0 0) := (blk_cell AD.out 1).trans rfl
 have A7 := blk_frozen AD.out 0
 have BD := blk_frozen AD.out 1
 obtain ⟨Ay, A1, BO⟩ := Kd.R_slice AC.out
 subst BO
 go_wp2
 refine bodyPost_ret (results_cell_row rfl _ _ AL 27 #[.int .i16 AA, .slice Ay AI.length A1] (0, 0) _ rfl (by refine blk_put (cs := #[.int .i16 AA, .slice none 0 0]) ?_ 1 _ rfl; refine blk_put (cs := #[.int .i16 0, .slice none 0 0]) ?_ 0 _ rfl; exact AD.out) Tryz.underlying27 rfl (by kernel_rfl)) rfl ?_
 exact ⟨_, rfl, Kd.R_mono (Kd.R_far (p := ⟨AL, 1, none⟩) (Kd.R_far (p := ⟨AL, 0, none⟩) (Kd.R_types AC.out AD.out (by decide)) (fun _ hk => hk.2) (.int .i16 AA)) (fun _ hk => hk.2) (.slice Ay AI.length A1)) (fun _ hk => trivial), by repeat (first | (with_reducible first | exact AK.out | apply IsS86.alloc | apply IsS86.drewN | apply IsS86.drew | apply IsS86.set_1 | apply IsS86.set_2 | refine IsS86.far ?_ AE.out _ | refine IsS86.far ?_ AJ.out _) | exact AK.out), by repeat (first | (with_reducible first | exact HB.out | apply below_alloc | apply pw_below_drewN | apply below_drew1 | refine below_set ?_ (IsS86.ge AK.out) | refine below_set ?_ AS.out | refine below_set ?_ AW.out) | exact HB.out), by repeat (first | (with_reducible first | exact HK.out | apply KeepBut.set_ | apply keep_drewN | apply keep_drew | apply keep_alloc | refine keep_far ?_ AM.out _ | refine keep_far ?_ AT.out _) | exact HK.out)⟩
 }
 )
 )
/-! ### spec_P6Rope: function 5 -/
def spec_P6Rope.f (k : Nat) (l0 : List Int) : Option (Int × List Int) := (spec_l00From.f l0).bind fun AA => ((spec_l03Drawn.f k AA.1 AA.2.1 AA.2.2).bind fun AB => (some (AB.1, AB.2.1)))
set_option maxHeartbeats 8000000 in
set_option maxRecDepth 100000 in
theorem spec_P6Rope.calls (k : Nat) (A0 : Option Addr) (c0 : Nat) (l0 : List Int) (r1 : Int) (r2 : List Int) (w : World) (AW : Kd.C (Kd.int .u8) w A0 l0.length l0) (AV : l0.length ≤ c0) (h : spec_P6Rope.f k l0 = some (r1, r2)) :
    Calls Tryz.prog 5 #[.slice A0 l0.length c0] w fun e w' => ∃ v1_ : Value, e = .returned (.agg #[.int .i16 r1, v1_]) ∧ Kd.R (Kd.int .i16) 24 w' w.heap.size (fun _ => True) v1_ r2 ∧ Below w.heap.size w w' := by
 have Ai := Tryz.underlying27
 have Ah := ak AW
 have Ae := ak AV
 clear AW AV
 have HB := ak (Below.refl w.heap.size w)
 have H := h
 unfold spec_P6Rope.f at H
 clear h
 replace H := Option.bind_eq_some_iff.mp H
 obtain ⟨⟨AK, AM, AL⟩, AY, H⟩ := H
 have A2 := ak AY
 clear AY
 replace H := Option.bind_eq_some_iff.mp H
 obtain ⟨⟨AG, AI, AR, AQ⟩, AX, H⟩ := H
 have A3 := ak AX
 clear AX
 simp only [Option.some.injEq, Prod.mk.injEq] at H
 obtain ⟨rfl, rfl⟩ := H
 go_enter Tryz.func5, Tryz.ntmps5
 go_wp2_with (first | ((with_reducible refine gate_dst (N := 2) rfl ?_); refine box_event ?hg (N := 2) ?hd (cs := #[.int .i16 0, .slice none 0 0]) (t := 27) ?hr ?_; (case hd => rfl); (case hg => rfl); (case hr => first | (go_simp; done) | (go_simp; rfl)); intro AB hg w4 hbox hb; have AA := ak (hbox); have AU := gS HB hg; have AF := gS HB hg; replace HB := kB HB hb; clear hb hbox hg) | ((with_reducible refine gate_callee (f := 33) rfl ?_); refine goesL_ (some 4) rfl rfl Tryz.func33 (by kernel_rfl) rfl #[.slice A0 l0.length c0] rfl gl_ ?_; (with_reducible refine (spec_l00From.calls _ _ l0 AK AM AL w _ ?side1 ?side2 ?side3 A2.out).mono ?_); (case side1 => repeat (first | (with_reducible first | exact HB.out | apply below_alloc | apply pw_below_drewN | apply below_drew1 | refine below_set ?_ AF.out) | exact HB.out)); (case side2 => exact Ah.out); (case side3 => exact Ae.out); rintro e w5 ⟨AJ, rfl, hi, hb, AN⟩; refine ⟨_, rfl, ?_⟩; have AE := ak (hi); have AC := ak (IsS86.ne_blk hi (blk_below (g := AB) (o := .cells #[.int .i16 0, .slice none 0 0] 27 (0, 0)) (zK AA.out) AN) (by decide)); have AD := ak (Ne.symm (IsS86.ne_blk hi (blk_below (g := AB) (o := .cells #[.int .i16 0, .slice none 0 0] 27 (0, 0)) (zK AA.out) AN) (by decide))); replace AA := ak (blk_below (g := AB) (o := .cells #[.int .i16 0, .slice none 0 0] 27 (0, 0)) (zK AA.out) AN); replace HB := ak (hb); (try clear hb); (try clear AN); (try clear hi)) | ((with_reducible refine gate_callee (f := 32) rfl ?_); refine goesL_ (some 5) rfl rfl Tryz.func32 (by kernel_rfl) rfl #[.pointer (some ⟨AJ, 0, none⟩)] rfl gl_ ?_; (with_reducible refine (spec_l03Drawn.calls k AJ AK AM AL AG AI AR AQ w _ ?side1 ?side2 A3.out).mono ?_); (case side1 => repeat (first | (with_reducible first | exact AE.out | apply IsS86.alloc | apply IsS86.drewN | apply IsS86.drew | apply IsS86.set_1 | apply IsS86.set_2 | refine IsS86.far ?_ AC.out _) | exact AE.out)); (case side2 => repeat (first | (with_reducible first | exact HB.out | apply below_alloc | apply pw_below_drewN | apply below_drew1 | refine below_set ?_ (IsS86.ge AE.out) | refine below_set ?_ AF.out) | exact HB.out)); rintro e w6 ⟨Ac, rfl, Aa, hi, hb, hk⟩; refine ⟨_, rfl, ?_⟩; have AH := ak (Kd.R_lower Aa (below_size (by repeat (first | (with_reducible first | exact HB.out | apply below_alloc | apply pw_below_drewN | apply below_drew1 | refine below_set ?_ (IsS86.ge AE.out) | refine below_set ?_ AF.out) | exact HB.out)))); replace AA := ak (KeepBut.blk hk (g' := AB) (o := .cells #[.int .i16 0, .slice none 0 0] 27 (0, 0)) (zK AA.out) AD.out (by simp)); replace HB := ak (hb); replace AE := ak (hi); (try clear hb); (try clear hk); (try clear hi); (try clear Aa); have Ad := AD.out; have Ag := AC.out; obtain ⟨AP, AT, AO, AS⟩ := cz2 w6 AA; obtain ⟨Ab, AZ, Af⟩ := Kd.R_slice AH.out; subst Af))
 refine bodyPost_ret (results_cell_row rfl _ _ AB 27 #[.int .i16 AG, .slice Ab AI.length AZ] (0, 0) _ rfl (by refine blk_put (cs := #[.int .i16 AG, .slice none 0 0]) ?_ 1 _ rfl; refine blk_put (cs := #[.int .i16 0, .slice none 0 0]) ?_ 0 _ rfl; exact AA.out) Tryz.underlying27 rfl (by kernel_rfl)) rfl ?_
 exact ⟨_, rfl, Kd.R_mono (Kd.R_far (p := ⟨AB, 1, none⟩) (Kd.R_far (p := ⟨AB, 0, none⟩) (Kd.R_types AH.out AA.out (by decide)) (fun _ hk => hk.2) (.int .i16 AG)) (fun _ hk => hk.2) (.slice Ab AI.length AZ)) (fun _ hk => trivial), by repeat (first | (with_reducible first | exact HB.out | apply below_alloc | apply pw_below_drewN | apply below_drew1 | refine below_set ?_ (IsS86.ge AE.out) | refine below_set ?_ AF.out) | exact HB.out)⟩
/-! ### spec_l00Src_one: function 61 -/
def spec_l00Src_one.f (AB : List Int) (AC : Int) (AD : Int) (a1 : Int) : Option (Bool × Int × Int) := (spec_l00Src_pick.f AB AC AD a1).bind fun AA => (some ((AA.1 == 0), AA.2.1, AA.2.2))
set_option maxHeartbeats 8000000 in
set_option maxRecDepth 100000 in
theorem spec_l00Src_one.calls (g : Nat) (AA : List Int) (AB : Int) (AC : Int) (a1 : Int) (r1 : Bool) (r2 : Int) (r3 : Int) (w0 w : World) (hI : IsS86 w0 w g AA AB AC) (hB : Below w0.heap.size w0 w) (h : spec_l00Src_one.f AA AB AC a1 = some (r1, r2, r3)) :
    Calls Tryz.prog 61 #[.pointer (some ⟨g, 0, none⟩), .int .i64 a1] w fun e w' => e = .returned (.bool r1) ∧ IsS86 w0 w' g AA r2 r3 ∧ Below w0.heap.size w0 w' ∧ KeepBut w w' g none := by
 have AD := ak hI
 have HK := ak (KeepBut.refl w g none)
 have HL := ak hB.size
 clear hI
 have AI := ak hB.size
 have HB := ak hB
 clear hB
 have H := h
 unfold spec_l00Src_one.f at H
 clear h
 replace H := Option.bind_eq_some_iff.mp H
 obtain ⟨⟨AF, AE, AG⟩, AH, H⟩ := H
 have A3 := ak AH
 clear AH
 simp only [Option.some.injEq, Prod.mk.injEq] at H
 obtain ⟨rfl, rfl, rfl⟩ := H
 go_enter Tryz.func61, Tryz.ntmps61
 go_wp2_with (first | ((with_reducible refine gate_callee (f := 49) rfl ?_); refine goesL_ (some 7) rfl rfl Tryz.func49 (by kernel_rfl) rfl #[.pointer (some ⟨g, 0, none⟩), .int .i64 a1] rfl gl_ ?_; (with_reducible refine (spec_l00Src_pick.calls g AA AB AC a1 AF AE AG w0 _ ?side1 ?side2 A3.out).mono ?_); (case side1 => repeat (first | (with_reducible first | exact AD.out | apply IsS86.alloc | apply IsS86.drewN | apply IsS86.drew | apply IsS86.set_1 | apply IsS86.set_2) | exact AD.out)); (case side2 => repeat (first | (with_reducible first | exact HB.out | apply below_alloc | apply pw_below_drewN | apply below_drew1 | refine below_set ?_ (IsS86.ge AD.out)) | exact HB.out)); rintro e w4 ⟨rfl, hi, hb, hk⟩; refine ⟨_, rfl, ?_⟩; replace HK := ak (KeepBut.trans (by repeat (first | (with_reducible first | exact HK.out | apply KeepBut.set_ | apply keep_drewN | apply keep_drew | apply keep_alloc) | exact HK.out)) hk (.inl rfl)); replace HB := ak (hb); replace AD := ak (hi); (try clear hb); (try clear hk); (try clear hi)))
 go_ret
 exact ⟨rfl, by repeat (first | (with_reducible first | exact AD.out | apply IsS86.alloc | apply IsS86.drewN | apply IsS86.drew | apply IsS86.set_1 | apply IsS86.set_2) | exact AD.out), by repeat (first | (with_reducible first | exact HB.out | apply below_alloc | apply pw_below_drewN | apply below_drew1 | refine below_set ?_ (IsS86.ge AD.out)) | exact HB.out), by repeat (first | (with_reducible first | exact HK.out | apply KeepBut.set_ | apply keep_drewN | apply keep_drew | apply keep_alloc) | exact HK.out)⟩
/-! ### spec_l03Held: function 34 -/
mutual
def spec_l03Held.l0 : Nat → List (S52) → Int → Int → List Int → Int → Int → Int → List Int → Option ((List (S52)) × Int × Int)
  | 0, _, _, _, _, _, _, _, _ => none
  | k + 1, x5, x6, x7, AC, AB, AD, AE, AA => if x7 < (AA.length : Int) then (spec_l03Held.j1 k x5 x6 x7 (decide (x7 < 30)) AC AB AD AE AA) else (spec_l03Held.j1 k x5 x6 x7 false AC AB AD AE AA)
def spec_l03Held.j1 : Nat → List (S52) → Int → Int → Bool → List Int → Int → Int → Int → List Int → Option ((List (S52)) × Int × Int)
  | 0, _, _, _, _, _, _, _, _, _ => none
  | k + 1, x5, x6, x7, AH, AB, AG, AF, AD, AE => if AH = true then ((spec_l00Src_one.f AB AG AF 2).bind fun AA => (if AA.1 = true then (if x5.length < 35184372088832 then ((spec_l00Src_pick.f AB AA.2.1 AA.2.2 30).bind fun AC => (spec_l03Held.l0 k (x5 ++ [(⟨IntKind.i16.wrap (x6), IntKind.i8.wrap (x7)⟩ : S52)]) (Int.tmod (wrap64 ((wrap64 (x6 + 1)) + AC.1)) 1000) (wrap64 (x7 + 1)) AB AC.2.1 AC.2.2 AD AE)) else (none)) else (spec_l03Held.l0 k x5 x6 (wrap64 (x7 + 1)) AB AA.2.1 AA.2.2 AD AE))) else (some (x5, AG, AF))
end
def spec_l03Held.f (k : Nat) (AB : List Int) (AD : Int) (AE : Int) (AF : Int) (AC : List Int) : Option ((List (S52)) × Int × Int) := (spec_l00Src_pick.f AB AD AE 900).bind fun AA => (spec_l03Held.l0 k (([] : List (S52))) AA.1 0 AB AA.2.1 AA.2.2 AF AC)
set_option maxHeartbeats 8000000 in
set_option maxRecDepth 100000 in
theorem spec_l03Held.calls (k : Nat) (g : Nat) (AF : List Int) (Aa : Int) (AX : Int) (b1 : Nat) (AG : Int) (AK : Option Addr) (AL : Nat) (AE : List Int) (r1 : List (S52)) (r2 : Int) (r3 : Int) (w0 w : World) (hI : IsS86 w0 w g AF Aa AX) (hB : Below w0.heap.size w0 w) (Ac : Kd.C (Kd.int .i16) w AK AE.length AE) (Ab : AE.length ≤ AL) (BG : ∀ ad, AK = some ad → 0 < AE.length → ad.block ≠ g) (A6 : w.heap[b1]? = some (.cells #[.int .i16 AG, .slice AK AE.length AL] 27 (0, 0))) (BB : b1 ≠ g) (h : spec_l03Held.f k AF Aa AX AG AE = some (r1, r2, r3)) :
    Calls Tryz.prog 34 #[.pointer (some ⟨g, 0, none⟩), .pointer (some ⟨b1, 0, none⟩)] w fun e w' => ∃ v0_ : Value, e = .returned (v0_) ∧ Kd.R k52 52 w' w.heap.size (fun _ => True) v0_ r1 ∧ IsS86 w0 w' g AF r2 r3 ∧ Below w0.heap.size w0 w' ∧ KeepBut w w' g none := by
 have BM := Tryz.underlying52
 have BI := ak Ac
 have BD := ak Ab
 clear Ac Ab
 have AJ := ak A6
 clear A6
 have AN := ak BB
 have AA := ak (Ne.symm BB)
 clear BB
 have AB := ak hI
 have HK := ak (KeepBut.refl w g none)
 have HL := ak hB.size
 clear hI
 have BV := ak hB.size
 have HB := ak hB
 clear hB
 have H := h
 unfold spec_l03Held.f at H
 clear h
 obtain ⟨Ar, AQ⟩ : ∃ y_ : List (S52), y_ = (([] : List (S52))) := ⟨_, rfl⟩
 replace H : ((spec_l00Src_pick.f AF Aa AX 900).bind fun AZ => (spec_l03Held.l0 k Ar AZ.1 0 AF AZ.2.1 AZ.2.2 AG AE)) = some (r1, r2, r3) := by first | (rw [AQ]; with_reducible exact H) | (have Ae := (Option.bind_some _ _).symm.trans H; rw [AQ]; with_reducible exact Ae) | (have Ae := (Option.bind_some _ _).symm.trans H; with_reducible exact Ae) | with_reducible exact H | (rw [AQ]; exact H) | exact H
 have Ad := ak AQ
 clear AQ
 replace H := Option.bind_eq_some_iff.mp H
 obtain ⟨⟨Am, Ah, Ao⟩, BF, H⟩ := H
 have A3 := ak BF
 clear BF
 have H' := ak H
 clear H
 go_enter Tryz.func34, Tryz.ntmps34
 go_wp2_with (first | ((with_reducible refine gate_dst (N := 8) rfl ?_); refine Kd.R_lit k52 _ 52 ?hg (N := 8) ?hd (xs := ([] : List (S52))) (inner := []) (ok := fun _ => True) (okp := fun _ => True) ?hr ?hp (fun _ hk => hk) trivial (Below.refl _ _) (Nat.le_refl _) (by simp) ?_; (case hd => rfl); (case hg => rfl); (case hr => first | (go_simp; done) | (go_simp; rfl)); (case hp => exact (Reps.none _ _)); intro BQ w4 Ag hb BN An; clear BN An; (first | rw [← Ad.out] at Ag | (simp only [Int.reduceToNat] at Ag; rw [← Ad.out] at Ag)); have AV := ak (Kd.R_lower Ag (keep_size (w := w) (g := g) (row := none) (by repeat (first | (with_reducible first | exact HK.out | apply KeepBut.set_ | apply keep_drewN | apply keep_drew | apply keep_alloc | refine keep_far ?_ GW1.out _) | exact HK.out)))); replace AJ := kK AJ hb; replace HK := ak (KeepBut.trans (by repeat (first | (with_reducible first | exact HK.out | apply KeepBut.set_ | apply keep_drewN | apply keep_drew | apply keep_alloc | refine keep_far ?_ GW1.out _) | exact HK.out)) (KeepBut.of_below hb g none) (.inl rfl)); replace HB := ak (below_step (by repeat (first | (with_reducible first | exact HB.out | apply below_alloc | apply pw_below_drewN | apply below_drew1 | refine below_set ?_ (IsS86.ge AB.out)) | exact HB.out)) hb); replace AB := ak (IsS86.below (by repeat (first | (with_reducible first | exact AB.out | apply IsS86.alloc | apply IsS86.drewN | apply IsS86.drew | apply IsS86.set_1 | apply IsS86.set_2 | refine IsS86.far ?_ AA.out _) | exact AB.out)) hb); clear hb Ag) | ((with_reducible refine gate_callee (f := 49) rfl ?_); refine goesL_ (some 10) rfl rfl Tryz.func49 (by kernel_rfl) rfl #[.pointer (some ⟨g, 0, none⟩), .int .i64 900] rfl gl_ ?_; (with_reducible refine (spec_l00Src_pick.calls g AF Aa AX 900 Am Ah Ao w0 _ ?side1 ?side2 A3.out).mono ?_); (case side1 => repeat (first | (with_reducible first | exact AB.out | apply IsS86.alloc | apply IsS86.drewN | apply IsS86.drew | apply IsS86.set_1 | apply IsS86.set_2 | refine IsS86.far ?_ AA.out _) | exact AB.out)); (case side2 => repeat (first | (with_reducible first | exact HB.out | apply below_alloc | apply pw_below_drewN | apply below_drew1 | refine below_set ?_ (IsS86.ge AB.out)) | exact HB.out)); rintro e w6 ⟨rfl, hi, hb, hk⟩; refine ⟨_, rfl, ?_⟩; replace AJ := ak (KeepBut.blk hk (g' := b1) (o := .cells #[.int .i16 AG, .slice AK AE.length AL] 27 (0, 0)) (zK AJ.out) AN.out (by simp)); replace AV := ak (Kd.R_mono (Kd.R_keep (IsS86.apart (show IsS86 w0 _ g AF Aa AX from by repeat (first | (with_reducible first | exact AB.out | apply IsS86.alloc | apply IsS86.drewN | apply IsS86.drew | apply IsS86.set_1 | apply IsS86.set_2 | refine IsS86.far ?_ AA.out _) | exact AB.out)) (zR AV.out) (by decide)) hk (fun _ h => h.2)) (fun _ h => h.1)); replace HK := ak (KeepBut.trans (by repeat (first | (with_reducible first | exact HK.out | apply KeepBut.set_ | apply keep_drewN | apply keep_drew | apply keep_alloc | refine keep_far ?_ GW1.out _) | exact HK.out)) hk (.inl rfl)); replace HB := ak (hb); replace AB := ak (hi); (try clear hb); (try clear hk); (try clear hi)))
 go_loopg [5, 6, 7] k (fun kq v5 v6 v7 w' => ∃ (AO : List (S52)) (AM : Int) (AH : Int) (AC : Int) (AD : Int), v6 = .int .i64 AM ∧ v7 = .int .i64 AH ∧ Aside0 (spec_l03Held.l0 kq AO AM AH AF AC AD AG AE = some (r1, r2, r3)) ∧ Aside0 (kq ≤ k) ∧ Aside0 (Kd.R k52 52 w' w.heap.size (fun _ => True) v5 AO) ∧ Aside0 (w'.heap[b1]? = some (.cells #[.int .i16 AG, (.slice AK AE.length AL)] 27 (0, 0))) ∧ Aside0 (IsS86 w0 w' g AF AC AD) ∧ Aside0 (KeepBut w w' g none) ∧ Aside0 (Below w0.heap.size w0 w'))
 case atStart => exact ⟨(Ar), (Am), (0), (Ah), (Ao), rfl, rfl, H', ⟨Nat.le_refl _⟩, ⟨(zR AV.out)⟩, ⟨(zK AJ.out)⟩, ⟨by repeat (first | (with_reducible first | exact AB.out | apply IsS86.alloc | apply IsS86.drewN | apply IsS86.drew | apply IsS86.set_1 | apply IsS86.set_2 | refine IsS86.far ?_ AA.out _) | exact AB.out)⟩, ⟨by repeat (first | (with_reducible first | exact HK.out | apply KeepBut.set_ | apply keep_drewN | apply keep_drew | apply keep_alloc | refine keep_far ?_ GW1.out _) | exact HK.out)⟩, ⟨by repeat (first | (with_reducible first | exact HB.out | apply below_alloc | apply pw_below_drewN | apply below_drew1 | refine below_set ?_ (IsS86.ge AB.out)) | exact HB.out)⟩⟩
 case round => (
 clear H'
 obtain ⟨AO, AM, AH, AC, AD, rfl, rfl, HA, Af, AI, AJ, AB, HK, HB⟩ := hrel
 cases gk with
 | zero => exact absurd HA.out (by simp [spec_l03Held.l0])
 | succ k1 => (
 have H := HA.out
 clear HA
 simp only [spec_l03Held.l0] at H
 have A9 := ak H
 clear H
 go_upto_region 4 with (fail)
 go_cut [21] (fun BO wc => ∃ (kq : Nat) (AT : Bool), BO = .bool AT ∧ Aside0 (spec_l03Held.j1 kq AO AM AH AT AF AC AD AG AE = some (r1, r2, r3)) ∧ Aside0 (kq ≤ k1) ∧ Aside0 (Kd.R k52 52 wc w.heap.size (fun _ => True) u5 AO) ∧ Aside0 (wc.heap[b1]? = some (.cells #[.int .i16 AG, (.slice AK AE.length AL)] 27 (0, 0))) ∧ Aside0 (IsS86 w0 wc g AF AC AD) ∧ Aside0 (KeepBut w wc g none) ∧ Aside0 (Below w0.heap.size w0 wc))
 case first => (
 have H := A9.out
 clear A9
 by_cases c8 : AH < (AE.length : Int)
 {
 rw [if_pos c8] at H
 have AY : decide (AH < (AE.length : Int)) = true := decide_eq_true c8
 clear c8
 (first | rw [AY] | (simp only [i64_w, i32_w]; rw [AY]) | skip)
 have H' := ak H
 clear H
 have BK := AN.out
 have BP := AA.out
 have A1 : wr.cell? ⟨b1, 0, none⟩ = some (.int .i16 AG) := (blk_cell AJ.out 0).trans rfl
 have A0 : wr.cell? ⟨b1, 1, none⟩ = some (.slice AK AE.length AL) := (blk_cell AJ.out 1).trans rfl
 have Au := blk_frozen AJ.out 0
 have Az := blk_frozen AJ.out 1
 go_wp2
 go_meet
 case rel => exact ⟨_, (decide (AH < 30)), rfl, H', ⟨by have := Af.out; first | omega | exact Nat.le_refl _⟩, ⟨(zR AI.out)⟩, ⟨(zK AJ.out)⟩, ⟨by repeat (first | (with_reducible first | exact AB.out | apply IsS86.alloc | apply IsS86.drewN | apply IsS86.drew | apply IsS86.set_1 | apply IsS86.set_2 | refine IsS86.far ?_ AA.out _) | exact AB.out)⟩, ⟨by repeat (first | (with_reducible first | exact HK.out | apply KeepBut.set_ | apply keep_drewN | apply keep_drew | apply keep_alloc | refine keep_far ?_ GW1.out _) | exact HK.out)⟩, ⟨by repeat (first | (with_reducible first | exact HB.out | apply below_alloc | apply pw_below_drewN | apply below_drew1 | refine below_set ?_ (IsS86.ge AB.out)) | exact HB.out)⟩⟩
 }
 {
 rw [if_neg c8] at H
 have AY : decide (AH < (AE.length : Int)) = false := decide_eq_false c8
 clear c8
 (first | rw [AY] | (simp only [i64_w, i32_w]; rw [AY]) | skip)
 have H' := ak H
 clear H
 have BC := AN.out
 have BH := AA.out
 have A4 : wr.cell? ⟨b1, 0, none⟩ = some (.int .i16 AG) := (blk_cell AJ.out 0).trans rfl
 have Av : wr.cell? ⟨b1, 1, none⟩ = some (.slice AK AE.length AL) := (blk_cell AJ.out 1).trans rfl
 have A5 := blk_frozen AJ.out 0
 have Ay := blk_frozen AJ.out 1
 go_wp2
 go_meet
 case rel => exact ⟨_, (false), rfl, H', ⟨by have := Af.out; first | omega | exact Nat.le_refl _⟩, ⟨(zR AI.out)⟩, ⟨(zK AJ.out)⟩, ⟨by repeat (first | (with_reducible first | exact AB.out | apply IsS86.alloc | apply IsS86.drewN | apply IsS86.drew | apply IsS86.set_1 | apply IsS86.set_2 | refine IsS86.far ?_ AA.out _) | exact AB.out)⟩, ⟨by repeat (first | (with_reducible first | exact HK.out | apply KeepBut.set_ | apply keep_drewN | apply keep_drew | apply keep_alloc | refine keep_far ?_ GW1.out _) | exact HK.out)⟩, ⟨by repeat (first | (with_reducible first | exact HB.out | apply below_alloc | apply pw_below_drewN | apply below_drew1 | refine below_set ?_ (IsS86.ge AB.out)) | exact HB.out)⟩⟩
 }
 )
 case rest => (
 clear A9
 obtain ⟨kq, AT, rfl, HA, Aw, AI, AJ, AB, HK, HB⟩ := hcut
 cases kq with
 | zero => exact absurd HA.out (by simp [spec_l03Held.j1])
 | succ BA => (
 have H := HA.out
 clear HA
 simp only [spec_l03Held.j1] at H
 by_cases A2 : AT = true
 {
 subst A2
 rw [if_pos rfl] at H
 replace H := Option.bind_eq_some_iff.mp H
 obtain ⟨⟨A8, AS, AR⟩, Ak, H⟩ := H
 have BE := ak Ak
 clear Ak
 by_cases Ax : A8 = true
 {
 subst Ax
 rw [if_pos rfl] at H
 by_cases A7 : AO.length < 35184372088832
 {
 rw [if_pos A7] at H
 have As := ak A7
 clear A7
 obtain ⟨Ai, AP⟩ : ∃ y_ : List (S52), y_ = (AO ++ [(⟨IntKind.i16.wrap (AM), IntKind.i8.wrap (AH)⟩ : S52)]) := ⟨_, rfl⟩
 replace H : ((spec_l00Src_pick.f AF AS AR 30).bind fun AU => (spec_l03Held.l0 BA Ai (Int.tmod (wrap64 ((wrap64 (AM + 1)) + AU.1)) 1000) (wrap64 (AH + 1)) AF AU.2.1 AU.2.2 AG AE)) = some (r1, r2, r3) := by first | (rw [AP]; with_reducible exact H) | (have Ae := (Option.bind_some _ _).symm.trans H; rw [AP]; with_reducible exact Ae) | (have Ae := (Option.bind_some _ _).symm.trans H; with_reducible exact Ae) | with_reducible exact H | (rw [AP]; exact H) | exact H
 have Aj := ak AP
 clear AP
 replace H := Option.bind_eq_some_iff.mp H
 obtain ⟨⟨Aq, At, Ap⟩, Al, H⟩ := H
 have BJ := ak Al
 clear Al
 have H' := ak H
 clear H
 go_wp2_with (first | ((with_reducible refine gate_callee (f := 61) rfl ?_); refine goesL_ (some 25) rfl rfl Tryz.func61 (by kernel_rfl) rfl #[.pointer (some ⟨g, 0, none⟩), .int .i64 2] rfl gl_ ?_; (with_reducible refine (spec_l00Src_one.calls g AF AC AD 2 true AS AR w0 _ ?side1 ?side2 BE.out).mono ?_); (case side1 => repeat (first | (with_reducible first | exact AB.out | apply IsS86.alloc | apply IsS86.drewN | apply IsS86.drew | apply IsS86.set_1 | apply IsS86.set_2 | refine IsS86.far ?_ AA.out _) | exact AB.out)); (case side2 => repeat (first | (with_reducible first | exact HB.out | apply below_alloc | apply pw_below_drewN | apply below_drew1 | refine below_set ?_ (IsS86.ge AB.out)) | exact HB.out)); rintro e BU ⟨rfl, hi, hb, hk⟩; refine ⟨_, rfl, ?_⟩; replace AI := ak (Kd.R_mono (Kd.R_keep (IsS86.apart (show IsS86 w0 _ g AF AC AD from by repeat (first | (with_reducible first | exact AB.out | apply IsS86.alloc | apply IsS86.drewN | apply IsS86.drew | apply IsS86.set_1 | apply IsS86.set_2 | refine IsS86.far ?_ AA.out _) | exact AB.out)) (zR AI.out) (by decide)) hk (fun _ h => h.2)) (fun _ h => h.1)); replace AJ := ak (KeepBut.blk hk (g' := b1) (o := .cells #[.int .i16 AG, .slice AK AE.length AL] 27 (0, 0)) (zK AJ.out) AN.out (by simp)); replace HK := ak (KeepBut.trans (by repeat (first | (with_reducible first | exact HK.out | apply KeepBut.set_ | apply keep_drewN | apply keep_drew | apply keep_alloc | refine keep_far ?_ GW1.out _) | exact HK.out)) hk (.inl rfl)); replace HB := ak (hb); replace AB := ak (hi); (try clear hb); (try clear hk); (try clear hi)) | ((with_reducible refine gate_builtin (b := .append) (xs := #[.tmp 26, .tmp 32]) rfl ?_); at_builtin; refine Kd.R_append k52 w.heap.size rfl (.tmp 26) (.tmp 32) 29 52 (.agg #[(.int .i16 0), (.int .i8 0)]) 4 rfl Tryz.underlying29 info52 rfl (by decide) (by omega) u5 AO (⟨IntKind.i16.wrap (AM), IntKind.i8.wrap (AH)⟩ : S52) [.int .i16 (IntKind.i16.wrap (AM)), .int .i8 (IntKind.i8.wrap (AH))] (fun _ => True) (fun _ => False) rfl rfl ?aP (fun _ hk => hk.elim) ?aF ?aO (Below.refl _ _) ?aS ?aL ?_; (case aP => exact k52_mkM _ _ _ (⟨IntKind.i16.wrap (AM), IntKind.i8.wrap (AH)⟩ : S52)); (case aF => exact (fun _ _ => trivial)); (case aO => exact (zR AI.out)); (case aS => exact (keep_size (w := w) (g := g) (row := none) (by repeat (first | (with_reducible first | exact HK.out | apply KeepBut.set_ | apply keep_drewN | apply keep_drew | apply keep_alloc | refine keep_far ?_ GW1.out _) | exact HK.out)))); (case aL => have := As.out; omega); intro BL BT ho hb hg hat; rw [← Aj.out] at ho; have AW := ak (ho); replace AJ := ak (blk_grown (g := b1) (o := .cells #[.int .i16 AG, .slice AK AE.length AL] 27 (0, 0)) (zK AJ.out) hg (Kd.R_ne AI.out AJ.out (by decide))); replace HB := ak (below_weaken (by repeat (first | (with_reducible first | exact HB.out | apply below_alloc | apply pw_below_drewN | apply below_drew1 | refine below_set ?_ (IsS86.ge AB.out)) | exact HB.out)) HL.out hb); replace AB := ak (IsS86.grown (w0 := w0) (f0 := AF) (f1 := AS) (f2 := AR) (by repeat (first | (with_reducible first | exact AB.out | apply IsS86.alloc | apply IsS86.drewN | apply IsS86.drew | apply IsS86.set_1 | apply IsS86.set_2 | refine IsS86.far ?_ AA.out _) | exact AB.out)) hg (IsS86.own_ne AB.out AI.out (by decide))); replace HK := ak (KeepBut.trans (by repeat (first | (with_reducible first | exact HK.out | apply KeepBut.set_ | apply keep_drewN | apply keep_drew | apply keep_alloc | refine keep_far ?_ GW1.out _) | exact HK.out)) (KeepBut.of_grown hg g) (Kd.R_base2 AI.out)); clear AI ho hb hg hat) | ((with_reducible refine gate_callee (f := 49) rfl ?_); refine goesL_ (some 37) rfl rfl Tryz.func49 (by kernel_rfl) rfl #[.pointer (some ⟨g, 0, none⟩), .int .i64 30] rfl gl_ ?_; (with_reducible refine (spec_l00Src_pick.calls g AF AS AR 30 Aq At Ap w0 _ ?side1 ?side2 BJ.out).mono ?_); (case side1 => repeat (first | (with_reducible first | exact AB.out | apply IsS86.alloc | apply IsS86.drewN | apply IsS86.drew | apply IsS86.set_1 | apply IsS86.set_2 | refine IsS86.far ?_ AA.out _) | exact AB.out)); (case side2 => repeat (first | (with_reducible first | exact HB.out | apply below_alloc | apply pw_below_drewN | apply below_drew1 | refine below_set ?_ (IsS86.ge AB.out)) | exact HB.out)); rintro e BS ⟨rfl, hi, hb, hk⟩; refine ⟨_, rfl, ?_⟩; replace AJ := ak (KeepBut.blk hk (g' := b1) (o := .cells #[.int .i16 AG, .slice AK AE.length AL] 27 (0, 0)) (zK AJ.out) AN.out (by simp)); replace AW := ak (Kd.R_mono (Kd.R_keep (IsS86.apart (show IsS86 w0 _ g AF AS AR from by repeat (first | (with_reducible first | exact AB.out | apply IsS86.alloc | apply IsS86.drewN | apply IsS86.drew | apply IsS86.set_1 | apply IsS86.set_2 | refine IsS86.far ?_ AA.out _) | exact AB.out)) (zR AW.out) (by decide)) hk (fun _ h => h.2)) (fun _ h => h.1)); replace HK := ak (KeepBut.trans (by repeat (first | (with_reducible first | exact HK.out | apply KeepBut.set_ | apply keep_drewN | apply keep_drew | apply keep_alloc | refine keep_far ?_ GW1.out _) | exact HK.out)) hk (.inl rfl)); replace HB := ak (hb); replace AB := ak (hi); (try clear hb); (try clear hk); (try clear hi)))
 go_roundg BA
 case measure => have := Af.out; have := Aw.out; omega
 case rel => exact ⟨(Ai), (Int.tmod (wrap64 ((wrap64 (AM + 1)) + Aq)) 1000), (wrap64 (AH + 1)), (At), (Ap), rfl, rfl, H', ⟨by have := Af.out; have := Aw.out; omega⟩, ⟨(zR AW.out)⟩, ⟨(zK AJ.out)⟩, ⟨by repeat (first | (with_reducible first | exact AB.out | apply IsS86.alloc | apply IsS86.drewN | apply IsS86.drew | apply IsS86.set_1 | apply IsS86.set_2 | refine IsS86.far ?_ AA.out _) | exact AB.out)⟩, ⟨by repeat (first | (with_reducible first | exact HK.out | apply KeepBut.set_ | apply keep_drewN | apply keep_drew | apply keep_alloc | refine keep_far ?_ GW1.out _) | exact HK.out)⟩, ⟨by repeat (first | (with_reducible first | exact HB.out | apply below_alloc | apply pw_below_drewN | apply below_drew1 | refine below_set ?_ (IsS86.ge AB.out)) | exact HB.out)⟩⟩
 }
 · rw [if_neg A7] at H; exact absurd H (by simp)
 }
 {
 replace Ax := Bool.eq_false_iff.mpr Ax
 subst Ax
 rw [if_neg (show ¬ (false = true) by decide)] at H
 have H' := ak H
 clear H
 go_wp2_with (first | ((with_reducible refine gate_callee (f := 61) rfl ?_); refine goesL_ (some 25) rfl rfl Tryz.func61 (by kernel_rfl) rfl #[.pointer (some ⟨g, 0, none⟩), .int .i64 2] rfl gl_ ?_; (with_reducible refine (spec_l00Src_one.calls g AF AC AD 2 false AS AR w0 _ ?side1 ?side2 BE.out).mono ?_); (case side1 => repeat (first | (with_reducible first | exact AB.out | apply IsS86.alloc | apply IsS86.drewN | apply IsS86.drew | apply IsS86.set_1 | apply IsS86.set_2 | refine IsS86.far ?_ AA.out _) | exact AB.out)); (case side2 => repeat (first | (with_reducible first | exact HB.out | apply below_alloc | apply pw_below_drewN | apply below_drew1 | refine below_set ?_ (IsS86.ge AB.out)) | exact HB.out)); rintro e BR ⟨rfl, hi, hb, hk⟩; refine ⟨_, rfl, ?_⟩; replace AI := ak (Kd.R_mono (Kd.R_keep (IsS86.apart (show IsS86 w0 _ g AF AC AD from by repeat (first | (with_reducible first | exact AB.out | apply IsS86.alloc | apply IsS86.drewN | apply IsS86.drew | apply IsS86.set_1 | apply IsS86.set_2 | refine IsS86.far ?_ AA.out _) | exact AB.out)) (zR AI.out) (by decide)) hk (fun _ h => h.2)) (fun _ h => h.1)); replace AJ := ak (KeepBut.blk hk (g' := b1) (o := .cells #[.int .i16 AG, .slice AK AE.length AL] 27 (0, 0)) (zK AJ.out) AN.out (by simp)); replace HK := ak (KeepBut.trans (by repeat (first | (with_reducible first | exact HK.out | apply KeepBut.set_ | apply keep_drewN | apply keep_drew | apply keep_alloc | refine keep_far ?_ GW1.out _) | exact HK.out)) hk (.inl rfl)); replace HB := ak (hb); replace AB := ak (hi); (try clear hb); (try clear hk); (try clear hi)))
 go_roundg BA
 case measure => have := Af.out; have := Aw.out; omega
 case rel => exact ⟨(AO), (AM), (wrap64 (AH + 1)), (AS), (AR), rfl, rfl, H', ⟨by have := Af.out; have := Aw.out; omega⟩, ⟨(zR AI.out)⟩, ⟨(zK AJ.out)⟩, ⟨by repeat (first | (with_reducible first | exact AB.out | apply IsS86.alloc | apply IsS86.drewN | apply IsS86.drew | apply IsS86.set_1 | apply IsS86.set_2 | refine IsS86.far ?_ AA.out _) | exact AB.out)⟩, ⟨by repeat (first | (with_reducible first | exact HK.out | apply KeepBut.set_ | apply keep_drewN | apply keep_drew | apply keep_alloc | refine keep_far ?_ GW1.out _) | exact HK.out)⟩, ⟨by repeat (first | (with_reducible first | exact HB.out | apply below_alloc | apply pw_below_drewN | apply below_drew1 | refine below_set ?_ (IsS86.ge AB.out)) | exact HB.out)⟩⟩
 }
 }
 {
 replace A2 := Bool.eq_false_iff.mpr A2
 subst A2
 rw [if_neg (show ¬ (false = true) by decide)] at H
 simp only [Option.some.injEq, Prod.mk.injEq] at H
 obtain ⟨rfl, rfl, rfl⟩ := H
 go_wp2
 go_ret
 exact ⟨_, rfl, AI.out, by repeat (first | (with_reducible first | exact AB.out | apply IsS86.alloc | apply IsS86.drewN | apply IsS86.drew | apply IsS86.set_1 | apply IsS86.set_2 | refine IsS86.far ?_ AA.out _) | exact AB.out), by repeat (first | (with_reducible first | exact HB.out | apply below_alloc | apply pw_below_drewN | apply below_drew1 | refine below_set ?_ (IsS86.ge AB.out)) | exact HB.out), by repeat (first | (with_reducible first | exact HK.out | apply KeepBut.set_ | apply keep_drewN | apply keep_drew | apply keep_alloc | refine keep_far ?_ GW1.out _) | exact HK.out)⟩
 }
 )
 )
 )
 )
end Go.Proofs.YtlggjfhoecaelaaGreatDoor.P
