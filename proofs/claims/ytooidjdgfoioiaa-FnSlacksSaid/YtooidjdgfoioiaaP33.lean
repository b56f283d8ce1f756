-- Printed by wip/print (my turned copy of the kit's print) out of the translation; Lean checks it.
import Derived.Test.YtooidjdgfoioiaaP0
namespace Go.Proofs.Ytooidjdgfoioiaa.P
open Go.RowKit Go.Proofs.YtooidjdgfoioiaaW.PrintWords Go.Proofs.YtooidjdgfoioiaaW.PrintLast Go.Proofs.YtooidjdgfoioiaaW.PrintMore
attribute [local go_sem] max2_int min2_int max_two min_two max_three min_three max_four min_four   -- for this text's walks alone
set_option linter.unusedVariables false
set_option linter.unusedSimpArgs false

theorem set2_eq_ (a b c : Value) (X Y : Int) (h : X = Y) : (#[a, b, c] : Array Value).setIfInBounds 2 (.int .u8 X) = #[a, b, .int .u8 Y] := by subst h; rfl

/-! ### laws_f6big: function 24 -/
def laws_f6big.f (l0 : List Int) : Option (Bool) := some (decide ((l0.length : Int) > 4096))
set_option maxHeartbeats 8000000 in
set_option maxRecDepth 100000 in
theorem laws_f6big.calls (A0 : Option Addr) (c0 : Nat) (l0 : List Int) (r : Bool) (w : World) (AB : Kd.C (Kd.int .u8) w A0 l0.length l0) (AA : l0.length ≤ c0) (h : laws_f6big.f l0 = some r) :
    Calls Try.prog 24 #[.slice A0 l0.length c0] w fun e w' => e = .returned (.bool r) ∧ Drawn0 w w' := by
 have AD := ak AB
 have AC := ak AA
 clear AB AA
 have H := h
 unfold laws_f6big.f at H
 clear h
 obtain rfl := Option.some.inj H
 go_enter Try.func24, Try.ntmps24
 go_wp2
 go_ret
 exact ⟨by first | rfl | (simp; done) | (simp [*]; done), by repeat (first | exact Drawn0.refl _ | apply Drawn0.step)⟩
/-- A state of type 123 at block g of W; what its slices lead to came in by w0. -/
def IsS123 (w0 W : World) (g : Nat) (f0 : List Int) (f1 : Int) (f2 : Int) : Prop := ∃ A0 c0, W.heap[g]? = some (.cells #[.slice A0 f0.length c0, .int .i64 f1, .int .u64 f2] 123 (0, 0)) ∧ w0.heap.size ≤ g ∧ Kd.C (Kd.int .u8) w0 A0 f0.length f0
theorem IsS123.grown {w0 W : World} {g : Nat} {f0 : List Int} {f1 : Int} {f2 : Int} {W1 : World} {row : Option Nat} (h : IsS123 w0 W g f0 f1 f2) (hw : W.grownBy W1 row) (hne : some g ≠ row) : IsS123 w0 W1 g f0 f1 f2 := by
  obtain ⟨A0, c0, hb, hg, AA⟩ := h
  exact ⟨A0, c0, blk_grown hb hw hne, hg, AA⟩
theorem IsS123.own_neN {w0 W : World} {g : Nat} {f0 : List Int} {f1 : Int} {f2 : Int} {α : Type} {d : Kd α} {e : Nat} {base : Nat} {ok : Nat → Prop} {v : Value} {xs : List α} (h : IsS123 w0 W g f0 f1 f2) (ho : Kd.N d e W base ok v xs) (ht : e ≠ 123) : some g ≠ v.ownBlock := by
  obtain ⟨A0, c0, hb, hg, AA⟩ := h
  exact Kd.N_ne ho hb ht
theorem IsS123.fresh {w0 W : World} {g : Nat} {f0 : List Int} {f1 : Int} {f2 : Int} (h : IsS123 w0 W g f0 f1 f2) : ∀ k, W.heap.size ≤ k → k ≠ g := by
  obtain ⟨A0, c0, hb, hg, AA⟩ := h
  exact Kd.freshB hb
theorem IsS123.kept {w0 W : World} {g : Nat} {f0 : List Int} {f1 : Int} {f2 : Int} {W1 : World} {S : Nat → Prop} (h : IsS123 w0 W g f0 f1 f2) (hk : Kept W W1 S) (hne : ¬ S g) : IsS123 w0 W1 g f0 f1 f2 := by
  obtain ⟨A0, c0, hb, hg, AA⟩ := h
  exact ⟨A0, c0, blk_kept hb hk hne, hg, AA⟩
theorem IsS123.below {w0 W : World} {g : Nat} {f0 : List Int} {f1 : Int} {f2 : Int} {W1 : World} (h : IsS123 w0 W g f0 f1 f2) (hw : Below W.heap.size W W1) : IsS123 w0 W1 g f0 f1 f2 := h.grown (grown_of_below hw none) (by simp)
theorem IsS123.alloc {w0 W : World} {g : Nat} {f0 : List Int} {f1 : Int} {f2 : Int} (h : IsS123 w0 W g f0 f1 f2) (o : Obj) : IsS123 w0 (W.alloc o) g f0 f1 f2 := h.below (below_alloc (Below.refl _ _) o)
theorem IsS123.drewN {w0 W : World} {g : Nat} {f0 : List Int} {f1 : Int} {f2 : Int} (h : IsS123 w0 W g f0 f1 f2) (m : Nat) : IsS123 w0 (W.drewN m) g f0 f1 f2 := h
theorem IsS123.drew {w0 W : World} {g : Nat} {f0 : List Int} {f1 : Int} {f2 : Int} (h : IsS123 w0 W g f0 f1 f2) : IsS123 w0 W.drew g f0 f1 f2 := h
theorem IsS123.at_ {w0 W : World} {g : Nat} {f0 : List Int} {f1 : Int} {f2 : Int} {w' : World} {m : Nat} (hq : W.drewN m = w') (h : IsS123 w0 W g f0 f1 f2) : IsS123 w0 w' g f0 f1 f2 := by subst hq; exact IsS123.drewN h m
theorem IsS123.apart {w0 W : World} {g : Nat} {f0 : List Int} {f1 : Int} {f2 : Int} {α : Type} {d : Kd α} {e : Nat} {base : Nat} {ok : Nat → Prop} {v : Value} {xs : List α} (h : IsS123 w0 W g f0 f1 f2) (ho : d.R e W base ok v xs) (ht : ∀ q, q ∈ e :: d.E → q ≠ 123) : d.R e W base (fun k => ok k ∧ k ≠ g) v xs := by
  obtain ⟨A0, c0, hb, hg, AA⟩ := h
  exact Kd.R_types ho hb ht
theorem IsS123.own_ne {w0 W : World} {g : Nat} {f0 : List Int} {f1 : Int} {f2 : Int} {α : Type} {d : Kd α} {e : Nat} {base : Nat} {ok : Nat → Prop} {v : Value} {xs : List α} (h : IsS123 w0 W g f0 f1 f2) (ho : d.R e W base ok v xs) (ht : e ≠ 123) : some g ≠ v.ownBlock := by
  obtain ⟨A0, c0, hb, hg, AA⟩ := h
  exact Kd.R_ne ho hb ht
theorem IsS123.apartQ {w0 W : World} {g : Nat} {f0 : List Int} {f1 : Int} {f2 : Int} {α : Type} {d : Kd α} {e : Nat} {base : Nat} {ok : Nat → Prop} {v : Value} {xs : List α} (h : IsS123 w0 W g f0 f1 f2) (ho : d.Q e W base ok v xs) (ht : ∀ q, q ∈ e :: d.E → q ≠ 123) : d.Q e W base (fun k => ok k ∧ k ≠ g) v xs := by
  obtain ⟨A0, c0, hb, hg, AA⟩ := h
  exact Kd.Q_types ho hb ht
theorem IsS123.own_neQ {w0 W : World} {g : Nat} {f0 : List Int} {f1 : Int} {f2 : Int} {α : Type} {d : Kd α} {e : Nat} {base : Nat} {ok : Nat → Prop} {v : Value} {xs : List α} (h : IsS123 w0 W g f0 f1 f2) (ho : d.Q e W base ok v xs) (ht : e ≠ 123) : some g ≠ v.ownBlock := by
  obtain ⟨A0, c0, hb, hg, AA⟩ := h
  exact Kd.Q_ne ho hb ht
theorem IsS123.apartS {w0 W : World} {g : Nat} {f0 : List Int} {f1 : Int} {f2 : Int} {α : Type} {d : Kd α} {e : Nat} {base : Nat} {ok : Nat → Prop} {v : Value} {xs : List α} (h : IsS123 w0 W g f0 f1 f2) (ho : d.S e W base ok v xs) (ht : ∀ q, q ∈ e :: d.E → q ≠ 123) : d.S e W base (fun k => ok k ∧ k ≠ g) v xs := by
  obtain ⟨A0, c0, hb, hg, AA⟩ := h
  exact Kd.S_types ho hb ht
theorem IsS123.own_neS {w0 W : World} {g : Nat} {f0 : List Int} {f1 : Int} {f2 : Int} {α : Type} {d : Kd α} {e : Nat} {base : Nat} {ok : Nat → Prop} {v : Value} {xs : List α} (h : IsS123 w0 W g f0 f1 f2) (ho : d.S e W base ok v xs) (ht : e ≠ 123) : some g ≠ v.ownBlock := by
  obtain ⟨A0, c0, hb, hg, AA⟩ := h
  exact Kd.S_ne ho hb ht
theorem IsS123.lt {w0 W : World} {g : Nat} {f0 : List Int} {f1 : Int} {f2 : Int} (h : IsS123 w0 W g f0 f1 f2) : g < W.heap.size := by
  obtain ⟨A0, c0, hb, hg, AA⟩ := h
  exact blk_lt hb
theorem IsS123.ge {w0 W : World} {g : Nat} {f0 : List Int} {f1 : Int} {f2 : Int} (h : IsS123 w0 W g f0 f1 f2) : w0.heap.size ≤ g := by
  obtain ⟨A0, c0, hb, hg, AA⟩ := h
  exact hg
theorem IsS123.ne_blk {w0 W : World} {g : Nat} {f0 : List Int} {f1 : Int} {f2 : Int} {a : Nat} {cs : Array Value} {t : TypeId} {fr : Nat × Nat} (h : IsS123 w0 W g f0 f1 f2) (AA : W.heap[a]? = some (.cells cs t fr)) (ht : t ≠ 123) : g ≠ a := by
  obtain ⟨A0, c0, hb, hg, AB⟩ := h
  rintro rfl
  rw [hb] at AA
  injection AA with AA
  injection AA with _ ht2
  exact ht ht2.symm
theorem IsS123.far {w0 W : World} {g : Nat} {f0 : List Int} {f1 : Int} {f2 : Int} {p : Addr} (h : IsS123 w0 W g f0 f1 f2) (hne : g ≠ p.block) (u : Value) : IsS123 w0 (W.setCell p u) g f0 f1 f2 := by
  obtain ⟨A0, c0, hb, hg, AA⟩ := h
  exact ⟨A0, c0, blk_far hb hne u, hg, AA⟩
theorem cellS123_0 {W : World} {g : Nat} {A0 : Option Addr} {c0 : Nat} {f0 : List Int} {f1 : Int} {f2 : Int} (h : W.heap[g]? = some (.cells #[.slice A0 f0.length c0, .int .i64 f1, .int .u64 f2] 123 (0, 0))) : W.cell? ⟨g, 0, none⟩ = some (.slice A0 f0.length c0) := (blk_cell h 0).trans rfl
theorem cellS123_1 {W : World} {g : Nat} {A0 : Option Addr} {c0 : Nat} {f0 : List Int} {f1 : Int} {f2 : Int} (h : W.heap[g]? = some (.cells #[.slice A0 f0.length c0, .int .i64 f1, .int .u64 f2] 123 (0, 0))) : W.cell? ⟨g, 1, none⟩ = some (.int .i64 f1) := (blk_cell h 1).trans rfl
theorem IsS123.set_1 {w0 W : World} {g : Nat} {f0 : List Int} {f1 : Int} {f2 : Int} (h : IsS123 w0 W g f0 f1 f2) (x : Int) : IsS123 w0 (W.setCell ⟨g, 1, none⟩ (.int .i64 x)) g f0 x f2 := by
  obtain ⟨A0, c0, hb, hg, AA⟩ := h
  exact ⟨A0, c0, by simpa using blk_set hb 1 (.int .i64 x), hg, AA⟩
theorem cellS123_2 {W : World} {g : Nat} {A0 : Option Addr} {c0 : Nat} {f0 : List Int} {f1 : Int} {f2 : Int} (h : W.heap[g]? = some (.cells #[.slice A0 f0.length c0, .int .i64 f1, .int .u64 f2] 123 (0, 0))) : W.cell? ⟨g, 2, none⟩ = some (.int .u64 f2) := (blk_cell h 2).trans rfl
theorem IsS123.set_2 {w0 W : World} {g : Nat} {f0 : List Int} {f1 : Int} {f2 : Int} (h : IsS123 w0 W g f0 f1 f2) (x : Int) : IsS123 w0 (W.setCell ⟨g, 2, none⟩ (.int .u64 x)) g f0 f1 x := by
  obtain ⟨A0, c0, hb, hg, AA⟩ := h
  exact ⟨A0, c0, by simpa using blk_set hb 2 (.int .u64 x), hg, AA⟩
theorem IsS123.new (w0 W : World) (A0 : Option Addr) (c0 : Nat) (f0 : List Int) (f1 : Int) (f2 : Int) (hB : Below w0.heap.size w0 W) (AA : Kd.C (Kd.int .u8) w0 A0 f0.length f0) : IsS123 w0 (W.alloc (.cells #[.slice A0 f0.length c0, .int .i64 f1, .int .u64 f2] 123)) W.heap.size f0 f1 f2 := ⟨A0, c0, by simpa using heap_alloc_new W _, hB.size, AA⟩

/-! ### spec_l00From: function 60 -/
def spec_l00From.f (l0 : List Int) : Option (List Int × Int × Int) := some (l0, 0, 0)
set_option maxHeartbeats 8000000 in
set_option maxRecDepth 100000 in
theorem spec_l00From.calls (A0 : Option Addr) (c0 : Nat) (l0 : List Int) (r1 : List Int) (r2 : Int) (r3 : Int) (w0 w : World) (hB : Below w0.heap.size w0 w) (AH : Kd.C (Kd.int .u8) w0 A0 l0.length l0) (AG : l0.length ≤ c0) (h : spec_l00From.f l0 = some (r1, r2, r3)) :
    Calls Try.prog 60 #[.slice A0 l0.length c0] w fun e w' => ∃ g_ : Nat, e = .returned (.pointer (some ⟨g_, 0, none⟩)) ∧ IsS123 w0 w' g_ r1 r2 r3 ∧ Below w0.heap.size w0 w' ∧ Below w.heap.size w w' := by
 have AF := Try.underlying123
 have AJ := ak AH
 have AK := ak AG
 clear AH AG
 have AC := ak (Below.refl w.heap.size w)
 have AI := ak hB.size
 have HB := ak hB
 clear hB
 have H := h
 unfold spec_l00From.f at H
 clear h
 simp only [Option.some.injEq, Prod.mk.injEq] at H
 obtain ⟨rfl, rfl, rfl⟩ := H
 go_enter Try.func60, Try.ntmps60
 go_wp2_with (first | ((with_reducible refine gate_dst (N := 5) rfl ?_); refine box_event ?hg (N := 5) ?hd (cs := #[.slice A0 l0.length c0, .int .i64 0, .int .u64 0]) (t := 123) ?hr ?_; (case hd => rfl); (case hg => rfl); (case hr => first | (go_simp; done) | (go_simp; rfl)); intro AA hg w2 hbox hb; have AE := ak (hbox); have AD := gS AC hg; have AB := ak ((Nat.le_trans AI.out (by rw [hg]; exact (below_size (zB AC.out)) : w.heap.size ≤ AA) : w0.heap.size ≤ AA)); replace AC := ak (below_step AC.out hb); replace HB := kB HB hb; clear hb hbox hg))
 go_ret
 exact ⟨_, rfl, (show IsS123 w0 _ AA l0 0 0 from ⟨_, _, by exact AE.out, AB.out, AJ.out⟩), zBG HB.out AB.out, by repeat (first | (with_reducible first | exact AC.out | apply below_alloc | apply pw_below_drewN | apply below_drew1 | refine below_set ?_ AD.out) | exact AC.out)⟩
/-! ### spec_l00Src_next: function 85 -/
def spec_l00Src_next.f (AB : List Int) (AA : Int) (AC : Int) : Option (Int × Int × Int) := if AA < (AB.length : Int) then (if 0 ≤ AA then (if (wrap64 (AA + 1)) ≤ (AB.length : Int) then (some (wrap64 (rd AB AA), wrap64 (AA + 1), IntKind.u64.wrap ((IntKind.u64.wrap ((IntKind.u64.wrap (AC * 6364136223846793005)) + (IntKind.u64.wrap (wrap64 (rd AB AA))))) + 1442695040888963407))) else (some (wrap64 (Go.bits .and .u64 ((IntKind.u64.wrap ((IntKind.u64.wrap ((IntKind.u64.wrap (AC * 6364136223846793005)) + (IntKind.u64.wrap (wrap64 (rd AB AA))))) + 1442695040888963407)) / 1099511627776) 255), wrap64 (AA + 1), IntKind.u64.wrap ((IntKind.u64.wrap ((IntKind.u64.wrap (AC * 6364136223846793005)) + (IntKind.u64.wrap (wrap64 (rd AB AA))))) + 1442695040888963407)))) else (none)) else (if (wrap64 (AA + 1)) ≤ (AB.length : Int) then (some (0, wrap64 (AA + 1), IntKind.u64.wrap ((IntKind.u64.wrap ((IntKind.u64.wrap (AC * 6364136223846793005)) + 0)) + 1442695040888963407))) else (some (wrap64 (Go.bits .and .u64 ((IntKind.u64.wrap ((IntKind.u64.wrap ((IntKind.u64.wrap (AC * 6364136223846793005)) + 0)) + 1442695040888963407)) / 1099511627776) 255), wrap64 (AA + 1), IntKind.u64.wrap ((IntKind.u64.wrap ((IntKind.u64.wrap (AC * 6364136223846793005)) + 0)) + 1442695040888963407))))
set_option maxHeartbeats 8000000 in
set_option maxRecDepth 100000 in
theorem spec_l00Src_next.calls (g : Nat) (AB : List Int) (AA : Int) (AN : Int) (r1 : Int) (r2 : Int) (r3 : Int) (w0 w : World) (hI : IsS123 w0 w g AB AA AN) (hB : Below w0.heap.size w0 w) (h : spec_l00Src_next.f AB AA AN = some (r1, r2, r3)) :
    Calls Try.prog 85 #[.pointer (some ⟨g, 0, none⟩)] w fun e w' => e = .returned (.int .i64 r1) ∧ IsS123 w0 w' g AB r2 r3 ∧ Below w0.heap.size w0 w' ∧ KeepBut w w' g none := by
 have AD := ak hI
 have HK := ak (KeepBut.refl w g none)
 have HL := ak hB.size
 clear hI
 have A3 := ak hB.size
 have HB := ak hB
 clear hB
 have H := h
 unfold spec_l00Src_next.f at H
 clear h
 by_cases c2 : AA < (AB.length : Int)
 {
 rw [if_pos c2] at H
 have Aq : decide (AA < (AB.length : Int)) = true := decide_eq_true c2
 clear c2
 by_cases c3 : 0 ≤ AA
 {
 rw [if_pos c3] at H
 have A2 : decide (0 ≤ AA) = true := decide_eq_true c3
 clear c3
 by_cases c4 : (wrap64 (AA + 1)) ≤ (AB.length : Int)
 {
 rw [if_pos c4] at H
 have Ad : decide ((wrap64 (AA + 1)) ≤ (AB.length : Int)) = true := decide_eq_true c4
 (try (have AR : decide ((IntKind.i64.wrap (AA + 1)) ≤ (AB.length : Int)) = true := by first | simpa only [i64_w, i32_w] using (show decide ((wrap64 (AA + 1)) ≤ (AB.length : Int)) = true from decide_eq_true c4) | simpa only [i64_w] using (show decide ((wrap64 (AA + 1)) ≤ (AB.length : Int)) = true from decide_eq_true c4)))
 clear c4
 simp only [Option.some.injEq, Prod.mk.injEq] at H
 obtain ⟨rfl, rfl, rfl⟩ := H
 obtain ⟨AY, Ak, AI, AU, AK⟩ := AD.out
 have Aj := cellS123_0 AI
 have Ap := cellS123_1 AI
 have AZ := cellS123_2 AI
 have Ay := blk_frozen AI 1
 have AX := blk_frozen AI 2
 clear AI AU
 have AF : 0 ≤ (AA : Int) := of_decide_eq_true (by assumption)
 have AE : AA < (AB.length : Int) := of_decide_eq_true (by assumption)
 obtain ⟨AO, AL, AC⟩ := Kd.at_int AK AA AF AE
 cases AL
 replace AC := pw_cell_below HB.out AC
 replace AF := eq_true AF
 replace AE := eq_true AE
 go_enter Try.func85, Try.ntmps85
 go_wp2
 repeat (go_quiet (fail); try go_wp2)
 go_ret
 (try simp only [Int.add_zero])
 exact ⟨rfl, by repeat (first | (with_reducible first | exact AD.out | apply IsS123.alloc | apply IsS123.drewN | apply IsS123.drew | apply IsS123.set_1 | apply IsS123.set_2) | exact AD.out), by repeat (first | (with_reducible first | exact HB.out | apply below_alloc | apply pw_below_drewN | apply below_drew1 | refine below_set ?_ (IsS123.ge AD.out)) | exact HB.out), by repeat (first | (with_reducible first | exact HK.out | apply KeepBut.set_ | apply keep_drewN | apply keep_drew | apply keep_alloc) | exact HK.out)⟩
 }
 {
 rw [if_neg c4] at H
 have Ad : decide ((wrap64 (AA + 1)) ≤ (AB.length : Int)) = false := decide_eq_false c4
 (try (have AR : decide ((IntKind.i64.wrap (AA + 1)) ≤ (AB.length : Int)) = false := by first | simpa only [i64_w, i32_w] using (show decide ((wrap64 (AA + 1)) ≤ (AB.length : Int)) = false from decide_eq_false c4) | simpa only [i64_w] using (show decide ((wrap64 (AA + 1)) ≤ (AB.length : Int)) = false from decide_eq_false c4)))
 clear c4
 simp only [Option.some.injEq, Prod.mk.injEq] at H
 obtain ⟨rfl, rfl, rfl⟩ := H
 obtain ⟨Ab, AT, AJ, Ao, AM⟩ := AD.out
 have Ae := cellS123_0 AJ
 have AP := cellS123_1 AJ
 have An := cellS123_2 AJ
 have Ah := blk_frozen AJ 1
 have At := blk_frozen AJ 2
 clear AJ Ao
 have AF : 0 ≤ (AA : Int) := of_decide_eq_true (by assumption)
 have AE : AA < (AB.length : Int) := of_decide_eq_true (by assumption)
 obtain ⟨AO, AL, AC⟩ := Kd.at_int AM AA AF AE
 cases AL
 replace AC := pw_cell_below HB.out AC
 replace AF := eq_true AF
 replace AE := eq_true AE
 go_enter Try.func85, Try.ntmps85
 go_wp2
 repeat (go_quiet (fail); try go_wp2)
 go_ret
 (try simp only [Int.add_zero])
 exact ⟨rfl, by repeat (first | (with_reducible first | exact AD.out | apply IsS123.alloc | apply IsS123.drewN | apply IsS123.drew | apply IsS123.set_1 | apply IsS123.set_2) | exact AD.out), by repeat (first | (with_reducible first | exact HB.out | apply below_alloc | apply pw_below_drewN | apply below_drew1 | refine below_set ?_ (IsS123.ge AD.out)) | exact HB.out), by repeat (first | (with_reducible first | exact HK.out | apply KeepBut.set_ | apply keep_drewN | apply keep_drew | apply keep_alloc) | exact HK.out)⟩
 }
 }
 · rw [if_neg c3] at H; exact absurd H (by simp)
 }
 {
 rw [if_neg c2] at H
 have Aq : decide (AA < (AB.length : Int)) = false := decide_eq_false c2
 clear c2
 by_cases c7 : (wrap64 (AA + 1)) ≤ (AB.length : Int)
 {
 rw [if_pos c7] at H
 have Ax : decide ((wrap64 (AA + 1)) ≤ (AB.length : Int)) = true := decide_eq_true c7
 (try (have As : decide ((IntKind.i64.wrap (AA + 1)) ≤ (AB.length : Int)) = true := by first | simpa only [i64_w, i32_w] using (show decide ((wrap64 (AA + 1)) ≤ (AB.length : Int)) = true from decide_eq_true c7) | simpa only [i64_w] using (show decide ((wrap64 (AA + 1)) ≤ (AB.length : Int)) = true from decide_eq_true c7)))
 clear c7
 simp only [Option.some.injEq, Prod.mk.injEq] at H
 obtain ⟨rfl, rfl, rfl⟩ := H
 obtain ⟨Ai, Av, AH, Aw, Az⟩ := AD.out
 have AS := cellS123_0 AH
 have Am := cellS123_1 AH
 have A0 := cellS123_2 AH
 have Au := blk_frozen AH 1
 have Al := blk_frozen AH 2
 clear AH Aw
 go_enter Try.func85, Try.ntmps85
 go_wp2
 repeat (go_quiet (fail); try go_wp2)
 go_ret
 (try simp only [Int.add_zero])
 exact ⟨rfl, by repeat (first | (with_reducible first | exact AD.out | apply IsS123.alloc | apply IsS123.drewN | apply IsS123.drew | apply IsS123.set_1 | apply IsS123.set_2) | exact AD.out), by repeat (first | (with_reducible first | exact HB.out | apply below_alloc | apply pw_below_drewN | apply below_drew1 | refine below_set ?_ (IsS123.ge AD.out)) | exact HB.out), by repeat (first | (with_reducible first | exact HK.out | apply KeepBut.set_ | apply keep_drewN | apply keep_drew | apply keep_alloc) | exact HK.out)⟩
 }
 {
 rw [if_neg c7] at H
 have Ax : decide ((wrap64 (AA + 1)) ≤ (AB.length : Int)) = false := decide_eq_false c7
 (try (have As : decide ((IntKind.i64.wrap (AA + 1)) ≤ (AB.length : Int)) = false := by first | simpa only [i64_w, i32_w] using (show decide ((wrap64 (AA + 1)) ≤ (AB.length : Int)) = false from decide_eq_false c7) | simpa only [i64_w] using (show decide ((wrap64 (AA + 1)) ≤ (AB.length : Int)) = false from decide_eq_false c7)))
 clear c7
 simp only [Option.some.injEq, Prod.mk.injEq] at H
 obtain ⟨rfl, rfl, rfl⟩ := H
 obtain ⟨AQ, AW, AG, A1, AV⟩ := AD.out
 have Aa := cellS123_0 AG
 have Af := cellS123_1 AG
 have Ag := cellS123_2 AG
 have Ar := blk_frozen AG 1
 have Ac := blk_frozen AG 2
 clear AG A1
 go_enter Try.func85, Try.ntmps85
 go_wp2
 repeat (go_quiet (fail); try go_wp2)
 go_ret
 (try simp only [Int.add_zero])
 exact ⟨rfl, by repeat (first | (with_reducible first | exact AD.out | apply IsS123.alloc | apply IsS123.drewN | apply IsS123.drew | apply IsS123.set_1 | apply IsS123.set_2) | exact AD.out), by repeat (first | (with_reducible first | exact HB.out | apply below_alloc | apply pw_below_drewN | apply below_drew1 | refine below_set ?_ (IsS123.ge AD.out)) | exact HB.out), by repeat (first | (with_reducible first | exact HK.out | apply KeepBut.set_ | apply keep_drewN | apply keep_drew | apply keep_alloc) | exact HK.out)⟩
 }
 }
/-! ### spec_l00Src_pick: function 62 -/
def spec_l00Src_pick.f (AD : List Int) (AC : Int) (AE : Int) (a1 : Int) : Option (Int × Int × Int) := if a1 ≤ 1 then (some (0, AC, AE)) else ((spec_l00Src_next.f AD AC AE).bind fun AA => (if a1 > 200 then ((spec_l00Src_next.f AD AA.2.1 AA.2.2).bind fun AB => (if a1 = 0 then (none) else (some (Int.tmod (wrap64 ((wrap64 (AA.1 * 256)) + AB.1)) a1, AB.2.1, AB.2.2)))) else (if a1 = 0 then (none) else (some (Int.tmod AA.1 a1, AA.2.1, AA.2.2)))))
set_option maxHeartbeats 8000000 in
set_option maxRecDepth 100000 in
theorem spec_l00Src_pick.calls (g : Nat) (AB : List Int) (AC : Int) (AD : Int) (a1 : Int) (r1 : Int) (r2 : Int) (r3 : Int) (w0 w : World) (hI : IsS123 w0 w g AB AC AD) (hB : Below w0.heap.size w0 w) (h : spec_l00Src_pick.f AB AC AD a1 = some (r1, r2, r3)) :
    Calls Try.prog 62 #[.pointer (some ⟨g, 0, none⟩), .int .i64 a1] w fun e w' => e = .returned (.int .i64 r1) ∧ IsS123 w0 w' g AB r2 r3 ∧ Below w0.heap.size w0 w' ∧ KeepBut w w' g none := by
 have AA := ak hI
 have HK := ak (KeepBut.refl w g none)
 have HL := ak hB.size
 clear hI
 have AT := ak hB.size
 have HB := ak hB
 clear hB
 have H := h
 unfold spec_l00Src_pick.f at H
 clear h
 by_cases c3 : a1 ≤ 1
 {
 rw [if_pos c3] at H
 have AL : decide (a1 ≤ 1) = true := decide_eq_true c3
 clear c3
 simp only [Option.some.injEq, Prod.mk.injEq] at H
 obtain ⟨rfl, rfl, rfl⟩ := H
 go_enter Try.func62, Try.ntmps62
 go_wp2
 go_ret
 exact ⟨rfl, by repeat (first | (with_reducible first | exact AA.out | apply IsS123.alloc | apply IsS123.drewN | apply IsS123.drew | apply IsS123.set_1 | apply IsS123.set_2) | exact AA.out), by repeat (first | (with_reducible first | exact HB.out | apply below_alloc | apply pw_below_drewN | apply below_drew1 | refine below_set ?_ (IsS123.ge AA.out)) | exact HB.out), by repeat (first | (with_reducible first | exact HK.out | apply KeepBut.set_ | apply keep_drewN | apply keep_drew | apply keep_alloc) | exact HK.out)⟩
 }
 {
 rw [if_neg c3] at H
 have AL : decide (a1 ≤ 1) = false := decide_eq_false c3
 clear c3
 replace H := Option.bind_eq_some_iff.mp H
 obtain ⟨⟨AG, AF, AE⟩, AO, H⟩ := H
 have A4 := ak AO
 clear AO
 by_cases c5 : a1 > 200
 {
 rw [if_pos c5] at H
 have AJ : decide (200 < a1) = true := decide_eq_true c5
 clear c5
 replace H := Option.bind_eq_some_iff.mp H
 obtain ⟨⟨AK, AI, AM⟩, AQ, H⟩ := H
 have A6 := ak AQ
 clear AQ
 by_cases c7 : a1 = 0
 · rw [if_pos c7] at H; exact absurd H (by simp)
 {
 rw [if_neg c7] at H
 have AS : (a1 == 0) = false := beq_eq_false_iff_ne.mpr c7
 have AR : (a1 != 0) = true := bne_iff_ne.mpr c7
 simp only [Option.some.injEq, Prod.mk.injEq] at H
 obtain ⟨rfl, rfl, rfl⟩ := H
 go_enter Try.func62, Try.ntmps62
 go_wp2_with (first | ((with_reducible refine gate_callee (f := 85) rfl ?_); refine goesL_ (some 9) rfl rfl Try.func85 (by kernel_rfl) rfl #[.pointer (some ⟨g, 0, none⟩)] rfl gl_ ?_; (with_reducible refine (spec_l00Src_next.calls g AB AC AD AG AF AE w0 _ ?side1 ?side2 A4.out).mono ?_); (case side1 => repeat (first | (with_reducible first | exact AA.out | apply IsS123.alloc | apply IsS123.drewN | apply IsS123.drew | apply IsS123.set_1 | apply IsS123.set_2) | exact AA.out)); (case side2 => repeat (first | (with_reducible first | exact HB.out | apply below_alloc | apply pw_below_drewN | apply below_drew1 | refine below_set ?_ (IsS123.ge AA.out)) | exact HB.out)); rintro e w8 ⟨rfl, hi, hb, hk⟩; refine ⟨_, rfl, ?_⟩; replace HK := ak (KeepBut.trans (by repeat (first | (with_reducible first | exact HK.out | apply KeepBut.set_ | apply keep_drewN | apply keep_drew | apply keep_alloc) | exact HK.out)) hk (.inl rfl)); replace HB := ak (hb); replace AA := ak (hi); (try clear hb); (try clear hk); (try clear hi)) | ((with_reducible refine gate_callee (f := 85) rfl ?_); refine goesL_ (some 15) rfl rfl Try.func85 (by kernel_rfl) rfl #[.pointer (some ⟨g, 0, none⟩)] rfl gl_ ?_; (with_reducible refine (spec_l00Src_next.calls g AB AF AE AK AI AM w0 _ ?side1 ?side2 A6.out).mono ?_); (case side1 => repeat (first | (with_reducible first | exact AA.out | apply IsS123.alloc | apply IsS123.drewN | apply IsS123.drew | apply IsS123.set_1 | apply IsS123.set_2) | exact AA.out)); (case side2 => repeat (first | (with_reducible first | exact HB.out | apply below_alloc | apply pw_below_drewN | apply below_drew1 | refine below_set ?_ (IsS123.ge AA.out)) | exact HB.out)); rintro e w9 ⟨rfl, hi, hb, hk⟩; refine ⟨_, rfl, ?_⟩; replace HK := ak (KeepBut.trans (by repeat (first | (with_reducible first | exact HK.out | apply KeepBut.set_ | apply keep_drewN | apply keep_drew | apply keep_alloc) | exact HK.out)) hk (.inl rfl)); replace HB := ak (hb); replace AA := ak (hi); (try clear hb); (try clear hk); (try clear hi)))
 go_ret
 exact ⟨rfl, by repeat (first | (with_reducible first | exact AA.out | apply IsS123.alloc | apply IsS123.drewN | apply IsS123.drew | apply IsS123.set_1 | apply IsS123.set_2) | exact AA.out), by repeat (first | (with_reducible first | exact HB.out | apply below_alloc | apply pw_below_drewN | apply below_drew1 | refine below_set ?_ (IsS123.ge AA.out)) | exact HB.out), by repeat (first | (with_reducible first | exact HK.out | apply KeepBut.set_ | apply keep_drewN | apply keep_drew | apply keep_alloc) | exact HK.out)⟩
 }
 }
 {
 rw [if_neg c5] at H
 have AJ : decide (200 < a1) = false := decide_eq_false c5
 clear c5
 by_cases AH : a1 = 0
 · rw [if_pos AH] at H; exact absurd H (by simp)
 {
 rw [if_neg AH] at H
 have AP : (a1 == 0) = false := beq_eq_false_iff_ne.mpr AH
 have AN : (a1 != 0) = true := bne_iff_ne.mpr AH
 simp only [Option.some.injEq, Prod.mk.injEq] at H
 obtain ⟨rfl, rfl, rfl⟩ := H
 go_enter Try.func62, Try.ntmps62
 go_wp2_with (first | ((with_reducible refine gate_callee (f := 85) rfl ?_); refine goesL_ (some 9) rfl rfl Try.func85 (by kernel_rfl) rfl #[.pointer (some ⟨g, 0, none⟩)] rfl gl_ ?_; (with_reducible refine (spec_l00Src_next.calls g AB AC AD AG AF AE w0 _ ?side1 ?side2 A4.out).mono ?_); (case side1 => repeat (first | (with_reducible first | exact AA.out | apply IsS123.alloc | apply IsS123.drewN | apply IsS123.drew | apply IsS123.set_1 | apply IsS123.set_2) | exact AA.out)); (case side2 => repeat (first | (with_reducible first | exact HB.out | apply below_alloc | apply pw_below_drewN | apply below_drew1 | refine below_set ?_ (IsS123.ge AA.out)) | exact HB.out)); rintro e AU ⟨rfl, hi, hb, hk⟩; refine ⟨_, rfl, ?_⟩; replace HK := ak (KeepBut.trans (by repeat (first | (with_reducible first | exact HK.out | apply KeepBut.set_ | apply keep_drewN | apply keep_drew | apply keep_alloc) | exact HK.out)) hk (.inl rfl)); replace HB := ak (hb); replace AA := ak (hi); (try clear hb); (try clear hk); (try clear hi)))
 go_ret
 exact ⟨rfl, by repeat (first | (with_reducible first | exact AA.out | apply IsS123.alloc | apply IsS123.drewN | apply IsS123.drew | apply IsS123.set_1 | apply IsS123.set_2) | exact AA.out), by repeat (first | (with_reducible first | exact HB.out | apply below_alloc | apply pw_below_drewN | apply below_drew1 | refine below_set ?_ (IsS123.ge AA.out)) | exact HB.out), by repeat (first | (with_reducible first | exact HK.out | apply KeepBut.set_ | apply keep_drewN | apply keep_drew | apply keep_alloc) | exact HK.out)⟩
 }
 }
 }
/-! ### spec_l00Src_one: function 82 -/
def spec_l00Src_one.f (AD : List Int) (AB : Int) (AC : Int) (a1 : Int) : Option (Bool × Int × Int) := (spec_l00Src_pick.f AD AB AC a1).bind fun AA => (some ((AA.1 == 0), AA.2.1, AA.2.2))
set_option maxHeartbeats 8000000 in
set_option maxRecDepth 100000 in
theorem spec_l00Src_one.calls (g : Nat) (AA : List Int) (AB : Int) (AC : Int) (a1 : Int) (r1 : Bool) (r2 : Int) (r3 : Int) (w0 w : World) (hI : IsS123 w0 w g AA AB AC) (hB : Below w0.heap.size w0 w) (h : spec_l00Src_one.f AA AB AC a1 = some (r1, r2, r3)) :
    Calls Try.prog 82 #[.pointer (some ⟨g, 0, none⟩), .int .i64 a1] w fun e w' => e = .returned (.bool r1) ∧ IsS123 w0 w' g AA r2 r3 ∧ Below w0.heap.size w0 w' ∧ KeepBut w w' g none := by
 have AD := ak hI
 have HK := ak (KeepBut.refl w g none)
 have HL := ak hB.size
 clear hI
 have AI := ak hB.size
 have HB := ak hB
 clear hB
 have H := h
 unfold spec_l00Src_one.f at H
 clear h
 replace H := Option.bind_eq_some_iff.mp H
 obtain ⟨⟨AF, AE, AG⟩, AH, H⟩ := H
 have A3 := ak AH
 clear AH
 simp only [Option.some.injEq, Prod.mk.injEq] at H
 obtain ⟨rfl, rfl, rfl⟩ := H
 go_enter Try.func82, Try.ntmps82
 go_wp2_with (first | ((with_reducible refine gate_callee (f := 62) rfl ?_); refine goesL_ (some 7) rfl rfl Try.func62 (by kernel_rfl) rfl #[.pointer (some ⟨g, 0, none⟩), .int .i64 a1] rfl gl_ ?_; (with_reducible refine (spec_l00Src_pick.calls g AA AB AC a1 AF AE AG w0 _ ?side1 ?side2 A3.out).mono ?_); (case side1 => repeat (first | (with_reducible first | exact AD.out | apply IsS123.alloc | apply IsS123.drewN | apply IsS123.drew | apply IsS123.set_1 | apply IsS123.set_2) | exact AD.out)); (case side2 => repeat (first | (with_reducible first | exact HB.out | apply below_alloc | apply pw_below_drewN | apply below_drew1 | refine below_set ?_ (IsS123.ge AD.out)) | exact HB.out)); rintro e w4 ⟨rfl, hi, hb, hk⟩; refine ⟨_, rfl, ?_⟩; replace HK := ak (KeepBut.trans (by repeat (first | (with_reducible first | exact HK.out | apply KeepBut.set_ | apply keep_drewN | apply keep_drew | apply keep_alloc) | exact HK.out)) hk (.inl rfl)); replace HB := ak (hb); replace AD := ak (hi); (try clear hb); (try clear hk); (try clear hi)))
 go_ret
 exact ⟨rfl, by repeat (first | (with_reducible first | exact AD.out | apply IsS123.alloc | apply IsS123.drewN | apply IsS123.drew | apply IsS123.set_1 | apply IsS123.set_2) | exact AD.out), by repeat (first | (with_reducible first | exact HB.out | apply below_alloc | apply pw_below_drewN | apply below_drew1 | refine below_set ?_ (IsS123.ge AD.out)) | exact HB.out), by repeat (first | (with_reducible first | exact HK.out | apply KeepBut.set_ | apply keep_drewN | apply keep_drew | apply keep_alloc) | exact HK.out)⟩
/-! ### spec_l01Wall: function 83 -/
def wallV (u x : Int) (on : Bool) : Int := if on = true then Go.bits .or .u16 (Go.bits .andNot .u16 u (shl .u16 1 (IntKind.u64.wrap x))) (shl .u16 1 (IntKind.u64.wrap x)) else Go.bits .andNot .u16 u (shl .u16 1 (IntKind.u64.wrap x))
def roomA (wd hg : Int) (us : List Int) : Array Value := (.int .i8 wd :: .int .i8 hg :: us.map (Value.int .u16)).toArray
theorem roomA_get (wd hg : Int) (us : List Int) (y : Nat) (hy : y < us.length) : (roomA wd hg us)[2 + y]? = some (.int .u16 (us.getD y 0)) := by
  unfold roomA
  rw [List.getElem?_toArray, show 2 + y = y + 1 + 1 by omega, List.getElem?_cons_succ, List.getElem?_cons_succ, List.getElem?_map, List.getElem?_eq_getElem hy, List.getD_eq_getElem?_getD, List.getElem?_eq_getElem hy]
  rfl
theorem roomA_set (wd hg : Int) (us : List Int) (y : Nat) (v : Int) : (roomA wd hg us).setIfInBounds (2 + y) (.int .u16 v) = roomA wd hg (us.set y v) := by
  unfold roomA
  rw [List.setIfInBounds_toArray, show 2 + y = y + 1 + 1 by omega, List.set_cons_succ, List.set_cons_succ, List.map_set]
theorem room_cell {W : World} {b0 : Nat} {wd hg : Int} {us : List Int} (h : W.heap[b0]? = some (.cells (roomA wd hg us) 35 (0, 0))) (y : Nat) (hy : y < us.length) : W.cell? ⟨b0, 2 + y, none⟩ = some (.int .u16 (us.getD y 0)) ∧ W.frozen? ⟨b0, 2 + y, none⟩ = false := by
  refine ⟨?_, by simp [World.frozen?, h]⟩
  simp only [World.cell?, h]
  exact roomA_get wd hg us y hy
theorem room_set {W : World} {b0 : Nat} {wd hg : Int} {us : List Int} (h : W.heap[b0]? = some (.cells (roomA wd hg us) 35 (0, 0))) (y : Nat) (v : Int) : (W.setCell ⟨b0, 2 + y, none⟩ (.int .u16 v)).heap[b0]? = some (.cells (roomA wd hg (us.set y v)) 35 (0, 0)) := by
  rw [← roomA_set]
  simp [World.setCell, Array.getElem?_modify, h]
theorem gset (w : World) (b j : Nat) (v : Value) : w.grownBy (w.setCell ⟨b, j, none⟩ v) (some b) := ⟨rfl, rfl, rfl, by simp, fun k _ hk => Below.heap_setCell w ⟨b, j, none⟩ v k (fun e => hk (by rw [e]))⟩
theorem gdrew {w w' : World} {row : Option Nat} (h : w.grownBy w' row) : w.grownBy w'.drew row := ⟨h.os, h.tape, h.output, h.size, h.block⟩
theorem gtrans {a b c : World} {row : Option Nat} (h : a.grownBy b row) (k : b.grownBy c row) : a.grownBy c row :=
  ⟨k.os.trans h.os, k.tape.trans h.tape, k.output.trans h.output, Nat.le_trans h.size k.size, fun j hj hn => (k.block j (Nat.lt_of_lt_of_le hj h.size) hn).trans (h.block j hj hn)⟩
set_option maxHeartbeats 8000000 in
set_option maxRecDepth 100000 in
theorem wall_calls (b0 : Nat) (wd hg : Int) (us : List Int) (hus : us.length = 10) (x : Int) (y : Nat) (hy : y < 10) (on : Bool) (w : World) (AA : w.heap[b0]? = some (.cells (roomA wd hg us) 35 (0, 0))) :
    Calls Try.prog 83 #[.pointer (some ⟨b0, 0, none⟩), .agg #[.int .i8 x, .int .i8 (y : Int)], .bool on] w fun e w' => e = .returned (.tuple #[]) ∧ w'.heap[b0]? = some (.cells (roomA wd hg (us.set y (wallV (us.getD y 0) x on))) 35 (0, 0)) ∧ w.grownBy w' (some b0) := by
  have hl := (Array.getElem?_eq_some_iff.1 AA).1
  have ha : (w.alloc (.cells #[.int .i8 x, .int .i8 (y : Int)] 62)).heap[b0]? = some (.cells (roomA wd hg us) 35 (0, 0)) := (Below.heap_alloc w _ b0 hl).trans AA
  have hn := heap_alloc_new w (.cells #[.int .i8 x, .int .i8 (y : Int)] 62)
  have c0 : (w.alloc (.cells #[.int .i8 x, .int .i8 (y : Int)] 62)).cell? ⟨w.heap.size, 0, none⟩ = some (.int .i8 x) := by simp only [World.cell?, hn]; rfl
  have c1 : (w.alloc (.cells #[.int .i8 x, .int .i8 (y : Int)] 62)).cell? ⟨w.heap.size, 1, none⟩ = some (.int .i8 (y : Int)) := by simp only [World.cell?, hn]; rfl
  obtain ⟨cy, fy⟩ := room_cell ha y (by omega)
  have hne : b0 ≠ w.heap.size := by omega
  have AC : w.heap.size ≠ b0 := by omega
  have AE : (y : Int) < 10 := by omega
  go_enter Try.func83, Try.ntmps83
  go_wp2
  go_region
  have hyl : y < us.length := by omega
  have hgd : us[y] = us.getD y 0 := by rw [List.getD_eq_getElem?_getD, List.getElem?_eq_getElem hyl]; rfl
  have AB : bits BinOp.andNot IntKind.u16 us[y] (IntKind.u16.wrap (2 ^ min (IntKind.u64.wrap x).toNat 16)) = Go.bits .andNot .u16 (us.getD y 0) (shl .u16 1 (IntKind.u64.wrap x)) := by
    rw [hgd]; unfold shl; rw [Int.one_mul]; rfl
  rw [AB]
  generalize hv : Go.bits .andNot .u16 (us.getD y 0) (shl .u16 1 (IntKind.u64.wrap x)) = v
  have s1 := room_set AA y v
  have g1 := gset w b0 (2 + y) (.int .u16 v)
  have z1 : (w.setCell ⟨b0, 2 + y, none⟩ (.int .u16 v)).heap.size = w.heap.size := by simp
  have a2 : ((w.setCell ⟨b0, 2 + y, none⟩ (.int .u16 v)).alloc (.cells #[.int .i8 x, .int .i8 (y : Int)] 62)).drew.heap[b0]? = some (.cells (roomA wd hg (us.set y v)) 35 (0, 0)) := (Below.heap_alloc _ _ b0 (by rw [z1]; exact hl)).trans s1
  have n2 : ((w.setCell ⟨b0, 2 + y, none⟩ (.int .u16 v)).alloc (.cells #[.int .i8 x, .int .i8 (y : Int)] 62)).drew.heap[w.heap.size]? = some (.cells #[.int .i8 x, .int .i8 (y : Int)] 62 (0, 0)) := by
    have := heap_alloc_new (w.setCell ⟨b0, 2 + y, none⟩ (.int .u16 v)) (.cells #[.int .i8 x, .int .i8 (y : Int)] 62)
    rw [z1] at this
    exact this
  have g2 := gdrew (gtrans g1 (World.grownBy_alloc _ (.cells #[.int .i8 x, .int .i8 (y : Int)] 62) (some b0)))
  have q0 : ((w.setCell ⟨b0, 2 + y, none⟩ (.int .u16 v)).alloc (.cells #[.int .i8 x, .int .i8 (y : Int)] 62)).drew.cell? ⟨w.heap.size, 0, none⟩ = some (.int .i8 x) := by simp only [World.cell?, n2]; rfl
  have q1 : ((w.setCell ⟨b0, 2 + y, none⟩ (.int .u16 v)).alloc (.cells #[.int .i8 x, .int .i8 (y : Int)] 62)).drew.cell? ⟨w.heap.size, 1, none⟩ = some (.int .i8 (y : Int)) := by simp only [World.cell?, n2]; rfl
  obtain ⟨qy, qf⟩ := room_cell a2 y (by rw [List.length_set]; omega)
  have hvy : (us.set y v).getD y 0 = v := by rw [List.getD_eq_getElem?_getD, List.getElem?_set_self hyl]; rfl
  rw [hvy] at qy
  generalize ((w.setCell ⟨b0, 2 + y, none⟩ (.int .u16 v)).alloc (.cells #[.int .i8 x, .int .i8 (y : Int)] 62)).drew = W2 at a2 g2 q0 q1 qy qf ⊢
  clear s1 g1 z1 n2 c0 c1 cy fy ha hn
  cases on with
  | false =>
    go_wp2
    go_end0
    exact ⟨rfl, by unfold wallV; rw [if_neg (by decide), hv]; exact a2, g2⟩
  | true =>
    go_wp2
    go_region
    have AD : bits BinOp.or IntKind.u16 v (IntKind.u16.wrap (2 ^ min (IntKind.u64.wrap x).toNat 16)) = Go.bits .or .u16 v (shl .u16 1 (IntKind.u64.wrap x)) := by unfold shl; rw [Int.one_mul]; rfl
    rw [AD]
    go_wp2
    go_end0
    have s2 := room_set a2 y (Go.bits .or .u16 v (shl .u16 1 (IntKind.u64.wrap x)))
    rw [List.set_set] at s2
    refine ⟨rfl, ?_, gdrew (gtrans g2 (gset W2 b0 (2 + y) _))⟩
    unfold wallV
    rw [if_pos rfl, hv]
    exact s2
def spec_l01Wall.us (AK : Int) (AE : Int) (AF : Int) (AD : Int) (AI : Int) (AG : Int) (AJ : Int) (AC : Int) (AB : Int) (AA : Int) (AL AH : Int) (a2 : Bool) : List Int := ([AK, AE, AF, AD, AI, AG, AJ, AC, AB, AA] : List Int).set AH.toNat (wallV (([AK, AE, AF, AD, AI, AG, AJ, AC, AB, AA] : List Int).getD AH.toNat 0) AL a2)
def spec_l01Wall.f (AM : Int) (AN : Int) (AL : Int) (AF : Int) (AG : Int) (AE : Int) (AJ : Int) (AH : Int) (AK : Int) (AD : Int) (AB : Int) (AA : Int) (AI : Int) (AC : Int) (a2 : Bool) : Option (Int × Int × Int × Int × Int × Int × Int × Int × Int × Int) := if 0 ≤ AC ∧ AC < 10 then some ((spec_l01Wall.us AL AF AG AE AJ AH AK AD AB AA AI AC a2).getD 0 0, (spec_l01Wall.us AL AF AG AE AJ AH AK AD AB AA AI AC a2).getD 1 0, (spec_l01Wall.us AL AF AG AE AJ AH AK AD AB AA AI AC a2).getD 2 0, (spec_l01Wall.us AL AF AG AE AJ AH AK AD AB AA AI AC a2).getD 3 0, (spec_l01Wall.us AL AF AG AE AJ AH AK AD AB AA AI AC a2).getD 4 0, (spec_l01Wall.us AL AF AG AE AJ AH AK AD AB AA AI AC a2).getD 5 0, (spec_l01Wall.us AL AF AG AE AJ AH AK AD AB AA AI AC a2).getD 6 0, (spec_l01Wall.us AL AF AG AE AJ AH AK AD AB AA AI AC a2).getD 7 0, (spec_l01Wall.us AL AF AG AE AJ AH AK AD AB AA AI AC a2).getD 8 0, (spec_l01Wall.us AL AF AG AE AJ AH AK AD AB AA AI AC a2).getD 9 0) else none
theorem ten_of (l : List Int) (h : l.length = 10) : l = [l.getD 0 0, l.getD 1 0, l.getD 2 0, l.getD 3 0, l.getD 4 0, l.getD 5 0, l.getD 6 0, l.getD 7 0, l.getD 8 0, l.getD 9 0] := by
  match l, h with
  | [a, b, c, d, e, f, g, i, j, k], _ => rfl
theorem spec_l01Wall.calls (b0 : Nat) (AM : Int) (AN : Int) (AH : Int) (AD : Int) (AE : Int) (AI : Int) (AG : Int) (AC : Int) (AJ : Int) (AF : Int) (AA : Int) (AB : Int) (AK : Int) (AL : Int) (a2 : Bool) {r2 r3 r4 r5 r6 r7 r8 r9 AP AO : Int} (w : World) (AQ : w.heap[b0]? = some (.cells #[.int .i8 AM, .int .i8 AN, .int .u16 AH, .int .u16 AD, .int .u16 AE, .int .u16 AI, .int .u16 AG, .int .u16 AC, .int .u16 AJ, .int .u16 AF, .int .u16 AA, .int .u16 AB] 35 (0, 0))) (h : spec_l01Wall.f AM AN AH AD AE AI AG AC AJ AF AA AB AK AL a2 = some (r2, r3, r4, r5, r6, r7, r8, r9, AP, AO)) :
    Calls Try.prog 83 #[.pointer (some ⟨b0, 0, none⟩), .agg #[.int .i8 AK, .int .i8 AL], .bool a2] w fun e w' => e = .returned (.tuple #[]) ∧ w'.heap[b0]? = some (.cells #[.int .i8 AM, .int .i8 AN, .int .u16 r2, .int .u16 r3, .int .u16 r4, .int .u16 r5, .int .u16 r6, .int .u16 r7, .int .u16 r8, .int .u16 r9, .int .u16 AP, .int .u16 AO] 35 (0, 0)) ∧ w.grownBy w' (some b0) := by
 unfold spec_l01Wall.f at h
 by_cases c : 0 ≤ AL ∧ AL < 10
 {
 rw [if_pos c] at h
 obtain ⟨y, rfl⟩ : ∃ y : Nat, AL = (y : Int) := ⟨AL.toNat, by omega⟩
 have hm := wall_calls b0 AM AN [AH, AD, AE, AI, AG, AC, AJ, AF, AA, AB] rfl AK y (by omega) a2 w AQ
 refine hm.mono ?_
 rintro e w' ⟨rfl, h1, h2⟩
 refine ⟨rfl, ?_, h2⟩
 have e1 : ([AH, AD, AE, AI, AG, AC, AJ, AF, AA, AB] : List Int).set y (wallV (([AH, AD, AE, AI, AG, AC, AJ, AF, AA, AB] : List Int).getD y 0) AK a2) = spec_l01Wall.us AH AD AE AI AG AC AJ AF AA AB AK (y : Int) a2 := rfl
 rw [e1] at h1
 rw [h1]
 have e2 := ten_of (spec_l01Wall.us AH AD AE AI AG AC AJ AF AA AB AK (y : Int) a2) (by unfold spec_l01Wall.us; rw [List.length_set]; rfl)
 have h3 := Option.some.inj h
 simp only [Prod.mk.injEq] at h3
 obtain ⟨k0, k1, k2, k3, k4, k5, k6, k7, k8, k9⟩ := h3
 rw [e2, k0, k1, k2, k3, k4, k5, k6, k7, k8, k9]
 rfl
 }
 · rw [if_neg c] at h; cases h
/-! ### spec_l01Drawn: function 59 -/
mutual
def spec_l01Drawn.l0 : Nat → Int → Int → List Int → Int → Int → Int → Int → Int → Int → Int → Int → Int → Int → Int → Int → Int → Int → Option (Int × Int × Int × Int × Int × Int × Int × Int × Int × Int × Int × Int × Int × Int)
  | 0, _, _, _, _, _, _, _, _, _, _, _, _, _, _, _, _, _ => none
  | k + 1, x4, x5, AN, AP, AQ, AB, AA, AL, AH, AC, AF, AE, AG, AI, AK, AJ, AD => if x5 < AA then (spec_l01Drawn.l1 k x4 x5 0 AN AP AQ AB AA AL AH AC AF AE AG AI AK AJ AD) else ((spec_l00Src_pick.f AN AP AQ (wrap64 (AB))).bind fun AM => ((spec_l00Src_pick.f AN AM.2.1 AM.2.2 (wrap64 (AA))).bind fun AO => ((spec_l01Wall.f AB AA AL AH AC AF AE AG AI AK AJ AD (IntKind.i8.wrap (AM.1)) (IntKind.i8.wrap (AO.1)) false).bind fun wt => (some (AB, AA, wt.1, wt.2.1, wt.2.2.1, wt.2.2.2.1, wt.2.2.2.2.1, wt.2.2.2.2.2.1, wt.2.2.2.2.2.2.1, wt.2.2.2.2.2.2.2.1, wt.2.2.2.2.2.2.2.2.1, wt.2.2.2.2.2.2.2.2.2, AO.2.1, AO.2.2)))))
def spec_l01Drawn.l1 : Nat → Int → Int → Int → List Int → Int → Int → Int → Int → Int → Int → Int → Int → Int → Int → Int → Int → Int → Int → Option (Int × Int × Int × Int × Int × Int × Int × Int × Int × Int × Int × Int × Int × Int)
  | 0, _, _, _, _, _, _, _, _, _, _, _, _, _, _, _, _, _, _ => none
  | k + 1, x4, x5, x6, AN, AO, AP, AA, AB, AL, AH, AC, AF, AE, AG, AI, AK, AJ, AD => if x6 < AA then ((spec_l00Src_one.f AN AO AP x4).bind fun AM => (if AM.1 = true then ((spec_l01Wall.f AA AB AL AH AC AF AE AG AI AK AJ AD x6 x5 true).bind fun wt => (spec_l01Drawn.l1 k x4 x5 (IntKind.i8.wrap (x6 + 1)) AN AM.2.1 AM.2.2 AA AB wt.1 wt.2.1 wt.2.2.1 wt.2.2.2.1 wt.2.2.2.2.1 wt.2.2.2.2.2.1 wt.2.2.2.2.2.2.1 wt.2.2.2.2.2.2.2.1 wt.2.2.2.2.2.2.2.2.1 wt.2.2.2.2.2.2.2.2.2)) else (spec_l01Drawn.l1 k x4 x5 (IntKind.i8.wrap (x6 + 1)) AN AM.2.1 AM.2.2 AA AB AL AH AC AF AE AG AI AK AJ AD))) else (spec_l01Drawn.l0 k x4 (IntKind.i8.wrap (x5 + 1)) AN AO AP AA AB AL AH AC AF AE AG AI AK AJ AD)
end
def spec_l01Drawn.f (k : Nat) (AD : List Int) (AE : Int) (AF : Int) : Option (Int × Int × Int × Int × Int × Int × Int × Int × Int × Int × Int × Int × Int × Int) := (spec_l00Src_pick.f AD AE AF 6).bind fun AA => ((spec_l00Src_pick.f AD AA.2.1 AA.2.2 6).bind fun AC => ((spec_l00Src_pick.f AD AC.2.1 AC.2.2 6).bind fun AB => (spec_l01Drawn.l0 k (wrap64 (2 + AB.1)) 0 AD AB.2.1 AB.2.2 (IntKind.i8.wrap (wrap64 (1 + AA.1))) (IntKind.i8.wrap (wrap64 (1 + AC.1))) 0 0 0 0 0 0 0 0 0 0)))
set_option maxHeartbeats 8000000 in
set_option maxRecDepth 100000 in
theorem spec_l01Drawn.calls (k : Nat) (g : Nat) (An : List Int) (BW : Int) (BU : Int) (r1 : Int) (r2 : Int) (r3 : Int) (r4 : Int) (r5 : Int) (r6 : Int) (r7 : Int) (r8 : Int) (r9 : Int) (Ef : Int) (Df : Int) (DF : Int) (DH : Int) (Eh : Int) (w0 w : World) (hI : IsS123 w0 w g An BW BU) (hB : Below w0.heap.size w0 w) (h : spec_l01Drawn.f k An BW BU = some (r1, r2, r3, r4, r5, r6, r7, r8, r9, Ef, Df, DF, DH, Eh)) :
    Calls Try.prog 59 #[.pointer (some ⟨g, 0, none⟩)] w fun e w' => e = .returned (.agg #[.int .i8 r1, .int .i8 r2, .int .u16 r3, .int .u16 r4, .int .u16 r5, .int .u16 r6, .int .u16 r7, .int .u16 r8, .int .u16 r9, .int .u16 Ef, .int .u16 Df, .int .u16 DF]) ∧ IsS123 w0 w' g An DH Eh ∧ Below w0.heap.size w0 w' ∧ KeepBut w w' g none := by
 have Fv := Try.underlying35
 have Fr := Try.underlying62
 have AI := ak hI
 have HK := ak (KeepBut.refl w g none)
 have HL := ak hB.size
 clear hI
 have FP := ak hB.size
 have HB := ak hB
 clear hB
 have H := h
 unfold spec_l01Drawn.f at H
 clear h
 replace H := Option.bind_eq_some_iff.mp H
 obtain ⟨⟨Aq, CM, Cs⟩, E8, H⟩ := H
 have A2 := ak E8
 clear E8
 replace H := Option.bind_eq_some_iff.mp H
 obtain ⟨⟨At, Br, Bt⟩, Fd, H⟩ := H
 have A3 := ak Fd
 clear Fd
 replace H := Option.bind_eq_some_iff.mp H
 obtain ⟨⟨A1, Cj, Cm⟩, FT, H⟩ := H
 have A4 := ak FT
 clear FT
 have H' := ak H
 clear H
 go_enter Try.func59, Try.ntmps59
 go_wp2_with (first | ((with_reducible refine gate_dst (N := 2) rfl ?_); refine box_event ?hg (N := 2) ?hd (cs := #[.int .i8 0, .int .i8 0, .int .u16 0, .int .u16 0, .int .u16 0, .int .u16 0, .int .u16 0, .int .u16 0, .int .u16 0, .int .u16 0, .int .u16 0, .int .u16 0]) (t := 35) ?hr ?_; (case hd => rfl); (case hg => rfl); (case hr => first | (go_simp; done) | (go_simp; rfl)); intro Al hg w5 hbox hb; have AF := ak (hbox); have AV := ak ((by rw [hg]; exact (keep_size (w := w) (g := g) (row := none) (by repeat (first | (with_reducible first | exact HK.out | apply KeepBut.set_ | apply keep_drewN | apply keep_drew | apply keep_alloc) | exact HK.out))) : w.heap.size ≤ Al)); have Ah := ak ((Nat.le_trans FP.out (by rw [hg]; exact (keep_size (w := w) (g := g) (row := none) (by repeat (first | (with_reducible first | exact HK.out | apply KeepBut.set_ | apply keep_drewN | apply keep_drew | apply keep_alloc) | exact HK.out))) : w.heap.size ≤ Al) : w0.heap.size ≤ Al)); have AE := ak ((by rw [hg]; exact Nat.ne_of_lt (IsS123.lt (show IsS123 w0 _ g An BW BU from by repeat (first | (with_reducible first | exact AI.out | apply IsS123.alloc | apply IsS123.drewN | apply IsS123.drew | apply IsS123.set_1 | apply IsS123.set_2) | exact AI.out))) : g ≠ Al)); have Am := ak ((by rw [hg]; exact Nat.ne_of_gt (IsS123.lt (show IsS123 w0 _ g An BW BU from by repeat (first | (with_reducible first | exact AI.out | apply IsS123.alloc | apply IsS123.drewN | apply IsS123.drew | apply IsS123.set_1 | apply IsS123.set_2) | exact AI.out))) : Al ≠ g)); replace HK := ak (KeepBut.trans (by repeat (first | (with_reducible first | exact HK.out | apply KeepBut.set_ | apply keep_drewN | apply keep_drew | apply keep_alloc) | exact HK.out)) (KeepBut.of_below hb g none) (.inl rfl)); replace HB := ak (below_step (by repeat (first | (with_reducible first | exact HB.out | apply below_alloc | apply pw_below_drewN | apply below_drew1 | refine below_set ?_ (IsS123.ge AI.out)) | exact HB.out)) hb); replace AI := ak (IsS123.below (by repeat (first | (with_reducible first | exact AI.out | apply IsS123.alloc | apply IsS123.drewN | apply IsS123.drew | apply IsS123.set_1 | apply IsS123.set_2) | exact AI.out)) hb); clear hb hbox hg) | ((with_reducible refine gate_callee (f := 62) rfl ?_); refine goesL_ (some 9) rfl rfl Try.func62 (by kernel_rfl) rfl #[.pointer (some ⟨g, 0, none⟩), .int .i64 6] rfl gl_ ?_; (with_reducible refine (spec_l00Src_pick.calls g An BW BU 6 Aq CM Cs w0 _ ?side1 ?side2 A2.out).mono ?_); (case side1 => repeat (first | (with_reducible first | exact AI.out | apply IsS123.alloc | apply IsS123.drewN | apply IsS123.drew | apply IsS123.set_1 | apply IsS123.set_2 | refine IsS123.far ?_ AE.out _) | exact AI.out)); (case side2 => repeat (first | (with_reducible first | exact HB.out | apply below_alloc | apply pw_below_drewN | apply below_drew1 | refine below_set ?_ (IsS123.ge AI.out) | refine below_set ?_ Ah.out) | exact HB.out)); rintro e w6 ⟨rfl, hi, hb, hk⟩; refine ⟨_, rfl, ?_⟩; replace AF := ak (KeepBut.blk hk (g' := Al) (o := .cells #[.int .i8 0, .int .i8 0, .int .u16 0, .int .u16 0, .int .u16 0, .int .u16 0, .int .u16 0, .int .u16 0, .int .u16 0, .int .u16 0, .int .u16 0, .int .u16 0] 35 (0, 0)) (zK AF.out) Am.out (by simp)); replace HK := ak (KeepBut.trans (by repeat (first | (with_reducible first | exact HK.out | apply KeepBut.set_ | apply keep_drewN | apply keep_drew | apply keep_alloc | refine keep_far ?_ AV.out _) | exact HK.out)) hk (.inl rfl)); replace HB := ak (hb); replace AI := ak (hi); (try clear hb); (try clear hk); (try clear hi)) | ((with_reducible refine gate_callee (f := 62) rfl ?_); refine goesL_ (some 13) rfl rfl Try.func62 (by kernel_rfl) rfl #[.pointer (some ⟨g, 0, none⟩), .int .i64 6] rfl gl_ ?_; (with_reducible refine (spec_l00Src_pick.calls g An CM Cs 6 At Br Bt w0 _ ?side1 ?side2 A3.out).mono ?_); (case side1 => repeat (first | (with_reducible first | exact AI.out | apply IsS123.alloc | apply IsS123.drewN | apply IsS123.drew | apply IsS123.set_1 | apply IsS123.set_2 | refine IsS123.far ?_ AE.out _) | exact AI.out)); (case side2 => repeat (first | (with_reducible first | exact HB.out | apply below_alloc | apply pw_below_drewN | apply below_drew1 | refine below_set ?_ (IsS123.ge AI.out) | refine below_set ?_ Ah.out) | exact HB.out)); rintro e w7 ⟨rfl, hi, hb, hk⟩; refine ⟨_, rfl, ?_⟩; replace AF := ak (KeepBut.blk hk (g' := Al) (o := .cells #[.int .i8 0, .int .i8 0, .int .u16 0, .int .u16 0, .int .u16 0, .int .u16 0, .int .u16 0, .int .u16 0, .int .u16 0, .int .u16 0, .int .u16 0, .int .u16 0] 35 (0, 0)) (zK AF.out) Am.out (by simp)); replace HK := ak (KeepBut.trans (by repeat (first | (with_reducible first | exact HK.out | apply KeepBut.set_ | apply keep_drewN | apply keep_drew | apply keep_alloc | refine keep_far ?_ AV.out _) | exact HK.out)) hk (.inl rfl)); replace HB := ak (hb); replace AI := ak (hi); (try clear hb); (try clear hk); (try clear hi)) | ((with_reducible refine gate_dst (N := 3) rfl ?_); refine box_event ?hg (N := 3) ?hd (cs := #[.int .i8 0, .int .i8 0, .int .u16 0, .int .u16 0, .int .u16 0, .int .u16 0, .int .u16 0, .int .u16 0, .int .u16 0, .int .u16 0, .int .u16 0, .int .u16 0]) (t := 35) ?hr ?_; (case hd => rfl); (case hg => rfl); (case hr => first | (go_simp; done) | (go_simp; rfl)); intro AW hg w8 hbox hb; have AH := ak (hbox); have Ak := ak ((by rw [hg]; exact (keep_size (w := w) (g := g) (row := none) (by repeat (first | (with_reducible first | exact HK.out | apply KeepBut.set_ | apply keep_drewN | apply keep_drew | apply keep_alloc | refine keep_far ?_ AV.out _) | exact HK.out))) : w.heap.size ≤ AW)); have Aj := ak ((Nat.le_trans FP.out (by rw [hg]; exact (keep_size (w := w) (g := g) (row := none) (by repeat (first | (with_reducible first | exact HK.out | apply KeepBut.set_ | apply keep_drewN | apply keep_drew | apply keep_alloc | refine keep_far ?_ AV.out _) | exact HK.out))) : w.heap.size ≤ AW) : w0.heap.size ≤ AW)); have AC := nL AF hg; have Ai := nG AF hg; have AD := ak ((by rw [hg]; exact Nat.ne_of_lt (IsS123.lt (show IsS123 w0 _ g An Br Bt from by repeat (first | (with_reducible first | exact AI.out | apply IsS123.alloc | apply IsS123.drewN | apply IsS123.drew | apply IsS123.set_1 | apply IsS123.set_2 | refine IsS123.far ?_ AE.out _) | exact AI.out))) : g ≠ AW)); have AU := ak ((by rw [hg]; exact Nat.ne_of_gt (IsS123.lt (show IsS123 w0 _ g An Br Bt from by repeat (first | (with_reducible first | exact AI.out | apply IsS123.alloc | apply IsS123.drewN | apply IsS123.drew | apply IsS123.set_1 | apply IsS123.set_2 | refine IsS123.far ?_ AE.out _) | exact AI.out))) : AW ≠ g)); replace AF := kK AF hb; replace HK := ak (KeepBut.trans (by repeat (first | (with_reducible first | exact HK.out | apply KeepBut.set_ | apply keep_drewN | apply keep_drew | apply keep_alloc | refine keep_far ?_ AV.out _) | exact HK.out)) (KeepBut.of_below hb g none) (.inl rfl)); replace HB := ak (below_step (by repeat (first | (with_reducible first | exact HB.out | apply below_alloc | apply pw_below_drewN | apply below_drew1 | refine below_set ?_ (IsS123.ge AI.out) | refine below_set ?_ Ah.out) | exact HB.out)) hb); replace AI := ak (IsS123.below (by repeat (first | (with_reducible first | exact AI.out | apply IsS123.alloc | apply IsS123.drewN | apply IsS123.drew | apply IsS123.set_1 | apply IsS123.set_2 | refine IsS123.far ?_ AE.out _) | exact AI.out)) hb); clear hb hbox hg; have Fp := Ai.out; have Ft := AC.out; have FY := AU.out; have Fm := AD.out; obtain ⟨BB, BM, A7, BL, A6, BC, BN, A8, BH, BD, A0, Ax, BI, BJ, BG, BE, A5, BF, A9, BA, BK, BO, Az, Ay⟩ := cz12 w8 AH) | ((with_reducible refine gate_callee (f := 62) rfl ?_); refine goesL_ (some 18) rfl rfl Try.func62 (by kernel_rfl) rfl #[.pointer (some ⟨g, 0, none⟩), .int .i64 6] rfl gl_ ?_; (with_reducible refine (spec_l00Src_pick.calls g An Br Bt 6 A1 Cj Cm w0 _ ?side1 ?side2 A4.out).mono ?_); (case side1 => repeat (first | (with_reducible first | exact AI.out | apply IsS123.alloc | apply IsS123.drewN | apply IsS123.drew | apply IsS123.set_1 | apply IsS123.set_2 | refine IsS123.far ?_ AE.out _ | refine IsS123.far ?_ AD.out _) | exact AI.out)); (case side2 => repeat (first | (with_reducible first | exact HB.out | apply below_alloc | apply pw_below_drewN | apply below_drew1 | refine below_set ?_ (IsS123.ge AI.out) | refine below_set ?_ Ah.out | refine below_set ?_ Aj.out) | exact HB.out)); rintro e F0 ⟨rfl, hi, hb, hk⟩; refine ⟨_, rfl, ?_⟩; replace AF := ak (KeepBut.blk hk (g' := Al) (o := .cells #[.int .i8 0, .int .i8 0, .int .u16 0, .int .u16 0, .int .u16 0, .int .u16 0, .int .u16 0, .int .u16 0, .int .u16 0, .int .u16 0, .int .u16 0, .int .u16 0] 35 (0, 0)) (by refine blk_far ?_ AC.out _; refine blk_far ?_ AC.out _; refine blk_far ?_ AC.out _; refine blk_far ?_ AC.out _; refine blk_far ?_ AC.out _; refine blk_far ?_ AC.out _; refine blk_far ?_ AC.out _; refine blk_far ?_ AC.out _; refine blk_far ?_ AC.out _; refine blk_far ?_ AC.out _; refine blk_far ?_ AC.out _; refine blk_far ?_ AC.out _; exact AF.out) Am.out (by simp)); replace AH := ak (KeepBut.blk hk (g' := AW) (o := .cells #[.int .i8 (IntKind.i8.wrap (wrap64 (1 + Aq))), .int .i8 (IntKind.i8.wrap (wrap64 (1 + At))), .int .u16 0, .int .u16 0, .int .u16 0, .int .u16 0, .int .u16 0, .int .u16 0, .int .u16 0, .int .u16 0, .int .u16 0, .int .u16 0] 35 (0, 0)) (by refine blk_put (cs := #[.int .i8 (IntKind.i8.wrap (wrap64 (1 + Aq))), .int .i8 (IntKind.i8.wrap (wrap64 (1 + At))), .int .u16 0, .int .u16 0, .int .u16 0, .int .u16 0, .int .u16 0, .int .u16 0, .int .u16 0, .int .u16 0, .int .u16 0, .int .u16 0]) ?_ 11 _ rfl; refine blk_put (cs := #[.int .i8 (IntKind.i8.wrap (wrap64 (1 + Aq))), .int .i8 (IntKind.i8.wrap (wrap64 (1 + At))), .int .u16 0, .int .u16 0, .int .u16 0, .int .u16 0, .int .u16 0, .int .u16 0, .int .u16 0, .int .u16 0, .int .u16 0, .int .u16 0]) ?_ 10 _ rfl; refine blk_put (cs := #[.int .i8 (IntKind.i8.wrap (wrap64 (1 + Aq))), .int .i8 (IntKind.i8.wrap (wrap64 (1 + At))), .int .u16 0, .int .u16 0, .int .u16 0, .int .u16 0, .int .u16 0, .int .u16 0, .int .u16 0, .int .u16 0, .int .u16 0, .int .u16 0]) ?_ 9 _ rfl; refine blk_put (cs := #[.int .i8 (IntKind.i8.wrap (wrap64 (1 + Aq))), .int .i8 (IntKind.i8.wrap (wrap64 (1 + At))), .int .u16 0, .int .u16 0, .int .u16 0, .int .u16 0, .int .u16 0, .int .u16 0, .int .u16 0, .int .u16 0, .int .u16 0, .int .u16 0]) ?_ 8 _ rfl; refine blk_put (cs := #[.int .i8 (IntKind.i8.wrap (wrap64 (1 + Aq))), .int .i8 (IntKind.i8.wrap (wrap64 (1 + At))), .int .u16 0, .int .u16 0, .int .u16 0, .int .u16 0, .int .u16 0, .int .u16 0, .int .u16 0, .int .u16 0, .int .u16 0, .int .u16 0]) ?_ 7 _ rfl; refine blk_put (cs := #[.int .i8 (IntKind.i8.wrap (wrap64 (1 + Aq))), .int .i8 (IntKind.i8.wrap (wrap64 (1 + At))), .int .u16 0, .int .u16 0, .int .u16 0, .int .u16 0, .int .u16 0, .int .u16 0, .int .u16 0, .int .u16 0, .int .u16 0, .int .u16 0]) ?_ 6 _ rfl; refine blk_put (cs := #[.int .i8 (IntKind.i8.wrap (wrap64 (1 + Aq))), .int .i8 (IntKind.i8.wrap (wrap64 (1 + At))), .int .u16 0, .int .u16 0, .int .u16 0, .int .u16 0, .int .u16 0, .int .u16 0, .int .u16 0, .int .u16 0, .int .u16 0, .int .u16 0]) ?_ 5 _ rfl; refine blk_put (cs := #[.int .i8 (IntKind.i8.wrap (wrap64 (1 + Aq))), .int .i8 (IntKind.i8.wrap (wrap64 (1 + At))), .int .u16 0, .int .u16 0, .int .u16 0, .int .u16 0, .int .u16 0, .int .u16 0, .int .u16 0, .int .u16 0, .int .u16 0, .int .u16 0]) ?_ 4 _ rfl; refine blk_put (cs := #[.int .i8 (IntKind.i8.wrap (wrap64 (1 + Aq))), .int .i8 (IntKind.i8.wrap (wrap64 (1 + At))), .int .u16 0, .int .u16 0, .int .u16 0, .int .u16 0, .int .u16 0, .int .u16 0, .int .u16 0, .int .u16 0, .int .u16 0, .int .u16 0]) ?_ 3 _ rfl; refine blk_put (cs := #[.int .i8 (IntKind.i8.wrap (wrap64 (1 + Aq))), .int .i8 (IntKind.i8.wrap (wrap64 (1 + At))), .int .u16 0, .int .u16 0, .int .u16 0, .int .u16 0, .int .u16 0, .int .u16 0, .int .u16 0, .int .u16 0, .int .u16 0, .int .u16 0]) ?_ 2 _ rfl; refine blk_put (cs := #[.int .i8 (IntKind.i8.wrap (wrap64 (1 + Aq))), .int .i8 0, .int .u16 0, .int .u16 0, .int .u16 0, .int .u16 0, .int .u16 0, .int .u16 0, .int .u16 0, .int .u16 0, .int .u16 0, .int .u16 0]) ?_ 1 _ rfl; refine blk_put (cs := #[.int .i8 0, .int .i8 0, .int .u16 0, .int .u16 0, .int .u16 0, .int .u16 0, .int .u16 0, .int .u16 0, .int .u16 0, .int .u16 0, .int .u16 0, .int .u16 0]) ?_ 0 _ rfl; exact AH.out) AU.out (by simp)); replace HK := ak (KeepBut.trans (by repeat (first | (with_reducible first | exact HK.out | apply KeepBut.set_ | apply keep_drewN | apply keep_drew | apply keep_alloc | refine keep_far ?_ AV.out _ | refine keep_far ?_ Ak.out _) | exact HK.out)) hk (.inl rfl)); replace HB := ak (hb); replace AI := ak (hi); (try clear hb); (try clear hk); (try clear hi)))
 go_loopg [5] k (fun kq v5 w' => ∃ (Aw : Int) (As : Int) (Ar : Int) (AB : Int) (AA : Int) (Ac : Int) (Af : Int) (Ag : Int) (AX : Int) (AY : Int) (AZ : Int) (Ab : Int) (Aa : Int) (Ad : Int) (Ae : Int), v5 = .int .i8 Aw ∧ Aside0 (spec_l01Drawn.l0 kq (wrap64 (2 + A1)) Aw An As Ar AB AA Ac Af Ag AX AY AZ Ab Aa Ad Ae = some (r1, r2, r3, r4, r5, r6, r7, r8, r9, Ef, Df, DF, DH, Eh)) ∧ Aside0 (kq ≤ k) ∧ Aside0 (w'.heap[Al]? = some (.cells #[.int .i8 0, .int .i8 0, .int .u16 0, .int .u16 0, .int .u16 0, .int .u16 0, .int .u16 0, .int .u16 0, .int .u16 0, .int .u16 0, .int .u16 0, .int .u16 0] 35 (0, 0))) ∧ Aside0 (w'.heap[AW]? = some (.cells #[.int .i8 AB, .int .i8 AA, .int .u16 Ac, .int .u16 Af, .int .u16 Ag, .int .u16 AX, .int .u16 AY, .int .u16 AZ, .int .u16 Ab, .int .u16 Aa, .int .u16 Ad, .int .u16 Ae] 35 (0, 0))) ∧ Aside0 (IsS123 w0 w' g An As Ar) ∧ Aside0 (KeepBut w w' g none) ∧ Aside0 (Below w0.heap.size w0 w'))
 case atStart => exact ⟨(0), (Cj), (Cm), (IntKind.i8.wrap (wrap64 (1 + Aq))), (IntKind.i8.wrap (wrap64 (1 + At))), (0), (0), (0), (0), (0), (0), (0), (0), (0), (0), rfl, H', ⟨Nat.le_refl _⟩, ⟨(zK AF.out)⟩, ⟨(zK AH.out)⟩, ⟨by repeat (first | (with_reducible first | exact AI.out | apply IsS123.alloc | apply IsS123.drewN | apply IsS123.drew | apply IsS123.set_1 | apply IsS123.set_2 | refine IsS123.far ?_ AE.out _ | refine IsS123.far ?_ AD.out _) | exact AI.out)⟩, ⟨by repeat (first | (with_reducible first | exact HK.out | apply KeepBut.set_ | apply keep_drewN | apply keep_drew | apply keep_alloc | refine keep_far ?_ AV.out _ | refine keep_far ?_ Ak.out _) | exact HK.out)⟩, ⟨by repeat (first | (with_reducible first | exact HB.out | apply below_alloc | apply pw_below_drewN | apply below_drew1 | refine below_set ?_ (IsS123.ge AI.out) | refine below_set ?_ Ah.out | refine below_set ?_ Aj.out) | exact HB.out)⟩⟩
 case round => (
 clear H'
 obtain ⟨Aw, As, Ar, AB, AA, Ac, Af, Ag, AX, AY, AZ, Ab, Aa, Ad, Ae, rfl, HA, CF, AF, AH, AI, HK, HB⟩ := hrel
 cases gk with
 | zero => exact absurd HA.out (by simp [spec_l01Drawn.l0])
 | succ k1 => (
 have H := HA.out
 clear HA
 simp only [spec_l01Drawn.l0] at H
 by_cases CB : Aw < AA
 {
 rw [if_pos CB] at H
 have Bz : decide (Aw < AA) = true := decide_eq_true CB
 clear CB
 have H' := ak H
 clear H
 have Fb := Ai.out
 have Fe := AC.out
 have Fa := AU.out
 have FN := AD.out
 obtain ⟨Bx, Bh, Bp, Be, Bm, Bu, Bw, Bb, Bn, Bj, BX, BV, By, Bc, Bk, Bs, Bd, BZ, Bf, Bi, Bl, Ba, BS, BQ⟩ := cz12 wr AH
 go_wp2
 go_loopg [6] k1 (fun kq v6 w' => ∃ (Av : Int) (Ao : Int) (Ap : Int) (AG : Int) (AJ : Int) (AR : Int) (AP : Int) (AK : Int) (AQ : Int) (AO : Int) (AN : Int) (AL : Int) (AM : Int) (AS : Int) (AT : Int), v6 = .int .i8 Av ∧ Aside0 (spec_l01Drawn.l1 kq (wrap64 (2 + A1)) Aw Av An Ao Ap AG AJ AR AP AK AQ AO AN AL AM AS AT = some (r1, r2, r3, r4, r5, r6, r7, r8, r9, Ef, Df, DF, DH, Eh)) ∧ Aside0 (kq ≤ k1) ∧ Aside0 (w'.heap[Al]? = some (.cells #[.int .i8 0, .int .i8 0, .int .u16 0, .int .u16 0, .int .u16 0, .int .u16 0, .int .u16 0, .int .u16 0, .int .u16 0, .int .u16 0, .int .u16 0, .int .u16 0] 35 (0, 0))) ∧ Aside0 (w'.heap[AW]? = some (.cells #[.int .i8 AG, .int .i8 AJ, .int .u16 AR, .int .u16 AP, .int .u16 AK, .int .u16 AQ, .int .u16 AO, .int .u16 AN, .int .u16 AL, .int .u16 AM, .int .u16 AS, .int .u16 AT] 35 (0, 0))) ∧ Aside0 (IsS123 w0 w' g An Ao Ap) ∧ Aside0 (KeepBut w w' g none) ∧ Aside0 (Below w0.heap.size w0 w'))
 case atStart => exact ⟨(0), (As), (Ar), (AB), (AA), (Ac), (Af), (Ag), (AX), (AY), (AZ), (Ab), (Aa), (Ad), (Ae), rfl, H', ⟨Nat.le_refl _⟩, ⟨(zK AF.out)⟩, ⟨(zK AH.out)⟩, ⟨by repeat (first | (with_reducible first | exact AI.out | apply IsS123.alloc | apply IsS123.drewN | apply IsS123.drew | apply IsS123.set_1 | apply IsS123.set_2 | refine IsS123.far ?_ AE.out _ | refine IsS123.far ?_ AD.out _) | exact AI.out)⟩, ⟨by repeat (first | (with_reducible first | exact HK.out | apply KeepBut.set_ | apply keep_drewN | apply keep_drew | apply keep_alloc | refine keep_far ?_ AV.out _ | refine keep_far ?_ Ak.out _) | exact HK.out)⟩, ⟨by repeat (first | (with_reducible first | exact HB.out | apply below_alloc | apply pw_below_drewN | apply below_drew1 | refine below_set ?_ (IsS123.ge AI.out) | refine below_set ?_ Ah.out | refine below_set ?_ Aj.out) | exact HB.out)⟩⟩
 case round => (
 clear H'
 obtain ⟨Av, Ao, Ap, AG, AJ, AR, AP, AK, AQ, AO, AN, AL, AM, AS, AT, rfl, HA, CC, AF, AH, AI, HK, HB⟩ := hrel
 cases gk with
 | zero => exact absurd HA.out (by simp [spec_l01Drawn.l1])
 | succ k2 => (
 have H := HA.out
 clear HA
 simp only [spec_l01Drawn.l1] at H
 by_cases CD : Av < AG
 {
 rw [if_pos CD] at H
 have CH : decide (Av < AG) = true := decide_eq_true CD
 clear CD
 replace H := Option.bind_eq_some_iff.mp H
 obtain ⟨⟨FJ, Bq, Bo⟩, CP, H⟩ := H
 have FS := ak CP
 clear CP
 by_cases FG : FJ = true
 {
 subst FG
 rw [if_pos rfl] at H
 replace H := Option.bind_eq_some_iff.mp H
 obtain ⟨⟨BP, BR, BY, Bg, B0, CA, CE, CO, Bv, B8⟩, CG, H⟩ := H
 have E8 := ak CG
 clear CG
 have H' := ak H
 clear H
 have FV := Ai.out
 have FZ := AC.out
 have Fl := AU.out
 have Fo := AD.out
 obtain ⟨Cv, FD, EW, Eo, Ei, C2, D9, Ez, Dv, DT, Cr, CS, Du, D0, ED, EV, Eu, DZ, DL, FE, EK, EG, Co, CU⟩ := cz12 wr AH
 go_wp2_with (first | ((with_reducible refine gate_callee (f := 82) rfl ?_); refine goesL_ (some 34) rfl rfl Try.func82 (by kernel_rfl) rfl #[.pointer (some ⟨g, 0, none⟩), .int .i64 (wrap64 (2 + A1))] rfl gl_ ?_; (with_reducible refine (spec_l00Src_one.calls g An Ao Ap (wrap64 (2 + A1)) true Bq Bo w0 _ ?side1 ?side2 FS.out).mono ?_); (case side1 => repeat (first | (with_reducible first | exact AI.out | apply IsS123.alloc | apply IsS123.drewN | apply IsS123.drew | apply IsS123.set_1 | apply IsS123.set_2 | refine IsS123.far ?_ AE.out _ | refine IsS123.far ?_ AD.out _) | exact AI.out)); (case side2 => repeat (first | (with_reducible first | exact HB.out | apply below_alloc | apply pw_below_drewN | apply below_drew1 | refine below_set ?_ (IsS123.ge AI.out) | refine below_set ?_ Ah.out | refine below_set ?_ Aj.out) | exact HB.out)); rintro e Fx ⟨rfl, hi, hb, hk⟩; refine ⟨_, rfl, ?_⟩; replace AF := ak (KeepBut.blk hk (g' := Al) (o := .cells #[.int .i8 0, .int .i8 0, .int .u16 0, .int .u16 0, .int .u16 0, .int .u16 0, .int .u16 0, .int .u16 0, .int .u16 0, .int .u16 0, .int .u16 0, .int .u16 0] 35 (0, 0)) (zK AF.out) Am.out (by simp)); replace AH := ak (KeepBut.blk hk (g' := AW) (o := .cells #[.int .i8 AG, .int .i8 AJ, .int .u16 AR, .int .u16 AP, .int .u16 AK, .int .u16 AQ, .int .u16 AO, .int .u16 AN, .int .u16 AL, .int .u16 AM, .int .u16 AS, .int .u16 AT] 35 (0, 0)) (zK AH.out) AU.out (by simp)); replace HK := ak (KeepBut.trans (by repeat (first | (with_reducible first | exact HK.out | apply KeepBut.set_ | apply keep_drewN | apply keep_drew | apply keep_alloc | refine keep_far ?_ AV.out _ | refine keep_far ?_ Ak.out _) | exact HK.out)) hk (.inl rfl)); replace HB := ak (hb); replace AI := ak (hi); (try clear hb); (try clear hk); (try clear hi)) | ((with_reducible refine gate_callee (f := 83) rfl ?_); refine goesL_ (some 38) rfl rfl Try.func83 (by kernel_rfl) rfl #[.pointer (some ⟨AW, 0, none⟩), .agg #[.int .i8 Av, .int .i8 Aw], .bool true] rfl gl_ ?_; (with_reducible refine (spec_l01Wall.calls AW AG AJ AR AP AK AQ AO AN AL AM AS AT Av Aw true  _ ?side1 E8.out).mono ?_); (case side1 => exact (zK AH.out)); rintro e F1 ⟨rfl, BT, Au⟩; refine ⟨_, rfl, ?_⟩; replace AF := ak (blk_grown (zK AF.out) Au (fun e_ => AC.out (Option.some.inj e_))); replace AH := ak BT; replace HK := ak (KeepBut.trans (by repeat (first | (with_reducible first | exact HK.out | apply KeepBut.set_ | apply keep_drewN | apply keep_drew | apply keep_alloc | refine keep_far ?_ AV.out _ | refine keep_far ?_ Ak.out _) | exact HK.out)) (KeepBut.of_grown Au g) (.inr ⟨AW, rfl, Ak.out⟩)); replace HB := ak (Below.grown (by repeat (first | (with_reducible first | exact HB.out | apply below_alloc | apply pw_below_drewN | apply below_drew1 | refine below_set ?_ (IsS123.ge AI.out) | refine below_set ?_ Ah.out | refine below_set ?_ Aj.out) | exact HB.out)) Au (below_size (zB HB.out)) (fun j_ e_ => by cases e_; exact Aj.out)); replace AI := ak (IsS123.grown (by repeat (first | (with_reducible first | exact AI.out | apply IsS123.alloc | apply IsS123.drewN | apply IsS123.drew | apply IsS123.set_1 | apply IsS123.set_2 | refine IsS123.far ?_ AE.out _ | refine IsS123.far ?_ AD.out _) | exact AI.out)) Au (fun e_ => AD.out (Option.some.inj e_))); (try clear BT Au)))
 go_roundg k2
 case measure => have := CF.out; have := CC.out; omega
 case rel => exact ⟨(IntKind.i8.wrap (Av + 1)), (Bq), (Bo), (AG), (AJ), (BP), (BR), (BY), (Bg), (B0), (CA), (CE), (CO), (Bv), (B8), rfl, H', ⟨by have := CF.out; have := CC.out; omega⟩, ⟨(zK AF.out)⟩, ⟨(zK AH.out)⟩, ⟨by repeat (first | (with_reducible first | exact AI.out | apply IsS123.alloc | apply IsS123.drewN | apply IsS123.drew | apply IsS123.set_1 | apply IsS123.set_2 | refine IsS123.far ?_ AE.out _ | refine IsS123.far ?_ AD.out _) | exact AI.out)⟩, ⟨by repeat (first | (with_reducible first | exact HK.out | apply KeepBut.set_ | apply keep_drewN | apply keep_drew | apply keep_alloc | refine keep_far ?_ AV.out _ | refine keep_far ?_ Ak.out _) | exact HK.out)⟩, ⟨by repeat (first | (with_reducible first | exact HB.out | apply below_alloc | apply pw_below_drewN | apply below_drew1 | refine below_set ?_ (IsS123.ge AI.out) | refine below_set ?_ Ah.out | refine below_set ?_ Aj.out) | exact HB.out)⟩⟩
 }
 {
 replace FG := Bool.eq_false_iff.mpr FG
 subst FG
 rw [if_neg (show ¬ (false = true) by decide)] at H
 have H' := ak H
 clear H
 have FQ := Ai.out
 have FU := AC.out
 have FW := AU.out
 have FM := AD.out
 obtain ⟨Dm, ER, E4, Ec, FI, EX, C3, DN, Cw, C9, CW, CJ, DV, DD, EB, ES, E9, Ed, Ds, EY, E0, DX, Ce, CX⟩ := cz12 wr AH
 go_wp2_with (first | ((with_reducible refine gate_callee (f := 82) rfl ?_); refine goesL_ (some 34) rfl rfl Try.func82 (by kernel_rfl) rfl #[.pointer (some ⟨g, 0, none⟩), .int .i64 (wrap64 (2 + A1))] rfl gl_ ?_; (with_reducible refine (spec_l00Src_one.calls g An Ao Ap (wrap64 (2 + A1)) false Bq Bo w0 _ ?side1 ?side2 FS.out).mono ?_); (case side1 => repeat (first | (with_reducible first | exact AI.out | apply IsS123.alloc | apply IsS123.drewN | apply IsS123.drew | apply IsS123.set_1 | apply IsS123.set_2 | refine IsS123.far ?_ AE.out _ | refine IsS123.far ?_ AD.out _) | exact AI.out)); (case side2 => repeat (first | (with_reducible first | exact HB.out | apply below_alloc | apply pw_below_drewN | apply below_drew1 | refine below_set ?_ (IsS123.ge AI.out) | refine below_set ?_ Ah.out | refine below_set ?_ Aj.out) | exact HB.out)); rintro e Fy ⟨rfl, hi, hb, hk⟩; refine ⟨_, rfl, ?_⟩; replace AF := ak (KeepBut.blk hk (g' := Al) (o := .cells #[.int .i8 0, .int .i8 0, .int .u16 0, .int .u16 0, .int .u16 0, .int .u16 0, .int .u16 0, .int .u16 0, .int .u16 0, .int .u16 0, .int .u16 0, .int .u16 0] 35 (0, 0)) (zK AF.out) Am.out (by simp)); replace AH := ak (KeepBut.blk hk (g' := AW) (o := .cells #[.int .i8 AG, .int .i8 AJ, .int .u16 AR, .int .u16 AP, .int .u16 AK, .int .u16 AQ, .int .u16 AO, .int .u16 AN, .int .u16 AL, .int .u16 AM, .int .u16 AS, .int .u16 AT] 35 (0, 0)) (zK AH.out) AU.out (by simp)); replace HK := ak (KeepBut.trans (by repeat (first | (with_reducible first | exact HK.out | apply KeepBut.set_ | apply keep_drewN | apply keep_drew | apply keep_alloc | refine keep_far ?_ AV.out _ | refine keep_far ?_ Ak.out _) | exact HK.out)) hk (.inl rfl)); replace HB := ak (hb); replace AI := ak (hi); (try clear hb); (try clear hk); (try clear hi)))
 go_roundg k2
 case measure => have := CF.out; have := CC.out; omega
 case rel => exact ⟨(IntKind.i8.wrap (Av + 1)), (Bq), (Bo), (AG), (AJ), (AR), (AP), (AK), (AQ), (AO), (AN), (AL), (AM), (AS), (AT), rfl, H', ⟨by have := CF.out; have := CC.out; omega⟩, ⟨(zK AF.out)⟩, ⟨(zK AH.out)⟩, ⟨by repeat (first | (with_reducible first | exact AI.out | apply IsS123.alloc | apply IsS123.drewN | apply IsS123.drew | apply IsS123.set_1 | apply IsS123.set_2 | refine IsS123.far ?_ AE.out _ | refine IsS123.far ?_ AD.out _) | exact AI.out)⟩, ⟨by repeat (first | (with_reducible first | exact HK.out | apply KeepBut.set_ | apply keep_drewN | apply keep_drew | apply keep_alloc | refine keep_far ?_ AV.out _ | refine keep_far ?_ Ak.out _) | exact HK.out)⟩, ⟨by repeat (first | (with_reducible first | exact HB.out | apply below_alloc | apply pw_below_drewN | apply below_drew1 | refine below_set ?_ (IsS123.ge AI.out) | refine below_set ?_ Ah.out | refine below_set ?_ Aj.out) | exact HB.out)⟩⟩
 }
 }
 {
 rw [if_neg CD] at H
 have CH : decide (Av < AG) = false := decide_eq_false CD
 clear CD
 have H' := ak H
 clear H
 have Fi := Ai.out
 have Fc := AC.out
 have Fn := AU.out
 have FR := AD.out
 obtain ⟨C1, Eg, Dq, E2, DO, D5, Dh, DY, DR, C6, CT, CK, EC, EH, D6, Dj, De, C7, FC, EQ, DM, DA, Cg, Cu⟩ := cz12 wr AH
 go_wp2
 go_roundg k2
 case measure => have := CF.out; have := CC.out; omega
 case rel => exact ⟨(IntKind.i8.wrap (Aw + 1)), (Ao), (Ap), (AG), (AJ), (AR), (AP), (AK), (AQ), (AO), (AN), (AL), (AM), (AS), (AT), rfl, H', ⟨by have := CF.out; have := CC.out; omega⟩, ⟨(zK AF.out)⟩, ⟨(zK AH.out)⟩, ⟨by repeat (first | (with_reducible first | exact AI.out | apply IsS123.alloc | apply IsS123.drewN | apply IsS123.drew | apply IsS123.set_1 | apply IsS123.set_2 | refine IsS123.far ?_ AE.out _ | refine IsS123.far ?_ AD.out _) | exact AI.out)⟩, ⟨by repeat (first | (with_reducible first | exact HK.out | apply KeepBut.set_ | apply keep_drewN | apply keep_drew | apply keep_alloc | refine keep_far ?_ AV.out _ | refine keep_far ?_ Ak.out _) | exact HK.out)⟩, ⟨by repeat (first | (with_reducible first | exact HB.out | apply below_alloc | apply pw_below_drewN | apply below_drew1 | refine below_set ?_ (IsS123.ge AI.out) | refine below_set ?_ Ah.out | refine below_set ?_ Aj.out) | exact HB.out)⟩⟩
 }
 )
 )
 }
 {
 rw [if_neg CB] at H
 have Bz : decide (Aw < AA) = false := decide_eq_false CB
 clear CB
 replace H := Option.bind_eq_some_iff.mp H
 obtain ⟨⟨B9, Cl, CL⟩, CN, H⟩ := H
 have Fu := ak CN
 clear CN
 replace H := Option.bind_eq_some_iff.mp H
 obtain ⟨⟨B3, FL, FK⟩, Cd, H⟩ := H
 have Fs := ak Cd
 clear Cd
 replace H := Option.bind_eq_some_iff.mp H
 obtain ⟨⟨BP, BR, BY, Bg, B0, CA, CE, CO, Bv, B8⟩, Ch, H⟩ := H
 have Fw := ak Ch
 clear Ch
 simp only [Option.some.injEq, Prod.mk.injEq] at H
 obtain ⟨rfl, rfl, rfl, rfl, rfl, rfl, rfl, rfl, rfl, rfl, rfl, rfl, rfl, rfl⟩ := H
 have Fg := Ai.out
 have Fh := AC.out
 have Fk := AU.out
 have Ff := AD.out
 obtain ⟨El, Dz, C0, Cz, Ek, Dg, D4, Cy, FH, DQ, CY, CZ, DI, D7, DW, E1, DB, E5, FA, D8, Ee, Ew, CR, Ct⟩ := cz12 wr AH
 go_wp2_with (first | ((with_reducible refine gate_callee (f := 62) rfl ?_); refine goesL_ (some 43) rfl rfl Try.func62 (by kernel_rfl) rfl #[.pointer (some ⟨g, 0, none⟩), .int .i64 (wrap64 (AB))] rfl gl_ ?_; (with_reducible refine (spec_l00Src_pick.calls g An As Ar (wrap64 (AB)) B9 Cl CL w0 _ ?side1 ?side2 Fu.out).mono ?_); (case side1 => repeat (first | (with_reducible first | exact AI.out | apply IsS123.alloc | apply IsS123.drewN | apply IsS123.drew | apply IsS123.set_1 | apply IsS123.set_2 | refine IsS123.far ?_ AE.out _ | refine IsS123.far ?_ AD.out _) | exact AI.out)); (case side2 => repeat (first | (with_reducible first | exact HB.out | apply below_alloc | apply pw_below_drewN | apply below_drew1 | refine below_set ?_ (IsS123.ge AI.out) | refine below_set ?_ Ah.out | refine below_set ?_ Aj.out) | exact HB.out)); rintro e Fq ⟨rfl, hi, hb, hk⟩; refine ⟨_, rfl, ?_⟩; replace AF := ak (KeepBut.blk hk (g' := Al) (o := .cells #[.int .i8 0, .int .i8 0, .int .u16 0, .int .u16 0, .int .u16 0, .int .u16 0, .int .u16 0, .int .u16 0, .int .u16 0, .int .u16 0, .int .u16 0, .int .u16 0] 35 (0, 0)) (zK AF.out) Am.out (by simp)); replace AH := ak (KeepBut.blk hk (g' := AW) (o := .cells #[.int .i8 AB, .int .i8 AA, .int .u16 Ac, .int .u16 Af, .int .u16 Ag, .int .u16 AX, .int .u16 AY, .int .u16 AZ, .int .u16 Ab, .int .u16 Aa, .int .u16 Ad, .int .u16 Ae] 35 (0, 0)) (zK AH.out) AU.out (by simp)); replace HK := ak (KeepBut.trans (by repeat (first | (with_reducible first | exact HK.out | apply KeepBut.set_ | apply keep_drewN | apply keep_drew | apply keep_alloc | refine keep_far ?_ AV.out _ | refine keep_far ?_ Ak.out _) | exact HK.out)) hk (.inl rfl)); replace HB := ak (hb); replace AI := ak (hi); (try clear hb); (try clear hk); (try clear hi); obtain ⟨Ex, DU, Ey, Ea, EM, EZ, Es, E7, Dr, FB, Cq, Cc, EP, EE, Dk, DJ, E3, Db, Ev, DK, EJ, Ep, Ca, CV⟩ := cz12 Fq AH) | ((with_reducible refine gate_callee (f := 62) rfl ?_); refine goesL_ (some 50) rfl rfl Try.func62 (by kernel_rfl) rfl #[.pointer (some ⟨g, 0, none⟩), .int .i64 (wrap64 (AA))] rfl gl_ ?_; (with_reducible refine (spec_l00Src_pick.calls g An Cl CL (wrap64 (AA)) B3 FL FK w0 _ ?side1 ?side2 Fs.out).mono ?_); (case side1 => repeat (first | (with_reducible first | exact AI.out | apply IsS123.alloc | apply IsS123.drewN | apply IsS123.drew | apply IsS123.set_1 | apply IsS123.set_2 | refine IsS123.far ?_ AE.out _ | refine IsS123.far ?_ AD.out _) | exact AI.out)); (case side2 => repeat (first | (with_reducible first | exact HB.out | apply below_alloc | apply pw_below_drewN | apply below_drew1 | refine below_set ?_ (IsS123.ge AI.out) | refine below_set ?_ Ah.out | refine below_set ?_ Aj.out) | exact HB.out)); rintro e Fz ⟨rfl, hi, hb, hk⟩; refine ⟨_, rfl, ?_⟩; replace AF := ak (KeepBut.blk hk (g' := Al) (o := .cells #[.int .i8 0, .int .i8 0, .int .u16 0, .int .u16 0, .int .u16 0, .int .u16 0, .int .u16 0, .int .u16 0, .int .u16 0, .int .u16 0, .int .u16 0, .int .u16 0] 35 (0, 0)) (zK AF.out) Am.out (by simp)); replace AH := ak (KeepBut.blk hk (g' := AW) (o := .cells #[.int .i8 AB, .int .i8 AA, .int .u16 Ac, .int .u16 Af, .int .u16 Ag, .int .u16 AX, .int .u16 AY, .int .u16 AZ, .int .u16 Ab, .int .u16 Aa, .int .u16 Ad, .int .u16 Ae] 35 (0, 0)) (zK AH.out) AU.out (by simp)); replace HK := ak (KeepBut.trans (by repeat (first | (with_reducible first | exact HK.out | apply KeepBut.set_ | apply keep_drewN | apply keep_drew | apply keep_alloc | refine keep_far ?_ AV.out _ | refine keep_far ?_ Ak.out _) | exact HK.out)) hk (.inl rfl)); replace HB := ak (hb); replace AI := ak (hi); (try clear hb); (try clear hk); (try clear hi)) | ((with_reducible refine gate_callee (f := 83) rfl ?_); refine goesL_ (some 53) rfl rfl Try.func83 (by kernel_rfl) rfl #[.pointer (some ⟨AW, 0, none⟩), .agg #[.int .i8 (IntKind.i8.wrap (B9)), .int .i8 (IntKind.i8.wrap (B3))], .bool false] rfl gl_ ?_; (with_reducible refine (spec_l01Wall.calls AW AB AA Ac Af Ag AX AY AZ Ab Aa Ad Ae (IntKind.i8.wrap (B9)) (IntKind.i8.wrap (B3)) false  _ ?side1 Fw.out).mono ?_); (case side1 => exact (zK AH.out)); rintro e FX ⟨rfl, BT, Au⟩; refine ⟨_, rfl, ?_⟩; replace AF := ak (blk_grown (zK AF.out) Au (fun e_ => AC.out (Option.some.inj e_))); replace AH := ak BT; replace HK := ak (KeepBut.trans (by repeat (first | (with_reducible first | exact HK.out | apply KeepBut.set_ | apply keep_drewN | apply keep_drew | apply keep_alloc | refine keep_far ?_ AV.out _ | refine keep_far ?_ Ak.out _) | exact HK.out)) (KeepBut.of_grown Au g) (.inr ⟨AW, rfl, Ak.out⟩)); replace HB := ak (Below.grown (by repeat (first | (with_reducible first | exact HB.out | apply below_alloc | apply pw_below_drewN | apply below_drew1 | refine below_set ?_ (IsS123.ge AI.out) | refine below_set ?_ Ah.out | refine below_set ?_ Aj.out) | exact HB.out)) Au (below_size (zB HB.out)) (fun j_ e_ => by cases e_; exact Aj.out)); replace AI := ak (IsS123.grown (by repeat (first | (with_reducible first | exact AI.out | apply IsS123.alloc | apply IsS123.drewN | apply IsS123.drew | apply IsS123.set_1 | apply IsS123.set_2 | refine IsS123.far ?_ AE.out _ | refine IsS123.far ?_ AD.out _) | exact AI.out)) Au (fun e_ => AD.out (Option.some.inj e_))); (try clear BT Au); obtain ⟨Dw, Dp, EF, Dn, Dl, EN, DS, Dd, EO, DE, CQ, Ck, Da, EA, DG, DC, Et, D3, Do, EU, DP, EI, Ci, Cf⟩ := cz12 FX AH; have FO := Am.out; have Fj := AE.out; obtain ⟨D2, Cx, C4, C8, Dx, Er, EL, Dc, Em, Dt, Cn, Cp, E6, D1, Di, En, C5, Dy, Eb, ET, FF, Ej, CI, Cb⟩ := cz12 FX AF))
 refine bodyPost_ret (results_cell_row rfl _ _ Al 35 #[.int .i8 AB, .int .i8 AA, .int .u16 BP, .int .u16 BR, .int .u16 BY, .int .u16 Bg, .int .u16 B0, .int .u16 CA, .int .u16 CE, .int .u16 CO, .int .u16 Bv, .int .u16 B8] (0, 0) _ rfl (by refine blk_put (cs := #[.int .i8 AB, .int .i8 AA, .int .u16 BP, .int .u16 BR, .int .u16 BY, .int .u16 Bg, .int .u16 B0, .int .u16 CA, .int .u16 CE, .int .u16 CO, .int .u16 Bv, .int .u16 0]) ?_ 11 _ rfl; refine blk_put (cs := #[.int .i8 AB, .int .i8 AA, .int .u16 BP, .int .u16 BR, .int .u16 BY, .int .u16 Bg, .int .u16 B0, .int .u16 CA, .int .u16 CE, .int .u16 CO, .int .u16 0, .int .u16 0]) ?_ 10 _ rfl; refine blk_put (cs := #[.int .i8 AB, .int .i8 AA, .int .u16 BP, .int .u16 BR, .int .u16 BY, .int .u16 Bg, .int .u16 B0, .int .u16 CA, .int .u16 CE, .int .u16 0, .int .u16 0, .int .u16 0]) ?_ 9 _ rfl; refine blk_put (cs := #[.int .i8 AB, .int .i8 AA, .int .u16 BP, .int .u16 BR, .int .u16 BY, .int .u16 Bg, .int .u16 B0, .int .u16 CA, .int .u16 0, .int .u16 0, .int .u16 0, .int .u16 0]) ?_ 8 _ rfl; refine blk_put (cs := #[.int .i8 AB, .int .i8 AA, .int .u16 BP, .int .u16 BR, .int .u16 BY, .int .u16 Bg, .int .u16 B0, .int .u16 0, .int .u16 0, .int .u16 0, .int .u16 0, .int .u16 0]) ?_ 7 _ rfl; refine blk_put (cs := #[.int .i8 AB, .int .i8 AA, .int .u16 BP, .int .u16 BR, .int .u16 BY, .int .u16 Bg, .int .u16 0, .int .u16 0, .int .u16 0, .int .u16 0, .int .u16 0, .int .u16 0]) ?_ 6 _ rfl; refine blk_put (cs := #[.int .i8 AB, .int .i8 AA, .int .u16 BP, .int .u16 BR, .int .u16 BY, .int .u16 0, .int .u16 0, .int .u16 0, .int .u16 0, .int .u16 0, .int .u16 0, .int .u16 0]) ?_ 5 _ rfl; refine blk_put (cs := #[.int .i8 AB, .int .i8 AA, .int .u16 BP, .int .u16 BR, .int .u16 0, .int .u16 0, .int .u16 0, .int .u16 0, .int .u16 0, .int .u16 0, .int .u16 0, .int .u16 0]) ?_ 4 _ rfl; refine blk_put (cs := #[.int .i8 AB, .int .i8 AA, .int .u16 BP, .int .u16 0, .int .u16 0, .int .u16 0, .int .u16 0, .int .u16 0, .int .u16 0, .int .u16 0, .int .u16 0, .int .u16 0]) ?_ 3 _ rfl; refine blk_put (cs := #[.int .i8 AB, .int .i8 AA, .int .u16 0, .int .u16 0, .int .u16 0, .int .u16 0, .int .u16 0, .int .u16 0, .int .u16 0, .int .u16 0, .int .u16 0, .int .u16 0]) ?_ 2 _ (by first | rfl | exact set2_eq_ _ _ _ _ _ (by omega)); refine blk_put (cs := #[.int .i8 AB, .int .i8 0, .int .u16 0, .int .u16 0, .int .u16 0, .int .u16 0, .int .u16 0, .int .u16 0, .int .u16 0, .int .u16 0, .int .u16 0, .int .u16 0]) ?_ 1 _ rfl; refine blk_put (cs := #[.int .i8 0, .int .i8 0, .int .u16 0, .int .u16 0, .int .u16 0, .int .u16 0, .int .u16 0, .int .u16 0, .int .u16 0, .int .u16 0, .int .u16 0, .int .u16 0]) ?_ 0 _ rfl; exact AF.out) Try.underlying35 rfl (by kernel_rfl)) rfl ?_
 exact ⟨rfl, by repeat (first | (with_reducible first | exact AI.out | apply IsS123.alloc | apply IsS123.drewN | apply IsS123.drew | apply IsS123.set_1 | apply IsS123.set_2 | refine IsS123.far ?_ AE.out _ | refine IsS123.far ?_ AD.out _) | exact AI.out), by repeat (first | (with_reducible first | exact HB.out | apply below_alloc | apply pw_below_drewN | apply below_drew1 | refine below_set ?_ (IsS123.ge AI.out) | refine below_set ?_ Ah.out | refine below_set ?_ Aj.out) | exact HB.out), by repeat (first | (with_reducible first | exact HK.out | apply KeepBut.set_ | apply keep_drewN | apply keep_drew | apply keep_alloc | refine keep_far ?_ AV.out _ | refine keep_far ?_ Ak.out _) | exact HK.out)⟩
 }
 )
 )
/-! ### spec_P6Room: function 25 -/
def spec_P6Room.f (k : Nat) (l0 : List Int) : Option (Int × Int × Int × Int × Int × Int × Int × Int × Int × Int × Int × Int) := (spec_l00From.f l0).bind fun AB => ((spec_l01Drawn.f k AB.1 AB.2.1 AB.2.2).bind fun AA => (some (AA.1, AA.2.1, AA.2.2.1, AA.2.2.2.1, AA.2.2.2.2.1, AA.2.2.2.2.2.1, AA.2.2.2.2.2.2.1, AA.2.2.2.2.2.2.2.1, AA.2.2.2.2.2.2.2.2.1, AA.2.2.2.2.2.2.2.2.2.1, AA.2.2.2.2.2.2.2.2.2.2.1, AA.2.2.2.2.2.2.2.2.2.2.2.1)))
set_option maxHeartbeats 8000000 in
set_option maxRecDepth 100000 in
theorem spec_P6Room.calls (k : Nat) (A0 : Option Addr) (c0 : Nat) (l0 : List Int) (r1 : Int) (r2 : Int) (r3 : Int) (r4 : Int) (r5 : Int) (r6 : Int) (r7 : Int) (r8 : Int) (r9 : Int) (A7 : Int) (Ay : Int) (A1 : Int) (w : World) (Az : Kd.C (Kd.int .u8) w A0 l0.length l0) (Ax : l0.length ≤ c0) (h : spec_P6Room.f k l0 = some (r1, r2, r3, r4, r5, r6, r7, r8, r9, A7, Ay, A1)) :
    Calls Try.prog 25 #[.slice A0 l0.length c0] w fun e w' => e = .returned (.agg #[.int .i8 r1, .int .i8 r2, .int .u16 r3, .int .u16 r4, .int .u16 r5, .int .u16 r6, .int .u16 r7, .int .u16 r8, .int .u16 r9, .int .u16 A7, .int .u16 Ay, .int .u16 A1]) ∧ Below w.heap.size w w' := by
 have BA := Try.underlying35
 have BC := ak Az
 have A8 := ak Ax
 clear Az Ax
 have HB := ak (Below.refl w.heap.size w)
 have H := h
 unfold spec_P6Room.f at H
 clear h
 replace H := Option.bind_eq_some_iff.mp H
 obtain ⟨⟨AS, AT, AU⟩, A6, H⟩ := H
 have A2 := ak A6
 clear A6
 replace H := Option.bind_eq_some_iff.mp H
 obtain ⟨⟨AA, AC, AD, AE, AH, AK, AL, AM, AO, AP, AQ, AV, Ap, Ak⟩, A5, H⟩ := H
 have A3 := ak A5
 clear A5
 simp only [Option.some.injEq, Prod.mk.injEq] at H
 obtain ⟨rfl, rfl, rfl, rfl, rfl, rfl, rfl, rfl, rfl, rfl, rfl, rfl⟩ := H
 go_enter Try.func25, Try.ntmps25
 go_wp2_with (first | ((with_reducible refine gate_dst (N := 2) rfl ?_); refine box_event ?hg (N := 2) ?hd (cs := #[.int .i8 0, .int .i8 0, .int .u16 0, .int .u16 0, .int .u16 0, .int .u16 0, .int .u16 0, .int .u16 0, .int .u16 0, .int .u16 0, .int .u16 0, .int .u16 0]) (t := 35) ?hr ?_; (case hd => rfl); (case hg => rfl); (case hr => first | (go_simp; done) | (go_simp; rfl)); intro AJ hg w4 hbox hb; have AB := ak (hbox); have A4 := gS HB hg; have AN := gS HB hg; replace HB := kB HB hb; clear hb hbox hg) | ((with_reducible refine gate_callee (f := 60) rfl ?_); refine goesL_ (some 4) rfl rfl Try.func60 (by kernel_rfl) rfl #[.slice A0 l0.length c0] rfl gl_ ?_; (with_reducible refine (spec_l00From.calls _ _ l0 AS AT AU w _ ?side1 ?side2 ?side3 A2.out).mono ?_); (case side1 => repeat (first | (with_reducible first | exact HB.out | apply below_alloc | apply pw_below_drewN | apply below_drew1 | refine below_set ?_ AN.out) | exact HB.out)); (case side2 => exact BC.out); (case side3 => exact A8.out); rintro e w5 ⟨AR, rfl, hi, hb, AZ⟩; refine ⟨_, rfl, ?_⟩; have AI := ak (hi); have AG := ak (IsS123.ne_blk hi (blk_below (g := AJ) (o := .cells #[.int .i8 0, .int .i8 0, .int .u16 0, .int .u16 0, .int .u16 0, .int .u16 0, .int .u16 0, .int .u16 0, .int .u16 0, .int .u16 0, .int .u16 0, .int .u16 0] 35 (0, 0)) (zK AB.out) AZ) (by decide)); have AF := ak (Ne.symm (IsS123.ne_blk hi (blk_below (g := AJ) (o := .cells #[.int .i8 0, .int .i8 0, .int .u16 0, .int .u16 0, .int .u16 0, .int .u16 0, .int .u16 0, .int .u16 0, .int .u16 0, .int .u16 0, .int .u16 0, .int .u16 0] 35 (0, 0)) (zK AB.out) AZ) (by decide))); replace AB := ak (blk_below (g := AJ) (o := .cells #[.int .i8 0, .int .i8 0, .int .u16 0, .int .u16 0, .int .u16 0, .int .u16 0, .int .u16 0, .int .u16 0, .int .u16 0, .int .u16 0, .int .u16 0, .int .u16 0] 35 (0, 0)) (zK AB.out) AZ); replace HB := ak (hb); (try clear hb); (try clear AZ); (try clear hi)) | ((with_reducible refine gate_callee (f := 59) rfl ?_); refine goesL_ (some 5) rfl rfl Try.func59 (by kernel_rfl) rfl #[.pointer (some ⟨AR, 0, none⟩)] rfl gl_ ?_; (with_reducible refine (spec_l01Drawn.calls k AR AS AT AU AA AC AD AE AH AK AL AM AO AP AQ AV Ap Ak w _ ?side1 ?side2 A3.out).mono ?_); (case side1 => repeat (first | (with_reducible first | exact AI.out | apply IsS123.alloc | apply IsS123.drewN | apply IsS123.drew | apply IsS123.set_1 | apply IsS123.set_2 | refine IsS123.far ?_ AG.out _) | exact AI.out)); (case side2 => repeat (first | (with_reducible first | exact HB.out | apply below_alloc | apply pw_below_drewN | apply below_drew1 | refine below_set ?_ (IsS123.ge AI.out) | refine below_set ?_ AN.out) | exact HB.out)); rintro e w6 ⟨rfl, hi, hb, hk⟩; refine ⟨_, rfl, ?_⟩; replace AB := ak (KeepBut.blk hk (g' := AJ) (o := .cells #[.int .i8 0, .int .i8 0, .int .u16 0, .int .u16 0, .int .u16 0, .int .u16 0, .int .u16 0, .int .u16 0, .int .u16 0, .int .u16 0, .int .u16 0, .int .u16 0] 35 (0, 0)) (zK AB.out) AF.out (by simp)); replace HB := ak (hb); replace AI := ak (hi); (try clear hb); (try clear hk); (try clear hi); have A9 := AF.out; have BB := AG.out; obtain ⟨Af, Ao, Av, Ag, Ad, At, Ae, Aq, Ah, Au, AW, AX, Ac, Ar, An, Am, As, Aj, Al, Ai, Aw, Ab, AY, Aa⟩ := cz12 w6 AB))
 refine bodyPost_ret (results_cell_row rfl _ _ AJ 35 #[.int .i8 AA, .int .i8 AC, .int .u16 AD, .int .u16 AE, .int .u16 AH, .int .u16 AK, .int .u16 AL, .int .u16 AM, .int .u16 AO, .int .u16 AP, .int .u16 AQ, .int .u16 AV] (0, 0) _ rfl (by refine blk_put (cs := #[.int .i8 AA, .int .i8 AC, .int .u16 AD, .int .u16 AE, .int .u16 AH, .int .u16 AK, .int .u16 AL, .int .u16 AM, .int .u16 AO, .int .u16 AP, .int .u16 AQ, .int .u16 0]) ?_ 11 _ rfl; refine blk_put (cs := #[.int .i8 AA, .int .i8 AC, .int .u16 AD, .int .u16 AE, .int .u16 AH, .int .u16 AK, .int .u16 AL, .int .u16 AM, .int .u16 AO, .int .u16 AP, .int .u16 0, .int .u16 0]) ?_ 10 _ rfl; refine blk_put (cs := #[.int .i8 AA, .int .i8 AC, .int .u16 AD, .int .u16 AE, .int .u16 AH, .int .u16 AK, .int .u16 AL, .int .u16 AM, .int .u16 AO, .int .u16 0, .int .u16 0, .int .u16 0]) ?_ 9 _ rfl; refine blk_put (cs := #[.int .i8 AA, .int .i8 AC, .int .u16 AD, .int .u16 AE, .int .u16 AH, .int .u16 AK, .int .u16 AL, .int .u16 AM, .int .u16 0, .int .u16 0, .int .u16 0, .int .u16 0]) ?_ 8 _ rfl; refine blk_put (cs := #[.int .i8 AA, .int .i8 AC, .int .u16 AD, .int .u16 AE, .int .u16 AH, .int .u16 AK, .int .u16 AL, .int .u16 0, .int .u16 0, .int .u16 0, .int .u16 0, .int .u16 0]) ?_ 7 _ rfl; refine blk_put (cs := #[.int .i8 AA, .int .i8 AC, .int .u16 AD, .int .u16 AE, .int .u16 AH, .int .u16 AK, .int .u16 0, .int .u16 0, .int .u16 0, .int .u16 0, .int .u16 0, .int .u16 0]) ?_ 6 _ rfl; refine blk_put (cs := #[.int .i8 AA, .int .i8 AC, .int .u16 AD, .int .u16 AE, .int .u16 AH, .int .u16 0, .int .u16 0, .int .u16 0, .int .u16 0, .int .u16 0, .int .u16 0, .int .u16 0]) ?_ 5 _ rfl; refine blk_put (cs := #[.int .i8 AA, .int .i8 AC, .int .u16 AD, .int .u16 AE, .int .u16 0, .int .u16 0, .int .u16 0, .int .u16 0, .int .u16 0, .int .u16 0, .int .u16 0, .int .u16 0]) ?_ 4 _ rfl; refine blk_put (cs := #[.int .i8 AA, .int .i8 AC, .int .u16 AD, .int .u16 0, .int .u16 0, .int .u16 0, .int .u16 0, .int .u16 0, .int .u16 0, .int .u16 0, .int .u16 0, .int .u16 0]) ?_ 3 _ rfl; refine blk_put (cs := #[.int .i8 AA, .int .i8 AC, .int .u16 0, .int .u16 0, .int .u16 0, .int .u16 0, .int .u16 0, .int .u16 0, .int .u16 0, .int .u16 0, .int .u16 0, .int .u16 0]) ?_ 2 _ (by first | rfl | exact set2_eq_ _ _ _ _ _ (by omega)); refine blk_put (cs := #[.int .i8 AA, .int .i8 0, .int .u16 0, .int .u16 0, .int .u16 0, .int .u16 0, .int .u16 0, .int .u16 0, .int .u16 0, .int .u16 0, .int .u16 0, .int .u16 0]) ?_ 1 _ rfl; refine blk_put (cs := #[.int .i8 0, .int .i8 0, .int .u16 0, .int .u16 0, .int .u16 0, .int .u16 0, .int .u16 0, .int .u16 0, .int .u16 0, .int .u16 0, .int .u16 0, .int .u16 0]) ?_ 0 _ rfl; exact AB.out) Try.underlying35 rfl (by kernel_rfl)) rfl ?_
 exact ⟨rfl, by repeat (first | (with_reducible first | exact HB.out | apply below_alloc | apply pw_below_drewN | apply below_drew1 | refine below_set ?_ (IsS123.ge AI.out) | refine below_set ?_ AN.out) | exact HB.out)⟩
end Go.Proofs.Ytooidjdgfoioiaa.P
