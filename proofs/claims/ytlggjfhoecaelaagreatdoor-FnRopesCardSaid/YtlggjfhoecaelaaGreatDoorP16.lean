-- Printed by wip/print (my turned copy of the kit's print) out of the translation; Lean checks it.
import Derived.Test.YtlggjfhoecaelaaGreatDoorP0
import Derived.Test.YtlggjfhoecaelaaGreatDoorP7
import Derived.Test.YtlggjfhoecaelaaGreatDoorP8
import Derived.Test.YtlggjfhoecaelaaGreatDoorP12
namespace Go.Proofs.YtlggjfhoecaelaaGreatDoor.P
open Go.RowKit Go.Proofs.YtlggjfhoecaelaaGreatDoorW.PrintWords Go.Proofs.YtlggjfhoecaelaaGreatDoorW.PrintLast Go.Proofs.YtlggjfhoecaelaaGreatDoorW.PrintMore
attribute [local go_sem] max2_int min2_int max_two min_two max_three min_three max_four min_four   -- for this text's walks alone
set_option linter.unusedVariables false
set_option linter.unusedSimpArgs false

/-! ### impl_TakeHold_1: function 55 -/
def impl_TakeHold_1.f (AB : Int) (AD : Int) (AA : Int) (AC : Int) : Option (Bool) := if AB = AA then (some true) else (some (AD == AC))
set_option maxHeartbeats 8000000 in
set_option maxRecDepth 100000 in
theorem impl_TakeHold_1.calls (AA : Int) (AH : Int) (b1 : Nat) (AD : Int) (AJ : Int) (r : Bool) (w : World) (Ad : w.heap[b1]? = some (.cells #[.int .i16 AD, .int .i8 AJ] 52 (0, 0))) (h : impl_TakeHold_1.f AA AH AD AJ = some r) :
    Calls Tryz.prog 55 #[.agg #[.int .i16 AA, .int .i8 AH], .pointer (some ⟨b1, 0, none⟩)] w fun e w' => e = .returned (.bool r) ∧ Below w.heap.size w w' := by
 have Af := Tryz.underlying52
 have AG := ak Ad
 clear Ad
 have HB := ak (Below.refl w.heap.size w)
 have H := h
 unfold impl_TakeHold_1.f at H
 clear h
 by_cases c3 : AA = AD
 {
 rw [if_pos c3] at H
 have Ac : (AA == AD) = true := beq_iff_eq.mpr c3
 have AU : (AA != AD) = false := bne_eq_false_iff_eq.mpr c3
 clear c3
 obtain rfl := Option.some.inj H
 go_enter Tryz.func55, Tryz.ntmps55
 go_wp2_with (first | ((with_reducible refine gate_dst (N := 2) rfl ?_); refine box_event ?hg (N := 2) ?hd (cs := #[.int .i16 AA, .int .i8 AH]) (t := 52) ?hr ?_; (case hd => rfl); (case hg => rfl); (case hr => first | (go_simp; done) | (go_simp; rfl)); intro AK hg w4 hbox hb; have AF := ak (hbox); have AI := gS HB hg; have AE := gS HB hg; have AB := nL AG hg; have AC := nG AG hg; replace AG := kK AG hb; replace HB := kB HB hb; clear hb hbox hg; have Ah := AC.out; have Ai := AB.out; obtain ⟨Aa, AT, AV, AW⟩ := cz2 w4 AF; obtain ⟨AX, AY, AZ, Ab⟩ := cz2 w4 AG))
 go_ret
 exact ⟨rfl, zBG HB.out AE.out⟩
 }
 {
 rw [if_neg c3] at H
 have Ac : (AA == AD) = false := beq_eq_false_iff_ne.mpr c3
 have AU : (AA != AD) = true := bne_iff_ne.mpr c3
 obtain rfl := Option.some.inj H
 go_enter Tryz.func55, Tryz.ntmps55
 go_wp2_with (first | ((with_reducible refine gate_dst (N := 2) rfl ?_); refine box_event ?hg (N := 2) ?hd (cs := #[.int .i16 AA, .int .i8 AH]) (t := 52) ?hr ?_; (case hd => rfl); (case hg => rfl); (case hr => first | (go_simp; done) | (go_simp; rfl)); intro AK hg w8 hbox hb; have AF := ak (hbox); have AI := gS HB hg; have AE := gS HB hg; have AB := nL AG hg; have AC := nG AG hg; replace AG := kK AG hb; replace HB := kB HB hb; clear hb hbox hg; have Ae := AC.out; have Ag := AB.out; obtain ⟨AM, AL, AN, AR⟩ := cz2 w8 AF; obtain ⟨AO, AP, AS, AQ⟩ := cz2 w8 AG))
 go_ret
 exact ⟨rfl, zBG HB.out AE.out⟩
 }
/-! ### slices_IndexFunc_Hold_at_TakeHold_1: function 68 -/
def slices_IndexFunc_Hold_at_TakeHold_1.l0 : Nat → List (S52) → Int → Int → Int → Int → Option (Int)
  | 0, _, _, _, _, _ => none
  | k + 1, x0, x7, x8, AB, AA => if x8 < x7 then (if 0 ≤ x8 then (if x8 < (x0.length : Int) then ((impl_TakeHold_1.f ((rd_T52 x0 x8).f0) ((rd_T52 x0 x8).f1) AB AA).bind fun AC => (if AC = true then (some x8) else (slices_IndexFunc_Hold_at_TakeHold_1.l0 k x0 x7 (wrap64 (x8 + 1)) AB AA))) else (none)) else (none)) else (some (-1))
def slices_IndexFunc_Hold_at_TakeHold_1.f (k : Nat) (l0 : List (S52)) (AB : Int) (AA : Int) : Option (Int) := slices_IndexFunc_Hold_at_TakeHold_1.l0 k l0 (l0.length : Int) 0 AB AA
set_option maxHeartbeats 8000000 in
set_option maxRecDepth 100000 in
theorem slices_IndexFunc_Hold_at_TakeHold_1.calls (k : Nat) (A0 : Option Addr) (c0 : Nat) (l0 : List (S52)) (AI : Nat) (AD : Int) (AE : Int) (r : Int) (w : World) (AQ : Kd.C k52 w A0 l0.length l0) (AP : l0.length ≤ c0) (AK : w.heap[AI]? = some (.cells #[.int .i16 AD, .int .i8 AE] 52 (0, 0))) (h : slices_IndexFunc_Hold_at_TakeHold_1.f k l0 AD AE = some r) :
    Calls Tryz.prog 68 #[.slice A0 l0.length c0, .func (.func 55) #[] #[.pointer (some ⟨AI, 0, none⟩)]] w fun e w' => e = .returned (.int .i64 r) ∧ Below w.heap.size w w' := by
 have AV := Tryz.underlying52
 have AS := ak AQ
 have AW := ak AP
 clear AQ AP
 have AF := ak AK
 clear AK
 have HB := ak (Below.refl w.heap.size w)
 have H := h
 unfold slices_IndexFunc_Hold_at_TakeHold_1.f at H
 clear h
 have H' := ak H
 clear H
 go_enter Tryz.func68, Tryz.ntmps68
 go_wp2
 go_loopg [8] k (fun kq v8 w' => ∃ (AA : Int), v8 = .int .i64 AA ∧ Aside0 (slices_IndexFunc_Hold_at_TakeHold_1.l0 kq l0 (l0.length : Int) AA AD AE = some r) ∧ Aside0 (kq ≤ k) ∧ Aside0 (w'.heap[AI]? = some (.cells #[.int .i16 AD, .int .i8 AE] 52 (0, 0))) ∧ Aside0 (Below w.heap.size w w'))
 case atStart => exact ⟨(0), rfl, H', ⟨Nat.le_refl _⟩, ⟨(zK AF.out)⟩, ⟨zB HB.out⟩⟩
 case round => (
 clear H'
 obtain ⟨AA, rfl, HA, AR, AF, HB⟩ := hrel
 cases gk with
 | zero => exact absurd HA.out (by simp [slices_IndexFunc_Hold_at_TakeHold_1.l0])
 | succ k1 => (
 have H := HA.out
 clear HA
 simp only [slices_IndexFunc_Hold_at_TakeHold_1.l0] at H
 by_cases c3 : AA < (l0.length : Int)
 {
 rw [if_pos c3] at H
 have AN : decide (AA < (l0.length : Int)) = true := decide_eq_true c3
 clear c3
 by_cases c4 : 0 ≤ AA
 {
 rw [if_pos c4] at H
 have AT : decide (0 ≤ AA) = true := decide_eq_true c4
 clear c4
 by_cases c5 : AA < (l0.length : Int)
 {
 rw [if_pos c5] at H
 have AU : decide (AA < (l0.length : Int)) = true := decide_eq_true c5
 clear c5
 replace H := Option.bind_eq_some_iff.mp H
 obtain ⟨AM, AO, H⟩ := H
 have A6 := ak AO
 clear AO
 by_cases c7 : AM = true
 {
 subst c7
 rw [if_pos rfl] at H
 obtain rfl := Option.some.inj H
 have AG : 0 ≤ (AA : Int) := of_decide_eq_true (by assumption)
 have AH : AA < (l0.length : Int) := of_decide_eq_true (by assumption)
 obtain ⟨AL, AJ, AC, AB⟩ := at_T52 AS.out AA AG AH
 cases AJ
 replace AC := (HB.out.cell (World.block_lt_of_cell? w _ AC)).trans AC
 replace AB := (HB.out.cell (World.block_lt_of_cell? w _ AB)).trans AB
 replace AG := eq_true AG
 replace AH := eq_true AH
 go_wp2_with (first | ((with_reducible refine gate_tmpcall (t := 11) rfl ?_); refine goesF_ (some 16) rfl rfl Tryz.func55 (by kernel_rfl) rfl #[.pointer (some ⟨AI, 0, none⟩)] #[.agg #[.int .i16 ((rd_T52 l0 AA).f0), .int .i8 ((rd_T52 l0 AA).f1)], .pointer (some ⟨AI, 0, none⟩)] rfl (by first | rfl | (go_simp; done) | (go_simp; rfl)) (by (try simp only [List.map_toArray, List.map_cons, List.map_nil]); first | done | rfl | (simp only [List.length_drop, List.length_take]; rfl) | (go_simp; done)) ?_; (with_reducible refine (impl_TakeHold_1.calls ((rd_T52 l0 AA).f0) ((rd_T52 l0 AA).f1) AI AD AE true _ ?side1 A6.out).mono ?_); (case side1 => exact (zK AF.out)); rintro e w8 ⟨rfl, hb⟩; refine ⟨_, rfl, ?_⟩; replace AF := kK AF hb; replace HB := kB HB hb; (try clear hb)))
 go_ret
 exact ⟨rfl, zB HB.out⟩
 }
 {
 replace c7 := Bool.eq_false_iff.mpr c7
 subst c7
 rw [if_neg (show ¬ (false = true) by decide)] at H
 have H' := ak H
 clear H
 have AG : 0 ≤ (AA : Int) := of_decide_eq_true (by assumption)
 have AH : AA < (l0.length : Int) := of_decide_eq_true (by assumption)
 obtain ⟨AL, AJ, AC, AB⟩ := at_T52 AS.out AA AG AH
 cases AJ
 replace AC := (HB.out.cell (World.block_lt_of_cell? w _ AC)).trans AC
 replace AB := (HB.out.cell (World.block_lt_of_cell? w _ AB)).trans AB
 replace AG := eq_true AG
 replace AH := eq_true AH
 go_wp2_with (first | ((with_reducible refine gate_tmpcall (t := 11) rfl ?_); refine goesF_ (some 16) rfl rfl Tryz.func55 (by kernel_rfl) rfl #[.pointer (some ⟨AI, 0, none⟩)] #[.agg #[.int .i16 ((rd_T52 l0 AA).f0), .int .i8 ((rd_T52 l0 AA).f1)], .pointer (some ⟨AI, 0, none⟩)] rfl (by first | rfl | (go_simp; done) | (go_simp; rfl)) (by (try simp only [List.map_toArray, List.map_cons, List.map_nil]); first | done | rfl | (simp only [List.length_drop, List.length_take]; rfl) | (go_simp; done)) ?_; (with_reducible refine (impl_TakeHold_1.calls ((rd_T52 l0 AA).f0) ((rd_T52 l0 AA).f1) AI AD AE false _ ?side1 A6.out).mono ?_); (case side1 => exact (zK AF.out)); rintro e w9 ⟨rfl, hb⟩; refine ⟨_, rfl, ?_⟩; replace AF := kK AF hb; replace HB := kB HB hb; (try clear hb)))
 go_roundg k1
 case measure => have := AR.out; omega
 case rel => exact ⟨(wrap64 (AA + 1)), rfl, H', ⟨by have := AR.out; omega⟩, ⟨(zK AF.out)⟩, ⟨zB HB.out⟩⟩
 }
 }
 · rw [if_neg c5] at H; exact absurd H (by simp)
 }
 · rw [if_neg c4] at H; exact absurd H (by simp)
 }
 {
 rw [if_neg c3] at H
 have AN : decide (AA < (l0.length : Int)) = false := decide_eq_false c3
 clear c3
 obtain rfl := Option.some.inj H
 go_wp2
 go_ret
 exact ⟨rfl, zB HB.out⟩
 }
 )
 )
/-! ### slices_ContainsFunc_Hold_at_TakeHold_1: function 45 -/
def slices_ContainsFunc_Hold_at_TakeHold_1.f (k : Nat) (l0 : List (S52)) (AB : Int) (AA : Int) : Option (Bool) := (slices_IndexFunc_Hold_at_TakeHold_1.f k l0 AB AA).bind fun AC => (some (decide (AC ≥ 0)))
set_option maxHeartbeats 8000000 in
set_option maxRecDepth 100000 in
theorem slices_ContainsFunc_Hold_at_TakeHold_1.calls (k : Nat) (A0 : Option Addr) (c0 : Nat) (l0 : List (S52)) (AE : Nat) (AA : Int) (AB : Int) (r : Bool) (w : World) (AH : Kd.C k52 w A0 l0.length l0) (AG : l0.length ≤ c0) (AD : w.heap[AE]? = some (.cells #[.int .i16 AA, .int .i8 AB] 52 (0, 0))) (h : slices_ContainsFunc_Hold_at_TakeHold_1.f k l0 AA AB = some r) :
    Calls Tryz.prog 45 #[.slice A0 l0.length c0, .func (.func 55) #[] #[.pointer (some ⟨AE, 0, none⟩)]] w fun e w' => e = .returned (.bool r) ∧ Below w.heap.size w w' := by
 have AK := ak AH
 have AJ := ak AG
 clear AH AG
 have AC := ak AD
 clear AD
 have HB := ak (Below.refl w.heap.size w)
 have H := h
 unfold slices_ContainsFunc_Hold_at_TakeHold_1.f at H
 clear h
 replace H := Option.bind_eq_some_iff.mp H
 obtain ⟨AF, AI, H⟩ := H
 have A3 := ak AI
 clear AI
 obtain rfl := Option.some.inj H
 go_enter Tryz.func45, Tryz.ntmps45
 go_wp2_with (first | ((with_reducible refine gate_callee (f := 68) rfl ?_); refine goesL_ (some 7) rfl rfl Tryz.func68 (by kernel_rfl) rfl #[.slice A0 l0.length c0, .func (.func 55) #[] #[.pointer (some ⟨AE, 0, none⟩)]] rfl gl_ ?_; (with_reducible refine (slices_IndexFunc_Hold_at_TakeHold_1.calls k _ _ l0 AE AA AB AF _ ?side1 ?side2 ?side3 A3.out).mono ?_); (case side1 => exact sD AK); (case side2 => exact AJ.out); (case side3 => exact (zK AC.out)); rintro e w4 ⟨rfl, hb⟩; refine ⟨_, rfl, ?_⟩; replace AC := kK AC hb; replace HB := kB HB hb; (try clear hb)))
 go_ret
 exact ⟨rfl, zB HB.out⟩
/-! ### impl_TakeHold: function 27 -/
def impl_TakeHold.okT (l : List S52) (z : Int) : Prop := l.length ≤ 1000 ∧ (∀ x ∈ l, 0 ≤ x.f1 ∧ x.f1 < 128) ∧ (0 ≤ z ∧ z < 128) ∧ l.Pairwise (fun a b => a.f1 < b.f1) ∧ ∀ x ∈ l, x.f1 ≠ z
instance (l : List S52) (z : Int) : Decidable (impl_TakeHold.okT l z) := by unfold impl_TakeHold.okT; infer_instance
def impl_TakeHold.f (k : Nat) (AD : Int) (AC : List Int) (l1 : List S52) (AB AA : Int) : Option (List S52 × Int) := (impl_ValidHolds.f k AD AC l1).bind fun vb => (if vb = true then (impl_Rope_isHold.f AD AC AB AA).bind fun hb => (if hb = true then (slices_ContainsFunc_Hold_at_TakeHold_1.f k l1 AB AA).bind fun cb => (if cb = true then some (([] : List S52), (4 : Int)) else (if impl_TakeHold.okT l1 AA then some (Go.Proofs.YtlggjfhoecaelaaGreatDoor.H.insT (fun x : S52 => x.f1) ⟨AB, AA⟩ l1, (0 : Int)) else none)) else some (([] : List S52), (2 : Int))) else some (([] : List S52), (1 : Int)))
set_option maxHeartbeats 8000000 in
set_option maxRecDepth 1000000 in
theorem impl_TakeHold.calls (k : Nat) (AD : Int) (AF : Option Addr) (AE : Nat) (AB : List Int) (A1 : Option Addr) (c1 : Nat) (l1 : List S52) (AC : Int) (AA : Int) (r1 : List S52) (r2 : Int) (w : World) (AG : Kd.C (Kd.int .i16) w AF AB.length AB) (AH : AB.length ≤ AE) (AK : Kd.C k52 w A1 l1.length l1) (AL : l1.length ≤ c1) (h : impl_TakeHold.f k AD AB l1 AC AA = some (r1, r2)) :
    Calls Tryz.prog 27 #[.agg #[.int .i16 AD, .slice AF AB.length AE], .slice A1 l1.length c1, .agg #[.int .i16 AC, .int .i8 AA]] w fun e w' => ∃ v0_ : Value, e = .returned (.tuple #[v0_, .int .i64 r2]) ∧ Kd.R k52 52 w' w.heap.size (fun _ => True) v0_ r1 ∧ Below w.heap.size w w' := by
  unfold impl_TakeHold.f at h
  obtain ⟨vb, hvb, h⟩ := Option.bind_eq_some_iff.mp h
  have hvalid : ∀ W, Below w.heap.size w W → Calls Tryz.prog 15 #[.agg #[.int .i16 AD, .slice AF AB.length AE], .slice A1 l1.length c1] W fun e w' => e = .returned (.bool vb) ∧ Below W.heap.size W w' := fun W q =>
    impl_ValidHolds.calls k AD AF AE AB A1 c1 l1 vb W (Kd.C_below AG q) AH (Kd.C_below AK q) AL hvb
  cases vb with
  | false =>
    rw [if_neg (by decide)] at h
    obtain ⟨rfl, rfl⟩ := Prod.mk.inj (Option.some.inj h)
    refine (Go.Proofs.YtlggjfhoecaelaaGreatDoor.H.takeHold_err AD AF AB.length AE A1 l1.length c1 AC AA w false false false (Or.inl rfl) hvalid (fun z => absurd z (by decide)) (fun z => absurd z (by decide))).mono ?_
    rintro e w' ⟨rfl, hB⟩
    exact ⟨_, rfl, Kd.R_nil _ _ _ _ _, hB⟩
  | true =>
    rw [if_pos rfl] at h
    obtain ⟨hb, hhb, h⟩ := Option.bind_eq_some_iff.mp h
    have hhold : ∀ W, Below w.heap.size w W → Calls Tryz.prog 44 #[.agg #[.int .i16 AD, .slice AF AB.length AE], .agg #[.int .i16 AC, .int .i8 AA]] W fun e w' => e = .returned (.bool hb) ∧ Below W.heap.size W w' := fun W q =>
      impl_Rope_isHold.calls AD AF AE AB AC AA hb W (Kd.C_below AG q) AH hhb
    cases hb with
    | false =>
      rw [if_neg (by decide)] at h
      obtain ⟨rfl, rfl⟩ := Prod.mk.inj (Option.some.inj h)
      refine (Go.Proofs.YtlggjfhoecaelaaGreatDoor.H.takeHold_err AD AF AB.length AE A1 l1.length c1 AC AA w true false false (Or.inr (Or.inl rfl)) hvalid (fun _ => hhold) (fun _ z => absurd z (by decide))).mono ?_
      rintro e w' ⟨rfl, hB⟩
      exact ⟨_, rfl, Kd.R_nil _ _ _ _ _, hB⟩
    | true =>
      rw [if_pos rfl] at h
      obtain ⟨cb, hcb, h⟩ := Option.bind_eq_some_iff.mp h
      have hcont : ∀ W b, Below w.heap.size w W → W.heap[b]? = some (.cells #[.int .i16 AC, .int .i8 AA] 52 (0, 0)) → Calls Tryz.prog 45 #[.slice A1 l1.length c1, .func (.func 55) #[] #[.pointer (some ⟨b, 0, none⟩)]] W fun e w' => e = .returned (.bool cb) ∧ Below W.heap.size W w' := fun W b q hx =>
        slices_ContainsFunc_Hold_at_TakeHold_1.calls k A1 c1 l1 b AC AA cb W (Kd.C_below AK q) AL hx hcb
      cases cb with
      | true =>
        rw [if_pos rfl] at h
        obtain ⟨rfl, rfl⟩ := Prod.mk.inj (Option.some.inj h)
        refine (Go.Proofs.YtlggjfhoecaelaaGreatDoor.H.takeHold_err AD AF AB.length AE A1 l1.length c1 AC AA w true true true (Or.inr (Or.inr rfl)) hvalid (fun _ => hhold) (fun _ _ => hcont)).mono ?_
        rintro e w' ⟨rfl, hB⟩
        exact ⟨_, rfl, Kd.R_nil _ _ _ _ _, hB⟩
      | false =>
        rw [if_neg (by decide)] at h
        by_cases c : impl_TakeHold.okT l1 AA
        · rw [if_pos c] at h
          obtain ⟨rfl, rfl⟩ := Prod.mk.inj (Option.some.inj h)
          obtain ⟨o1, o2, o3, o4, o5⟩ := c
          obtain ⟨x0, AI⟩ : ∃ x0 : S52, x0 = ⟨AC, AA⟩ := ⟨_, rfl⟩
          have AJ : x0.f1 = AA := by rw [AI]
          have AN : x0.f0 = AC := by rw [AI]
          obtain ⟨who, hwho⟩ : ∃ who, who = Go.Proofs.YtlggjfhoecaelaaGreatDoor.H.whoT (fun x : S52 => x.f0) (fun x => x.f1) (l1 ++ [x0]) := ⟨_, rfl⟩
          obtain ⟨kf, hkf⟩ : ∃ kf : S52 → Fin 128, ∀ x, (kf x).val = x.f1.toNat % 128 := ⟨fun x => ⟨x.f1.toNat % 128, Nat.mod_lt _ (by decide)⟩, fun _ => rfl⟩
          have hrng : ∀ x ∈ l1 ++ [x0], 0 ≤ x.f1 ∧ x.f1 < 128 := fun x hx => by
            rcases List.mem_append.1 hx with q | q
            · exact o2 x q
            · rw [List.mem_singleton.1 q, AJ]; exact o3
          have hval : ∀ x ∈ l1 ++ [x0], ((kf x).val : Int) = x.f1 := fun x hx => by
            have := hrng x hx
            rw [hkf]; omega
          have hdis : ((l1 ++ [x0]).map (fun x : S52 => x.f1)).Pairwise (fun a b => a ≠ b) := by
            rw [List.pairwise_map, List.pairwise_append]
            refine ⟨o4.imp (fun z => by omega), List.pairwise_singleton _ _, fun a ha b hb => ?_⟩
            rw [List.mem_singleton.1 hb, AJ]
            exact o5 a ha
          have hkw : ∀ x ∈ l1 ++ [x0], who (kf x).val = x.f0 ∧ ((kf x).val : Int) = x.f1 := fun x hx => ⟨by rw [hwho]; exact Go.Proofs.YtlggjfhoecaelaaGreatDoor.H.whoT_mem _ _ _ hdis x hx _ (hval x hx), hval x hx⟩
          have AM : x0 ∈ l1 ++ [x0] := by simp
          have hperm := Go.Proofs.YtlggjfhoecaelaaGreatDoor.H.insT_perm (fun x : S52 => x.f1) x0 l1
          have hsort := Go.Proofs.YtlggjfhoecaelaaGreatDoor.H.insT_sorted (fun x : S52 => x.f1) x0 l1 o4 (fun x hx => by rw [AJ]; exact o5 x hx)
          have hin : ∀ x ∈ Go.Proofs.YtlggjfhoecaelaaGreatDoor.H.insT (fun x : S52 => x.f1) x0 l1, x ∈ l1 ++ [x0] := fun x hx => hperm.mem_iff.1 hx
          have hcl := slices_Clone_Hold.calls
          have hclone : ∀ W, Below w.heap.size w W → Calls Tryz.prog 51 #[.slice A1 (l1.map kf).length c1] W fun e w' => ∃ v : Value, e = .returned v ∧ w'.ownsRow W.heap.size 52 2 v (l1.map kf).length (Go.Proofs.YtlggjfhoecaelaaGreatDoor.H.cellsT who (l1.map kf)) ∧ Below W.heap.size W w' := fun W q => by
            rw [List.length_map]
            have hcf : slices_Clone_Hold.f l1 = some l1 := by
              unfold slices_Clone_Hold.f
              rw [Option.bind_some, if_pos (by simp; omega), List.nil_append]
            refine (hcl A1 c1 l1 l1 W (Kd.C_below AK q) AL hcf).mono ?_
            rintro e w' ⟨v, rfl, ⟨_, cs, ho, hre⟩, hB⟩
            have hcs := Go.Proofs.YtlggjfhoecaelaaGreatDoor.H.cells_of_reps l1 (fun x => x.f0) (fun x => x.f1) (fun x c hq => k52_openM hq) hre who kf (fun x hx => hkw x (List.mem_append_left _ hx))
            subst hcs
            exact ⟨v, rfl, ho, hB⟩
          have hmain := Go.Proofs.YtlggjfhoecaelaaGreatDoor.H.takeHold_calls AD AF AB.length AE A1 c1 who (l1.map kf) ((Go.Proofs.YtlggjfhoecaelaaGreatDoor.H.insT (fun x : S52 => x.f1) x0 l1).map kf) (kf x0) AC AA ((hkw x0 AM).1.trans AN) ((hkw x0 AM).2.trans AJ) w (by rw [List.length_map]; exact o1) (by have := hperm.map kf; rw [List.map_append] at this; exact this) (by
            rw [List.pairwise_map]
            refine hsort.imp_of_mem (fun {a b} ha hb hab => ?_)
            have e1 := hval a (hin a ha)
            have e2 := hval b (hin b hb)
            have hab' : a.f1 < b.f1 := hab
            omega) (by rw [List.length_map]; exact hvalid) hhold (by rw [List.length_map]; exact hcont) hclone
          rw [List.length_map] at hmain
          refine hmain.mono ?_
          rintro e w' ⟨v, rfl, ho, hB⟩
          refine ⟨v, rfl, ⟨fun _ _ => trivial, _, ?_, Go.Proofs.YtlggjfhoecaelaaGreatDoor.H.reps_of_cells _ (fun x => x.f0) (fun x => x.f1) (fun x => k52_mkM _ _ _ x) who kf (fun x hx => hkw x (hin x (by rw [AI]; exact hx)))⟩, hB⟩
          have hlen : (Go.Proofs.YtlggjfhoecaelaaGreatDoor.H.insT (fun x : S52 => x.f1) ⟨AC, AA⟩ l1).length = l1.length + 1 := by
            have := hperm.length_eq
            rw [AI] at this
            rw [this, List.length_append]; rfl
          rw [hlen]
          rw [AI] at ho
          exact ho
        · rw [if_neg c] at h; exact absurd h (by simp)

end Go.Proofs.YtlggjfhoecaelaaGreatDoor.P
