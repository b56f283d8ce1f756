/- For every rope the program's RopeText returns the reference's text and leaves the rope as it was; no condition. -/
import Derived.Test.YtgpilljegihblaaDoorP9
import Derived.Laws.BitsLemmas
import Derived.Lib.ItoaLen
namespace Go.Proofs.YtgpilljegihblaaDoor.PureFnExactRopeText
open Go.RowKit Go.Proofs.YtgpilljegihblaaDoor.P Go.Proofs.YtgpilljegihblaaDoorW.PrintWords Go.Proofs.YtgpilljegihblaaDoorW.PrintLast
set_option linter.unusedSimpArgs false
set_option linter.unusedVariables false

theorem wrap64_id (x : Int) (h0 : -9223372036854775808 ≤ x) (h1 : x ≤ 9223372036854775807) : wrap64 x = x := by unfold wrap64; omega
theorem wrap_nat (n : Nat) (h : n < 4611686018427387904) : wrap64 ((n : Int) + 1) = ((n + 1 : Nat) : Int) := by
  rw [wrap64_id _ (by omega) (by omega)]; omega
theorem rd_nat (l : List Int) (i : Nat) : rd l (i : Int) = l.getD i 0 := by simp [rd]
theorem drop_rd (l : List Int) (i : Nat) (h : i < l.length) : l.drop i = rd l (i : Int) :: l.drop (i + 1) := by
  rw [List.drop_eq_getElem_cons h, rd_nat, List.getD_eq_getElem?_getD, List.getElem?_eq_getElem h]; rfl
theorem drop_getD {α : Type} (z : α) (l : List α) (i : Nat) (h : i < l.length) : l.drop i = l.getD i z :: l.drop (i + 1) := by
  rw [List.drop_eq_getElem_cons h, List.getD_eq_getElem?_getD, List.getElem?_eq_getElem h]; rfl
theorem take_getD {α : Type} (z : α) (l : List α) (i : Nat) (h : i < l.length) : l.take (i + 1) = l.take i ++ [l.getD i z] := by
  rw [List.take_succ_eq_append_getElem h, List.getD_eq_getElem?_getD, List.getElem?_eq_getElem h]; rfl
theorem set_rep {α : Type} (a : List α) (i d : Nat) (z v : α) (h : a.length = i) : (a ++ List.replicate (d + 1) z).set i v = (a ++ [v]) ++ List.replicate d z := by
  subst h
  rw [List.set_append_right _ _ (Nat.le_refl _), Nat.sub_self, List.replicate_succ, List.set_cons_zero]
  simp
theorem rounds_of (B : Nat) {α : Type} {F : Nat → Option α} {v : α} (h : ∀ k, B ≤ k → F k = some v) : ∃ k, F k = some v := ⟨B, h B (Nat.le_refl _)⟩

def dB (n : Int) : ByteArray := ⟨(Go.Lib.itoa n).toArray⟩
theorem dB_size (n : Int) (h : 0 ≤ n ∧ n ≤ 100000) : (dB n).size ≤ 21 := by
  have := Go.Lib.itoa_length_le n (by omega) (by omega)
  simpa [dB, ByteArray.size] using this
theorem implDec_eq (n : Int) (h : 0 ≤ n ∧ n ≤ 100000) : impl_decimal.f n = some (dB n) := by
  unfold impl_decimal.f dB
  rw [if_pos (by omega)]
theorem dB_small (u : Nat) (h : u < 10) : dB (u : Int) = strOfNums [48 + (u : Int)] := by
  unfold dB
  rw [Go.Lib.itoa_nonneg, Go.Lib.decDigits_one h]
  have : UInt8.ofNat (48 + u) = UInt8.ofNat (48 + (u : Int)).toNat := by congr 1
  rw [this]
  rfl
theorem dB_big (u : Nat) (h : ¬ u < 10) : dB ((u / 10 : Nat) : Int) ++ strOfNums [48 + ((u % 10 : Nat) : Int)] = dB (u : Int) := by
  unfold dB
  rw [Go.Lib.itoa_nonneg, Go.Lib.itoa_nonneg]
  conv => rhs; rw [Go.Lib.decDigits, dif_neg h]
  have : UInt8.ofNat (48 + u % 10) = UInt8.ofNat (48 + ((u % 10 : Nat) : Int)).toNat := by congr 1
  rw [this]
  apply ByteArray.ext
  rw [ByteArray.data_append]
  show _ ++ #[UInt8.ofNat (48 + ((u % 10 : Nat) : Int)).toNat] = _
  simp
theorem specDec_go : ∀ (k u : Nat), u < 10 ^ (k + 1) → u ≤ 100000 → spec_Decimal.f (k + 1) (u : Int) = some (dB (u : Int)) := by
  intro k
  induction k with
  | zero =>
    intro u h _
    have h : u < 10 := by simpa using h
    simp only [spec_Decimal.f]
    rw [if_pos (by omega), Int.tmod_eq_emod_of_nonneg (by omega), wrap64_id _ (by omega) (by omega), dB_small u h]
    congr 3
    omega
  | succ k ih =>
    intro u h hu
    by_cases c : u < 10
    · unfold spec_Decimal.f
      rw [if_pos (by omega), Int.tmod_eq_emod_of_nonneg (by omega), wrap64_id _ (by omega) (by omega), dB_small u c]
      congr 3
      omega
    · have hd : u / 10 < 10 ^ (k + 1) := by rw [Nat.pow_succ] at h; omega
      have hs := dB_size ((u / 10 : Nat) : Int) (by omega)
      unfold spec_Decimal.f
      rw [if_neg (by omega), Int.tdiv_eq_ediv_of_nonneg (by omega), wrap64_id _ (by omega) (by omega), show (u : Int) / 10 = ((u / 10 : Nat) : Int) by omega, ih (u / 10) hd (by omega), Option.bind_some, Option.bind_some, Int.tmod_eq_emod_of_nonneg (by omega), wrap64_id _ (by omega) (by omega), show (48 + (u : Int) % 10) % 256 = 48 + ((u % 10 : Nat) : Int) by omega]
      rw [if_pos (by have : (strOfNums [48 + ((u % 10 : Nat) : Int)]).size = 1 := rfl; omega), dB_big u c]
theorem specDec_eq (n : Int) (h : 0 ≤ n ∧ n ≤ 100000) (k : Nat) (hk : 10 ≤ k) : spec_Decimal.f k n = some (dB n) := by
  obtain ⟨u, rfl⟩ := Int.eq_ofNat_of_zero_le h.1
  obtain ⟨k, rfl⟩ : ∃ m, k = m + 1 := ⟨k - 1, by omega⟩
  refine specDec_go k u ?_ (by omega)
  calc u < 10 ^ 6 := by omega
    _ ≤ 10 ^ (k + 1) := Nat.pow_le_pow_right (by decide) (by omega)
def joinB (sep : ByteArray) (xs : List ByteArray) : ByteArray := ⟨(Go.Lib.join (xs.map (·.data.toList)) sep.data.toList).toArray⟩
theorem joinB_nil (sep : ByteArray) : joinB sep [] = ⟨#[]⟩ := rfl
theorem joinB_fold (sep : ByteArray) : ∀ (r : List ByteArray) (a : ByteArray), r.foldl (fun a y => (a ++ sep) ++ y) a = ⟨(a.data.toList ++ Go.Lib.joinTail sep.data.toList (r.map (·.data.toList))).toArray⟩ := by
  intro r
  induction r with
  | nil => intro a; simp [Go.Lib.joinTail]
  | cons y r ih =>
    intro a
    rw [List.foldl_cons, ih]
    simp [Go.Lib.joinTail, ByteArray.data_append]
theorem joinB_cons (sep x : ByteArray) (r : List ByteArray) : joinB sep (x :: r) = r.foldl (fun a y => (a ++ sep) ++ y) x := by
  rw [joinB_fold]
  unfold joinB
  rw [List.map_cons, Go.Lib.join_cons]
theorem fold_size (sep : ByteArray) (hsep : sep.size = 1) : ∀ (r : List ByteArray) (a : ByteArray), (∀ x ∈ r, x.size ≤ 21) → (r.foldl (fun a y => (a ++ sep) ++ y) a).size ≤ a.size + 22 * r.length := by
  intro r
  induction r with
  | nil => intro a _; simp
  | cons y r ih =>
    intro a h
    rw [List.foldl_cons, List.length_cons]
    have h1 := ih ((a ++ sep) ++ y) (fun x hx => h x (List.mem_cons_of_mem _ hx))
    have h2 := h y (by simp)
    rw [ByteArray.size_append, ByteArray.size_append] at h1
    omega
theorem joinB_size (sep : ByteArray) (hsep : sep.size = 1) (xs : List ByteArray) (h : ∀ x ∈ xs, x.size ≤ 21) : (joinB sep xs).size ≤ 22 * xs.length := by
  cases xs with
  | nil => rw [joinB_nil]; simp [ByteArray.size]
  | cons x r =>
    rw [joinB_cons, List.length_cons]
    have h1 := fold_size sep hsep r x (fun y hy => h y (List.mem_cons_of_mem _ hy))
    have h2 := h x (by simp)
    omega
theorem implJoin_eq (xs : List ByteArray) (sep : ByteArray) (hl : xs.length ≤ 100000) (hs : (joinB sep xs).size ≤ 100000000) : strings_Join.f xs sep = some (joinB sep xs) := by
  unfold strings_Join.f
  have h1 : (Go.Lib.join (xs.map (·.data.toList)) sep.data.toList).length ≤ 100000000 := by simpa [joinB, ByteArray.size] using hs
  rw [if_pos ⟨by omega, by omega⟩]
  rfl

theorem wf_i16 {a : Int} (h : (Lit.int .i16 a).wf = true) : -32768 ≤ a ∧ a ≤ 32767 := by
  simp [Lit.wf, IntKind.min, IntKind.max, IntKind.bits, IntKind.signed] at h
  omega
theorem in_eq (a b c : Int) : spec_l00In.f a b c = some (decide (b ≤ a ∧ a ≤ c)) := by
  unfold spec_l00In.f
  by_cases h : b ≤ a
  · rw [if_pos (by omega)]; simp [h]
  · rw [if_neg (by omega)]; simp [h]
theorem within_eq (a b c : Int) : impl_within.f a b c = some (decide (b ≤ a ∧ a ≤ c)) := by
  unfold impl_within.f
  by_cases h : b ≤ a
  · rw [if_pos (by omega)]; simp [h]
  · rw [if_neg (by omega)]; simp [h]
def upFrom (l : List Int) : Nat → Nat → Bool
  | 0, _ => true
  | d + 1, i => !decide (rd l (i : Int) ≤ rd l ((i : Int) - 1)) && upFrom l d (i + 1)
def ropeOk (p : Int) (l : List Int) : Bool :=
  decide (1 ≤ p ∧ p ≤ 400) && (decide (2 ≤ l.length ∧ l.length ≤ 40) && (decide (rd l 0 = 0) && (decide (rd l ((l.length : Int) - 1) = p) && upFrom l (l.length - 1) 1)))
theorem specRope_l0 (l : List Int) (p : Int) (hl : l.length ≤ 1048576) : ∀ (d i k : Nat), 1 ≤ i → i + d = l.length → d < k → spec_l03Ok.l0 k (l.length : Int) (i : Int) p l = some (upFrom l d i) := by
  intro d
  induction d with
  | zero =>
    intro i k h1 hi hk
    obtain ⟨k, rfl⟩ : ∃ m, k = m + 1 := ⟨k - 1, by omega⟩
    simp only [spec_l03Ok.l0]
    rw [if_neg (by omega)]
    rfl
  | succ d ih =>
    intro i k h1 hi hk
    obtain ⟨k, rfl⟩ : ∃ m, k = m + 1 := ⟨k - 1, by omega⟩
    simp only [spec_l03Ok.l0]
    rw [wrap64_id ((i : Int) - 1) (by omega) (by omega), if_pos (by omega), if_pos (by omega), if_pos (by omega), if_pos (by omega), if_pos (by omega), wrap_nat i (by omega)]
    unfold upFrom
    by_cases e : rd l (i : Int) ≤ rd l ((i : Int) - 1)
    · rw [if_pos e, decide_eq_true e]; rfl
    · rw [if_neg e, decide_eq_false e, ih (i + 1) k (by omega) (by omega) (by omega)]; rfl
theorem specRope_eq (p : Int) (hp : -32768 ≤ p ∧ p ≤ 32767) (l : List Int) (hl : l.length ≤ 1048576) (k : Nat) (hk : 1048590 < k) : spec_l03Ok.f k p l = some (ropeOk p l) := by
  obtain ⟨k, rfl⟩ : ∃ m, k = m + 1 := ⟨k - 1, by omega⟩
  unfold spec_l03Ok.f ropeOk
  rw [wrap64_id p (by omega) (by omega), in_eq, Option.bind_some]
  simp only [spec_l03Ok.j0, if_true]
  by_cases c1 : 1 ≤ p ∧ p ≤ 400
  · rw [decide_eq_true c1, if_pos rfl]
    by_cases c2 : 2 ≤ l.length ∧ l.length ≤ 40
    · rw [decide_eq_true c2, if_neg (by omega), if_neg (by omega), if_pos (by omega), wrap64_id ((l.length : Int) - 1) (by omega) (by omega)]
      by_cases c3 : rd l 0 = 0
      · rw [if_pos c3, decide_eq_true c3, if_pos (by omega), if_pos (by omega)]
        by_cases c4 : rd l ((l.length : Int) - 1) = p
        · have := specRope_l0 l p hl (l.length - 1) 1 k (by omega) (by omega) (by omega)
          rw [show ((1 : Nat) : Int) = 1 from rfl] at this
          rw [decide_eq_true c4, if_neg (by simp [c4]), this]; rfl
        · rw [decide_eq_false c4, if_pos (by simp [c4])]; rfl
      · rw [if_neg c3, decide_eq_false c3]; rfl
    · rw [decide_eq_false c2]
      by_cases c5 : (l.length : Int) < 2
      · rw [if_pos c5]; rfl
      · rw [if_neg c5, if_pos (by omega)]; rfl
  · rw [decide_eq_false c1, if_neg (by decide)]; rfl
theorem implRope_l0 (l : List Int) (p : Int) (h2 : 2 ≤ l.length) (hl : l.length ≤ 1048576) : ∀ (d i k : Nat), 1 ≤ i → i + d = l.length → d < k → impl_ValidRope.l0 k (i : Int) p l = some (upFrom l d i && (decide (rd l 0 = 0) && decide (rd l ((l.length : Int) - 1) = p))) := by
  intro d
  induction d with
  | zero =>
    intro i k h1 hi hk
    obtain ⟨k, rfl⟩ : ∃ m, k = m + 1 := ⟨k - 1, by omega⟩
    simp only [impl_ValidRope.l0]
    rw [if_neg (by omega), if_pos (by omega), wrap64_id ((l.length : Int) - 1) (by omega) (by omega)]
    unfold upFrom
    by_cases c3 : rd l 0 = 0
    · rw [if_pos c3, decide_eq_true c3, if_pos (by omega), if_pos (by omega)]; rfl
    · rw [if_neg c3, decide_eq_false c3]; rfl
  | succ d ih =>
    intro i k h1 hi hk
    obtain ⟨k, rfl⟩ : ∃ m, k = m + 1 := ⟨k - 1, by omega⟩
    simp only [impl_ValidRope.l0]
    rw [wrap64_id ((i : Int) - 1) (by omega) (by omega), if_pos (by omega), if_pos (by omega), if_pos (by omega), if_pos (by omega), wrap_nat i (by omega)]
    conv => rhs; unfold upFrom
    by_cases e : rd l (i : Int) ≤ rd l ((i : Int) - 1)
    · rw [if_pos e, decide_eq_true e]; rfl
    · rw [if_neg e, decide_eq_false e, ih (i + 1) k (by omega) (by omega) (by omega)]; rfl
theorem implRope_eq (p : Int) (hp : -32768 ≤ p ∧ p ≤ 32767) (l : List Int) (hl : l.length ≤ 1048576) (k : Nat) (hk : 1048590 < k) : impl_ValidRope.f k p l = some (ropeOk p l) := by
  obtain ⟨k, rfl⟩ : ∃ m, k = m + 1 := ⟨k - 1, by omega⟩
  unfold impl_ValidRope.f ropeOk impl_size_int16.f
  rw [wrap64_id p (by omega) (by omega), within_eq, Option.bind_some, Option.bind_some, within_eq, Option.bind_some]
  simp only [impl_ValidRope.j0, if_true]
  by_cases c1 : 1 ≤ p ∧ p ≤ 400
  · rw [decide_eq_true c1, if_pos rfl]
    by_cases c2 : 2 ≤ l.length ∧ l.length ≤ 40
    · have := implRope_l0 l p c2.1 hl (l.length - 1) 1 k (by omega) (by omega) (by omega)
      rw [show ((1 : Nat) : Int) = 1 from rfl] at this
      rw [decide_eq_true (show 2 ≤ (l.length : Int) ∧ (l.length : Int) ≤ 40 by omega), decide_eq_true c2, if_neg (by decide), this]
      generalize upFrom l (l.length - 1) 1 = u
      generalize decide (rd l 0 = 0) = v
      generalize decide (rd l ((l.length : Int) - 1) = p) = x
      cases u <;> cases v <;> cases x <;> rfl
    · rw [decide_eq_false (show ¬ (2 ≤ (l.length : Int) ∧ (l.length : Int) ≤ 40) by omega), decide_eq_false c2, if_pos (by decide)]; rfl
  · rw [decide_eq_false c1, if_neg (by decide)]; rfl
theorem toInt16S_l0 (l : List Int) (hl : l.length ≤ 1048576) : ∀ (d i k : Nat), i + d = l.length → d < k → laws_toInt16S.l0 k l ((l.map id).take i ++ List.replicate d 0) (i : Int) = some (l.map id) := by
  intro d
  induction d with
  | zero =>
    intro i k hi hk
    obtain ⟨k, rfl⟩ : ∃ m, k = m + 1 := ⟨k - 1, by omega⟩
    simp only [laws_toInt16S.l0]
    rw [if_neg (by omega), List.take_of_length_le (by simp; omega)]
    simp
  | succ d ih =>
    intro i k hi hk
    obtain ⟨k, rfl⟩ : ∃ m, k = m + 1 := ⟨k - 1, by omega⟩
    have hlen : (((l.map id).take i ++ List.replicate (d + 1) 0).length : Int) = l.length := by simp; omega
    have hg : (l.map id).getD i 0 = id (rd l (i : Int)) := by
      simp [rd, List.getD_eq_getElem?_getD, List.getElem?_map, List.getElem?_eq_getElem (show i < l.length by omega)]
    have hstep := set_rep ((l.map id).take i) i d 0 (id (rd l (i : Int))) (by simp; omega)
    rw [← hg, ← take_getD 0 (l.map id) i (by simp; omega), hg] at hstep
    simp only [laws_toInt16S.l0]
    rw [if_pos (by omega), if_pos (by omega), if_pos (by rw [hlen]; omega), wrap_nat i (by omega), Int.toNat_natCast]
    exact (congrArg (fun o => laws_toInt16S.l0 k l o ((i + 1 : Nat) : Int)) hstep).trans (ih (i + 1) k (by omega) (by omega))
theorem toInt16S_eq (l : List Int) (hl : l.length ≤ 1048576) (k : Nat) (hk : l.length < k) : laws_toInt16S.f k l = some l := by
  unfold laws_toInt16S.f
  rw [if_pos (by omega), if_pos (by omega)]
  have := toInt16S_l0 l hl l.length 0 k (by omega) hk
  simpa using this

theorem eqInt16S_l0 (a b : List Int) (hab : a.length = b.length) (hl : a.length ≤ 1048576) : ∀ (d i k : Nat), i + d = a.length → d < k → laws_eqInt16S.l0 k a b (i : Int) = some (decide (a.drop i = b.drop i)) := by
  intro d
  induction d with
  | zero =>
    intro i k hi hk
    obtain ⟨k, rfl⟩ : ∃ m, k = m + 1 := ⟨k - 1, by omega⟩
    simp only [laws_eqInt16S.l0]
    rw [if_neg (by omega), List.drop_eq_nil_of_le (by omega), List.drop_eq_nil_of_le (by omega)]
    simp
  | succ d ih =>
    intro i k hi hk
    obtain ⟨k, rfl⟩ : ∃ m, k = m + 1 := ⟨k - 1, by omega⟩
    have ha : a.drop i = rd a (i : Int) :: a.drop (i + 1) := by
      rw [drop_getD 0 a i (by omega)]; simp [rd]
    have hb : b.drop i = rd b (i : Int) :: b.drop (i + 1) := by
      rw [drop_getD 0 b i (by omega)]; simp [rd]
    simp only [laws_eqInt16S.l0]
    rw [if_pos (by omega), if_pos (by omega), if_pos (by omega), ha, hb]
    by_cases e : rd a (i : Int) = rd b (i : Int)
    · rw [if_pos e, wrap_nat i (by omega), ih (i + 1) k (by omega) (by omega)]
      simp [e]
    · rw [if_neg e]
      simp [e]
theorem eqInt16S_eq (a b : List Int) (hl : a.length ≤ 1048576) (k : Nat) (hk : a.length < k) : laws_eqInt16S.f k a b = some (decide (a = b)) := by
  unfold laws_eqInt16S.f
  by_cases h : a.length = b.length
  · rw [if_pos (by omega)]
    have := eqInt16S_l0 a b h hl a.length 0 k (by omega) hk
    simpa using this
  · rw [if_neg (by omega)]
    have : a ≠ b := fun e => h (by rw [e])
    simp [this]

theorem szInt16S_eq (l : List Int) (a : Int) (h0 : 0 ≤ a) (h1 : a ≤ 1048576) (hl : l.length ≤ 9223372036854775807) : laws_szInt16S.f l a = some (if a < l.length then -1 else a - l.length) := by
  unfold laws_szInt16S.f
  rw [wrap64_id _ (by omega) (by omega)]
  by_cases h : a < (l.length : Int)
  · rw [if_pos (by omega), if_pos h]
  · rw [if_neg (by omega), if_neg h]

theorem toRope_eq (p : Int) (l : List Int) (hl : l.length ≤ 1048576) (k : Nat) (hk : 1048576 < k) : laws_toRope.f k p l = some (p, l) := by
  unfold laws_toRope.f
  rw [toInt16S_eq l hl k (by omega), Option.bind_some]
theorem eqRope_eq (p : Int) (l : List Int) (q : Int) (m : List Int) (hl : l.length ≤ 1048576) (k : Nat) (hk : 1048576 < k) : laws_eqRope.f k p l q m = some (decide (p = q ∧ l = m)) := by
  unfold laws_eqRope.f
  rw [eqInt16S_eq l m hl k (by omega)]
  by_cases h1 : p = q <;> by_cases h2 : l = m <;> simp [h1, h2]
theorem szRope_eq (p : Int) (l : List Int) (a : Int) (h0 : 0 ≤ a) (h1 : a ≤ 1048576) (hl : l.length ≤ 9223372036854775807) : laws_szRope.f p l a = some (if a < (l.length : Int) then -1 else a - l.length) := by
  unfold laws_szRope.f
  rw [szInt16S_eq l a h0 h1 hl, Option.bind_some]
  by_cases h : a < (l.length : Int)
  · rw [if_pos h, if_pos (by decide)]
  · rw [if_neg h, if_neg (by omega)]
theorem upFrom_at (l : List Int) : ∀ (d i : Nat), upFrom l d i = true → ∀ j : Nat, i ≤ j → j < i + d → rd l ((j : Int) - 1) < rd l (j : Int) := by
  intro d
  induction d with
  | zero => intro i _ j h1 h2; omega
  | succ d ih =>
    intro i h j h1 h2
    unfold upFrom at h
    rw [Bool.and_eq_true, Bool.not_eq_true', decide_eq_false_iff_not] at h
    by_cases e : j = i
    · subst e; omega
    · exact ih (i + 1) h.2 j (by omega) (by omega)
theorem rope_rng (p : Int) (l : List Int) (h : ropeOk p l = true) : (2 ≤ l.length ∧ l.length ≤ 40) ∧ ∀ i : Nat, i < l.length → 0 ≤ rd l (i : Int) ∧ rd l (i : Int) ≤ 400 := by
  unfold ropeOk at h
  simp only [Bool.and_eq_true, decide_eq_true_eq] at h
  obtain ⟨hp, hl, h0, h1, hu⟩ := h
  have hs := upFrom_at l _ 1 hu
  refine ⟨hl, fun i hi => ?_⟩
  have lo : ∀ i : Nat, i < l.length → 0 ≤ rd l (i : Int) := by
    intro i
    induction i with
    | zero => intro _; rw [show ((0 : Nat) : Int) = 0 from rfl, h0]; exact Int.le_refl _
    | succ i ih =>
      intro hi
      have a := hs (i + 1) (by omega) (by omega)
      rw [show ((i + 1 : Nat) : Int) - 1 = (i : Int) by omega] at a
      have := ih (by omega)
      omega
  have hi2 : ∀ d i : Nat, i + d + 1 = l.length → rd l (i : Int) ≤ 400 := by
    intro d
    induction d with
    | zero => intro i hi; rw [show (i : Int) = (l.length : Int) - 1 by omega, h1]; exact hp.2
    | succ d ih =>
      intro i hi
      have a := hs (i + 1) (by omega) (by omega)
      rw [show ((i + 1 : Nat) : Int) - 1 = (i : Int) by omega] at a
      have := ih (i + 1) (by omega)
      omega
  exact ⟨lo i hi, hi2 (l.length - 1 - i) i (by omega)⟩
def dash : ByteArray := ⟨#[45]⟩
theorem specText_l0 (p : Int) (l : List Int) (hl : l.length ≤ 40) (hr : ∀ i : Nat, i < l.length → 0 ≤ rd l (i : Int) ∧ rd l (i : Int) ≤ 400) : ∀ (d i k : Nat) (a : ByteArray), 1 ≤ i → i + d = l.length → d + 20 < k → a.size + 22 * d ≤ 100000 → spec_l03Text.l0 k a (i : Int) p l = some (((l.drop i).map dB).foldl (fun a y => (a ++ dash) ++ y) a) := by
  intro d
  induction d with
  | zero =>
    intro i k a h1 hi hk hs
    obtain ⟨k, rfl⟩ : ∃ m, k = m + 1 := ⟨k - 1, by omega⟩
    simp only [spec_l03Text.l0]
    rw [if_neg (by omega), List.drop_eq_nil_of_le (by omega)]
    rfl
  | succ d ih =>
    intro i k a h1 hi hk hs
    obtain ⟨k, rfl⟩ : ∃ m, k = m + 1 := ⟨k - 1, by omega⟩
    have hx := hr i (by omega)
    have hz := dB_size (rd l (i : Int)) (by omega)
    simp only [spec_l03Text.l0]
    rw [if_pos (by omega), if_pos (by omega), if_pos (by omega), if_pos (by omega), wrap64_id _ (by omega) (by omega), specDec_eq _ (by omega) k (by omega), Option.bind_some, if_pos (by omega), wrap_nat i (by omega), drop_rd l i (by omega)]
    exact ih (i + 1) k _ (by omega) (by omega) (by omega) (by rw [ByteArray.size_append, ByteArray.size_append, show (⟨#[45]⟩ : ByteArray).size = 1 from rfl]; omega)
theorem empty_app (b : ByteArray) : (⟨#[]⟩ : ByteArray) ++ b = b := by
  apply ByteArray.ext; rw [ByteArray.data_append]; simp
theorem specText_eq (p : Int) (l : List Int) (h : ropeOk p l = true) (k : Nat) (hk : 100 < k) : spec_l03Text.f k p l = some (joinB dash (l.map dB)) := by
  obtain ⟨hl, hr⟩ := rope_rng p l h
  obtain ⟨k, rfl⟩ : ∃ m, k = m + 1 := ⟨k - 1, by omega⟩
  have hx := hr 0 (by omega)
  rw [show ((0 : Nat) : Int) = 0 from rfl] at hx
  have hz := dB_size (rd l 0) (by omega)
  unfold spec_l03Text.f
  simp only [spec_l03Text.l0]
  rw [if_pos (by omega), if_neg (by decide), if_pos (by decide), wrap64_id (rd l 0) (by omega) (by omega), specDec_eq _ (by omega) k (by omega), Option.bind_some, if_pos (by rw [show (⟨#[]⟩ : ByteArray).size = 0 from rfl]; omega), empty_app, show wrap64 (0 + 1) = ((1 : Nat) : Int) by rw [wrap64_id _ (by decide) (by decide)]; rfl]
  rw [specText_l0 p l hl.2 hr (l.length - 1) 1 k _ (by omega) (by omega) (by omega) (by omega)]
  have hd := drop_rd l 0 (by omega)
  rw [List.drop_zero, show ((0 : Nat) : Int) = 0 from rfl] at hd
  conv => rhs; rw [hd]
  rw [List.map_cons, joinB_cons]
theorem implText_l0 (l : List Int) (hl : l.length ≤ 40) (hr : ∀ i : Nat, i < l.length → 0 ≤ rd l (i : Int) ∧ rd l (i : Int) ≤ 400) : ∀ (d i k : Nat), i + d = l.length → d < k → impl_RopeText.l0 k ((l.take i).map dB) l (l.length : Int) (i : Int) = some (joinB dash (l.map dB)) := by
  intro d
  induction d with
  | zero =>
    intro i k hi hk
    obtain ⟨k, rfl⟩ : ∃ m, k = m + 1 := ⟨k - 1, by omega⟩
    simp only [impl_RopeText.l0]
    have hm : ∀ x ∈ l.map dB, x.size ≤ 21 := fun x hx => by
      obtain ⟨n, hn, rfl⟩ := List.mem_map.1 hx
      obtain ⟨j, hj, rfl⟩ := List.getElem_of_mem hn
      have := hr j hj
      rw [rd_nat, List.getD_eq_getElem?_getD, List.getElem?_eq_getElem hj, Option.getD_some] at this
      exact dB_size _ (by omega)
    have hs := joinB_size dash rfl (l.map dB) hm
    rw [List.length_map] at hs
    rw [if_neg (by omega), List.take_of_length_le (by omega), implJoin_eq (l.map dB) ⟨#[45]⟩ (by rw [List.length_map]; omega) (by show (joinB dash (l.map dB)).size ≤ _; omega), Option.bind_some]
    rfl
  | succ d ih =>
    intro i k hi hk
    obtain ⟨k, rfl⟩ : ∃ m, k = m + 1 := ⟨k - 1, by omega⟩
    have hx := hr i (by omega)
    simp only [impl_RopeText.l0]
    rw [if_pos (by omega), if_pos (by omega), if_pos (by omega), wrap64_id _ (by omega) (by omega), implDec_eq _ (by omega), Option.bind_some, if_pos (by rw [List.length_map, List.length_take]; omega), wrap_nat i (by omega)]
    have ht : (l.take i).map dB ++ [dB (rd l (i : Int))] = (l.take (i + 1)).map dB := by
      rw [take_getD 0 l i (by omega), List.map_append, rd_nat]; rfl
    rw [ht]
    exact ih (i + 1) k (by omega) (by omega)
theorem main : laws_FnExactRopeText.Pure := by
  intro p l hp hl
  refine rounds_of 2000000 fun k hk => ?_
  have hp' := wf_i16 hp
  unfold laws_FnExactRopeText.f
  rw [szRope_eq p l 1048576 (by decide) (by decide) hl.1, Option.bind_some]
  by_cases h : (1048576 : Int) < (l.length : Int)
  · rw [if_pos h, if_pos (by decide)]
  · rw [if_neg h, if_neg (by omega), toRope_eq p l (by omega) k (by omega)]
    simp only [Option.bind_some]
    have key : spec_RopeText.f k p l = impl_RopeText.f k p l ∧ ∃ t, impl_RopeText.f k p l = some t := by
      unfold spec_RopeText.f impl_RopeText.f
      rw [specRope_eq p hp' l (by omega) k (by omega), implRope_eq p hp' l (by omega) k (by omega), Option.bind_some, Option.bind_some]
      by_cases c : ropeOk p l = true
      · obtain ⟨h2, hr⟩ := rope_rng p l c
        have hi := implText_l0 l h2.2 hr l.length 0 k (by omega) (by omega)
        rw [List.take_zero, List.map_nil, show ((0 : Nat) : Int) = 0 from rfl] at hi
        rw [if_pos c, if_pos c, specText_eq p l c k (by omega), Option.bind_some, hi]
        exact ⟨rfl, _, rfl⟩
      · rw [if_neg c, if_neg c]
        exact ⟨rfl, _, rfl⟩
    obtain ⟨k1, t, k2⟩ := key
    rw [k1, k2]
    simp only [Option.bind_some, if_true]
    rw [eqRope_eq p l p l (by omega) k (by omega)]
    simp

end Go.Proofs.YtgpilljegihblaaDoor.PureFnExactRopeText
namespace Go.Proofs.YtgpilljegihblaaDoor.Pure
theorem FnExactRopeText : Go.Proofs.YtgpilljegihblaaDoor.P.laws_FnExactRopeText.Pure := Go.Proofs.YtgpilljegihblaaDoor.PureFnExactRopeText.main
end Go.Proofs.YtgpilljegihblaaDoor.Pure
