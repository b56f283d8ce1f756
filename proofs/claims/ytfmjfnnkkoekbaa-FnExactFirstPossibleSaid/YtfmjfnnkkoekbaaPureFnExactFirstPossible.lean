/- For every number, list of counts and set the program's FirstPossible returns the reference's list and code, in memory of its own, and leaves the counts as they were; no condition. -/
import Derived.Test.YtfmjfnnkkoekbaaP42
import Derived.Laws.BitsLemmas
namespace Go.Proofs.Ytfmjfnnkkoekbaa.PureFnExactFirstPossible
open Go.RowKit Go.Proofs.Ytfmjfnnkkoekbaa.P Go.Proofs.YtfmjfnnkkoekbaaW.PrintWords Go.Proofs.YtfmjfnnkkoekbaaW.PrintLast
set_option linter.unusedSimpArgs false
set_option linter.unusedVariables false

theorem wrap64_id (x : Int) (h0 : -9223372036854775808 ≤ x) (h1 : x ≤ 9223372036854775807) : wrap64 x = x := by unfold wrap64; omega
theorem wrap_nat (n : Nat) (h : n < 4611686018427387904) : wrap64 ((n : Int) + 1) = ((n + 1 : Nat) : Int) := by
  rw [wrap64_id _ (by omega) (by omega)]; omega
theorem rd_nat (l : List Int) (i : Nat) : rd l (i : Int) = l.getD i 0 := by simp [rd]
theorem drop_rd (l : List Int) (i : Nat) (h : i < l.length) : l.drop i = rd l (i : Int) :: l.drop (i + 1) := by
  rw [List.drop_eq_getElem_cons h, rd_nat, List.getD_eq_getElem?_getD, List.getElem?_eq_getElem h]; rfl
theorem drop_getD {α : Type} (z : α) (l : List α) (i : Nat) (h : i < l.length) : l.drop i = l.getD i z :: l.drop (i + 1) := by
  rw [List.drop_eq_getElem_cons h, List.getD_eq_getElem?_getD, List.getElem?_eq_getElem h]; rfl
theorem take_getD {α : Type} (z : α) (l : List α) (i : Nat) (h : i < l.length) : l.take (i + 1) = l.take i ++ [l.getD i z] := by
  rw [List.take_succ_eq_append_getElem h, List.getD_eq_getElem?_getD, List.getElem?_eq_getElem h]; rfl
theorem set_rep {α : Type} (a : List α) (i d : Nat) (z v : α) (h : a.length = i) : (a ++ List.replicate (d + 1) z).set i v = (a ++ [v]) ++ List.replicate d z := by
  subst h
  rw [List.set_append_right _ _ (Nat.le_refl _), Nat.sub_self, List.replicate_succ, List.set_cons_zero]
  simp
theorem set_drop {α : Type} (a g : List α) (i : Nat) (v : α) (h : a.length = i) (hg : i < g.length) : (a ++ g.drop i).set i v = (a ++ [v]) ++ g.drop (i + 1) := by
  subst h
  rw [List.set_append_right _ _ (Nat.le_refl _), Nat.sub_self, List.drop_eq_getElem_cons hg, List.set_cons_zero]
  simp
theorem getD_range_map {α : Type} (z : α) (f : Nat → α) (n i : Nat) (h : i < n) : ((List.range n).map f).getD i z = f i := by
  rw [List.getD_eq_getElem?_getD, List.getElem?_map, List.getElem?_range h]; rfl
theorem rounds_of (B : Nat) {α : Type} {F : Nat → Option α} {v : α} (h : ∀ k, B ≤ k → F k = some v) : ∃ k, F k = some v := ⟨B, h B (Nat.le_refl _)⟩

theorem wrap_u16 (n : Int) : IntKind.u16.wrap n = n % 65536 := by simp [IntKind.wrap, IntKind.bits, IntKind.signed]
theorem wrap_u64 (n : Int) : IntKind.u64.wrap n = n % 18446744073709551616 := by simp [IntKind.wrap, IntKind.bits, IntKind.signed]
theorem wraps_u16 (n : Int) (h₀ : 0 ≤ n) (h₁ : n < 2 ^ 16) : IntKind.u16.wrap n = n := by rw [wrap_u16]; omega
theorem wrap_u64_id (n : Int) (h0 : 0 ≤ n) (h1 : n < 18446744073709551616) : IntKind.u64.wrap n = n := by rw [wrap_u64]; omega
theorem and_one (x : Int) (h₀ : 0 ≤ x) (h₁ : x < 65536) : Go.bits .and .u16 x 1 = x % 2 := by
  have := Go.bits_mask .u16 16 (by decide) wraps_u16 1 (by decide) x h₀ (by omega)
  simpa using this
theorem wf_u16 {a : Int} (h : (Lit.int .u16 a).wf = true) : 0 ≤ a ∧ a < 65536 := by
  simp [Lit.wf, IntKind.min, IntKind.max, IntKind.bits, IntKind.signed] at h
  omega
theorem wf_i64 {a : Int} (h : (Lit.int .i64 a).wf = true) : -9223372036854775808 ≤ a ∧ a ≤ 9223372036854775807 := by
  simp [Lit.wf, IntKind.min, IntKind.max, IntKind.bits, IntKind.signed] at h
  omega
theorem shr_range (a n : Int) (h0 : 0 ≤ a) (h1 : a < 65536) : 0 ≤ shr .u16 a n ∧ shr .u16 a n < 65536 := by
  unfold shr
  have hp : (0 : Int) < 2 ^ min n.toNat IntKind.u16.bits := Int.pow_pos (by decide)
  constructor
  · exact Int.ediv_nonneg h0 (Int.le_of_lt hp)
  · exact Int.lt_of_le_of_lt (Int.ediv_le_self _ h0) h1
theorem bits_u16 (op : BinOp) (x y : Int) : 0 ≤ Go.bits op .u16 x y ∧ Go.bits op .u16 x y < 65536 := by
  unfold Go.bits
  split <;> (rw [wrap_u16]; omega)

theorem in_eq (a b c : Int) : spec_l00In.f a b c = some (decide (b ≤ a ∧ a ≤ c)) := by
  unfold spec_l00In.f
  by_cases h : b ≤ a
  · rw [if_pos (by omega)]; simp [h]
  · rw [if_neg (by omega)]; simp [h]
theorem within_eq (a b c : Int) : impl_within.f a b c = some (decide (b ≤ a ∧ a ≤ c)) := by
  unfold impl_within.f
  by_cases h : b ≤ a
  · rw [if_pos (by omega)]; simp [h]
  · rw [if_neg (by omega)]; simp [h]
def isP (i : Int) : Bool := decide (0 ≤ i ∧ i ≤ 13)
theorem isP_iff (i : Int) : isP i = true ↔ 0 ≤ i ∧ i ≤ 13 := by simp [isP]
theorem isPerson_eq (i : Int) : impl_isPerson.f i = some (isP i) := by
  unfold impl_isPerson.f
  rw [within_eq]; rfl
/-- Is number i in the set p? -/
def hasB (p i : Int) : Bool := shr .u16 p i % 2 == 1
theorem l05Has_eq (p i : Int) (h0 : 0 ≤ p) (h1 : p < 65536) (hi : 0 ≤ i) (hi2 : i < 18446744073709551616) : spec_l05Has.f p i = some (hasB p i) := by
  unfold spec_l05Has.f
  rw [wrap_u64_id i hi hi2, if_pos hi, Int.tmod_eq_emod_of_nonneg (shr_range p i h0 h1).1]
  rfl
def hasP (p i : Int) : Bool := isP i && hasB p i
theorem implHas_eq (p i : Int) (h0 : 0 ≤ p) (h1 : p < 65536) : impl_HasPerson.f p i = some (hasP p i) := by
  unfold impl_HasPerson.f
  rw [isPerson_eq, Option.bind_some]
  by_cases h : isP i = true
  · have := (isP_iff i).1 h
    rw [if_pos h, if_pos (by omega), and_one _ (shr_range p i h0 h1).1 (shr_range p i h0 h1).2]
    simp [hasP, h, hasB]
  · rw [if_neg h]
    simp [hasP, h]

/-- The numbers of a set from i on. -/
def listFrom (p : Int) : Nat → Nat → List Int
  | 0, _ => []
  | d + 1, i => if hasB p (i : Int) = true then (i : Int) :: listFrom p d (i + 1) else listFrom p d (i + 1)
def listP (p : Int) : List Int := listFrom p 14 0
theorem listFrom_length (p : Int) : ∀ d i, (listFrom p d i).length ≤ d
  | 0, _ => by simp [listFrom]
  | d + 1, i => by
    have := listFrom_length p d (i + 1)
    unfold listFrom
    split <;> simp <;> omega
theorem listP_length (p : Int) : (listP p).length ≤ 14 := listFrom_length p 14 0
theorem l05List_l0 (p : Int) (h0 : 0 ≤ p) (h1 : p < 65536) : ∀ (d i k : Nat) (xs : List Int), i + d = 14 → d < k → xs.length ≤ i → spec_l05List.l0 k p xs (i : Int) = some (xs ++ listFrom p d i) := by
  intro d
  induction d with
  | zero =>
    intro i k xs hi hk hx
    obtain ⟨k, rfl⟩ : ∃ m, k = m + 1 := ⟨k - 1, by omega⟩
    simp only [spec_l05List.l0]
    rw [if_neg (by omega)]
    simp [listFrom]
  | succ d ih =>
    intro i k xs hi hk hx
    obtain ⟨k, rfl⟩ : ∃ m, k = m + 1 := ⟨k - 1, by omega⟩
    simp only [spec_l05List.l0]
    rw [if_pos (by omega), l05Has_eq p i h0 h1 (by omega) (by omega), Option.bind_some, wrap_nat i (by omega)]
    unfold listFrom
    by_cases h : hasB p (i : Int) = true
    · rw [if_pos h, if_pos (by omega), ih (i + 1) k _ (by omega) (by omega) (by simp; omega), if_pos h]
      simp
    · rw [if_neg h, ih (i + 1) k _ (by omega) (by omega) (by omega), if_neg h]
theorem l05List_eq (p : Int) (h0 : 0 ≤ p) (h1 : p < 65536) (k : Nat) (hk : 14 < k) : spec_l05List.f k p = some (listP p) := by
  unfold spec_l05List.f
  have := l05List_l0 p h0 h1 14 0 k [] (by omega) hk (by simp)
  simpa [listP] using this

def TAB : ByteArray := ⟨#[0, 1, 1, 2, 1, 2, 2, 3, 1, 2, 2, 3, 2, 3, 3, 4, 1, 2, 2, 3, 2, 3, 3, 4, 2, 3, 3, 4, 3, 4, 4, 5, 1, 2, 2, 3, 2, 3, 3, 4, 2, 3, 3, 4, 3, 4, 4, 5, 2, 3, 3, 4, 3, 4, 4, 5, 3, 4, 4, 5, 4, 5, 5, 6, 1, 2, 2, 3, 2, 3, 3, 4, 2, 3, 3, 4, 3, 4, 4, 5, 2, 3, 3, 4, 3, 4, 4, 5, 3, 4, 4, 5, 4, 5, 5, 6, 2, 3, 3, 4, 3, 4, 4, 5, 3, 4, 4, 5, 4, 5, 5, 6, 3, 4, 4, 5, 4, 5, 5, 6, 4, 5, 5, 6, 5, 6, 6, 7, 1, 2, 2, 3, 2, 3, 3, 4, 2, 3, 3, 4, 3, 4, 4, 5, 2, 3, 3, 4, 3, 4, 4, 5, 3, 4, 4, 5, 4, 5, 5, 6, 2, 3, 3, 4, 3, 4, 4, 5, 3, 4, 4, 5, 4, 5, 5, 6, 3, 4, 4, 5, 4, 5, 5, 6, 4, 5, 5, 6, 5, 6, 6, 7, 2, 3, 3, 4, 3, 4, 4, 5, 3, 4, 4, 5, 4, 5, 5, 6, 3, 4, 4, 5, 4, 5, 5, 6, 4, 5, 5, 6, 5, 6, 6, 7, 3, 4, 4, 5, 4, 5, 5, 6, 4, 5, 5, 6, 5, 6, 6, 7, 4, 5, 5, 6, 5, 6, 6, 7, 5, 6, 6, 7, 6, 7, 7, 8]⟩
def pop8 (j : Int) : Int := j % 2 + j / 2 % 2 + j / 4 % 2 + j / 8 % 2 + j / 16 % 2 + j / 32 % 2 + j / 64 % 2 + j / 128 % 2
theorem TAB_eq : ∀ j : Nat, j < 256 → bt TAB (j : Int) = pop8 (j : Int) := by decide +kernel
theorem and_255 (x : Int) (h₀ : 0 ≤ x) (h₁ : x < 65536) : Go.bits .and .u16 x 255 = x % 256 := by
  have := Go.bits_mask .u16 16 (by decide) wraps_u16 8 (by decide) x h₀ (by omega)
  simpa using this
theorem and_14 (x : Int) (h₀ : 0 ≤ x) (h₁ : x < 65536) : Go.bits .and .u16 x 16383 = x % 16384 := by
  have := Go.bits_mask .u16 16 (by decide) wraps_u16 14 (by decide) x h₀ (by omega)
  simpa using this
theorem ones_eq (x : Int) (h0 : 0 ≤ x) (h1 : x < 65536) : bits_OnesCount16.f x = some ((pop8 (x / 256) + pop8 (x % 256)) % 256) := by
  unfold bits_OnesCount16.f
  rw [and_255 x h0 h1, if_pos (by omega), if_pos (by omega), if_pos (by omega), if_pos (by omega)]
  obtain ⟨a, ha⟩ := Int.eq_ofNat_of_zero_le (show 0 ≤ x / 256 by omega)
  obtain ⟨b, hb⟩ := Int.eq_ofNat_of_zero_le (show 0 ≤ x % 256 by omega)
  rw [ha, hb]
  have e1 := TAB_eq a (by omega)
  have e2 := TAB_eq b (by omega)
  unfold TAB at e1 e2
  rw [e1, e2]
theorem hasB_iff (p : Int) (i : Nat) (hi : i ≤ 16) : hasB p (i : Int) = (p / 2 ^ i % 2 == 1) := by
  unfold hasB shr
  rw [Int.toNat_natCast, Nat.min_eq_left (by simpa [IntKind.bits] using hi)]
theorem listFrom_count (p : Int) (d i : Nat) (hi : i ≤ 16) : ((listFrom p (d + 1) i).length : Int) = p / 2 ^ i % 2 + ((listFrom p d (i + 1)).length : Int) := by
  rw [show listFrom p (d + 1) i = if hasB p (i : Int) = true then (i : Int) :: listFrom p d (i + 1) else listFrom p d (i + 1) from rfl, hasB_iff p i hi]
  have h : p / 2 ^ i % 2 = 0 ∨ p / 2 ^ i % 2 = 1 := by omega
  rcases h with h | h
  · rw [h]; simp
  · rw [h]; simp; omega
def cnt14 (p : Int) : Int := p % 2 + (p / 2 % 2 + (p / 4 % 2 + (p / 8 % 2 + (p / 16 % 2 + (p / 32 % 2 + (p / 64 % 2 + (p / 128 % 2 + (p / 256 % 2 + (p / 512 % 2 + (p / 1024 % 2 + (p / 2048 % 2 + (p / 4096 % 2 + p / 8192 % 2))))))))))))
theorem listP_count (p : Int) : ((listP p).length : Int) = cnt14 p := by
  unfold listP
  rw [listFrom_count p 13 0 (by decide), listFrom_count p 12 1 (by decide), listFrom_count p 11 2 (by decide), listFrom_count p 10 3 (by decide), listFrom_count p 9 4 (by decide), listFrom_count p 8 5 (by decide), listFrom_count p 7 6 (by decide), listFrom_count p 6 7 (by decide), listFrom_count p 5 8 (by decide), listFrom_count p 4 9 (by decide), listFrom_count p 3 10 (by decide), listFrom_count p 2 11 (by decide), listFrom_count p 1 12 (by decide), listFrom_count p 0 13 (by decide)]
  simp [listFrom, cnt14]
theorem pop_cnt (p : Int) (h0 : 0 ≤ p) : (pop8 (p % 16384 / 256) + pop8 (p % 16384 % 256)) % 256 = cnt14 p := by
  have a0 : p % 16384 % 256 % 2 = p % 2 := by omega
  have a1 : p % 16384 % 256 / 2 % 2 = p / 2 % 2 := by omega
  have a2 : p % 16384 % 256 / 4 % 2 = p / 4 % 2 := by omega
  have a3 : p % 16384 % 256 / 8 % 2 = p / 8 % 2 := by omega
  have a4 : p % 16384 % 256 / 16 % 2 = p / 16 % 2 := by omega
  have a5 : p % 16384 % 256 / 32 % 2 = p / 32 % 2 := by omega
  have a6 : p % 16384 % 256 / 64 % 2 = p / 64 % 2 := by omega
  have a7 : p % 16384 % 256 / 128 % 2 = p / 128 % 2 := by omega
  have b0 : p % 16384 / 256 % 2 = p / 256 % 2 := by omega
  have b1 : p % 16384 / 256 / 2 % 2 = p / 512 % 2 := by omega
  have b2 : p % 16384 / 256 / 4 % 2 = p / 1024 % 2 := by omega
  have b3 : p % 16384 / 256 / 8 % 2 = p / 2048 % 2 := by omega
  have b4 : p % 16384 / 256 / 16 % 2 = p / 4096 % 2 := by omega
  have b5 : p % 16384 / 256 / 32 % 2 = p / 8192 % 2 := by omega
  have b6 : p % 16384 / 256 / 64 % 2 = 0 := by omega
  have b7 : p % 16384 / 256 / 128 % 2 = 0 := by omega
  unfold pop8 cnt14
  rw [a0, a1, a2, a3, a4, a5, a6, a7, b0, b1, b2, b3, b4, b5, b6, b7]
  have c : ∀ n : Int, 0 ≤ n % 2 ∧ n % 2 ≤ 1 := fun n => by omega
  have := c p; have := c (p / 2); have := c (p / 4); have := c (p / 8); have := c (p / 16); have := c (p / 32); have := c (p / 64); have := c (p / 128); have := c (p / 256); have := c (p / 512); have := c (p / 1024); have := c (p / 2048); have := c (p / 4096); have := c (p / 8192)
  generalize p % 2 = x0 at *
  generalize p / 2 % 2 = x1 at *
  generalize p / 4 % 2 = x2 at *
  generalize p / 8 % 2 = x3 at *
  generalize p / 16 % 2 = x4 at *
  generalize p / 32 % 2 = x5 at *
  generalize p / 64 % 2 = x6 at *
  generalize p / 128 % 2 = x7 at *
  generalize p / 256 % 2 = x8 at *
  generalize p / 512 % 2 = x9 at *
  generalize p / 1024 % 2 = x10 at *
  generalize p / 2048 % 2 = x11 at *
  generalize p / 4096 % 2 = x12 at *
  generalize p / 8192 % 2 = x13 at *
  clear a0 a1 a2 a3 a4 a5 a6 a7 b0 b1 b2 b3 b4 b5 b6 b7
  omega
theorem all14 : impl_everybody.f 14 = some 16383 := by
  unfold impl_everybody.f
  rw [if_pos (by decide)]
  have : IntKind.u16.wrap (shl .u16 1 14 - 1) = 16383 := by decide +kernel
  rw [this]
theorem implCount_eq (p : Int) (h0 : 0 ≤ p) (h1 : p < 65536) : impl_CountPeople.f p = some ((listP p).length : Int) := by
  unfold impl_CountPeople.f
  rw [all14, Option.bind_some, and_14 p h0 h1, ones_eq _ (by omega) (by omega), Option.bind_some, pop_cnt p h0, listP_count]
def allB (p : Int) : Int := IntKind.u16.wrap (shl .u16 1 p - 1)
theorem l05All_eq (p : Int) (h0 : 0 ≤ p) (h1 : p < 18446744073709551616) : spec_l05All.f p = some (allB p) := by
  unfold spec_l05All.f
  rw [wrap_u64_id p h0 h1, if_pos h0]
  rfl
theorem everybody_eq (p : Int) (h0 : 0 ≤ p) : impl_everybody.f p = some (allB p) := by
  unfold impl_everybody.f
  rw [if_pos h0]
  rfl
theorem shl_one (a : Nat) (ha : a < 16) : shl .u16 1 (a : Int) = ((2 ^ a : Nat) : Int) := by
  unfold shl
  have hb : IntKind.u16.bits = 16 := rfl
  rw [hb, Int.toNat_natCast, Nat.min_eq_left (by omega), wrap_u16]
  have h3 : 2 ^ a < 65536 := by
    calc 2 ^ a < 2 ^ 16 := Nat.pow_lt_pow_right (by decide) ha
      _ = 65536 := by decide
  have h2 : ((2 : Int) ^ a) = ((2 ^ a : Nat) : Int) := by push_cast; rfl
  rw [h2, Int.one_mul]
  generalize 2 ^ a = z at h3
  omega
theorem bit_nat (m i : Nat) : ((m : Int) / 2 ^ i % 2 == 1) = m.testBit i := by
  rw [Nat.testBit_eq_decide_div_mod_eq]
  have h2 : ((m : Int) / 2 ^ i % 2) = ((m / 2 ^ i % 2 : Nat) : Int) := by push_cast; rfl
  rw [h2]
  by_cases h : m / 2 ^ i % 2 = 1
  · simp [h]
  · have : ((m / 2 ^ i % 2 : Nat) : Int) ≠ 1 := by omega
    rw [decide_eq_false h]
    exact beq_eq_false_iff_ne.2 this
theorem andNot_test (x y i : Nat) (hi : i < 16) : (Go.bits .andNot .u16 (x : Int) (y : Int) / 2 ^ i % 2 == 1) = (x.testBit i && !y.testBit i) := by
  unfold Go.bits
  simp only [BitVec.ofInt_natCast]
  rw [wrap_u16]
  generalize hn : (BitVec.ofNat IntKind.u16.bits x &&& ~~~BitVec.ofNat IntKind.u16.bits y).toNat = n
  have hlt : n < 65536 := by rw [← hn]; exact BitVec.isLt _
  have h1 : ((n : Int) % 65536) = n := by omega
  rw [h1, bit_nat, ← hn, BitVec.testBit_toNat, BitVec.getLsbD_and, BitVec.getLsbD_not]
  have hb : IntKind.u16.bits = 16 := rfl
  rw [hb, BitVec.getLsbD_ofNat, BitVec.getLsbD_ofNat]
  simp [hi]
theorem has_andNot (x y : Int) (hx : 0 ≤ x) (hy : 0 ≤ y) (i : Nat) (hi : i < 16) : hasB (Go.bits .andNot .u16 x y) (i : Int) = (hasB x (i : Int) && !hasB y (i : Int)) := by
  obtain ⟨a, rfl⟩ := Int.eq_ofNat_of_zero_le hx
  obtain ⟨b, rfl⟩ := Int.eq_ofNat_of_zero_le hy
  rw [hasB_iff _ i (by omega), hasB_iff _ i (by omega), hasB_iff _ i (by omega), andNot_test a b i hi, bit_nat, bit_nat]
theorem has_one (a i : Nat) (ha : a < 16) (hi : i < 16) : hasB (shl .u16 1 (a : Int)) (i : Int) = decide (a = i) := by
  rw [hasB_iff _ i (by omega), shl_one a ha, bit_nat, Nat.testBit_two_pow]
def clr1 (x a : Int) : Int := Go.bits .andNot .u16 x (shl .u16 1 a)
theorem clr1_rng (x a : Int) : 0 ≤ clr1 x a ∧ clr1 x a < 65536 := bits_u16 _ _ _
theorem shl_pos (a : Int) : 0 ≤ shl .u16 1 a := by unfold shl; rw [wrap_u16]; omega
theorem has_clr1 (x : Int) (hx : 0 ≤ x) (a i : Nat) (ha : a < 16) (hi : i < 16) : hasB (clr1 x (a : Int)) (i : Int) = (hasB x (i : Int) && decide (a ≠ i)) := by
  unfold clr1
  rw [has_andNot x _ hx (shl_pos _) i hi, has_one a i ha hi]
  by_cases h : a = i <;> simp [h]
theorem listFrom_clr (x : Int) (hx : 0 ≤ x) (a : Nat) (ha : a < 14) (hb : hasB x (a : Int) = true) : ∀ (d i : Nat), i + d ≤ 14 → (listFrom (clr1 x (a : Int)) d i).length + (if i ≤ a ∧ a < i + d then 1 else 0) = (listFrom x d i).length := by
  intro d
  induction d with
  | zero => intro i hi; simp [listFrom]
  | succ d ih =>
    intro i hi
    have h := ih (i + 1) (by omega)
    unfold listFrom
    rw [has_clr1 x hx a i (by omega) (by omega)]
    by_cases e : a = i
    · subst e
      rw [if_neg (by simp), if_pos hb, if_pos (by omega), List.length_cons]
      rw [if_neg (by omega)] at h
      omega
    · rw [show (hasB x (i : Int) && decide (a ≠ i)) = hasB x (i : Int) by simp [e]]
      have h3 : (i ≤ a ∧ a < i + (d + 1)) ↔ (i + 1 ≤ a ∧ a < i + 1 + d) := by omega
      by_cases g : hasB x (i : Int) = true
      · rw [if_pos g, if_pos g, List.length_cons, List.length_cons, ← h]
        simp only [h3]
        omega
      · rw [if_neg g, if_neg g, ← h]
        simp only [h3]
theorem listP_clr (x : Int) (hx : 0 ≤ x) (a : Nat) (ha : a < 14) (hb : hasB x (a : Int) = true) : (listP (clr1 x (a : Int))).length + 1 = (listP x).length := by
  have := listFrom_clr x hx a ha hb 14 0 (by omega)
  rw [if_pos (by omega)] at this
  exact this
theorem listFrom_mem (p : Int) : ∀ (d i : Nat) (x : Int), x ∈ listFrom p d i → ∃ a : Nat, x = a ∧ i ≤ a ∧ a < i + d ∧ hasB p (a : Int) = true := by
  intro d
  induction d with
  | zero => intro i x h; simp [listFrom] at h
  | succ d ih =>
    intro i x h
    unfold listFrom at h
    by_cases e : hasB p (i : Int) = true
    · rw [if_pos e] at h
      rcases List.mem_cons.1 h with h | h
      · exact ⟨i, h, by omega, by omega, e⟩
      · obtain ⟨a, h1, h2, h3, h4⟩ := ih (i + 1) x h
        exact ⟨a, h1, by omega, by omega, h4⟩
    · rw [if_neg e] at h
      obtain ⟨a, h1, h2, h3, h4⟩ := ih (i + 1) x h
      exact ⟨a, h1, by omega, by omega, h4⟩
theorem listFrom_sorted (p : Int) : ∀ (d i : Nat), (listFrom p d i).Pairwise (· < ·) := by
  intro d
  induction d with
  | zero => intro i; simp [listFrom]
  | succ d ih =>
    intro i
    unfold listFrom
    by_cases e : hasB p (i : Int) = true
    · rw [if_pos e]
      refine List.pairwise_cons.2 ⟨fun x hx => ?_, ih (i + 1)⟩
      obtain ⟨a, h1, h2, _⟩ := listFrom_mem p d (i + 1) x hx
      omega
    · rw [if_neg e]; exact ih (i + 1)
def clr (x : Int) (g : List Int) : Int := g.foldl clr1 x
theorem clr_rng (x : Int) (h0 : 0 ≤ x) (h1 : x < 65536) (g : List Int) : 0 ≤ clr x g ∧ clr x g < 65536 := by
  induction g generalizing x with
  | nil => exact ⟨h0, h1⟩
  | cons a g ih => exact ih (clr1 x a) (clr1_rng x a).1 (clr1_rng x a).2
theorem clr_snoc (x : Int) (g : List Int) (a : Int) : clr x (g ++ [a]) = clr1 (clr x g) a := by simp [clr]
theorem clr_keeps (x : Int) (h0 : 0 ≤ x) (g : List Int) (hg : ∀ y ∈ g, ∃ b : Nat, y = b ∧ b < 14) (a : Nat) (ha : a < 14) (hn : (a : Int) ∉ g) (hb : hasB x (a : Int) = true) : hasB (clr x g) (a : Int) = true := by
  induction g generalizing x with
  | nil => exact hb
  | cons y g ih =>
    obtain ⟨b, hy, hb2⟩ := hg y List.mem_cons_self
    refine ih (clr1 x y) (clr1_rng x y).1 (fun z hz => hg z (List.mem_cons_of_mem _ hz)) (fun h => hn (List.mem_cons_of_mem _ h)) ?_
    rw [hy, has_clr1 x h0 b a (by omega) (by omega), hb]
    have : b ≠ a := fun e => hn (by rw [hy, e]; exact List.mem_cons_self)
    simp [this]
theorem allB_facts : ∀ p : Nat, p < 15 → (0 ≤ allB (p : Int) ∧ allB (p : Int) < 65536) ∧ (listP (allB (p : Int))).length = p := by decide +kernel
theorem clr_count (p : Nat) (hp : p < 15) (m : Int) (hm : 0 ≤ m) (hs : Go.bits .andNot .u16 m (allB (p : Int)) = 0) : ∀ j : Nat, j ≤ (listP m).length → (listP (clr (allB (p : Int)) ((listP m).take j))).length + j = p := by
  intro j
  have hf := allB_facts p hp
  induction j with
  | zero => intro _; rw [List.take_zero]; exact hf.2
  | succ j ih =>
    intro hj
    have h := ih (by omega)
    rw [take_getD 0 (listP m) j (by omega), clr_snoc]
    have hmem : (listP m).getD j 0 ∈ listP m := by
      rw [List.getD_eq_getElem?_getD, List.getElem?_eq_getElem (by omega)]
      exact List.getElem_mem _
    obtain ⟨a, ha, _, ha2, ha3⟩ := listFrom_mem m 14 0 _ hmem
    have hall : hasB (allB (p : Int)) (a : Int) = true := by
      have := has_andNot m (allB (p : Int)) hm hf.1.1 a (by omega)
      rw [hs, ha3] at this
      have h0 : hasB 0 (a : Int) = false := by rw [hasB_iff 0 a (by omega)]; simp
      rw [h0] at this
      simpa using this
    have hnot : (a : Int) ∉ (listP m).take j := by
      intro hin
      obtain ⟨i, hi, he⟩ := List.mem_iff_getElem.1 hin
      rw [List.length_take] at hi
      rw [List.getElem_take] at he
      have hs := List.pairwise_iff_getElem.1 (listFrom_sorted m 14 0) i j (by show i < (listP m).length; omega) (by show j < (listP m).length; omega) (by omega)
      have e2 : (listP m).getD j 0 = (listP m)[j]'(by omega) := by
        rw [List.getD_eq_getElem?_getD, List.getElem?_eq_getElem (by omega)]; rfl
      have hs' : (listP m)[i]'(by omega) < (listP m)[j]'(by omega) := hs
      rw [he, ← e2, ha] at hs'
      omega
    have hk := clr_keeps (allB (p : Int)) hf.1.1 ((listP m).take j) (fun y hy => by
      obtain ⟨b, h1, _, h2, _⟩ := listFrom_mem m 14 0 y (List.mem_of_mem_take hy)
      exact ⟨b, h1, by omega⟩) a (by omega) hnot hall
    have hr := clr_rng (allB (p : Int)) hf.1.1 hf.1.2 ((listP m).take j)
    have := listP_clr _ hr.1 a (by omega) hk
    rw [ha]
    omega

def inC (l : List Int) : Bool := l.all (fun n => decide (0 ≤ n ∧ n ≤ 100))
def codeC (a : Int) (l : List Int) : Int :=
  if 1 ≤ a ∧ a ≤ 14 then if 1 ≤ (l.length : Int) ∧ (l.length : Int) ≤ 12 then if inC l = true then 0 else 2 else 3 else 2
theorem l05Counts_l0 (l : List Int) (hl : l.length ≤ 1048576) : ∀ (d i k : Nat), i + d = l.length → d < k → spec_l05Counts.l0 k l (i : Int) = some (if inC (l.drop i) = true then 0 else 2) := by
  intro d
  induction d with
  | zero =>
    intro i k hi hk
    obtain ⟨k, rfl⟩ : ∃ m, k = m + 1 := ⟨k - 1, by omega⟩
    simp only [spec_l05Counts.l0]
    rw [if_neg (by omega), List.drop_eq_nil_of_le (by omega)]
    simp [inC]
  | succ d ih =>
    intro i k hi hk
    obtain ⟨k, rfl⟩ : ∃ m, k = m + 1 := ⟨k - 1, by omega⟩
    simp only [spec_l05Counts.l0]
    rw [if_pos (by omega), if_pos (by omega), in_eq, Option.bind_some, drop_rd l i (by omega), wrap_nat i (by omega), ih (i + 1) k (by omega) (by omega)]
    by_cases h : 0 ≤ rd l (i : Int) ∧ rd l (i : Int) ≤ 100 <;> simp [inC, h]
theorem l05Counts_eq (a : Int) (l : List Int) (hl : l.length ≤ 1048576) (k : Nat) (hk : 1048576 < k) : spec_l05Counts.f k a l = some (codeC a l) := by
  unfold spec_l05Counts.f codeC
  have h := l05Counts_l0 l hl l.length 0 k (by omega) (by omega)
  rw [show ((0 : Nat) : Int) = 0 from rfl, List.drop_zero] at h
  rw [in_eq, in_eq, h]
  by_cases h1 : 1 ≤ a ∧ a ≤ 14 <;> by_cases h2 : 1 ≤ (l.length : Int) ∧ (l.length : Int) ≤ 12 <;> simp [h1, h2]
theorem countsFind_l0 (l : List Int) (hl : l.length ≤ 1048576) : ∀ (d i k : Nat), i + d = l.length → d < k → ∃ r : Int, slices_IndexFunc_Sint64_int64_at_countsCode_1.l0 k l (l.length : Int) (i : Int) = some r ∧ decide (r ≥ 0) = !inC (l.drop i) := by
  intro d
  induction d with
  | zero =>
    intro i k hi hk
    obtain ⟨k, rfl⟩ : ∃ m, k = m + 1 := ⟨k - 1, by omega⟩
    refine ⟨-1, ?_, ?_⟩
    · simp only [slices_IndexFunc_Sint64_int64_at_countsCode_1.l0]
      rw [if_neg (by omega)]
    · rw [List.drop_eq_nil_of_le (by omega)]; simp [inC]
  | succ d ih =>
    intro i k hi hk
    obtain ⟨k, rfl⟩ : ∃ m, k = m + 1 := ⟨k - 1, by omega⟩
    simp only [slices_IndexFunc_Sint64_int64_at_countsCode_1.l0, impl_countsCode_1.f]
    rw [if_pos (by omega), if_pos (by omega), if_pos (by omega), within_eq, Option.bind_some, Option.bind_some, drop_rd l i (by omega), wrap_nat i (by omega)]
    by_cases h : 0 ≤ rd l (i : Int) ∧ rd l (i : Int) ≤ 100
    · obtain ⟨r, h1, h2⟩ := ih (i + 1) k (by omega) (by omega)
      refine ⟨r, by rw [if_neg (by simp [h])]; exact h1, ?_⟩
      rw [h2]; simp [inC, h]
    · refine ⟨(i : Int), by rw [if_pos (by rw [decide_eq_false h]; rfl)], ?_⟩
      have h' : decide (0 ≤ rd l (i : Int) ∧ rd l (i : Int) ≤ 100) = false := decide_eq_false h
      simp only [inC, List.all_cons, h', Bool.false_and, Bool.not_false]
      exact decide_eq_true (by omega)
theorem countsCode_eq (a : Int) (l : List Int) (hl : l.length ≤ 1048576) (k : Nat) (hk : 1048576 < k) : impl_countsCode.f k a l = some (codeC a l) := by
  unfold impl_countsCode.f codeC impl_size_int64.f slices_ContainsFunc_Sint64_int64_at_countsCode_1.f slices_IndexFunc_Sint64_int64_at_countsCode_1.f impl_unless.f
  obtain ⟨r, h1, h2⟩ := countsFind_l0 l hl l.length 0 k (by omega) (by omega)
  rw [show ((0 : Nat) : Int) = 0 from rfl] at h1
  rw [List.drop_zero] at h2
  simp only [within_eq, Option.bind_some, h1, h2]
  by_cases g1 : 1 ≤ a ∧ a ≤ 14 <;> by_cases g2 : 1 ≤ (l.length : Int) ∧ (l.length : Int) ≤ 12 <;> by_cases g3 : inC l = true <;> simp [g1, g2, g3]
/-- Do the counts fall? -/
def falls (b : Int) : List Int → Bool
  | [] => true
  | n :: r => decide (n ≤ b) && falls n r
theorem l05Allow_l0 (l : List Int) (hl : l.length ≤ 1048576) : ∀ (d i k : Nat) (b : Int), i + d = l.length → d < k → spec_l05Allow.l0 k l b (i : Int) = some (falls b (l.drop i)) := by
  intro d
  induction d with
  | zero =>
    intro i k b hi hk
    obtain ⟨k, rfl⟩ : ∃ m, k = m + 1 := ⟨k - 1, by omega⟩
    simp only [spec_l05Allow.l0]
    rw [if_neg (by omega), List.drop_eq_nil_of_le (by omega)]
    simp [falls]
  | succ d ih =>
    intro i k b hi hk
    obtain ⟨k, rfl⟩ : ∃ m, k = m + 1 := ⟨k - 1, by omega⟩
    simp only [spec_l05Allow.l0]
    rw [if_pos (by omega), if_pos (by omega), drop_rd l i (by omega), wrap_nat i (by omega), ih (i + 1) k _ (by omega) (by omega)]
    by_cases h : rd l (i : Int) ≤ b
    · rw [if_neg (by omega)]; simp [falls, h]
    · rw [if_pos (by omega)]; simp [falls, h]
theorem l05Allow_eq (a : Int) (l : List Int) (hl : l.length ≤ 1048576) (k : Nat) (hk : 1048576 < k) : spec_l05Allow.f k a l = some (falls a l) := by
  unfold spec_l05Allow.f
  have := l05Allow_l0 l hl l.length 0 k a (by omega) (by omega)
  simpa using this

/-- In how many ways: the loop that both have. -/
def chooseF (p : Int) : Nat → Int → Int → Int
  | 0, out, _ => out
  | d + 1, out, i => chooseF p d (wrap64 (Int.tdiv (wrap64 (out * wrap64 (p - i))) (wrap64 (i + 1)))) (i + 1)
theorem ways_l1 (x10 : List Int) (p a n lenv : Int) (j : Nat) (hj : j < 4611686018427387904) (m : Int) (hm : m ≤ 1048576) : ∀ (d i k : Nat) (out : Int), (i : Int) + d = m → d < k → impl_ways.l1 k p a n out x10 lenv (j : Int) m (i : Int) = impl_ways.l0 (k - d - 1) n (wrap64 (a * chooseF p d out (i : Int))) x10 lenv ((j + 1 : Nat) : Int) := by
  intro d
  induction d with
  | zero =>
    intro i k out hi hk
    obtain ⟨k, rfl⟩ : ∃ m, k = m + 1 := ⟨k - 1, by omega⟩
    simp only [impl_ways.l1]
    rw [if_neg (by omega), wrap_nat j hj]
    rfl
  | succ d ih =>
    intro i k out hi hk
    obtain ⟨k, rfl⟩ : ∃ m, k = m + 1 := ⟨k - 1, by omega⟩
    simp only [impl_ways.l1]
    rw [if_pos (by omega), wrap_nat i (by omega), if_neg (by omega), ih (i + 1) k _ (by omega) (by omega)]
    simp only [chooseF]
    rw [wrap_nat i (by omega), show k + 1 - (d + 1) - 1 = k - d - 1 by omega]
    rfl
def waysS (p a : Int) : List Int → Int
  | [] => a
  | n :: r => waysS n (wrap64 (a * chooseF p n.toNat 1 0)) r
def waysI (p a : Int) : List Int → Int
  | [] => a
  | n :: r => waysI n (wrap64 (a * (if n ≤ p then chooseF p n.toNat 1 0 else 0))) r
theorem implWays_l0 (l : List Int) (hl : l.length ≤ 12) : ∀ (d i k : Nat) (p a : Int), i + d = l.length → 102 * d < k → inC (l.drop i) = true → impl_ways.l0 k p a l (l.length : Int) (i : Int) = some (waysI p a (l.drop i)) := by
  intro d
  induction d with
  | zero =>
    intro i k p a hi hk hc
    obtain ⟨k, rfl⟩ : ∃ m, k = m + 1 := ⟨k - 1, by omega⟩
    simp only [impl_ways.l0]
    rw [if_neg (by omega), List.drop_eq_nil_of_le (by omega)]
    rfl
  | succ d ih =>
    intro i k p a hi hk hc
    obtain ⟨k, rfl⟩ : ∃ m, k = m + 1 := ⟨k - 1, by omega⟩
    rw [drop_rd l i (by omega)] at hc ⊢
    simp only [inC, List.all_cons, Bool.and_eq_true, decide_eq_true_eq] at hc
    have hn0 := hc.1.1
    have hn1 := hc.1.2
    have hrest : inC (l.drop (i + 1)) = true := by simpa [inC] using hc.2
    simp only [impl_ways.l0, impl_bit.f]
    rw [if_pos (by omega), if_pos (by omega), if_pos (by omega)]
    simp only [waysI]
    by_cases h : rd l (i : Int) ≤ p
    · rw [decide_eq_true h, if_pos rfl, Option.bind_some, Int.mul_one, wrap64_id _ (by omega) (by omega), if_pos h]
      have := ways_l1 l p a (rd l (i : Int)) (l.length : Int) i (by omega) (rd l (i : Int)) (by omega) (rd l (i : Int)).toNat 0 k 1 (by omega) (by omega)
      rw [show ((0 : Nat) : Int) = 0 from rfl] at this
      rw [this]
      exact ih (i + 1) _ _ _ (by omega) (by omega) hrest
    · rw [decide_eq_false h, if_neg (by decide), Option.bind_some, Int.mul_zero, wrap64_id _ (by omega) (by omega), if_neg h]
      have := ways_l1 l p a (rd l (i : Int)) (l.length : Int) i (by omega) 0 (by omega) 0 0 k 0 (by omega) (by omega)
      rw [show ((0 : Nat) : Int) = 0 from rfl] at this
      rw [this]
      exact ih (i + 1) _ _ _ (by omega) (by omega) hrest
theorem waysI_zero : ∀ (r : List Int) (p : Int), waysI p 0 r = 0
  | [], _ => rfl
  | n :: r, p => by
    simp only [waysI, Int.zero_mul]
    rw [wrap64_id 0 (by decide) (by decide)]
    exact waysI_zero r n
theorem waysI_eq : ∀ (r : List Int) (p a : Int), waysI p a r = if falls p r = true then waysS p a r else 0
  | [], _, _ => by simp [waysI, waysS, falls]
  | n :: r, p, a => by
    simp only [waysI, waysS, falls]
    by_cases h : n ≤ p
    · rw [if_pos h, waysI_eq r]
      simp [h]
    · rw [if_neg h, Int.mul_zero]
      have : wrap64 0 = 0 := wrap64_id 0 (by decide) (by decide)
      rw [this, waysI_zero]
      simp [h]
def fac : Nat → Int
  | 0 => 1
  | n + 1 => (n + 1 : Nat) * fac n
theorem choose_small : ∀ p : Nat, p < 15 → ∀ n : Nat, n < 15 → n ≤ p → 1 ≤ chooseF (p : Int) n 1 0 ∧ chooseF (p : Int) n 1 0 * fac n ≤ fac p := by decide +kernel
theorem fac_pos : ∀ n : Nat, 1 ≤ fac n
  | 0 => by decide
  | n + 1 => by
    have h := fac_pos n
    have : (1 : Int) * 1 ≤ (n + 1 : Nat) * fac n := Int.mul_le_mul (by omega) h (by decide) (by omega)
    simpa [fac] using this
theorem ways_pos : ∀ (r : List Int) (p : Nat) (a : Int), p < 15 → 1 ≤ a → a * fac p ≤ 87178291200 → falls (p : Int) r = true → inC r = true → 0 < waysS (p : Int) a r
  | [], _, _, _, ha, _, _, _ => by simp only [waysS]; omega
  | n :: r, p, a, hp, ha, hb, hf, hc => by
    simp only [falls, Bool.and_eq_true, decide_eq_true_eq] at hf
    simp only [inC, List.all_cons, Bool.and_eq_true, decide_eq_true_eq] at hc
    obtain ⟨m, rfl⟩ := Int.eq_ofNat_of_zero_le hc.1.1
    have hm : m ≤ p := by omega
    obtain ⟨h1, h2⟩ := choose_small p hp m (by omega) hm
    simp only [waysS, Int.toNat_natCast]
    have f1 := fac_pos m
    have f2 := fac_pos p
    have e1 : a * chooseF (p : Int) m 1 0 * fac m ≤ a * fac p := by
      rw [Int.mul_assoc]
      exact Int.mul_le_mul_of_nonneg_left h2 (by omega)
    have e2 : 1 ≤ a * chooseF (p : Int) m 1 0 := by
      have : (1 : Int) * 1 ≤ a * chooseF (p : Int) m 1 0 := Int.mul_le_mul ha h1 (by decide) (by omega)
      omega
    have e3 : a * chooseF (p : Int) m 1 0 ≤ a * chooseF (p : Int) m 1 0 * fac m := by
      have := Int.mul_le_mul_of_nonneg_left f1 (show 0 ≤ a * chooseF (p : Int) m 1 0 by omega)
      omega
    rw [wrap64_id _ (by omega) (by omega)]
    exact ways_pos r m _ (by omega) e2 (by omega) hf.2 (by simpa [inC] using hc.2)
theorem ways_falls (a : Int) (l : List Int) (h : codeC a l = 0) : (0 < (if falls a l = true then waysS a 1 l else 0)) ↔ falls a l = true := by
  have hc : (1 ≤ a ∧ a ≤ 14) ∧ inC l = true := by
    unfold codeC at h
    split at h
    · split at h
      · split at h
        · exact ⟨‹_›, ‹_›⟩
        · omega
      · omega
    · omega
  by_cases g : falls a l = true
  · rw [if_pos g]
    refine ⟨fun _ => g, fun _ => ?_⟩
    obtain ⟨p, rfl⟩ := Int.eq_ofNat_of_zero_le (show 0 ≤ a by omega)
    have hb : 1 * fac p ≤ 87178291200 := by
      have : ∀ p : Nat, p < 15 → 1 * fac p ≤ 87178291200 := by decide
      exact this p (by omega)
    exact ways_pos l p 1 (by omega) (by decide) hb g hc.2
  · rw [if_neg g]
    exact ⟨fun z => absurd z (by decide), fun z => absurd z g⟩

theorem indices_l0 (p : Int) (h0 : 0 ≤ p) (h1 : p < 65536) : ∀ (d i k : Nat) (xs : List Int), i + d = 14 → d < k → xs.length ≤ i → impl_indices_at_ListPeople_1.l0 k xs 14 (i : Int) p = some (xs ++ listFrom p d i) := by
  intro d
  induction d with
  | zero =>
    intro i k xs hi hk hx
    obtain ⟨k, rfl⟩ : ∃ m, k = m + 1 := ⟨k - 1, by omega⟩
    simp only [impl_indices_at_ListPeople_1.l0]
    rw [if_neg (by omega)]
    simp [listFrom]
  | succ d ih =>
    intro i k xs hi hk hx
    obtain ⟨k, rfl⟩ : ∃ m, k = m + 1 := ⟨k - 1, by omega⟩
    simp only [impl_indices_at_ListPeople_1.l0, impl_ListPeople_1.f]
    have hh : hasP p (i : Int) = hasB p (i : Int) := by
      simp [hasP, (isP_iff (i : Int)).2 (by omega)]
    rw [if_pos (by omega), implHas_eq p i h0 h1, hh, Option.bind_some, Option.bind_some, wrap_nat i (by omega)]
    unfold listFrom
    by_cases h : hasB p (i : Int) = true
    · rw [if_pos h, if_pos (by omega), ih (i + 1) k _ (by omega) (by omega) (by simp; omega), if_pos h]
      simp
    · rw [if_neg h, ih (i + 1) k _ (by omega) (by omega) (by omega), if_neg h]
theorem ListPeople_eq (p : Int) (h0 : 0 ≤ p) (h1 : p < 65536) (k : Nat) (hk : 14 < k) : impl_ListPeople.f k p = some (listP p) := by
  unfold impl_ListPeople.f impl_indices_at_ListPeople_1.f
  have := indices_l0 p h0 h1 14 0 k [] (by omega) hk (by simp)
  rw [show ((0 : Nat) : Int) = 0 from rfl] at this
  rw [this]
  simp [listP]

theorem toInt64S_l0 (l : List Int) (hl : l.length ≤ 1048576) : ∀ (d i k : Nat), i + d = l.length → d < k → laws_toInt64S.l0 k l ((l.map id).take i ++ List.replicate d 0) (i : Int) = some (l.map id) := by
  intro d
  induction d with
  | zero =>
    intro i k hi hk
    obtain ⟨k, rfl⟩ : ∃ m, k = m + 1 := ⟨k - 1, by omega⟩
    simp only [laws_toInt64S.l0]
    rw [if_neg (by omega), List.take_of_length_le (by simp; omega)]
    simp
  | succ d ih =>
    intro i k hi hk
    obtain ⟨k, rfl⟩ : ∃ m, k = m + 1 := ⟨k - 1, by omega⟩
    have hlen : (((l.map id).take i ++ List.replicate (d + 1) 0).length : Int) = l.length := by simp; omega
    have hg : (l.map id).getD i 0 = id (rd l (i : Int)) := by
      simp [rd, List.getD_eq_getElem?_getD, List.getElem?_map, List.getElem?_eq_getElem (show i < l.length by omega)]
    have hstep := set_rep ((l.map id).take i) i d 0 (id (rd l (i : Int))) (by simp; omega)
    rw [← hg, ← take_getD 0 (l.map id) i (by simp; omega), hg] at hstep
    simp only [laws_toInt64S.l0]
    rw [if_pos (by omega), if_pos (by omega), if_pos (by rw [hlen]; omega), wrap_nat i (by omega), Int.toNat_natCast]
    exact (congrArg (fun o => laws_toInt64S.l0 k l o ((i + 1 : Nat) : Int)) hstep).trans (ih (i + 1) k (by omega) (by omega))
theorem toInt64S_eq (l : List Int) (hl : l.length ≤ 1048576) (k : Nat) (hk : l.length < k) : laws_toInt64S.f k l = some l := by
  unfold laws_toInt64S.f
  rw [if_pos (by omega), if_pos (by omega)]
  have := toInt64S_l0 l hl l.length 0 k (by omega) hk
  simpa using this

theorem eqInt64S_l0 (a b : List Int) (hab : a.length = b.length) (hl : a.length ≤ 1048576) : ∀ (d i k : Nat), i + d = a.length → d < k → laws_eqInt64S.l0 k a b (i : Int) = some (decide (a.drop i = b.drop i)) := by
  intro d
  induction d with
  | zero =>
    intro i k hi hk
    obtain ⟨k, rfl⟩ : ∃ m, k = m + 1 := ⟨k - 1, by omega⟩
    simp only [laws_eqInt64S.l0]
    rw [if_neg (by omega), List.drop_eq_nil_of_le (by omega), List.drop_eq_nil_of_le (by omega)]
    simp
  | succ d ih =>
    intro i k hi hk
    obtain ⟨k, rfl⟩ : ∃ m, k = m + 1 := ⟨k - 1, by omega⟩
    have ha : a.drop i = rd a (i : Int) :: a.drop (i + 1) := by
      rw [drop_getD 0 a i (by omega)]; simp [rd]
    have hb : b.drop i = rd b (i : Int) :: b.drop (i + 1) := by
      rw [drop_getD 0 b i (by omega)]; simp [rd]
    simp only [laws_eqInt64S.l0]
    rw [if_pos (by omega), if_pos (by omega), if_pos (by omega), ha, hb]
    by_cases e : rd a (i : Int) = rd b (i : Int)
    · rw [if_pos e, wrap_nat i (by omega), ih (i + 1) k (by omega) (by omega)]
      simp [e]
    · rw [if_neg e]
      simp [e]
theorem eqInt64S_eq (a b : List Int) (hl : a.length ≤ 1048576) (k : Nat) (hk : a.length < k) : laws_eqInt64S.f k a b = some (decide (a = b)) := by
  unfold laws_eqInt64S.f
  by_cases h : a.length = b.length
  · rw [if_pos (by omega)]
    have := eqInt64S_l0 a b h hl a.length 0 k (by omega) hk
    simpa using this
  · rw [if_neg (by omega)]
    have : a ≠ b := fun e => h (by rw [e])
    simp [this]

def marks64 (m : Int) (n : Nat) : List Int := (List.range n).map (fun (j : Nat) => m + (j : Int))
theorem marks64_length (m : Int) (n : Nat) : (marks64 m n).length = n := by simp [marks64]
theorem markInt64S_l0 (m : Int) (h0 : 0 ≤ m) (h1 : m ≤ 4194304) (g : List Int) (hl : g.length ≤ 1048576) : ∀ (d i k : Nat), i + d = g.length → d < k → laws_markInt64S.l0 k ((marks64 m g.length).take i ++ g.drop i) (m + (i : Int)) (i : Int) = some (m + (g.length : Int), marks64 m g.length) := by
  intro d
  induction d with
  | zero =>
    intro i k hi hk
    obtain ⟨k, rfl⟩ : ∃ m, k = m + 1 := ⟨k - 1, by omega⟩
    obtain rfl : i = g.length := by omega
    simp only [laws_markInt64S.l0]
    rw [List.drop_eq_nil_of_le (Nat.le_refl _), List.take_of_length_le (by rw [marks64_length]; omega), List.append_nil, if_neg (by rw [marks64_length]; omega)]
  | succ d ih =>
    intro i k hi hk
    obtain ⟨k, rfl⟩ : ∃ m, k = m + 1 := ⟨k - 1, by omega⟩
    have hlen : (((marks64 m g.length).take i ++ g.drop i).length : Int) = g.length := by simp [marks64_length]; omega
    have hstep := set_drop ((marks64 m g.length).take i) g i (m + (i : Int)) (by simp [marks64_length]; omega) (by omega)
    have hg : (marks64 m g.length).getD i 0 = m + (i : Int) := getD_range_map 0 _ _ _ (by omega)
    rw [← hg, ← take_getD 0 (marks64 m g.length) i (by rw [marks64_length]; omega), hg] at hstep
    simp only [laws_markInt64S.l0]
    rw [if_pos (by rw [hlen]; omega), if_pos (by omega), wrap_nat i (by omega), Int.toNat_natCast, wrap64_id _ (by omega) (by omega), hstep]
    have := ih (i + 1) k (by omega) (by omega)
    rw [show m + ((i + 1 : Nat) : Int) = m + (i : Int) + 1 by omega] at this
    exact this
theorem markInt64S_eq (m : Int) (h0 : 0 ≤ m) (h1 : m ≤ 4194304) (g : List Int) (hl : g.length ≤ 1048576) (k : Nat) (hk : g.length < k) : laws_markInt64S.f k g m = some (m + (g.length : Int), marks64 m g.length) := by
  unfold laws_markInt64S.f
  have := markInt64S_l0 m h0 h1 g hl g.length 0 k (by omega) hk
  simpa using this
theorem eqPeopleS_l0 (a b : List Int) (hab : a.length = b.length) (hl : a.length ≤ 1048576) : ∀ (d i k : Nat), i + d = a.length → d < k → laws_eqPeopleS.l0 k a b (i : Int) = some (decide (a.drop i = b.drop i)) := by
  intro d
  induction d with
  | zero =>
    intro i k hi hk
    obtain ⟨k, rfl⟩ : ∃ m, k = m + 1 := ⟨k - 1, by omega⟩
    simp only [laws_eqPeopleS.l0]
    rw [if_neg (by omega), List.drop_eq_nil_of_le (by omega), List.drop_eq_nil_of_le (by omega)]
    simp
  | succ d ih =>
    intro i k hi hk
    obtain ⟨k, rfl⟩ : ∃ m, k = m + 1 := ⟨k - 1, by omega⟩
    have ha : a.drop i = rd a (i : Int) :: a.drop (i + 1) := by
      rw [drop_getD 0 a i (by omega)]; simp [rd]
    have hb : b.drop i = rd b (i : Int) :: b.drop (i + 1) := by
      rw [drop_getD 0 b i (by omega)]; simp [rd]
    simp only [laws_eqPeopleS.l0]
    rw [if_pos (by omega), if_pos (by omega), if_pos (by omega), ha, hb]
    by_cases e : rd a (i : Int) = rd b (i : Int)
    · rw [if_pos e, wrap_nat i (by omega), ih (i + 1) k (by omega) (by omega)]
      simp [e]
    · rw [if_neg e]
      simp [e]
theorem eqPeopleS_eq (a b : List Int) (hl : a.length ≤ 1048576) (k : Nat) (hk : a.length < k) : laws_eqPeopleS.f k a b = some (decide (a = b)) := by
  unfold laws_eqPeopleS.f
  by_cases h : a.length = b.length
  · rw [if_pos (by omega)]
    have := eqPeopleS_l0 a b h hl a.length 0 k (by omega) hk
    simpa using this
  · rw [if_neg (by omega)]
    have : a ≠ b := fun e => h (by rw [e])
    simp [this]

def marksP (m : Int) (n : Nat) : List Int := (List.range n).map (fun (j : Nat) => IntKind.u16.wrap (m + (j : Int)))
theorem marksP_length (m : Int) (n : Nat) : (marksP m n).length = n := by simp [marksP]
theorem markPeopleS_l0 (m : Int) (h0 : 0 ≤ m) (h1 : m ≤ 4194304) (g : List Int) (hl : g.length ≤ 1048576) : ∀ (d i k : Nat), i + d = g.length → d < k → laws_markPeopleS.l0 k ((marksP m g.length).take i ++ g.drop i) (m + (i : Int)) (i : Int) = some (m + (g.length : Int), marksP m g.length) := by
  intro d
  induction d with
  | zero =>
    intro i k hi hk
    obtain ⟨k, rfl⟩ : ∃ m, k = m + 1 := ⟨k - 1, by omega⟩
    obtain rfl : i = g.length := by omega
    simp only [laws_markPeopleS.l0]
    rw [List.drop_eq_nil_of_le (Nat.le_refl _), List.take_of_length_le (by rw [marksP_length]; omega), List.append_nil, if_neg (by rw [marksP_length]; omega)]
  | succ d ih =>
    intro i k hi hk
    obtain ⟨k, rfl⟩ : ∃ m, k = m + 1 := ⟨k - 1, by omega⟩
    have hlen : (((marksP m g.length).take i ++ g.drop i).length : Int) = g.length := by simp [marksP_length]; omega
    have hstep := set_drop ((marksP m g.length).take i) g i (IntKind.u16.wrap (m + (i : Int))) (by simp [marksP_length]; omega) (by omega)
    have hg : (marksP m g.length).getD i 0 = IntKind.u16.wrap (m + (i : Int)) := getD_range_map 0 _ _ _ (by omega)
    rw [← hg, ← take_getD 0 (marksP m g.length) i (by rw [marksP_length]; omega), hg] at hstep
    simp only [laws_markPeopleS.l0]
    rw [if_pos (by rw [hlen]; omega), if_pos (by omega), wrap_nat i (by omega), Int.toNat_natCast, wrap64_id _ (by omega) (by omega), hstep]
    have := ih (i + 1) k (by omega) (by omega)
    rw [show m + ((i + 1 : Nat) : Int) = m + (i : Int) + 1 by omega] at this
    exact this
theorem markPeopleS_eq (m : Int) (h0 : 0 ≤ m) (h1 : m ≤ 4194304) (g : List Int) (hl : g.length ≤ 1048576) (k : Nat) (hk : g.length < k) : laws_markPeopleS.f k g m = some (m + (g.length : Int), marksP m g.length) := by
  unfold laws_markPeopleS.f
  have := markPeopleS_l0 m h0 h1 g hl g.length 0 k (by omega) hk
  simpa using this
theorem heldPeopleS_l0 (m : Int) (h0 : 0 ≤ m) (h1 : m ≤ 4194304) (n : Nat) (hl : n ≤ 1048576) : ∀ (d i k : Nat), i + d = n → d < k → laws_heldPeopleS.l0 k (marksP m n) (m + (i : Int)) (i : Int) = some (m + (n : Int)) := by
  intro d
  induction d with
  | zero =>
    intro i k hi hk
    obtain ⟨k, rfl⟩ : ∃ m, k = m + 1 := ⟨k - 1, by omega⟩
    obtain rfl : i = n := by omega
    simp only [laws_heldPeopleS.l0]
    rw [if_neg (by rw [marksP_length]; omega)]
  | succ d ih =>
    intro i k hi hk
    obtain ⟨k, rfl⟩ : ∃ m, k = m + 1 := ⟨k - 1, by omega⟩
    have hg : rd (marksP m n) (i : Int) = IntKind.u16.wrap (m + (i : Int)) := by
      rw [rd_nat]; exact getD_range_map 0 _ _ _ (by omega)
    simp only [laws_heldPeopleS.l0]
    rw [if_pos (by rw [marksP_length]; omega), if_pos (by omega), if_pos hg, wrap_nat i (by omega), wrap64_id _ (by omega) (by omega)]
    have := ih (i + 1) k (by omega) (by omega)
    rw [show m + ((i + 1 : Nat) : Int) = m + (i : Int) + 1 by omega] at this
    exact this
theorem heldPeopleS_eq (m : Int) (h0 : 0 ≤ m) (h1 : m ≤ 4194304) (n : Nat) (hl : n ≤ 1048576) (k : Nat) (hk : n < k) : laws_heldPeopleS.f k (marksP m n) m = some (m + (n : Int)) := by
  unfold laws_heldPeopleS.f
  have := heldPeopleS_l0 m h0 h1 n hl n 0 k (by omega) hk
  simpa using this

def setF (p : Nat) (g : List Int) (n : Int) : Int := clr (allB (p : Int)) (g.take ((p : Int) - n).toNat)
theorem specP_l1 (p : Nat) (hp : p < 15) (m : Int) (hm : 0 ≤ m) (l : List Int) (out : List Int) (ho : out.length ≤ 1048576) (i : Nat) (hi : i < l.length) (hl : l.length ≤ 1048576) (hn : 0 ≤ rd l (i : Int) ∧ rd l (i : Int) ≤ 100) (hg : (p : Int) - rd l (i : Int) ≤ (listP m).length) (B : Nat) (R : Option (List Int × Int))
    (hR : ∀ k, B ≤ k → spec_FirstPossible.l0 k (p : Int) l (listP m) (out ++ [setF p (listP m) (rd l (i : Int))]) ((i + 1 : Nat) : Int) = R) :
    ∀ (d j k : Nat), j + d = ((p : Int) - rd l (i : Int)).toNat → B + d < k → spec_FirstPossible.l1 k (p : Int) l (listP m) out (i : Int) (clr (allB (p : Int)) ((listP m).take j)) (j : Int) = R := by
  intro d
  have hgl := listP_length m
  induction d with
  | zero =>
    intro j k hj hk
    obtain ⟨k, rfl⟩ : ∃ m, k = m + 1 := ⟨k - 1, by omega⟩
    simp only [spec_FirstPossible.l1]
    rw [if_pos (by omega), if_pos (by omega), wrap64_id _ (by omega) (by omega), if_neg (by omega), if_pos (by omega), wrap_nat i (by omega), show j = ((p : Int) - rd l (i : Int)).toNat by omega]
    exact hR k (by omega)
  | succ d ih =>
    intro j k hj hk
    obtain ⟨k, rfl⟩ : ∃ m, k = m + 1 := ⟨k - 1, by omega⟩
    have hjl : j < (listP m).length := by omega
    obtain ⟨a, ha, _, ha2, _⟩ := listFrom_mem m 14 0 (rd (listP m) (j : Int)) (by
      rw [rd_nat, List.getD_eq_getElem?_getD, List.getElem?_eq_getElem hjl]; exact List.getElem_mem _)
    have h := ih (j + 1) k (by omega) (by omega)
    rw [take_getD 0 (listP m) j hjl, clr_snoc, ← rd_nat] at h
    simp only [spec_FirstPossible.l1]
    rw [if_pos (by omega), if_pos (by omega), wrap64_id _ (by omega) (by omega), if_pos (by omega), if_pos (by omega), if_pos (by omega), wrap_u64_id (rd (listP m) (j : Int)) (by omega) (by omega), if_pos (by omega), wrap_nat j (by omega)]
    exact h
theorem implP_l1 (p : Nat) (hp : p < 15) (m : Int) (hm : 0 ≤ m) (hs : Go.bits .andNot .u16 m (allB (p : Int)) = 0) (l : List Int) (out : List Int) (ho : out.length ≤ 1048576) (i : Nat) (hl : l.length ≤ 1048576) (hi : i < l.length) (n : Int) (hn : 0 ≤ n ∧ n ≤ 100) (hg : (p : Int) - n ≤ (listP m).length) (B : Nat) (R : Option (List Int × Int))
    (hR : ∀ k, B ≤ k → impl_FirstPossible.l0 k (out ++ [setF p (listP m) n]) (setF p (listP m) n) ((listP m).drop ((p : Int) - n).toNat) l (l.length : Int) ((i + 1 : Nat) : Int) = R) :
    ∀ (d j k : Nat), j + d = ((p : Int) - n).toNat → (j : Int) ≤ (p : Int) - n → B + d < k → impl_FirstPossible.l1 k out (clr (allB (p : Int)) ((listP m).take j)) ((listP m).drop j) n l (l.length : Int) (i : Int) = R := by
  intro d
  have hgl := listP_length m
  have hf := allB_facts p hp
  induction d with
  | zero =>
    intro j k hj hq hk
    obtain ⟨k, rfl⟩ : ∃ m, k = m + 1 := ⟨k - 1, by omega⟩
    have hr := clr_rng (allB (p : Int)) hf.1.1 hf.1.2 ((listP m).take j)
    have hc := clr_count p hp m hm hs j (by omega)
    simp only [impl_FirstPossible.l1]
    rw [implCount_eq _ hr.1 hr.2, Option.bind_some, if_neg (by omega), if_pos (by omega), wrap_nat i (by omega), show j = ((p : Int) - n).toNat by omega]
    exact hR k (by omega)
  | succ d ih =>
    intro j k hj hq hk
    obtain ⟨k, rfl⟩ : ∃ m, k = m + 1 := ⟨k - 1, by omega⟩
    have hjl : j < (listP m).length := by omega
    have hr := clr_rng (allB (p : Int)) hf.1.1 hf.1.2 ((listP m).take j)
    have hc := clr_count p hp m hm hs j (by omega)
    obtain ⟨a, ha, _, ha2, _⟩ := listFrom_mem m 14 0 (rd (listP m) (j : Int)) (by
      rw [rd_nat, List.getD_eq_getElem?_getD, List.getElem?_eq_getElem hjl]; exact List.getElem_mem _)
    have h := ih (j + 1) k (by omega) (by omega) (by omega)
    rw [take_getD 0 (listP m) j hjl, clr_snoc, ← rd_nat] at h
    have h0 : rd ((listP m).drop j) 0 = rd (listP m) (j : Int) := by
      rw [drop_rd (listP m) j hjl]; rfl
    simp only [impl_FirstPossible.l1]
    rw [implCount_eq _ hr.1 hr.2, Option.bind_some, if_pos (by omega), if_pos (by rw [List.length_drop]; omega), h0, if_pos (by omega), if_pos (by rw [List.length_drop]; omega), show ((1 : Int).toNat) = 1 from rfl, List.drop_drop]
    exact h
theorem specP_l0 (p : Nat) (hp : p < 15) (m : Int) (hm : 0 ≤ m) (l : List Int) (hl : l.length ≤ 12) (hn : ∀ n ∈ l, (0 ≤ n ∧ n ≤ 100) ∧ (p : Int) - n ≤ (listP m).length ∧ n ≤ p) :
    ∀ (d i k : Nat) (out : List Int), i + d = l.length → 20 * d < k → out.length ≤ i → spec_FirstPossible.l0 k (p : Int) l (listP m) out (i : Int) = some (out ++ (l.drop i).map (setF p (listP m)), 0) := by
  intro d
  have hgl := listP_length m
  induction d with
  | zero =>
    intro i k out hi hk ho
    obtain ⟨k, rfl⟩ : ∃ m, k = m + 1 := ⟨k - 1, by omega⟩
    simp only [spec_FirstPossible.l0]
    rw [if_neg (by omega), List.drop_eq_nil_of_le (by omega)]
    simp
  | succ d ih =>
    intro i k out hi hk ho
    obtain ⟨k, rfl⟩ : ∃ m, k = m + 1 := ⟨k - 1, by omega⟩
    have hmem : rd l (i : Int) ∈ l := by
      rw [rd_nat, List.getD_eq_getElem?_getD, List.getElem?_eq_getElem (by omega)]; exact List.getElem_mem _
    obtain ⟨hn1, hn2, hn3⟩ := hn _ hmem
    have := specP_l1 p hp m hm l out (by omega) i (by omega) (by omega) hn1 hn2 (20 * d + 1) _ (fun k hk => ih (i + 1) k (out ++ [setF p (listP m) (rd l (i : Int))]) (by omega) (by omega) (by simp; omega)) ((p : Int) - rd l (i : Int)).toNat 0 k (by omega) (by omega)
    rw [List.take_zero] at this
    simp only [spec_FirstPossible.l0]
    rw [if_pos (by omega), l05All_eq (p : Int) (by omega) (by omega), Option.bind_some]
    refine Eq.trans this ?_
    rw [drop_rd l i (by omega)]
    simp
theorem implP_l0 (p : Nat) (hp : p < 15) (m : Int) (hm : 0 ≤ m) (hs : Go.bits .andNot .u16 m (allB (p : Int)) = 0) (l : List Int) (hl : l.length ≤ 12) (hn : ∀ n ∈ l, (0 ≤ n ∧ n ≤ 100) ∧ (p : Int) - n ≤ (listP m).length ∧ n ≤ p) :
    ∀ (d i j k : Nat) (out : List Int), i + d = l.length → 20 * d < k → out.length ≤ i → falls ((p : Int) - j) (l.drop i) = true → j ≤ (listP m).length →
    impl_FirstPossible.l0 k out (clr (allB (p : Int)) ((listP m).take j)) ((listP m).drop j) l (l.length : Int) (i : Int) = some (out ++ (l.drop i).map (setF p (listP m)), 0) := by
  intro d
  have hgl := listP_length m
  induction d with
  | zero =>
    intro i j k out hi hk ho hfl hj
    obtain ⟨k, rfl⟩ : ∃ m, k = m + 1 := ⟨k - 1, by omega⟩
    simp only [impl_FirstPossible.l0]
    rw [if_neg (by omega), List.drop_eq_nil_of_le (by omega)]
    simp
  | succ d ih =>
    intro i j k out hi hk ho hfl hj
    obtain ⟨k, rfl⟩ : ∃ m, k = m + 1 := ⟨k - 1, by omega⟩
    have hmem : rd l (i : Int) ∈ l := by
      rw [rd_nat, List.getD_eq_getElem?_getD, List.getElem?_eq_getElem (by omega)]; exact List.getElem_mem _
    obtain ⟨hn1, hn2, hn3⟩ := hn _ hmem
    rw [drop_rd l i (by omega)] at hfl
    simp only [falls, Bool.and_eq_true, decide_eq_true_eq] at hfl
    have := implP_l1 p hp m hm hs l out (by omega) i (by omega) (by omega) (rd l (i : Int)) hn1 hn2 (20 * d + 1) _ (fun k hk => ih (i + 1) ((p : Int) - rd l (i : Int)).toNat k (out ++ [setF p (listP m) (rd l (i : Int))]) (by omega) (by omega) (by simp; omega) (by
      rw [show (p : Int) - (((p : Int) - rd l (i : Int)).toNat : Int) = rd l (i : Int) by omega]; exact hfl.2) (by omega)) (((p : Int) - rd l (i : Int)).toNat - j) j k (by omega) (by omega) (by omega)
    simp only [impl_FirstPossible.l0]
    rw [if_pos (by omega), if_pos (by omega), if_pos (by omega)]
    refine Eq.trans this ?_
    rw [drop_rd l i (by omega)]
    simp
theorem falls_le : ∀ (l : List Int) (b : Int), falls b l = true → ∀ n ∈ l, n ≤ b
  | [], _, _, n, h => by simp at h
  | x :: r, b, hf, n, h => by
    simp only [falls, Bool.and_eq_true, decide_eq_true_eq] at hf
    rcases List.mem_cons.1 h with e | e
    · omega
    · have := falls_le r x hf.2 n e; omega
theorem falls_last : ∀ (l : List Int) (b : Int) (h : l ≠ []), falls b l = true → ∀ n ∈ l, l.getLast h ≤ n
  | [x], _, _, _, n, h => by simp at h; simp [h]
  | x :: y :: r, b, _, hf, n, h => by
    simp only [falls, Bool.and_eq_true, decide_eq_true_eq] at hf
    have hl : (x :: y :: r).getLast (by simp) = (y :: r).getLast (by simp) := List.getLast_cons (by simp)
    have hf2 : falls x (y :: r) = true := by simp only [falls, Bool.and_eq_true, decide_eq_true_eq]; exact hf.2
    rw [hl]
    rcases List.mem_cons.1 h with e | e
    · have h1 := falls_last (y :: r) x (by simp) hf2 y List.mem_cons_self
      omega
    · exact falls_last (y :: r) x (by simp) hf2 n e
theorem codeC_facts (a : Int) (l : List Int) (h : codeC a l = 0) : (1 ≤ a ∧ a ≤ 14) ∧ (1 ≤ (l.length : Int) ∧ (l.length : Int) ≤ 12) ∧ inC l = true := by
  unfold codeC at h
  split at h
  · split at h
    · split at h
      · exact ⟨‹_›, ‹_›, ‹_›⟩
      · omega
    · omega
  · omega
theorem implWays_eq (a : Int) (l : List Int) (h : codeC a l = 0) (k : Nat) (hk : 1048576 < k) : impl_ways.f k a l = some (if falls a l = true then waysS a 1 l else 0) := by
  have hc := codeC_facts a l h
  have := implWays_l0 l (by omega) l.length 0 k a 1 (by omega) (by omega) (by simpa using hc.2.2)
  rw [show ((0 : Nat) : Int) = 0 from rfl, List.drop_zero, waysI_eq] at this
  unfold impl_ways.f
  exact this
def finR (p : Int) (l : List Int) (m : Int) : List Int × Int :=
  if codeC p l = 0 then
    if Go.bits .andNot .u16 m (allB p) = 0 then
      if falls p l = true ∧ ((listP m).length : Int) = p - rd l ((l.length : Int) - 1) then (l.map (setF p.toNat (listP m)), 0) else ([], 4)
    else ([], 2)
  else ([], codeC p l)
theorem facts_of (p : Int) (l : List Int) (m : Int) (h : codeC p l = 0) (hf : falls p l = true) (hg : ((listP m).length : Int) = p - rd l ((l.length : Int) - 1)) : ∀ n ∈ l, (0 ≤ n ∧ n ≤ 100) ∧ p - n ≤ (listP m).length ∧ n ≤ p := by
  intro n hn
  have hc := codeC_facts p l h
  have hne : l ≠ [] := fun e => by rw [e] at hc; simp at hc
  have hlast : rd l ((l.length : Int) - 1) = l.getLast hne := by
    rw [show (l.length : Int) - 1 = ((l.length - 1 : Nat) : Int) by omega, rd_nat, List.getLast_eq_getElem, List.getD_eq_getElem?_getD, List.getElem?_eq_getElem (by omega)]
    rfl
  have h1 := falls_le l p hf n hn
  have h2 := falls_last l p hne hf n hn
  have h3 := List.all_eq_true.1 hc.2.2 n hn
  simp only [decide_eq_true_eq] at h3
  exact ⟨h3, by omega, h1⟩
theorem spec_fin (p : Int) (l : List Int) (m : Int) (hm : 0 ≤ m ∧ m < 65536) (hl : l.length ≤ 1048576) (hb : ∀ n ∈ l, -9223372036854775808 ≤ n ∧ n ≤ 9223372036854775807) (k : Nat) (hk : 1048700 < k) : spec_FirstPossible.f k p l m = some (finR p l m) := by
  obtain ⟨k, rfl⟩ : ∃ m, k = m + 4 := ⟨k - 4, by omega⟩
  unfold spec_FirstPossible.f finR
  rw [l05Counts_eq p l hl _ (by omega), Option.bind_some]
  by_cases h : codeC p l = 0
  · have hc := codeC_facts p l h
    rw [if_pos h, if_pos h, l05All_eq p (by omega) (by omega), Option.bind_some]
    by_cases g : Go.bits .andNot .u16 m (allB p) = 0
    · rw [if_pos g, h, show (Go.bits .andNot .u16 m (allB p) != 0) = false by simp [g]]
      simp only [spec_FirstPossible.j0, spec_FirstPossible.j1]
      rw [if_neg (by decide), l05List_eq m hm.1 hm.2 _ (by omega), Option.bind_some, if_pos trivial, l05Allow_eq p l hl _ (by omega), Option.bind_some]
      have hrd : 0 ≤ rd l ((l.length : Int) - 1) ∧ rd l ((l.length : Int) - 1) ≤ 100 := by
        rw [show (l.length : Int) - 1 = ((l.length - 1 : Nat) : Int) by omega, rd_nat, List.getD_eq_getElem?_getD, List.getElem?_eq_getElem (by omega)]
        have := List.all_eq_true.1 hc.2.2 _ (List.getElem_mem (l := l) (n := l.length - 1) (by omega))
        simpa using this
      by_cases f : falls p l = true
      · rw [if_pos f, wrap64_id ((l.length : Int) - 1) (by omega) (by omega), if_pos (by omega), if_pos (by omega), wrap64_id _ (by omega) (by omega)]
        simp only [spec_FirstPossible.j2]
        by_cases e : ((listP m).length : Int) = p - rd l ((l.length : Int) - 1)
        · rw [if_neg (by simp [e]), if_pos ⟨f, e⟩]
          simp only [spec_FirstPossible.j3]
          rw [if_pos trivial]
          obtain ⟨q, rfl⟩ := Int.eq_ofNat_of_zero_le (show 0 ≤ p by omega)
          have := specP_l0 q (by omega) m hm.1 l (by omega) (facts_of _ l m h f e) l.length 0 k [] (by omega) (by omega) (by simp)
          rw [show ((0 : Nat) : Int) = 0 from rfl] at this
          rw [this]; simp
        · rw [if_pos (by simpa using e), if_neg (fun z => e z.2)]
          simp only [spec_FirstPossible.j3]
          rw [if_neg (by decide)]
      · rw [if_neg f, if_neg (fun z => f z.1)]
        simp only [spec_FirstPossible.j2, spec_FirstPossible.j3]
        rw [if_pos trivial, if_neg (by decide)]
    · rw [if_neg g, show (Go.bits .andNot .u16 m (allB p) != 0) = true by simp [g]]
      simp only [spec_FirstPossible.j0, spec_FirstPossible.j1, spec_FirstPossible.j2, spec_FirstPossible.j3]
      rw [if_pos trivial, l05List_eq m hm.1 hm.2 _ (by omega), Option.bind_some, if_neg (by decide), if_neg (by decide), if_neg (by decide)]
  · rw [if_neg h, if_neg h]
    simp only [spec_FirstPossible.j0, spec_FirstPossible.j1, spec_FirstPossible.j2, spec_FirstPossible.j3]
    rw [if_neg (by decide), l05List_eq m hm.1 hm.2 _ (by omega), Option.bind_some, if_neg h, if_neg (by decide), if_neg h]
theorem impl_fin (p : Int) (l : List Int) (m : Int) (hm : 0 ≤ m ∧ m < 65536) (hl : l.length ≤ 1048576) (k : Nat) (hk : 1048700 < k) : impl_FirstPossible.f k p l m = some (finR p l m) := by
  unfold impl_FirstPossible.f finR
  rw [countsCode_eq p l hl _ (by omega), Option.bind_some]
  by_cases h : codeC p l = 0
  · have hc := codeC_facts p l h
    rw [if_pos h, if_pos h, everybody_eq p (by omega), Option.bind_some]
    by_cases g : Go.bits .andNot .u16 m (allB p) = 0
    · rw [if_pos g, if_pos g, implWays_eq p l h k (by omega), Option.bind_some]
      have hrd : 0 ≤ rd l ((l.length : Int) - 1) ∧ rd l ((l.length : Int) - 1) ≤ 100 := by
        rw [show (l.length : Int) - 1 = ((l.length - 1 : Nat) : Int) by omega, rd_nat, List.getD_eq_getElem?_getD, List.getElem?_eq_getElem (by omega)]
        have := List.all_eq_true.1 hc.2.2 _ (List.getElem_mem (l := l) (n := l.length - 1) (by omega))
        simpa using this
      have hw := ways_falls p l h
      by_cases f : falls p l = true
      · have h0 := hw.2 f
        rw [if_pos f] at h0
        rw [if_pos f, if_neg (by omega), implCount_eq m hm.1 hm.2, Option.bind_some, wrap64_id ((l.length : Int) - 1) (by omega) (by omega), if_pos (by omega), if_pos (by omega), wrap64_id _ (by omega) (by omega)]
        by_cases e : ((listP m).length : Int) = p - rd l ((l.length : Int) - 1)
        · rw [if_pos e, if_pos ⟨f, e⟩, Option.bind_some, ListPeople_eq m hm.1 hm.2 k (by omega), Option.bind_some]
          obtain ⟨q, rfl⟩ := Int.eq_ofNat_of_zero_le (show 0 ≤ p by omega)
          have := implP_l0 q (by omega) m hm.1 g l (by omega) (facts_of _ l m h f e) l.length 0 0 k [] (by omega) (by omega) (by simp) (by simpa using f) (by omega)
          rw [show ((0 : Nat) : Int) = 0 from rfl, List.take_zero, List.drop_zero] at this
          refine Eq.trans this ?_
          simp
        · rw [if_neg e, if_neg (fun z => e z.2)]
      · rw [if_neg f, if_pos rfl, if_neg (fun z => f z.1)]
    · rw [if_neg g, if_neg g]
  · rw [if_neg h, if_neg h]
theorem fin_len (p : Int) (l : List Int) (m : Int) : (finR p l m).1.length ≤ 12 := by
  unfold finR
  by_cases h : codeC p l = 0
  · have hc := codeC_facts p l h
    rw [if_pos h]
    split
    · split
      · simp; omega
      · simp
    · simp
  · rw [if_neg h]; simp
theorem main : laws_FnExactFirstPossible.Pure := by
  intro p l m hp hl0 hl1 hl hm
  refine rounds_of 1049000 fun k hk => ?_
  have hmr := wf_u16 hm
  unfold laws_FnExactFirstPossible.f
  by_cases h : (l.length : Int) > 1048576
  · rw [if_pos h]
  · have hb : ∀ n ∈ l, -9223372036854775808 ≤ n ∧ n ≤ 9223372036854775807 := fun n hn => wf_i64 (hl n hn)
    have hfl := fin_len p l m
    rw [if_neg h, toInt64S_eq l (by omega) k (by omega)]
    simp only [Option.bind_some]
    rw [spec_fin p l m hmr (by omega) hb k (by omega), impl_fin p l m hmr (by omega) k (by omega)]
    simp only [Option.bind_some]
    rw [eqPeopleS_eq _ _ (by omega) k (by omega)]
    simp only [Option.bind_some, decide_true, if_true]
    obtain ⟨k, rfl⟩ : ∃ m, k = m + 3 := ⟨k - 3, by omega⟩
    simp only [laws_FnExactFirstPossible.j0]
    rw [if_neg (by simp), toInt64S_eq l (by omega) _ (by omega), Option.bind_some, eqInt64S_eq _ _ (by omega) _ (by omega)]
    simp only [Option.bind_some, decide_true, if_true]
    rw [markInt64S_eq 1 (by decide) (by decide) _ (by omega) _ (by omega), Option.bind_some, if_neg (by simp; omega), eqPeopleS_eq _ _ (by omega) _ (by omega)]
    simp only [Option.bind_some, decide_true, if_true, laws_FnExactFirstPossible.j1]
    rw [if_neg (by simp), markPeopleS_eq 1 (by decide) (by decide) _ (by omega) _ (by omega)]
    simp only [Option.bind_some]
    rw [heldPeopleS_eq 1 (by decide) (by decide) _ (by omega) _ (by omega)]
    simp only [Option.bind_some]
    rw [if_neg (by omega), if_pos trivial, toInt64S_eq l (by omega) _ (by omega), Option.bind_some, impl_fin p l m hmr (by omega) _ (by omega), Option.bind_some, eqPeopleS_eq _ _ (by omega) _ (by omega)]
    simp only [Option.bind_some, decide_true, if_true, laws_FnExactFirstPossible.j2]
    rw [if_neg (by simp), heldPeopleS_eq 1 (by decide) (by decide) _ (by omega) _ (by omega)]
    simp only [Option.bind_some]
    rw [if_neg (by omega), if_pos trivial]

end Go.Proofs.Ytfmjfnnkkoekbaa.PureFnExactFirstPossible
namespace Go.Proofs.Ytfmjfnnkkoekbaa.Pure
theorem FnExactFirstPossible : Go.Proofs.Ytfmjfnnkkoekbaa.P.laws_FnExactFirstPossible.Pure := Go.Proofs.Ytfmjfnnkkoekbaa.PureFnExactFirstPossible.main
end Go.Proofs.Ytfmjfnnkkoekbaa.Pure
