/- A log that is found has the counts that it is found for; counts allow a log if, and only if, there are ways: the law FnAllowed answers true at every two lists of bytes; no condition. -/
import Derived.Test.YtelgmojnndbgmaaP8
import Derived.Laws.BitsLemmas
namespace Go.Proofs.Ytelgmojnndbgmaa.PureFnAllowed
open Go.RowKit Go.Proofs.Ytelgmojnndbgmaa.P Go.Proofs.YtelgmojnndbgmaaW.PrintWords Go.Proofs.YtelgmojnndbgmaaW.PrintLast
set_option linter.unusedSimpArgs false
set_option linter.unusedVariables false

theorem wrap64_id (x : Int) (h0 : -9223372036854775808 ≤ x) (h1 : x ≤ 9223372036854775807) : wrap64 x = x := by unfold wrap64; omega
theorem wrap_nat (n : Nat) (h : n < 4611686018427387904) : wrap64 ((n : Int) + 1) = ((n + 1 : Nat) : Int) := by
  rw [wrap64_id _ (by omega) (by omega)]; omega
theorem rd_nat (l : List Int) (i : Nat) : rd l (i : Int) = l.getD i 0 := by simp [rd]
theorem drop_rd (l : List Int) (i : Nat) (h : i < l.length) : l.drop i = rd l (i : Int) :: l.drop (i + 1) := by
  rw [List.drop_eq_getElem_cons h, rd_nat, List.getD_eq_getElem?_getD, List.getElem?_eq_getElem h]; rfl
theorem take_getD {α : Type} (z : α) (l : List α) (i : Nat) (h : i < l.length) : l.take (i + 1) = l.take i ++ [l.getD i z] := by
  rw [List.take_succ_eq_append_getElem h, List.getD_eq_getElem?_getD, List.getElem?_eq_getElem h]; rfl
theorem rounds_of (B : Nat) {α : Type} {F : Nat → Option α} {v : α} (h : ∀ k, B ≤ k → F k = some v) : ∃ k, F k = some v := ⟨B, h B (Nat.le_refl _)⟩

theorem wrap_u16 (n : Int) : IntKind.u16.wrap n = n % 65536 := by simp [IntKind.wrap, IntKind.bits, IntKind.signed]
theorem wrap_u64 (n : Int) : IntKind.u64.wrap n = n % 18446744073709551616 := by simp [IntKind.wrap, IntKind.bits, IntKind.signed]
theorem wraps_u16 (n : Int) (h₀ : 0 ≤ n) (h₁ : n < 2 ^ 16) : IntKind.u16.wrap n = n := by rw [wrap_u16]; omega
theorem wrap_u64_id (n : Int) (h0 : 0 ≤ n) (h1 : n < 18446744073709551616) : IntKind.u64.wrap n = n := by rw [wrap_u64]; omega
theorem and_one (x : Int) (h₀ : 0 ≤ x) (h₁ : x < 65536) : Go.bits .and .u16 x 1 = x % 2 := by
  have := Go.bits_mask .u16 16 (by decide) wraps_u16 1 (by decide) x h₀ (by omega)
  simpa using this
theorem wf_u8 {a : Int} (h : (Lit.int .u8 a).wf = true) : 0 ≤ a ∧ a ≤ 255 := by
  simp [Lit.wf, IntKind.min, IntKind.max, IntKind.bits, IntKind.signed] at h
  omega
theorem shr_range (a n : Int) (h0 : 0 ≤ a) (h1 : a < 65536) : 0 ≤ shr .u16 a n ∧ shr .u16 a n < 65536 := by
  unfold shr
  have hp : (0 : Int) < 2 ^ min n.toNat IntKind.u16.bits := Int.pow_pos (by decide)
  constructor
  · exact Int.ediv_nonneg h0 (Int.le_of_lt hp)
  · exact Int.lt_of_le_of_lt (Int.ediv_le_self _ h0) h1
theorem bits_u16 (op : BinOp) (x y : Int) : 0 ≤ Go.bits op .u16 x y ∧ Go.bits op .u16 x y < 65536 := by
  unfold Go.bits
  split <;> (rw [wrap_u16]; omega)

theorem in_eq (a b c : Int) : spec_l00In.f a b c = some (decide (b ≤ a ∧ a ≤ c)) := by
  unfold spec_l00In.f
  by_cases h : b ≤ a
  · rw [if_pos (by omega)]; simp [h]
  · rw [if_neg (by omega)]; simp [h]
theorem within_eq (a b c : Int) : impl_within.f a b c = some (decide (b ≤ a ∧ a ≤ c)) := by
  unfold impl_within.f
  by_cases h : b ≤ a
  · rw [if_pos (by omega)]; simp [h]
  · rw [if_neg (by omega)]; simp [h]
def isP (i : Int) : Bool := decide (0 ≤ i ∧ i ≤ 13)
theorem isP_iff (i : Int) : isP i = true ↔ 0 ≤ i ∧ i ≤ 13 := by simp [isP]
theorem l05Person_eq (i : Int) : spec_l05Person.f i = some (isP i) := by
  unfold spec_l05Person.f
  rw [in_eq]; rfl
theorem isPerson_eq (i : Int) : impl_isPerson.f i = some (isP i) := by
  unfold impl_isPerson.f
  rw [within_eq]; rfl
/-- Is number i in the set p? -/
def hasB (p i : Int) : Bool := shr .u16 p i % 2 == 1
theorem l05Has_eq (p i : Int) (h0 : 0 ≤ p) (h1 : p < 65536) (hi : 0 ≤ i) (hi2 : i < 18446744073709551616) : spec_l05Has.f p i = some (hasB p i) := by
  unfold spec_l05Has.f
  rw [wrap_u64_id i hi hi2, if_pos hi, Int.tmod_eq_emod_of_nonneg (shr_range p i h0 h1).1]
  rfl
def hasP (p i : Int) : Bool := isP i && hasB p i
theorem implHas_eq (p i : Int) (h0 : 0 ≤ p) (h1 : p < 65536) : impl_HasPerson.f p i = some (hasP p i) := by
  unfold impl_HasPerson.f
  rw [isPerson_eq, Option.bind_some]
  by_cases h : isP i = true
  · have := (isP_iff i).1 h
    rw [if_pos h, if_pos (by omega), and_one _ (shr_range p i h0 h1).1 (shr_range p i h0 h1).2]
    simp [hasP, h, hasB]
  · rw [if_neg h]
    simp [hasP, h]

/-- The numbers of a set from i on. -/
def listFrom (p : Int) : Nat → Nat → List Int
  | 0, _ => []
  | d + 1, i => if hasB p (i : Int) = true then (i : Int) :: listFrom p d (i + 1) else listFrom p d (i + 1)
def listP (p : Int) : List Int := listFrom p 14 0
theorem listFrom_length (p : Int) : ∀ d i, (listFrom p d i).length ≤ d
  | 0, _ => by simp [listFrom]
  | d + 1, i => by
    have := listFrom_length p d (i + 1)
    unfold listFrom
    split <;> simp <;> omega
theorem listP_length (p : Int) : (listP p).length ≤ 14 := listFrom_length p 14 0
theorem l05List_l0 (p : Int) (h0 : 0 ≤ p) (h1 : p < 65536) : ∀ (d i k : Nat) (xs : List Int), i + d = 14 → d < k → xs.length ≤ i → spec_l05List.l0 k p xs (i : Int) = some (xs ++ listFrom p d i) := by
  intro d
  induction d with
  | zero =>
    intro i k xs hi hk hx
    obtain ⟨k, rfl⟩ : ∃ m, k = m + 1 := ⟨k - 1, by omega⟩
    simp only [spec_l05List.l0]
    rw [if_neg (by omega)]
    simp [listFrom]
  | succ d ih =>
    intro i k xs hi hk hx
    obtain ⟨k, rfl⟩ : ∃ m, k = m + 1 := ⟨k - 1, by omega⟩
    simp only [spec_l05List.l0]
    rw [if_pos (by omega), l05Has_eq p i h0 h1 (by omega) (by omega), Option.bind_some, wrap_nat i (by omega)]
    unfold listFrom
    by_cases h : hasB p (i : Int) = true
    · rw [if_pos h, if_pos (by omega), ih (i + 1) k _ (by omega) (by omega) (by simp; omega), if_pos h]
      simp
    · rw [if_neg h, ih (i + 1) k _ (by omega) (by omega) (by omega), if_neg h]
theorem l05List_eq (p : Int) (h0 : 0 ≤ p) (h1 : p < 65536) (k : Nat) (hk : 14 < k) : spec_l05List.f k p = some (listP p) := by
  unfold spec_l05List.f
  have := l05List_l0 p h0 h1 14 0 k [] (by omega) hk (by simp)
  simpa [listP] using this

def TAB : ByteArray := ⟨#[0, 1, 1, 2, 1, 2, 2, 3, 1, 2, 2, 3, 2, 3, 3, 4, 1, 2, 2, 3, 2, 3, 3, 4, 2, 3, 3, 4, 3, 4, 4, 5, 1, 2, 2, 3, 2, 3, 3, 4, 2, 3, 3, 4, 3, 4, 4, 5, 2, 3, 3, 4, 3, 4, 4, 5, 3, 4, 4, 5, 4, 5, 5, 6, 1, 2, 2, 3, 2, 3, 3, 4, 2, 3, 3, 4, 3, 4, 4, 5, 2, 3, 3, 4, 3, 4, 4, 5, 3, 4, 4, 5, 4, 5, 5, 6, 2, 3, 3, 4, 3, 4, 4, 5, 3, 4, 4, 5, 4, 5, 5, 6, 3, 4, 4, 5, 4, 5, 5, 6, 4, 5, 5, 6, 5, 6, 6, 7, 1, 2, 2, 3, 2, 3, 3, 4, 2, 3, 3, 4, 3, 4, 4, 5, 2, 3, 3, 4, 3, 4, 4, 5, 3, 4, 4, 5, 4, 5, 5, 6, 2, 3, 3, 4, 3, 4, 4, 5, 3, 4, 4, 5, 4, 5, 5, 6, 3, 4, 4, 5, 4, 5, 5, 6, 4, 5, 5, 6, 5, 6, 6, 7, 2, 3, 3, 4, 3, 4, 4, 5, 3, 4, 4, 5, 4, 5, 5, 6, 3, 4, 4, 5, 4, 5, 5, 6, 4, 5, 5, 6, 5, 6, 6, 7, 3, 4, 4, 5, 4, 5, 5, 6, 4, 5, 5, 6, 5, 6, 6, 7, 4, 5, 5, 6, 5, 6, 6, 7, 5, 6, 6, 7, 6, 7, 7, 8]⟩
def pop8 (j : Int) : Int := j % 2 + j / 2 % 2 + j / 4 % 2 + j / 8 % 2 + j / 16 % 2 + j / 32 % 2 + j / 64 % 2 + j / 128 % 2
theorem TAB_eq : ∀ j : Nat, j < 256 → bt TAB (j : Int) = pop8 (j : Int) := by decide +kernel
theorem and_255 (x : Int) (h₀ : 0 ≤ x) (h₁ : x < 65536) : Go.bits .and .u16 x 255 = x % 256 := by
  have := Go.bits_mask .u16 16 (by decide) wraps_u16 8 (by decide) x h₀ (by omega)
  simpa using this
theorem and_14 (x : Int) (h₀ : 0 ≤ x) (h₁ : x < 65536) : Go.bits .and .u16 x 16383 = x % 16384 := by
  have := Go.bits_mask .u16 16 (by decide) wraps_u16 14 (by decide) x h₀ (by omega)
  simpa using this
theorem ones_eq (x : Int) (h0 : 0 ≤ x) (h1 : x < 65536) : bits_OnesCount16.f x = some ((pop8 (x / 256) + pop8 (x % 256)) % 256) := by
  unfold bits_OnesCount16.f
  rw [and_255 x h0 h1, if_pos (by omega), if_pos (by omega), if_pos (by omega), if_pos (by omega)]
  obtain ⟨a, ha⟩ := Int.eq_ofNat_of_zero_le (show 0 ≤ x / 256 by omega)
  obtain ⟨b, hb⟩ := Int.eq_ofNat_of_zero_le (show 0 ≤ x % 256 by omega)
  rw [ha, hb]
  have e1 := TAB_eq a (by omega)
  have e2 := TAB_eq b (by omega)
  unfold TAB at e1 e2
  rw [e1, e2]
theorem hasB_iff (p : Int) (i : Nat) (hi : i ≤ 16) : hasB p (i : Int) = (p / 2 ^ i % 2 == 1) := by
  unfold hasB shr
  rw [Int.toNat_natCast, Nat.min_eq_left (by simpa [IntKind.bits] using hi)]
theorem listFrom_count (p : Int) (d i : Nat) (hi : i ≤ 16) : ((listFrom p (d + 1) i).length : Int) = p / 2 ^ i % 2 + ((listFrom p d (i + 1)).length : Int) := by
  rw [show listFrom p (d + 1) i = if hasB p (i : Int) = true then (i : Int) :: listFrom p d (i + 1) else listFrom p d (i + 1) from rfl, hasB_iff p i hi]
  have h : p / 2 ^ i % 2 = 0 ∨ p / 2 ^ i % 2 = 1 := by omega
  rcases h with h | h
  · rw [h]; simp
  · rw [h]; simp; omega
def cnt14 (p : Int) : Int := p % 2 + (p / 2 % 2 + (p / 4 % 2 + (p / 8 % 2 + (p / 16 % 2 + (p / 32 % 2 + (p / 64 % 2 + (p / 128 % 2 + (p / 256 % 2 + (p / 512 % 2 + (p / 1024 % 2 + (p / 2048 % 2 + (p / 4096 % 2 + p / 8192 % 2))))))))))))
theorem listP_count (p : Int) : ((listP p).length : Int) = cnt14 p := by
  unfold listP
  rw [listFrom_count p 13 0 (by decide), listFrom_count p 12 1 (by decide), listFrom_count p 11 2 (by decide), listFrom_count p 10 3 (by decide), listFrom_count p 9 4 (by decide), listFrom_count p 8 5 (by decide), listFrom_count p 7 6 (by decide), listFrom_count p 6 7 (by decide), listFrom_count p 5 8 (by decide), listFrom_count p 4 9 (by decide), listFrom_count p 3 10 (by decide), listFrom_count p 2 11 (by decide), listFrom_count p 1 12 (by decide), listFrom_count p 0 13 (by decide)]
  simp [listFrom, cnt14]
theorem pop_cnt (p : Int) (h0 : 0 ≤ p) : (pop8 (p % 16384 / 256) + pop8 (p % 16384 % 256)) % 256 = cnt14 p := by
  have a0 : p % 16384 % 256 % 2 = p % 2 := by omega
  have a1 : p % 16384 % 256 / 2 % 2 = p / 2 % 2 := by omega
  have a2 : p % 16384 % 256 / 4 % 2 = p / 4 % 2 := by omega
  have a3 : p % 16384 % 256 / 8 % 2 = p / 8 % 2 := by omega
  have a4 : p % 16384 % 256 / 16 % 2 = p / 16 % 2 := by omega
  have a5 : p % 16384 % 256 / 32 % 2 = p / 32 % 2 := by omega
  have a6 : p % 16384 % 256 / 64 % 2 = p / 64 % 2 := by omega
  have a7 : p % 16384 % 256 / 128 % 2 = p / 128 % 2 := by omega
  have b0 : p % 16384 / 256 % 2 = p / 256 % 2 := by omega
  have b1 : p % 16384 / 256 / 2 % 2 = p / 512 % 2 := by omega
  have b2 : p % 16384 / 256 / 4 % 2 = p / 1024 % 2 := by omega
  have b3 : p % 16384 / 256 / 8 % 2 = p / 2048 % 2 := by omega
  have b4 : p % 16384 / 256 / 16 % 2 = p / 4096 % 2 := by omega
  have b5 : p % 16384 / 256 / 32 % 2 = p / 8192 % 2 := by omega
  have b6 : p % 16384 / 256 / 64 % 2 = 0 := by omega
  have b7 : p % 16384 / 256 / 128 % 2 = 0 := by omega
  unfold pop8 cnt14
  rw [a0, a1, a2, a3, a4, a5, a6, a7, b0, b1, b2, b3, b4, b5, b6, b7]
  have c : ∀ n : Int, 0 ≤ n % 2 ∧ n % 2 ≤ 1 := fun n => by omega
  have := c p; have := c (p / 2); have := c (p / 4); have := c (p / 8); have := c (p / 16); have := c (p / 32); have := c (p / 64); have := c (p / 128); have := c (p / 256); have := c (p / 512); have := c (p / 1024); have := c (p / 2048); have := c (p / 4096); have := c (p / 8192)
  generalize p % 2 = x0 at *
  generalize p / 2 % 2 = x1 at *
  generalize p / 4 % 2 = x2 at *
  generalize p / 8 % 2 = x3 at *
  generalize p / 16 % 2 = x4 at *
  generalize p / 32 % 2 = x5 at *
  generalize p / 64 % 2 = x6 at *
  generalize p / 128 % 2 = x7 at *
  generalize p / 256 % 2 = x8 at *
  generalize p / 512 % 2 = x9 at *
  generalize p / 1024 % 2 = x10 at *
  generalize p / 2048 % 2 = x11 at *
  generalize p / 4096 % 2 = x12 at *
  generalize p / 8192 % 2 = x13 at *
  clear a0 a1 a2 a3 a4 a5 a6 a7 b0 b1 b2 b3 b4 b5 b6 b7
  omega
theorem all14 : impl_everybody.f 14 = some 16383 := by
  unfold impl_everybody.f
  rw [if_pos (by decide)]
  have : IntKind.u16.wrap (shl .u16 1 14 - 1) = 16383 := by decide +kernel
  rw [this]
theorem implCount_eq (p : Int) (h0 : 0 ≤ p) (h1 : p < 65536) : impl_CountPeople.f p = some ((listP p).length : Int) := by
  unfold impl_CountPeople.f
  rw [all14, Option.bind_some, and_14 p h0 h1, ones_eq _ (by omega) (by omega), Option.bind_some, pop_cnt p h0, listP_count]
theorem specCount_eq (p : Int) (h0 : 0 ≤ p) (h1 : p < 65536) (k : Nat) (hk : 14 < k) : spec_CountPeople.f k p = some ((listP p).length : Int) := by
  unfold spec_CountPeople.f
  rw [l05List_eq p h0 h1 k hk, Option.bind_some]

def allB (p : Int) : Int := IntKind.u16.wrap (shl .u16 1 p - 1)
theorem l05All_eq (p : Int) (h0 : 0 ≤ p) (h1 : p < 18446744073709551616) : spec_l05All.f p = some (allB p) := by
  unfold spec_l05All.f
  rw [wrap_u64_id p h0 h1, if_pos h0]
  rfl
theorem everybody_eq (p : Int) (h0 : 0 ≤ p) : impl_everybody.f p = some (allB p) := by
  unfold impl_everybody.f
  rw [if_pos h0]
  rfl
def cntOk (c : Int) : Bool := decide (0 ≤ wrap64 c ∧ wrap64 c ≤ 100)
def okFrom (b : Int) : List Int → List Int → Bool
  | s :: ss, c :: cs => decide (Go.bits .andNot .u16 s b = 0) && cntOk c && okFrom s ss cs
  | _, _ => true
def okLog (p : Int) (s c : List Int) : Bool :=
  decide (1 ≤ p ∧ p ≤ 14) && decide (1 ≤ (s.length : Int) ∧ (s.length : Int) ≤ 12) && decide (s.length = c.length) && okFrom (allB p) s c
/-- Who was seen before station i. -/
def befB (p : Int) (s : List Int) (i : Nat) : Int := if i = 0 then allB p else s.getD (i - 1) 0
theorem before_eq (p : Int) (s c : List Int) (h0 : 0 ≤ p) (i : Nat) (hi : i ≤ s.length) (hl : s.length ≤ 1048576) : impl_Log_before.f p s c (i : Int) = some (befB p s i) := by
  unfold impl_Log_before.f befB
  by_cases h : i = 0
  · subst h
    rw [if_pos (show ((0 : Nat) : Int) = 0 from rfl), everybody_eq p h0, if_pos rfl]
    rfl
  · rw [if_neg (by omega), wrap64_id _ (by omega) (by omega), if_pos (by omega), if_pos (by omega), if_neg h]
    rw [show (i : Int) - 1 = ((i - 1 : Nat) : Int) by omega, rd_nat]
theorem implValid_l0 (p : Int) (s c : List Int) (hp : 0 ≤ p) (hl : s.length ≤ 1048576) (hc : s.length = c.length) : ∀ (d i k : Nat), i + d = s.length → d < k → impl_ValidLog.l0 k s (s.length : Int) (i : Int) p s c = some (okFrom (befB p s i) (s.drop i) (c.drop i)) := by
  intro d
  induction d with
  | zero =>
    intro i k hi hk
    obtain ⟨k, rfl⟩ : ∃ m, k = m + 1 := ⟨k - 1, by omega⟩
    simp only [impl_ValidLog.l0]
    rw [if_neg (by omega), List.drop_eq_nil_of_le (by omega)]
    simp [okFrom]
  | succ d ih =>
    intro i k hi hk
    obtain ⟨k, rfl⟩ : ∃ m, k = m + 1 := ⟨k - 1, by omega⟩
    have hb : befB p s (i + 1) = rd s (i : Int) := by
      unfold befB
      rw [if_neg (by omega), rd_nat]
      rfl
    simp only [impl_ValidLog.l0]
    rw [if_pos (by omega), if_pos (by omega), if_pos (by omega), before_eq p s c hp i (by omega) hl, Option.bind_some, if_pos (show (i : Int) < (c.length : Int) by omega), drop_rd s i (by omega), drop_rd c i (by omega), within_eq, Option.bind_some, wrap_nat i (by omega), ih (i + 1) k (by omega) (by omega), hb]
    by_cases h1 : Go.bits .andNot .u16 (rd s (i : Int)) (befB p s i) = 0 <;> by_cases h2 : 0 ≤ wrap64 (rd c (i : Int)) ∧ wrap64 (rd c (i : Int)) ≤ 100 <;> simp [okFrom, cntOk, h1, h2]
theorem implValid_eq (p : Int) (s c : List Int) (hl : s.length ≤ 1048576) (k : Nat) (hk : 1048578 < k) : impl_ValidLog.f k p s c = some (okLog p s c) := by
  unfold impl_ValidLog.f impl_size_People.f
  simp only [within_eq, Option.bind_some]
  obtain ⟨k, rfl⟩ : ∃ m, k = m + 1 := ⟨k - 1, by omega⟩
  by_cases h1 : 1 ≤ p ∧ p ≤ 14
  · by_cases h2 : 1 ≤ (s.length : Int) ∧ (s.length : Int) ≤ 12
    · rw [decide_eq_true h1, if_pos rfl, decide_eq_true h2, if_pos rfl]
      simp only [impl_ValidLog.j0]
      by_cases h3 : s.length = c.length
      · have := implValid_l0 p s c (by omega) hl h3 s.length 0 k (by omega) (by omega)
        rw [show ((0 : Nat) : Int) = 0 from rfl] at this
        rw [if_neg (by simp [h3]), this]
        simp only [okLog, decide_eq_true h1, decide_eq_true h2, decide_eq_true h3, Bool.true_and, List.drop_zero, befB, if_true]
      · rw [if_pos (by simp; omega)]
        simp [okLog, h3]
    · rw [decide_eq_true h1, if_pos rfl, decide_eq_false h2, if_neg (by decide)]
      simp only [impl_ValidLog.j0, if_true]
      simp [okLog, h2]
  · rw [decide_eq_false h1, if_neg (by decide)]
    simp only [impl_ValidLog.j0, if_true]
    simp [okLog, h1]

theorem shl_one (a : Nat) (ha : a < 16) : shl .u16 1 (a : Int) = ((2 ^ a : Nat) : Int) := by
  unfold shl
  have hb : IntKind.u16.bits = 16 := rfl
  rw [hb, Int.toNat_natCast, Nat.min_eq_left (by omega), wrap_u16]
  have h3 : 2 ^ a < 65536 := by
    calc 2 ^ a < 2 ^ 16 := Nat.pow_lt_pow_right (by decide) ha
      _ = 65536 := by decide
  have h2 : ((2 : Int) ^ a) = ((2 ^ a : Nat) : Int) := by push_cast; rfl
  rw [h2, Int.one_mul]
  generalize 2 ^ a = z at h3
  omega
theorem bit_nat (m i : Nat) : ((m : Int) / 2 ^ i % 2 == 1) = m.testBit i := by
  rw [Nat.testBit_eq_decide_div_mod_eq]
  have h2 : ((m : Int) / 2 ^ i % 2) = ((m / 2 ^ i % 2 : Nat) : Int) := by push_cast; rfl
  rw [h2]
  by_cases h : m / 2 ^ i % 2 = 1
  · simp [h]
  · have : ((m / 2 ^ i % 2 : Nat) : Int) ≠ 1 := by omega
    rw [decide_eq_false h]
    exact beq_eq_false_iff_ne.2 this
theorem andNot_test (x y i : Nat) (hi : i < 16) : (Go.bits .andNot .u16 (x : Int) (y : Int) / 2 ^ i % 2 == 1) = (x.testBit i && !y.testBit i) := by
  unfold Go.bits
  simp only [BitVec.ofInt_natCast]
  rw [wrap_u16]
  generalize hn : (BitVec.ofNat IntKind.u16.bits x &&& ~~~BitVec.ofNat IntKind.u16.bits y).toNat = n
  have hlt : n < 65536 := by rw [← hn]; exact BitVec.isLt _
  have h1 : ((n : Int) % 65536) = n := by omega
  rw [h1, bit_nat, ← hn, BitVec.testBit_toNat, BitVec.getLsbD_and, BitVec.getLsbD_not]
  have hb : IntKind.u16.bits = 16 := rfl
  rw [hb, BitVec.getLsbD_ofNat, BitVec.getLsbD_ofNat]
  simp [hi]
theorem has_andNot (x y : Int) (hx : 0 ≤ x) (hy : 0 ≤ y) (i : Nat) (hi : i < 16) : hasB (Go.bits .andNot .u16 x y) (i : Int) = (hasB x (i : Int) && !hasB y (i : Int)) := by
  obtain ⟨a, rfl⟩ := Int.eq_ofNat_of_zero_le hx
  obtain ⟨b, rfl⟩ := Int.eq_ofNat_of_zero_le hy
  rw [hasB_iff _ i (by omega), hasB_iff _ i (by omega), hasB_iff _ i (by omega), andNot_test a b i hi, bit_nat, bit_nat]
theorem has_one (a i : Nat) (ha : a < 16) (hi : i < 16) : hasB (shl .u16 1 (a : Int)) (i : Int) = decide (a = i) := by
  rw [hasB_iff _ i (by omega), shl_one a ha, bit_nat, Nat.testBit_two_pow]
def clr1 (x a : Int) : Int := Go.bits .andNot .u16 x (shl .u16 1 a)
theorem clr1_rng (x a : Int) : 0 ≤ clr1 x a ∧ clr1 x a < 65536 := bits_u16 _ _ _
theorem shl_pos (a : Int) : 0 ≤ shl .u16 1 a := by unfold shl; rw [wrap_u16]; omega
theorem has_clr1 (x : Int) (hx : 0 ≤ x) (a i : Nat) (ha : a < 16) (hi : i < 16) : hasB (clr1 x (a : Int)) (i : Int) = (hasB x (i : Int) && decide (a ≠ i)) := by
  unfold clr1
  rw [has_andNot x _ hx (shl_pos _) i hi, has_one a i ha hi]
  by_cases h : a = i <;> simp [h]
theorem listFrom_clr (x : Int) (hx : 0 ≤ x) (a : Nat) (ha : a < 14) (hb : hasB x (a : Int) = true) : ∀ (d i : Nat), i + d ≤ 14 → (listFrom (clr1 x (a : Int)) d i).length + (if i ≤ a ∧ a < i + d then 1 else 0) = (listFrom x d i).length := by
  intro d
  induction d with
  | zero => intro i hi; simp [listFrom]
  | succ d ih =>
    intro i hi
    have h := ih (i + 1) (by omega)
    unfold listFrom
    rw [has_clr1 x hx a i (by omega) (by omega)]
    by_cases e : a = i
    · subst e
      rw [if_neg (by simp), if_pos hb, if_pos (by omega), List.length_cons]
      rw [if_neg (by omega)] at h
      omega
    · rw [show (hasB x (i : Int) && decide (a ≠ i)) = hasB x (i : Int) by simp [e]]
      have h3 : (i ≤ a ∧ a < i + (d + 1)) ↔ (i + 1 ≤ a ∧ a < i + 1 + d) := by omega
      by_cases g : hasB x (i : Int) = true
      · rw [if_pos g, if_pos g, List.length_cons, List.length_cons, ← h]
        simp only [h3]
        omega
      · rw [if_neg g, if_neg g, ← h]
        simp only [h3]
theorem listP_clr (x : Int) (hx : 0 ≤ x) (a : Nat) (ha : a < 14) (hb : hasB x (a : Int) = true) : (listP (clr1 x (a : Int))).length + 1 = (listP x).length := by
  have := listFrom_clr x hx a ha hb 14 0 (by omega)
  rw [if_pos (by omega)] at this
  exact this
theorem listFrom_mem (p : Int) : ∀ (d i : Nat) (x : Int), x ∈ listFrom p d i → ∃ a : Nat, x = a ∧ i ≤ a ∧ a < i + d ∧ hasB p (a : Int) = true := by
  intro d
  induction d with
  | zero => intro i x h; simp [listFrom] at h
  | succ d ih =>
    intro i x h
    unfold listFrom at h
    by_cases e : hasB p (i : Int) = true
    · rw [if_pos e] at h
      rcases List.mem_cons.1 h with h | h
      · exact ⟨i, h, by omega, by omega, e⟩
      · obtain ⟨a, h1, h2, h3, h4⟩ := ih (i + 1) x h
        exact ⟨a, h1, by omega, by omega, h4⟩
    · rw [if_neg e] at h
      obtain ⟨a, h1, h2, h3, h4⟩ := ih (i + 1) x h
      exact ⟨a, h1, by omega, by omega, h4⟩
theorem listFrom_sorted (p : Int) : ∀ (d i : Nat), (listFrom p d i).Pairwise (· < ·) := by
  intro d
  induction d with
  | zero => intro i; simp [listFrom]
  | succ d ih =>
    intro i
    unfold listFrom
    by_cases e : hasB p (i : Int) = true
    · rw [if_pos e]
      refine List.pairwise_cons.2 ⟨fun x hx => ?_, ih (i + 1)⟩
      obtain ⟨a, h1, h2, _⟩ := listFrom_mem p d (i + 1) x hx
      omega
    · rw [if_neg e]; exact ih (i + 1)
def clr (x : Int) (g : List Int) : Int := g.foldl clr1 x
theorem clr_rng (x : Int) (h0 : 0 ≤ x) (h1 : x < 65536) (g : List Int) : 0 ≤ clr x g ∧ clr x g < 65536 := by
  induction g generalizing x with
  | nil => exact ⟨h0, h1⟩
  | cons a g ih => exact ih (clr1 x a) (clr1_rng x a).1 (clr1_rng x a).2
theorem clr_snoc (x : Int) (g : List Int) (a : Int) : clr x (g ++ [a]) = clr1 (clr x g) a := by simp [clr]
theorem clr_keeps (x : Int) (h0 : 0 ≤ x) (g : List Int) (hg : ∀ y ∈ g, ∃ b : Nat, y = b ∧ b < 14) (a : Nat) (ha : a < 14) (hn : (a : Int) ∉ g) (hb : hasB x (a : Int) = true) : hasB (clr x g) (a : Int) = true := by
  induction g generalizing x with
  | nil => exact hb
  | cons y g ih =>
    obtain ⟨b, hy, hb2⟩ := hg y List.mem_cons_self
    refine ih (clr1 x y) (clr1_rng x y).1 (fun z hz => hg z (List.mem_cons_of_mem _ hz)) (fun h => hn (List.mem_cons_of_mem _ h)) ?_
    rw [hy, has_clr1 x h0 b a (by omega) (by omega), hb]
    have : b ≠ a := fun e => hn (by rw [hy, e]; exact List.mem_cons_self)
    simp [this]
theorem allB_facts : ∀ p : Nat, p < 15 → (0 ≤ allB (p : Int) ∧ allB (p : Int) < 65536) ∧ (listP (allB (p : Int))).length = p := by decide +kernel
theorem clr_count (p : Nat) (hp : p < 15) (m : Int) (hm : 0 ≤ m) (hs : Go.bits .andNot .u16 m (allB (p : Int)) = 0) : ∀ j : Nat, j ≤ (listP m).length → (listP (clr (allB (p : Int)) ((listP m).take j))).length + j = p := by
  intro j
  have hf := allB_facts p hp
  induction j with
  | zero => intro _; rw [List.take_zero]; exact hf.2
  | succ j ih =>
    intro hj
    have h := ih (by omega)
    rw [take_getD 0 (listP m) j (by omega), clr_snoc]
    have hmem : (listP m).getD j 0 ∈ listP m := by
      rw [List.getD_eq_getElem?_getD, List.getElem?_eq_getElem (by omega)]
      exact List.getElem_mem _
    obtain ⟨a, ha, _, ha2, ha3⟩ := listFrom_mem m 14 0 _ hmem
    have hall : hasB (allB (p : Int)) (a : Int) = true := by
      have := has_andNot m (allB (p : Int)) hm hf.1.1 a (by omega)
      rw [hs, ha3] at this
      have h0 : hasB 0 (a : Int) = false := by rw [hasB_iff 0 a (by omega)]; simp
      rw [h0] at this
      simpa using this
    have hnot : (a : Int) ∉ (listP m).take j := by
      intro hin
      obtain ⟨i, hi, he⟩ := List.mem_iff_getElem.1 hin
      rw [List.length_take] at hi
      rw [List.getElem_take] at he
      have hs := List.pairwise_iff_getElem.1 (listFrom_sorted m 14 0) i j (by show i < (listP m).length; omega) (by show j < (listP m).length; omega) (by omega)
      have e2 : (listP m).getD j 0 = (listP m)[j]'(by omega) := by
        rw [List.getD_eq_getElem?_getD, List.getElem?_eq_getElem (by omega)]; rfl
      have hs' : (listP m)[i]'(by omega) < (listP m)[j]'(by omega) := hs
      rw [he, ← e2, ha] at hs'
      omega
    have hk := clr_keeps (allB (p : Int)) hf.1.1 ((listP m).take j) (fun y hy => by
      obtain ⟨b, h1, _, h2, _⟩ := listFrom_mem m 14 0 y (List.mem_of_mem_take hy)
      exact ⟨b, h1, by omega⟩) a (by omega) hnot hall
    have hr := clr_rng (allB (p : Int)) hf.1.1 hf.1.2 ((listP m).take j)
    have := listP_clr _ hr.1 a (by omega) hk
    rw [ha]
    omega

def inC (l : List Int) : Bool := l.all (fun n => decide (0 ≤ n ∧ n ≤ 100))
def codeC (a : Int) (l : List Int) : Int :=
  if 1 ≤ a ∧ a ≤ 14 then if 1 ≤ (l.length : Int) ∧ (l.length : Int) ≤ 12 then if inC l = true then 0 else 2 else 3 else 2
theorem l05Counts_l0 (l : List Int) (hl : l.length ≤ 1048576) : ∀ (d i k : Nat), i + d = l.length → d < k → spec_l05Counts.l0 k l (i : Int) = some (if inC (l.drop i) = true then 0 else 2) := by
  intro d
  induction d with
  | zero =>
    intro i k hi hk
    obtain ⟨k, rfl⟩ : ∃ m, k = m + 1 := ⟨k - 1, by omega⟩
    simp only [spec_l05Counts.l0]
    rw [if_neg (by omega), List.drop_eq_nil_of_le (by omega)]
    simp [inC]
  | succ d ih =>
    intro i k hi hk
    obtain ⟨k, rfl⟩ : ∃ m, k = m + 1 := ⟨k - 1, by omega⟩
    simp only [spec_l05Counts.l0]
    rw [if_pos (by omega), if_pos (by omega), in_eq, Option.bind_some, drop_rd l i (by omega), wrap_nat i (by omega), ih (i + 1) k (by omega) (by omega)]
    by_cases h : 0 ≤ rd l (i : Int) ∧ rd l (i : Int) ≤ 100 <;> simp [inC, h]
theorem l05Counts_eq (a : Int) (l : List Int) (hl : l.length ≤ 1048576) (k : Nat) (hk : 1048576 < k) : spec_l05Counts.f k a l = some (codeC a l) := by
  unfold spec_l05Counts.f codeC
  have h := l05Counts_l0 l hl l.length 0 k (by omega) (by omega)
  rw [show ((0 : Nat) : Int) = 0 from rfl, List.drop_zero] at h
  rw [in_eq, in_eq, h]
  by_cases h1 : 1 ≤ a ∧ a ≤ 14 <;> by_cases h2 : 1 ≤ (l.length : Int) ∧ (l.length : Int) ≤ 12 <;> simp [h1, h2]
theorem countsFind_l0 (l : List Int) (hl : l.length ≤ 1048576) : ∀ (d i k : Nat), i + d = l.length → d < k → ∃ r : Int, slices_IndexFunc_Sint64_int64_at_countsCode_1.l0 k l (l.length : Int) (i : Int) = some r ∧ decide (r ≥ 0) = !inC (l.drop i) := by
  intro d
  induction d with
  | zero =>
    intro i k hi hk
    obtain ⟨k, rfl⟩ : ∃ m, k = m + 1 := ⟨k - 1, by omega⟩
    refine ⟨-1, ?_, ?_⟩
    · simp only [slices_IndexFunc_Sint64_int64_at_countsCode_1.l0]
      rw [if_neg (by omega)]
    · rw [List.drop_eq_nil_of_le (by omega)]; simp [inC]
  | succ d ih =>
    intro i k hi hk
    obtain ⟨k, rfl⟩ : ∃ m, k = m + 1 := ⟨k - 1, by omega⟩
    simp only [slices_IndexFunc_Sint64_int64_at_countsCode_1.l0, impl_countsCode_1.f]
    rw [if_pos (by omega), if_pos (by omega), if_pos (by omega), within_eq, Option.bind_some, Option.bind_some, drop_rd l i (by omega), wrap_nat i (by omega)]
    by_cases h : 0 ≤ rd l (i : Int) ∧ rd l (i : Int) ≤ 100
    · obtain ⟨r, h1, h2⟩ := ih (i + 1) k (by omega) (by omega)
      refine ⟨r, by rw [if_neg (by simp [h])]; exact h1, ?_⟩
      rw [h2]; simp [inC, h]
    · refine ⟨(i : Int), by rw [if_pos (by rw [decide_eq_false h]; rfl)], ?_⟩
      have h' : decide (0 ≤ rd l (i : Int) ∧ rd l (i : Int) ≤ 100) = false := decide_eq_false h
      simp only [inC, List.all_cons, h', Bool.false_and, Bool.not_false]
      exact decide_eq_true (by omega)
theorem countsCode_eq (a : Int) (l : List Int) (hl : l.length ≤ 1048576) (k : Nat) (hk : 1048576 < k) : impl_countsCode.f k a l = some (codeC a l) := by
  unfold impl_countsCode.f codeC impl_size_int64.f slices_ContainsFunc_Sint64_int64_at_countsCode_1.f slices_IndexFunc_Sint64_int64_at_countsCode_1.f impl_unless.f
  obtain ⟨r, h1, h2⟩ := countsFind_l0 l hl l.length 0 k (by omega) (by omega)
  rw [show ((0 : Nat) : Int) = 0 from rfl] at h1
  rw [List.drop_zero] at h2
  simp only [within_eq, Option.bind_some, h1, h2]
  by_cases g1 : 1 ≤ a ∧ a ≤ 14 <;> by_cases g2 : 1 ≤ (l.length : Int) ∧ (l.length : Int) ≤ 12 <;> by_cases g3 : inC l = true <;> simp [g1, g2, g3]
/-- Do the counts fall? -/
def falls (b : Int) : List Int → Bool
  | [] => true
  | n :: r => decide (n ≤ b) && falls n r
theorem l05Allow_l0 (l : List Int) (hl : l.length ≤ 1048576) : ∀ (d i k : Nat) (b : Int), i + d = l.length → d < k → spec_l05Allow.l0 k l b (i : Int) = some (falls b (l.drop i)) := by
  intro d
  induction d with
  | zero =>
    intro i k b hi hk
    obtain ⟨k, rfl⟩ : ∃ m, k = m + 1 := ⟨k - 1, by omega⟩
    simp only [spec_l05Allow.l0]
    rw [if_neg (by omega), List.drop_eq_nil_of_le (by omega)]
    simp [falls]
  | succ d ih =>
    intro i k b hi hk
    obtain ⟨k, rfl⟩ : ∃ m, k = m + 1 := ⟨k - 1, by omega⟩
    simp only [spec_l05Allow.l0]
    rw [if_pos (by omega), if_pos (by omega), drop_rd l i (by omega), wrap_nat i (by omega), ih (i + 1) k _ (by omega) (by omega)]
    by_cases h : rd l (i : Int) ≤ b
    · rw [if_neg (by omega)]; simp [falls, h]
    · rw [if_pos (by omega)]; simp [falls, h]
theorem l05Allow_eq (a : Int) (l : List Int) (hl : l.length ≤ 1048576) (k : Nat) (hk : 1048576 < k) : spec_l05Allow.f k a l = some (falls a l) := by
  unfold spec_l05Allow.f
  have := l05Allow_l0 l hl l.length 0 k a (by omega) (by omega)
  simpa using this

/-- In how many ways: the loop that both have. -/
def chooseF (p : Int) : Nat → Int → Int → Int
  | 0, out, _ => out
  | d + 1, out, i => chooseF p d (wrap64 (Int.tdiv (wrap64 (out * wrap64 (p - i))) (wrap64 (i + 1)))) (i + 1)
theorem ways_l1 (x10 : List Int) (p a n lenv : Int) (j : Nat) (hj : j < 4611686018427387904) (m : Int) (hm : m ≤ 1048576) : ∀ (d i k : Nat) (out : Int), (i : Int) + d = m → d < k → impl_ways.l1 k p a n out x10 lenv (j : Int) m (i : Int) = impl_ways.l0 (k - d - 1) n (wrap64 (a * chooseF p d out (i : Int))) x10 lenv ((j + 1 : Nat) : Int) := by
  intro d
  induction d with
  | zero =>
    intro i k out hi hk
    obtain ⟨k, rfl⟩ : ∃ m, k = m + 1 := ⟨k - 1, by omega⟩
    simp only [impl_ways.l1]
    rw [if_neg (by omega), wrap_nat j hj]
    rfl
  | succ d ih =>
    intro i k out hi hk
    obtain ⟨k, rfl⟩ : ∃ m, k = m + 1 := ⟨k - 1, by omega⟩
    simp only [impl_ways.l1]
    rw [if_pos (by omega), wrap_nat i (by omega), if_neg (by omega), ih (i + 1) k _ (by omega) (by omega)]
    simp only [chooseF]
    rw [wrap_nat i (by omega), show k + 1 - (d + 1) - 1 = k - d - 1 by omega]
    rfl
def waysS (p a : Int) : List Int → Int
  | [] => a
  | n :: r => waysS n (wrap64 (a * chooseF p n.toNat 1 0)) r
def waysI (p a : Int) : List Int → Int
  | [] => a
  | n :: r => waysI n (wrap64 (a * (if n ≤ p then chooseF p n.toNat 1 0 else 0))) r
theorem implWays_l0 (l : List Int) (hl : l.length ≤ 12) : ∀ (d i k : Nat) (p a : Int), i + d = l.length → 102 * d < k → inC (l.drop i) = true → impl_ways.l0 k p a l (l.length : Int) (i : Int) = some (waysI p a (l.drop i)) := by
  intro d
  induction d with
  | zero =>
    intro i k p a hi hk hc
    obtain ⟨k, rfl⟩ : ∃ m, k = m + 1 := ⟨k - 1, by omega⟩
    simp only [impl_ways.l0]
    rw [if_neg (by omega), List.drop_eq_nil_of_le (by omega)]
    rfl
  | succ d ih =>
    intro i k p a hi hk hc
    obtain ⟨k, rfl⟩ : ∃ m, k = m + 1 := ⟨k - 1, by omega⟩
    rw [drop_rd l i (by omega)] at hc ⊢
    simp only [inC, List.all_cons, Bool.and_eq_true, decide_eq_true_eq] at hc
    have hn0 := hc.1.1
    have hn1 := hc.1.2
    have hrest : inC (l.drop (i + 1)) = true := by simpa [inC] using hc.2
    simp only [impl_ways.l0, impl_bit.f]
    rw [if_pos (by omega), if_pos (by omega), if_pos (by omega)]
    simp only [waysI]
    by_cases h : rd l (i : Int) ≤ p
    · rw [decide_eq_true h, if_pos rfl, Option.bind_some, Int.mul_one, wrap64_id _ (by omega) (by omega), if_pos h]
      have := ways_l1 l p a (rd l (i : Int)) (l.length : Int) i (by omega) (rd l (i : Int)) (by omega) (rd l (i : Int)).toNat 0 k 1 (by omega) (by omega)
      rw [show ((0 : Nat) : Int) = 0 from rfl] at this
      rw [this]
      exact ih (i + 1) _ _ _ (by omega) (by omega) hrest
    · rw [decide_eq_false h, if_neg (by decide), Option.bind_some, Int.mul_zero, wrap64_id _ (by omega) (by omega), if_neg h]
      have := ways_l1 l p a (rd l (i : Int)) (l.length : Int) i (by omega) 0 (by omega) 0 0 k 0 (by omega) (by omega)
      rw [show ((0 : Nat) : Int) = 0 from rfl] at this
      rw [this]
      exact ih (i + 1) _ _ _ (by omega) (by omega) hrest
theorem waysI_zero : ∀ (r : List Int) (p : Int), waysI p 0 r = 0
  | [], _ => rfl
  | n :: r, p => by
    simp only [waysI, Int.zero_mul]
    rw [wrap64_id 0 (by decide) (by decide)]
    exact waysI_zero r n
theorem waysI_eq : ∀ (r : List Int) (p a : Int), waysI p a r = if falls p r = true then waysS p a r else 0
  | [], _, _ => by simp [waysI, waysS, falls]
  | n :: r, p, a => by
    simp only [waysI, waysS, falls]
    by_cases h : n ≤ p
    · rw [if_pos h, waysI_eq r]
      simp [h]
    · rw [if_neg h, Int.mul_zero]
      have : wrap64 0 = 0 := wrap64_id 0 (by decide) (by decide)
      rw [this, waysI_zero]
      simp [h]
theorem implWaysFor_eq (a : Int) (l : List Int) (hl : l.length ≤ 1048576) (k : Nat) (hk : 1048576 < k) : impl_WaysFor.f k a l = some (if codeC a l = 0 then ((if falls a l = true then waysS a 1 l else 0), 0) else (0, codeC a l)) := by
  unfold impl_WaysFor.f
  rw [countsCode_eq a l hl k hk]
  simp only [Option.bind_some]
  by_cases h : codeC a l = 0
  · rw [if_pos h, if_pos h]
    have hc : (l.length : Int) ≤ 12 ∧ inC l = true := by
      unfold codeC at h
      split at h
      · split at h
        · split at h
          · exact ⟨by omega, ‹_›⟩
          · omega
        · omega
      · omega
    have := implWays_l0 l (by omega) l.length 0 k a 1 (by omega) (by omega) (by simpa using hc.2)
    rw [show ((0 : Nat) : Int) = 0 from rfl, List.drop_zero, waysI_eq] at this
    unfold impl_ways.f
    rw [this, Option.bind_some]
  · rw [if_neg h, if_neg h]

def fac : Nat → Int
  | 0 => 1
  | n + 1 => (n + 1 : Nat) * fac n
theorem choose_small : ∀ p : Nat, p < 15 → ∀ n : Nat, n < 15 → n ≤ p → 1 ≤ chooseF (p : Int) n 1 0 ∧ chooseF (p : Int) n 1 0 * fac n ≤ fac p := by decide +kernel
theorem fac_pos : ∀ n : Nat, 1 ≤ fac n
  | 0 => by decide
  | n + 1 => by
    have h := fac_pos n
    have : (1 : Int) * 1 ≤ (n + 1 : Nat) * fac n := Int.mul_le_mul (by omega) h (by decide) (by omega)
    simpa [fac] using this
theorem ways_pos : ∀ (r : List Int) (p : Nat) (a : Int), p < 15 → 1 ≤ a → a * fac p ≤ 87178291200 → falls (p : Int) r = true → inC r = true → 0 < waysS (p : Int) a r
  | [], _, _, _, ha, _, _, _ => by simp only [waysS]; omega
  | n :: r, p, a, hp, ha, hb, hf, hc => by
    simp only [falls, Bool.and_eq_true, decide_eq_true_eq] at hf
    simp only [inC, List.all_cons, Bool.and_eq_true, decide_eq_true_eq] at hc
    obtain ⟨m, rfl⟩ := Int.eq_ofNat_of_zero_le hc.1.1
    have hm : m ≤ p := by omega
    obtain ⟨h1, h2⟩ := choose_small p hp m (by omega) hm
    simp only [waysS, Int.toNat_natCast]
    have f1 := fac_pos m
    have f2 := fac_pos p
    have e1 : a * chooseF (p : Int) m 1 0 * fac m ≤ a * fac p := by
      rw [Int.mul_assoc]
      exact Int.mul_le_mul_of_nonneg_left h2 (by omega)
    have e2 : 1 ≤ a * chooseF (p : Int) m 1 0 := by
      have : (1 : Int) * 1 ≤ a * chooseF (p : Int) m 1 0 := Int.mul_le_mul ha h1 (by decide) (by omega)
      omega
    have e3 : a * chooseF (p : Int) m 1 0 ≤ a * chooseF (p : Int) m 1 0 * fac m := by
      have := Int.mul_le_mul_of_nonneg_left f1 (show 0 ≤ a * chooseF (p : Int) m 1 0 by omega)
      omega
    rw [wrap64_id _ (by omega) (by omega)]
    exact ways_pos r m _ (by omega) e2 (by omega) hf.2 (by simpa [inC] using hc.2)
theorem ways_falls (a : Int) (l : List Int) (h : codeC a l = 0) : (0 < (if falls a l = true then waysS a 1 l else 0)) ↔ falls a l = true := by
  have hc : (1 ≤ a ∧ a ≤ 14) ∧ inC l = true := by
    unfold codeC at h
    split at h
    · split at h
      · split at h
        · exact ⟨‹_›, ‹_›⟩
        · omega
      · omega
    · omega
  by_cases g : falls a l = true
  · rw [if_pos g]
    refine ⟨fun _ => g, fun _ => ?_⟩
    obtain ⟨p, rfl⟩ := Int.eq_ofNat_of_zero_le (show 0 ≤ a by omega)
    have hb : 1 * fac p ≤ 87178291200 := by
      have : ∀ p : Nat, p < 15 → 1 * fac p ≤ 87178291200 := by decide
      exact this p (by omega)
    exact ways_pos l p 1 (by omega) (by decide) hb g hc.2
  · rw [if_neg g]
    exact ⟨fun z => absurd z (by decide), fun z => absurd z g⟩

theorem indices_l0 (p : Int) (h0 : 0 ≤ p) (h1 : p < 65536) : ∀ (d i k : Nat) (xs : List Int), i + d = 14 → d < k → xs.length ≤ i → impl_indices_at_ListPeople_1.l0 k xs 14 (i : Int) p = some (xs ++ listFrom p d i) := by
  intro d
  induction d with
  | zero =>
    intro i k xs hi hk hx
    obtain ⟨k, rfl⟩ : ∃ m, k = m + 1 := ⟨k - 1, by omega⟩
    simp only [impl_indices_at_ListPeople_1.l0]
    rw [if_neg (by omega)]
    simp [listFrom]
  | succ d ih =>
    intro i k xs hi hk hx
    obtain ⟨k, rfl⟩ : ∃ m, k = m + 1 := ⟨k - 1, by omega⟩
    simp only [impl_indices_at_ListPeople_1.l0, impl_ListPeople_1.f]
    have hh : hasP p (i : Int) = hasB p (i : Int) := by
      simp [hasP, (isP_iff (i : Int)).2 (by omega)]
    rw [if_pos (by omega), implHas_eq p i h0 h1, hh, Option.bind_some, Option.bind_some, wrap_nat i (by omega)]
    unfold listFrom
    by_cases h : hasB p (i : Int) = true
    · rw [if_pos h, if_pos (by omega), ih (i + 1) k _ (by omega) (by omega) (by simp; omega), if_pos h]
      simp
    · rw [if_neg h, ih (i + 1) k _ (by omega) (by omega) (by omega), if_neg h]
theorem ListPeople_eq (p : Int) (h0 : 0 ≤ p) (h1 : p < 65536) (k : Nat) (hk : 14 < k) : impl_ListPeople.f k p = some (listP p) := by
  unfold impl_ListPeople.f impl_indices_at_ListPeople_1.f
  have := indices_l0 p h0 h1 14 0 k [] (by omega) hk (by simp)
  rw [show ((0 : Nat) : Int) = 0 from rfl] at this
  rw [this]
  simp [listP]

def setF (p : Nat) (g : List Int) (n : Int) : Int := clr (allB (p : Int)) (g.take ((p : Int) - n).toNat)
theorem specP_l1 (p : Nat) (hp : p < 15) (m : Int) (hm : 0 ≤ m) (l : List Int) (out : List Int) (ho : out.length ≤ 1048576) (i : Nat) (hi : i < l.length) (hl : l.length ≤ 1048576) (hn : 0 ≤ rd l (i : Int) ∧ rd l (i : Int) ≤ 100) (hg : (p : Int) - rd l (i : Int) ≤ (listP m).length) (B : Nat) (R : Option (List Int × Int))
    (hR : ∀ k, B ≤ k → spec_FirstPossible.l0 k (p : Int) l (listP m) (out ++ [setF p (listP m) (rd l (i : Int))]) ((i + 1 : Nat) : Int) = R) :
    ∀ (d j k : Nat), j + d = ((p : Int) - rd l (i : Int)).toNat → B + d < k → spec_FirstPossible.l1 k (p : Int) l (listP m) out (i : Int) (clr (allB (p : Int)) ((listP m).take j)) (j : Int) = R := by
  intro d
  have hgl := listP_length m
  induction d with
  | zero =>
    intro j k hj hk
    obtain ⟨k, rfl⟩ : ∃ m, k = m + 1 := ⟨k - 1, by omega⟩
    simp only [spec_FirstPossible.l1]
    rw [if_pos (by omega), if_pos (by omega), wrap64_id _ (by omega) (by omega), if_neg (by omega), if_pos (by omega), wrap_nat i (by omega), show j = ((p : Int) - rd l (i : Int)).toNat by omega]
    exact hR k (by omega)
  | succ d ih =>
    intro j k hj hk
    obtain ⟨k, rfl⟩ : ∃ m, k = m + 1 := ⟨k - 1, by omega⟩
    have hjl : j < (listP m).length := by omega
    obtain ⟨a, ha, _, ha2, _⟩ := listFrom_mem m 14 0 (rd (listP m) (j : Int)) (by
      rw [rd_nat, List.getD_eq_getElem?_getD, List.getElem?_eq_getElem hjl]; exact List.getElem_mem _)
    have h := ih (j + 1) k (by omega) (by omega)
    rw [take_getD 0 (listP m) j hjl, clr_snoc, ← rd_nat] at h
    simp only [spec_FirstPossible.l1]
    rw [if_pos (by omega), if_pos (by omega), wrap64_id _ (by omega) (by omega), if_pos (by omega), if_pos (by omega), if_pos (by omega), wrap_u64_id (rd (listP m) (j : Int)) (by omega) (by omega), if_pos (by omega), wrap_nat j (by omega)]
    exact h
theorem implP_l1 (p : Nat) (hp : p < 15) (m : Int) (hm : 0 ≤ m) (hs : Go.bits .andNot .u16 m (allB (p : Int)) = 0) (l : List Int) (out : List Int) (ho : out.length ≤ 1048576) (i : Nat) (hl : l.length ≤ 1048576) (hi : i < l.length) (n : Int) (hn : 0 ≤ n ∧ n ≤ 100) (hg : (p : Int) - n ≤ (listP m).length) (B : Nat) (R : Option (List Int × Int))
    (hR : ∀ k, B ≤ k → impl_FirstPossible.l0 k (out ++ [setF p (listP m) n]) (setF p (listP m) n) ((listP m).drop ((p : Int) - n).toNat) l (l.length : Int) ((i + 1 : Nat) : Int) = R) :
    ∀ (d j k : Nat), j + d = ((p : Int) - n).toNat → (j : Int) ≤ (p : Int) - n → B + d < k → impl_FirstPossible.l1 k out (clr (allB (p : Int)) ((listP m).take j)) ((listP m).drop j) n l (l.length : Int) (i : Int) = R := by
  intro d
  have hgl := listP_length m
  have hf := allB_facts p hp
  induction d with
  | zero =>
    intro j k hj hq hk
    obtain ⟨k, rfl⟩ : ∃ m, k = m + 1 := ⟨k - 1, by omega⟩
    have hr := clr_rng (allB (p : Int)) hf.1.1 hf.1.2 ((listP m).take j)
    have hc := clr_count p hp m hm hs j (by omega)
    simp only [impl_FirstPossible.l1]
    rw [implCount_eq _ hr.1 hr.2, Option.bind_some, if_neg (by omega), if_pos (by omega), wrap_nat i (by omega), show j = ((p : Int) - n).toNat by omega]
    exact hR k (by omega)
  | succ d ih =>
    intro j k hj hq hk
    obtain ⟨k, rfl⟩ : ∃ m, k = m + 1 := ⟨k - 1, by omega⟩
    have hjl : j < (listP m).length := by omega
    have hr := clr_rng (allB (p : Int)) hf.1.1 hf.1.2 ((listP m).take j)
    have hc := clr_count p hp m hm hs j (by omega)
    obtain ⟨a, ha, _, ha2, _⟩ := listFrom_mem m 14 0 (rd (listP m) (j : Int)) (by
      rw [rd_nat, List.getD_eq_getElem?_getD, List.getElem?_eq_getElem hjl]; exact List.getElem_mem _)
    have h := ih (j + 1) k (by omega) (by omega) (by omega)
    rw [take_getD 0 (listP m) j hjl, clr_snoc, ← rd_nat] at h
    have h0 : rd ((listP m).drop j) 0 = rd (listP m) (j : Int) := by
      rw [drop_rd (listP m) j hjl]; rfl
    simp only [impl_FirstPossible.l1]
    rw [implCount_eq _ hr.1 hr.2, Option.bind_some, if_pos (by omega), if_pos (by rw [List.length_drop]; omega), h0, if_pos (by omega), if_pos (by rw [List.length_drop]; omega), show ((1 : Int).toNat) = 1 from rfl, List.drop_drop]
    exact h
theorem specP_l0 (p : Nat) (hp : p < 15) (m : Int) (hm : 0 ≤ m) (l : List Int) (hl : l.length ≤ 12) (hn : ∀ n ∈ l, (0 ≤ n ∧ n ≤ 100) ∧ (p : Int) - n ≤ (listP m).length ∧ n ≤ p) :
    ∀ (d i k : Nat) (out : List Int), i + d = l.length → 20 * d < k → out.length ≤ i → spec_FirstPossible.l0 k (p : Int) l (listP m) out (i : Int) = some (out ++ (l.drop i).map (setF p (listP m)), 0) := by
  intro d
  have hgl := listP_length m
  induction d with
  | zero =>
    intro i k out hi hk ho
    obtain ⟨k, rfl⟩ : ∃ m, k = m + 1 := ⟨k - 1, by omega⟩
    simp only [spec_FirstPossible.l0]
    rw [if_neg (by omega), List.drop_eq_nil_of_le (by omega)]
    simp
  | succ d ih =>
    intro i k out hi hk ho
    obtain ⟨k, rfl⟩ : ∃ m, k = m + 1 := ⟨k - 1, by omega⟩
    have hmem : rd l (i : Int) ∈ l := by
      rw [rd_nat, List.getD_eq_getElem?_getD, List.getElem?_eq_getElem (by omega)]; exact List.getElem_mem _
    obtain ⟨hn1, hn2, hn3⟩ := hn _ hmem
    have := specP_l1 p hp m hm l out (by omega) i (by omega) (by omega) hn1 hn2 (20 * d + 1) _ (fun k hk => ih (i + 1) k (out ++ [setF p (listP m) (rd l (i : Int))]) (by omega) (by omega) (by simp; omega)) ((p : Int) - rd l (i : Int)).toNat 0 k (by omega) (by omega)
    rw [List.take_zero] at this
    simp only [spec_FirstPossible.l0]
    rw [if_pos (by omega), l05All_eq (p : Int) (by omega) (by omega), Option.bind_some]
    refine Eq.trans this ?_
    rw [drop_rd l i (by omega)]
    simp
theorem implP_l0 (p : Nat) (hp : p < 15) (m : Int) (hm : 0 ≤ m) (hs : Go.bits .andNot .u16 m (allB (p : Int)) = 0) (l : List Int) (hl : l.length ≤ 12) (hn : ∀ n ∈ l, (0 ≤ n ∧ n ≤ 100) ∧ (p : Int) - n ≤ (listP m).length ∧ n ≤ p) :
    ∀ (d i j k : Nat) (out : List Int), i + d = l.length → 20 * d < k → out.length ≤ i → falls ((p : Int) - j) (l.drop i) = true → j ≤ (listP m).length →
    impl_FirstPossible.l0 k out (clr (allB (p : Int)) ((listP m).take j)) ((listP m).drop j) l (l.length : Int) (i : Int) = some (out ++ (l.drop i).map (setF p (listP m)), 0) := by
  intro d
  have hgl := listP_length m
  induction d with
  | zero =>
    intro i j k out hi hk ho hfl hj
    obtain ⟨k, rfl⟩ : ∃ m, k = m + 1 := ⟨k - 1, by omega⟩
    simp only [impl_FirstPossible.l0]
    rw [if_neg (by omega), List.drop_eq_nil_of_le (by omega)]
    simp
  | succ d ih =>
    intro i j k out hi hk ho hfl hj
    obtain ⟨k, rfl⟩ : ∃ m, k = m + 1 := ⟨k - 1, by omega⟩
    have hmem : rd l (i : Int) ∈ l := by
      rw [rd_nat, List.getD_eq_getElem?_getD, List.getElem?_eq_getElem (by omega)]; exact List.getElem_mem _
    obtain ⟨hn1, hn2, hn3⟩ := hn _ hmem
    rw [drop_rd l i (by omega)] at hfl
    simp only [falls, Bool.and_eq_true, decide_eq_true_eq] at hfl
    have := implP_l1 p hp m hm hs l out (by omega) i (by omega) (by omega) (rd l (i : Int)) hn1 hn2 (20 * d + 1) _ (fun k hk => ih (i + 1) ((p : Int) - rd l (i : Int)).toNat k (out ++ [setF p (listP m) (rd l (i : Int))]) (by omega) (by omega) (by simp; omega) (by
      rw [show (p : Int) - (((p : Int) - rd l (i : Int)).toNat : Int) = rd l (i : Int) by omega]; exact hfl.2) (by omega)) (((p : Int) - rd l (i : Int)).toNat - j) j k (by omega) (by omega) (by omega)
    simp only [impl_FirstPossible.l0]
    rw [if_pos (by omega), if_pos (by omega), if_pos (by omega)]
    refine Eq.trans this ?_
    rw [drop_rd l i (by omega)]
    simp
theorem falls_le : ∀ (l : List Int) (b : Int), falls b l = true → ∀ n ∈ l, n ≤ b
  | [], _, _, n, h => by simp at h
  | x :: r, b, hf, n, h => by
    simp only [falls, Bool.and_eq_true, decide_eq_true_eq] at hf
    rcases List.mem_cons.1 h with e | e
    · omega
    · have := falls_le r x hf.2 n e; omega
theorem falls_last : ∀ (l : List Int) (b : Int) (h : l ≠ []), falls b l = true → ∀ n ∈ l, l.getLast h ≤ n
  | [x], _, _, _, n, h => by simp at h; simp [h]
  | x :: y :: r, b, _, hf, n, h => by
    simp only [falls, Bool.and_eq_true, decide_eq_true_eq] at hf
    have hl : (x :: y :: r).getLast (by simp) = (y :: r).getLast (by simp) := List.getLast_cons (by simp)
    have hf2 : falls x (y :: r) = true := by simp only [falls, Bool.and_eq_true, decide_eq_true_eq]; exact hf.2
    rw [hl]
    rcases List.mem_cons.1 h with e | e
    · have h1 := falls_last (y :: r) x (by simp) hf2 y List.mem_cons_self
      omega
    · exact falls_last (y :: r) x (by simp) hf2 n e
theorem codeC_facts (a : Int) (l : List Int) (h : codeC a l = 0) : (1 ≤ a ∧ a ≤ 14) ∧ (1 ≤ (l.length : Int) ∧ (l.length : Int) ≤ 12) ∧ inC l = true := by
  unfold codeC at h
  split at h
  · split at h
    · split at h
      · exact ⟨‹_›, ‹_›, ‹_›⟩
      · omega
    · omega
  · omega
theorem implWays_eq (a : Int) (l : List Int) (h : codeC a l = 0) (k : Nat) (hk : 1048576 < k) : impl_ways.f k a l = some (if falls a l = true then waysS a 1 l else 0) := by
  have hc := codeC_facts a l h
  have := implWays_l0 l (by omega) l.length 0 k a 1 (by omega) (by omega) (by simpa using hc.2.2)
  rw [show ((0 : Nat) : Int) = 0 from rfl, List.drop_zero, waysI_eq] at this
  unfold impl_ways.f
  exact this
def finR (p : Int) (l : List Int) (m : Int) : List Int × Int :=
  if codeC p l = 0 then
    if Go.bits .andNot .u16 m (allB p) = 0 then
      if falls p l = true ∧ ((listP m).length : Int) = p - rd l ((l.length : Int) - 1) then (l.map (setF p.toNat (listP m)), 0) else ([], 4)
    else ([], 2)
  else ([], codeC p l)
theorem facts_of (p : Int) (l : List Int) (m : Int) (h : codeC p l = 0) (hf : falls p l = true) (hg : ((listP m).length : Int) = p - rd l ((l.length : Int) - 1)) : ∀ n ∈ l, (0 ≤ n ∧ n ≤ 100) ∧ p - n ≤ (listP m).length ∧ n ≤ p := by
  intro n hn
  have hc := codeC_facts p l h
  have hne : l ≠ [] := fun e => by rw [e] at hc; simp at hc
  have hlast : rd l ((l.length : Int) - 1) = l.getLast hne := by
    rw [show (l.length : Int) - 1 = ((l.length - 1 : Nat) : Int) by omega, rd_nat, List.getLast_eq_getElem, List.getD_eq_getElem?_getD, List.getElem?_eq_getElem (by omega)]
    rfl
  have h1 := falls_le l p hf n hn
  have h2 := falls_last l p hne hf n hn
  have h3 := List.all_eq_true.1 hc.2.2 n hn
  simp only [decide_eq_true_eq] at h3
  exact ⟨h3, by omega, h1⟩
theorem specPoss_eq (p : Int) (l : List Int) (m : Int) (hm : 0 ≤ m ∧ m < 65536) (hl : l.length ≤ 1048576) (hb : ∀ n ∈ l, -9223372036854775808 ≤ n ∧ n ≤ 9223372036854775807) (k : Nat) (hk : 1048700 < k) : spec_FirstPossible.f k p l m = some (finR p l m) := by
  obtain ⟨k, rfl⟩ : ∃ m, k = m + 4 := ⟨k - 4, by omega⟩
  unfold spec_FirstPossible.f finR
  rw [l05Counts_eq p l hl _ (by omega), Option.bind_some]
  by_cases h : codeC p l = 0
  · have hc := codeC_facts p l h
    rw [if_pos h, if_pos h, l05All_eq p (by omega) (by omega), Option.bind_some]
    by_cases g : Go.bits .andNot .u16 m (allB p) = 0
    · rw [if_pos g, h, show (Go.bits .andNot .u16 m (allB p) != 0) = false by simp [g]]
      simp only [spec_FirstPossible.j0, spec_FirstPossible.j1]
      rw [if_neg (by decide), l05List_eq m hm.1 hm.2 _ (by omega), Option.bind_some, if_pos trivial, l05Allow_eq p l hl _ (by omega), Option.bind_some]
      have hrd : 0 ≤ rd l ((l.length : Int) - 1) ∧ rd l ((l.length : Int) - 1) ≤ 100 := by
        rw [show (l.length : Int) - 1 = ((l.length - 1 : Nat) : Int) by omega, rd_nat, List.getD_eq_getElem?_getD, List.getElem?_eq_getElem (by omega)]
        have := List.all_eq_true.1 hc.2.2 _ (List.getElem_mem (l := l) (n := l.length - 1) (by omega))
        simpa using this
      by_cases f : falls p l = true
      · rw [if_pos f, wrap64_id ((l.length : Int) - 1) (by omega) (by omega), if_pos (by omega), if_pos (by omega), wrap64_id _ (by omega) (by omega)]
        simp only [spec_FirstPossible.j2]
        by_cases e : ((listP m).length : Int) = p - rd l ((l.length : Int) - 1)
        · rw [if_neg (by simp [e]), if_pos ⟨f, e⟩]
          simp only [spec_FirstPossible.j3]
          rw [if_pos trivial]
          obtain ⟨q, rfl⟩ := Int.eq_ofNat_of_zero_le (show 0 ≤ p by omega)
          have := specP_l0 q (by omega) m hm.1 l (by omega) (facts_of _ l m h f e) l.length 0 k [] (by omega) (by omega) (by simp)
          rw [show ((0 : Nat) : Int) = 0 from rfl] at this
          rw [this]; simp
        · rw [if_pos (by simpa using e), if_neg (fun z => e z.2)]
          simp only [spec_FirstPossible.j3]
          rw [if_neg (by decide)]
      · rw [if_neg f, if_neg (fun z => f z.1)]
        simp only [spec_FirstPossible.j2, spec_FirstPossible.j3]
        rw [if_pos trivial, if_neg (by decide)]
    · rw [if_neg g, show (Go.bits .andNot .u16 m (allB p) != 0) = true by simp [g]]
      simp only [spec_FirstPossible.j0, spec_FirstPossible.j1, spec_FirstPossible.j2, spec_FirstPossible.j3]
      rw [if_pos trivial, l05List_eq m hm.1 hm.2 _ (by omega), Option.bind_some, if_neg (by decide), if_neg (by decide), if_neg (by decide)]
  · rw [if_neg h, if_neg h]
    simp only [spec_FirstPossible.j0, spec_FirstPossible.j1, spec_FirstPossible.j2, spec_FirstPossible.j3]
    rw [if_neg (by decide), l05List_eq m hm.1 hm.2 _ (by omega), Option.bind_some, if_neg h, if_neg (by decide), if_neg h]
theorem implPoss_eq (p : Int) (l : List Int) (m : Int) (hm : 0 ≤ m ∧ m < 65536) (hl : l.length ≤ 1048576) (k : Nat) (hk : 1048700 < k) : impl_FirstPossible.f k p l m = some (finR p l m) := by
  unfold impl_FirstPossible.f finR
  rw [countsCode_eq p l hl _ (by omega), Option.bind_some]
  by_cases h : codeC p l = 0
  · have hc := codeC_facts p l h
    rw [if_pos h, if_pos h, everybody_eq p (by omega), Option.bind_some]
    by_cases g : Go.bits .andNot .u16 m (allB p) = 0
    · rw [if_pos g, if_pos g, implWays_eq p l h k (by omega), Option.bind_some]
      have hrd : 0 ≤ rd l ((l.length : Int) - 1) ∧ rd l ((l.length : Int) - 1) ≤ 100 := by
        rw [show (l.length : Int) - 1 = ((l.length - 1 : Nat) : Int) by omega, rd_nat, List.getD_eq_getElem?_getD, List.getElem?_eq_getElem (by omega)]
        have := List.all_eq_true.1 hc.2.2 _ (List.getElem_mem (l := l) (n := l.length - 1) (by omega))
        simpa using this
      have hw := ways_falls p l h
      by_cases f : falls p l = true
      · have h0 := hw.2 f
        rw [if_pos f] at h0
        rw [if_pos f, if_neg (by omega), implCount_eq m hm.1 hm.2, Option.bind_some, wrap64_id ((l.length : Int) - 1) (by omega) (by omega), if_pos (by omega), if_pos (by omega), wrap64_id _ (by omega) (by omega)]
        by_cases e : ((listP m).length : Int) = p - rd l ((l.length : Int) - 1)
        · rw [if_pos e, if_pos ⟨f, e⟩, Option.bind_some, ListPeople_eq m hm.1 hm.2 k (by omega), Option.bind_some]
          obtain ⟨q, rfl⟩ := Int.eq_ofNat_of_zero_le (show 0 ≤ p by omega)
          have := implP_l0 q (by omega) m hm.1 g l (by omega) (facts_of _ l m h f e) l.length 0 0 k [] (by omega) (by omega) (by simp) (by simpa using f) (by omega)
          rw [show ((0 : Nat) : Int) = 0 from rfl, List.take_zero, List.drop_zero] at this
          refine Eq.trans this ?_
          simp
        · rw [if_neg e, if_neg (fun z => e z.2)]
      · rw [if_neg f, if_pos rfl, if_neg (fun z => f z.1)]
    · rw [if_neg g, if_neg g]
  · rw [if_neg h, if_neg h]
theorem poss_len (p : Int) (l : List Int) (m : Int) : (finR p l m).1.length ≤ 12 := by
  unfold finR
  by_cases h : codeC p l = 0
  · have hc := codeC_facts p l h
    rw [if_pos h]
    split
    · split
      · simp; omega
      · simp
    · simp
  · rw [if_neg h]; simp

def bad (l : List Int) : Bool := l.any (fun n => !isP n)
def join (l : List Int) (p : Int) : Int := l.foldl (fun p n => Go.bits .or .u16 p (shl .u16 1 n)) p
theorem peopleSpec_l0 (l : List Int) (hl : l.length ≤ 1048576) : ∀ (d i k : Nat) (p : Int), i + d = l.length → d < k → spec_PeopleOf.l0 k l p (i : Int) = some (if bad (l.drop i) = true then (0, 2) else (join (l.drop i) p, 0)) := by
  intro d
  induction d with
  | zero =>
    intro i k p hi hk
    obtain ⟨k, rfl⟩ : ∃ m, k = m + 1 := ⟨k - 1, by omega⟩
    simp only [spec_PeopleOf.l0]
    rw [if_neg (by omega), List.drop_eq_nil_of_le (by omega)]
    simp [bad, join]
  | succ d ih =>
    intro i k p hi hk
    obtain ⟨k, rfl⟩ : ∃ m, k = m + 1 := ⟨k - 1, by omega⟩
    simp only [spec_PeopleOf.l0]
    rw [if_pos (by omega), if_pos (by omega), l05Person_eq, Option.bind_some, drop_rd l i (by omega)]
    by_cases h : isP (rd l (i : Int)) = true
    · have hr := (isP_iff _).1 h
      have hw := wrap_u64_id (rd l (i : Int)) (by omega) (by omega)
      rw [if_pos h, hw, if_pos (by omega), wrap_nat i (by omega), ih (i + 1) k _ (by omega) (by omega)]
      simp [bad, join, h]
    · rw [if_neg h]
      simp [bad, h]

def wrongF : List Int → List Int → Nat → List Int
  | a :: s, b :: c, i => if wrap64 b = ((listP a).length : Int) then wrongF s c (i + 1) else (i : Int) :: wrongF s c (i + 1)
  | _, _, _ => []
theorem mem_rd (s : List Int) (i : Nat) (h : i < s.length) : rd s (i : Int) ∈ s := by
  rw [rd_nat, List.getD_eq_getElem?_getD, List.getElem?_eq_getElem h]
  exact List.getElem_mem _
theorem implWrong_l0 (p : Int) (s c : List Int) (hl : s.length ≤ 1048576) (hc : s.length = c.length) (hw : ∀ x ∈ s, 0 ≤ x ∧ x < 65536) : ∀ (d i k : Nat) (xs : List Int), i + d = s.length → d < k → xs.length ≤ i → impl_indices_at_wrong_1.l0 k xs (s.length : Int) (i : Int) p s c = some (xs ++ wrongF (s.drop i) (c.drop i) i) := by
  intro d
  induction d with
  | zero =>
    intro i k xs hi hk hx
    obtain ⟨k, rfl⟩ : ∃ m, k = m + 1 := ⟨k - 1, by omega⟩
    simp only [impl_indices_at_wrong_1.l0]
    rw [if_neg (by omega), List.drop_eq_nil_of_le (by omega)]
    simp [wrongF]
  | succ d ih =>
    intro i k xs hi hk hx
    obtain ⟨k, rfl⟩ : ∃ m, k = m + 1 := ⟨k - 1, by omega⟩
    have hb := hw _ (mem_rd s i (by omega))
    simp only [impl_indices_at_wrong_1.l0, impl_Log_wrong_1.f]
    rw [if_pos (by omega), if_pos (by omega), if_pos (by omega), if_pos (by omega), implCount_eq _ hb.1 hb.2, Option.bind_some, Option.bind_some, wrap_nat i (by omega), drop_rd s i (by omega), drop_rd c i (by omega)]
    simp only [wrongF]
    by_cases e : wrap64 (rd c (i : Int)) = ((listP (rd s (i : Int))).length : Int)
    · rw [if_pos e, if_neg (by simp [e]), ih (i + 1) k xs (by omega) (by omega) (by omega)]
    · rw [if_neg e, if_pos (by simp [e]), if_pos (by omega), ih (i + 1) k _ (by omega) (by omega) (by simp; omega)]
      simp
theorem l05Choose_l0 (p n : Int) (hn : n ≤ 1048576) : ∀ (d i k : Nat) (out : Int), (i : Int) + d = n → d < k → spec_l05Choose.l0 k p n out (i : Int) = some (chooseF p d out (i : Int)) := by
  intro d
  induction d with
  | zero =>
    intro i k out hi hk
    obtain ⟨k, rfl⟩ : ∃ m, k = m + 1 := ⟨k - 1, by omega⟩
    simp only [spec_l05Choose.l0]
    rw [if_neg (by omega)]
    rfl
  | succ d ih =>
    intro i k out hi hk
    obtain ⟨k, rfl⟩ : ∃ m, k = m + 1 := ⟨k - 1, by omega⟩
    simp only [spec_l05Choose.l0]
    rw [if_pos (by omega), wrap_nat i (by omega), if_neg (by omega), ih (i + 1) k _ (by omega) (by omega)]
    simp only [chooseF]
    rw [wrap_nat i (by omega)]
    rfl
theorem l05Choose_eq (p n : Int) (h0 : 0 ≤ n) (hn : n ≤ 100) (k : Nat) (hk : 100 < k) : spec_l05Choose.f k p n = some (chooseF p n.toNat 1 0) := by
  unfold spec_l05Choose.f
  exact l05Choose_l0 p n (by omega) n.toNat 0 k 1 (by omega) (by omega)
theorem specWays_l0 (l : List Int) (hl : l.length ≤ 12) : ∀ (d i k : Nat) (p a : Int), i + d = l.length → d + 100 < k → inC (l.drop i) = true → spec_WaysFor.l0 k l a p (i : Int) = some (waysS p a (l.drop i), 0) := by
  intro d
  induction d with
  | zero =>
    intro i k p a hi hk hc
    obtain ⟨k, rfl⟩ : ∃ m, k = m + 1 := ⟨k - 1, by omega⟩
    simp only [spec_WaysFor.l0]
    rw [if_neg (by omega), List.drop_eq_nil_of_le (by omega)]
    rfl
  | succ d ih =>
    intro i k p a hi hk hc
    obtain ⟨k, rfl⟩ : ∃ m, k = m + 1 := ⟨k - 1, by omega⟩
    rw [drop_rd l i (by omega)] at hc ⊢
    simp only [inC, List.all_cons, Bool.and_eq_true, decide_eq_true_eq] at hc
    simp only [spec_WaysFor.l0]
    rw [if_pos (by omega), if_pos (by omega), l05Choose_eq p _ hc.1.1 hc.1.2 k (by omega), Option.bind_some, wrap_nat i (by omega), ih (i + 1) k _ _ (by omega) (by omega) (by simpa [inC] using hc.2)]
    rfl
theorem specWaysFor_eq (a : Int) (l : List Int) (hl : l.length ≤ 1048576) (k : Nat) (hk : 1048576 < k) : spec_WaysFor.f k a l = some (if codeC a l = 0 then ((if falls a l = true then waysS a 1 l else 0), 0) else (0, codeC a l)) := by
  unfold spec_WaysFor.f
  rw [l05Counts_eq a l hl k hk, l05Allow_eq a l hl k hk]
  simp only [Option.bind_some]
  by_cases h : codeC a l = 0
  · rw [if_pos h, if_pos h]
    have hc : (l.length : Int) ≤ 12 ∧ inC l = true := by
      unfold codeC at h
      split at h
      · split at h
        · split at h
          · exact ⟨by omega, ‹_›⟩
          · omega
        · omega
      · omega
    by_cases g : falls a l = true
    · rw [if_pos g, if_pos g]
      have := specWays_l0 l (by omega) l.length 0 k a 1 (by omega) (by omega) (by simpa using hc.2)
      simpa using this
    · rw [if_neg g, if_neg g]
  · rw [if_neg h, if_neg h]

theorem a2At_eq (l : List Int) (hl : l.length ≤ 3000) (hb : ∀ x ∈ l, (Lit.int .u8 x).wf = true) (i : Nat) (m : Int) (h1 : 1 ≤ m) (h2 : m ≤ 100) : ∃ v, laws_a2At.f l (i : Int) m = some v ∧ 0 ≤ v ∧ v ≤ m - 1 := by
  unfold laws_a2At.f
  by_cases c : (i : Int) ≥ (l.length : Int)
  · rw [if_pos c]
    exact ⟨0, rfl, by omega, by omega⟩
  · have hr := wf_u8 (hb _ (mem_rd l i (by omega)))
    rw [if_neg c, if_neg (by omega), if_pos (by omega), if_pos (by omega), if_neg (by omega), wrap64_id _ (by omega) (by omega), Int.tmod_eq_emod_of_nonneg (by omega)]
    exact ⟨_, rfl, Int.emod_nonneg _ (by omega), by have := Int.emod_lt_of_pos (rd l (i : Int)) (show 0 < m by omega); omega⟩
def lst (p g : Nat) : List Int := (List.range g).map (fun (j : Nat) => (p : Int) - 1 - (j : Int))
def maskG (p g : Nat) : Int := join (lst p g) 0
def st (p g : Nat) (n : Int) : Int := setF p (listP (maskG p g)) n
theorem fin0 : ∀ p : Nat, p < 9 → ∀ g : Nat, g < 9 → g ≤ p → bad (lst p g) = false ∧ (0 ≤ maskG p g ∧ maskG p g < 65536) ∧ Go.bits .andNot .u16 (maskG p g) (allB (p : Int)) = 0 ∧ (listP (maskG p g)).length = g ∧ st p g (p : Int) = allB (p : Int) := by decide +kernel
def chk1 : Bool := (List.range 9).all fun p => (List.range 9).all fun g => (List.range 9).all fun n => !(decide (g ≤ p) && decide (n ≤ p) && decide (p ≤ n + g)) || (decide (0 ≤ st p g (n : Int)) && decide (st p g (n : Int) < 65536) && decide ((listP (st p g (n : Int))).length = n))
theorem chk1_true : chk1 = true := by decide +kernel
theorem fin1 (p : Nat) (hp : p < 9) (g : Nat) (hg : g < 9) (n : Nat) (hn : n < 9) (h : g ≤ p ∧ n ≤ p ∧ p ≤ n + g) : (0 ≤ st p g (n : Int) ∧ st p g (n : Int) < 65536) ∧ (listP (st p g (n : Int))).length = n := by
  have := List.all_eq_true.1 (List.all_eq_true.1 (List.all_eq_true.1 chk1_true p (List.mem_range.2 hp)) g (List.mem_range.2 hg)) n (List.mem_range.2 hn)
  simpa [h.1, h.2.1, h.2.2] using this
def chk2 : Bool := (List.range 9).all fun p => (List.range 9).all fun g => (List.range 9).all fun a => (List.range 9).all fun b => !(decide (g ≤ p) && decide (a ≤ p) && decide (b ≤ a) && decide (p ≤ b + g)) || (decide (Go.bits .andNot .u16 (st p g (b : Int)) (st p g (a : Int)) = 0) && decide ((listP (Go.bits .andNot .u16 (st p g (a : Int)) (st p g (b : Int)))).length + b = a))
theorem chk2_true : chk2 = true := by decide +kernel
theorem fin2 (p : Nat) (hp : p < 9) (g : Nat) (hg : g < 9) (a : Nat) (ha : a < 9) (b : Nat) (hb : b < 9) (h : g ≤ p ∧ a ≤ p ∧ b ≤ a ∧ p ≤ b + g) : Go.bits .andNot .u16 (st p g (b : Int)) (st p g (a : Int)) = 0 ∧ (listP (Go.bits .andNot .u16 (st p g (a : Int)) (st p g (b : Int)))).length + b = a := by
  have := List.all_eq_true.1 (List.all_eq_true.1 (List.all_eq_true.1 (List.all_eq_true.1 chk2_true p (List.mem_range.2 hp)) g (List.mem_range.2 hg)) a (List.mem_range.2 ha)) b (List.mem_range.2 hb)
  simpa [h.1, h.2.1, h.2.2.1, h.2.2.2] using this
def inR (p g : Nat) (n : Int) : Prop := (p : Int) - g ≤ n ∧ 0 ≤ n ∧ n ≤ p
theorem f1 (p g : Nat) (hp : p < 9) (hg : g ≤ p) (n : Int) (h : inR p g n) : (0 ≤ st p g n ∧ st p g n < 65536) ∧ ((listP (st p g n)).length : Int) = n := by
  obtain ⟨q, rfl⟩ := Int.eq_ofNat_of_zero_le h.2.1
  have h1 := h.1
  have h2 := h.2.2
  have := fin1 p hp g (by omega) q (by omega) ⟨hg, by omega, by omega⟩
  exact ⟨this.1, by rw [this.2]⟩
theorem f2 (p g : Nat) (hp : p < 9) (hg : g ≤ p) (a b : Int) (ha : inR p g a) (hb : inR p g b) (h : b ≤ a) : Go.bits .andNot .u16 (st p g b) (st p g a) = 0 ∧ ((listP (Go.bits .andNot .u16 (st p g a) (st p g b))).length : Int) = a - b := by
  obtain ⟨q, rfl⟩ := Int.eq_ofNat_of_zero_le ha.2.1
  obtain ⟨r, rfl⟩ := Int.eq_ofNat_of_zero_le hb.2.1
  have h1 := ha.2.2
  have h2 := hb.1
  have := fin2 p hp g (by omega) q (by omega) r (by omega) ⟨hg, by omega, by omega, by omega⟩
  exact ⟨this.1, by omega⟩
theorem okFrom_st (p g : Nat) (hp : p < 9) (hg : g ≤ p) : ∀ (r : List Int) (a : Int), inR p g a → (∀ n ∈ r, inR p g n) → falls a r = true → okFrom (st p g a) (r.map (st p g)) r = true
  | [], _, _, _, _ => rfl
  | n :: r, a, ha, hr, hf => by
    have hn := hr n List.mem_cons_self
    simp only [falls, Bool.and_eq_true, decide_eq_true_eq] at hf
    have ih := okFrom_st p g hp hg r n hn (fun x hx => hr x (List.mem_cons_of_mem _ hx)) hf.2
    have h2 := (f2 p g hp hg a n ha hn (by omega)).1
    have h3 := hn.2
    simp only [List.map_cons, okFrom, Bool.and_eq_true, decide_eq_true_eq]
    refine ⟨⟨h2, ?_⟩, ih⟩
    unfold cntOk
    rw [wrap64_id n (by omega) (by omega)]
    simp only [decide_eq_true_eq]
    omega
theorem wrong_st (p g : Nat) (hp : p < 9) (hg : g ≤ p) : ∀ (r : List Int) (i : Nat), (∀ n ∈ r, inR p g n) → wrongF (r.map (st p g)) r i = []
  | [], _, _ => rfl
  | n :: r, i, hr => by
    have hn := hr n List.mem_cons_self
    have h3 := hn.2
    simp only [List.map_cons, wrongF]
    rw [wrap64_id n (by omega) (by omega), if_pos (f1 p g hp hg n hn).2.symm]
    exact wrong_st p g hp hg r (i + 1) (fun x hx => hr x (List.mem_cons_of_mem _ hx))
theorem falls_rd : ∀ (l : List Int) (b : Int), falls b l = true → ∀ i : Nat, i < l.length → l.getD i 0 ≤ (if i = 0 then b else l.getD (i - 1) 0)
  | [], _, _, i, h => by simp at h
  | x :: r, b, hf, 0, _ => by
    simp only [falls, Bool.and_eq_true, decide_eq_true_eq] at hf
    simpa using hf.1
  | x :: r, b, hf, i + 1, h => by
    simp only [falls, Bool.and_eq_true, decide_eq_true_eq] at hf
    have := falls_rd r x hf.2 i (by simpa using h)
    rw [if_neg (by omega)]
    cases i with
    | zero => simpa using this
    | succ i => simpa using this
theorem a2same_l0 (l : List Int) (hl : l.length ≤ 1000) : ∀ (d i k : Nat), i + d = l.length → d < k → spec_A2SamePeople.l0 k l l (i : Int) = some true := by
  intro d
  induction d with
  | zero =>
    intro i k hi hk
    obtain ⟨k, rfl⟩ : ∃ m, k = m + 1 := ⟨k - 1, by omega⟩
    simp only [spec_A2SamePeople.l0]
    rw [if_neg (by omega)]
  | succ d ih =>
    intro i k hi hk
    obtain ⟨k, rfl⟩ : ∃ m, k = m + 1 := ⟨k - 1, by omega⟩
    simp only [spec_A2SamePeople.l0]
    rw [if_pos (by omega), if_pos (by omega), if_pos (by omega), if_pos trivial, wrap_nat i (by omega), ih (i + 1) k (by omega) (by omega)]
theorem a2same_eq (l : List Int) (hl : l.length ≤ 1000) (k : Nat) (hk : 1000 < k) : spec_A2SamePeople.f k l l = some true := by
  unfold spec_A2SamePeople.f
  rw [if_pos rfl]
  have := a2same_l0 l hl l.length 0 k (by omega) (by omega)
  rwa [show ((0 : Nat) : Int) = 0 from rfl] at this
theorem last_rd (l : List Int) (h : 1 ≤ l.length) : rd l ((l.length : Int) - 1) = l.getD (l.length - 1) 0 := by
  rw [show (l.length : Int) - 1 = ((l.length - 1 : Nat) : Int) by omega, rd_nat]
theorem getD_mem (l : List Int) (i : Nat) (h : i < l.length) : l.getD i 0 ∈ l := by
  rw [List.getD_eq_getElem?_getD, List.getElem?_eq_getElem h]
  exact List.getElem_mem _
/-- The log that is found: what is asked of it. -/
structure Found (p g : Nat) (xs : List Int) : Prop where
  hp : 1 ≤ p ∧ p < 9
  hg : g ≤ p
  hx : ∀ n ∈ xs, inR p g n
  hl : 1 ≤ xs.length ∧ xs.length ≤ 12
  hf : falls (p : Int) xs = true
  last : (p : Int) - xs.getD (xs.length - 1) 0 = g
theorem found_pR {p g : Nat} {xs : List Int} (h : Found p g xs) : inR p g (p : Int) := ⟨by omega, by omega, by omega⟩
theorem found_ok {p g : Nat} {xs : List Int} (h : Found p g xs) : okLog (p : Int) (xs.map (st p g)) xs = true := by
  have h1 := h.hp
  have h2 := h.hl
  have h3 := okFrom_st p g h1.2 h.hg xs (p : Int) (found_pR h) h.hx h.hf
  rw [(fin0 p h1.2 g (by have := h.hg; omega) h.hg).2.2.2.2] at h3
  unfold okLog
  rw [List.length_map, decide_eq_true (show 1 ≤ (p : Int) ∧ (p : Int) ≤ 14 by omega), decide_eq_true (show 1 ≤ (xs.length : Int) ∧ (xs.length : Int) ≤ 12 by omega), decide_eq_true rfl, h3]
  rfl
theorem found_first {p g : Nat} {xs : List Int} (h : Found p g xs) (k : Nat) (hk : 1048700 < k) : impl_FirstWrongCount.f k (p : Int) (xs.map (st p g)) xs = some (0, 6) := by
  have h1 := h.hp
  have h2 := h.hl
  unfold impl_FirstWrongCount.f impl_Log_wrong.f impl_indices_at_wrong_1.f
  rw [implValid_eq _ _ _ (by rw [List.length_map]; omega) k (by omega), Option.bind_some, if_pos (found_ok h)]
  have hw : ∀ x ∈ xs.map (st p g), 0 ≤ x ∧ x < 65536 := by
    intro x hx
    obtain ⟨n, hn, rfl⟩ := List.mem_map.1 hx
    exact (f1 p g h1.2 h.hg n (h.hx n hn)).1
  have e := implWrong_l0 (p : Int) (xs.map (st p g)) xs (by rw [List.length_map]; omega) (by rw [List.length_map]) hw (xs.map (st p g)).length 0 k [] (by omega) (by rw [List.length_map]; omega) (by simp)
  rw [show ((0 : Nat) : Int) = 0 from rfl, List.drop_zero, List.drop_zero, wrong_st p g h1.2 h.hg xs 0 h.hx] at e
  rw [e]
  rfl
def prevC (p : Nat) (xs : List Int) (i : Nat) : Int := if i = 0 then (p : Int) else xs.getD (i - 1) 0
theorem found_prevR {p g : Nat} {xs : List Int} (h : Found p g xs) (i : Nat) (hi : i ≤ xs.length) : inR p g (prevC p xs i) := by
  unfold prevC
  by_cases c : i = 0
  · rw [if_pos c]; exact (found_pR h)
  · rw [if_neg c]; exact h.hx _ (getD_mem xs (i - 1) (by have := h.hl; omega))
theorem found_lost {p g : Nat} {xs : List Int} (h : Found p g xs) (i : Nat) (hi : i < xs.length) (k : Nat) (hk : 1048700 < k) : ∃ v, impl_LostBefore.f k (p : Int) (xs.map (st p g)) xs (i : Int) = some (v, 0) ∧ spec_CountPeople.f k v = some (prevC p xs i - xs.getD i 0) := by
  have h1 := h.hp
  have h2 := h.hl
  have hS : ∀ j, j < xs.length → (xs.map (st p g)).getD j 0 = st p g (xs.getD j 0) := by
    intro j hj
    rw [List.getD_eq_getElem?_getD, List.getElem?_map, List.getElem?_eq_getElem hj, List.getD_eq_getElem?_getD, List.getElem?_eq_getElem hj]
    rfl
  have hb : befB (p : Int) (xs.map (st p g)) i = st p g (prevC p xs i) := by
    unfold befB prevC
    by_cases c : i = 0
    · rw [if_pos c, if_pos c, (fin0 p h1.2 g (by have := h.hg; omega) h.hg).2.2.2.2]
    · rw [if_neg c, if_neg c, hS _ (by omega)]
  have hfr := falls_rd xs (p : Int) h.hf i hi
  have h3 := f2 p g h1.2 h.hg (prevC p xs i) (xs.getD i 0) (found_prevR h i (by omega)) (h.hx _ (getD_mem xs i hi)) hfr
  refine ⟨Go.bits .andNot .u16 (st p g (prevC p xs i)) (st p g (xs.getD i 0)), ?_, ?_⟩
  · unfold impl_LostBefore.f impl_size_People.f impl_Log_lost.f
    rw [implValid_eq _ _ _ (by rw [List.length_map]; omega) k (by omega), Option.bind_some, if_pos (found_ok h), Option.bind_some, List.length_map, wrap64_id _ (by omega) (by omega), within_eq, Option.bind_some, decide_eq_true (show 0 ≤ (i : Int) ∧ (i : Int) ≤ (xs.length : Int) - 1 by omega), if_pos rfl, before_eq _ _ _ (by omega) i (by rw [List.length_map]; omega) (by rw [List.length_map]; omega), Option.bind_some, if_pos (by omega), if_pos (by omega), Option.bind_some, hb, rd_nat, hS i hi]
  · have hr := bits_u16 .andNot (st p g (prevC p xs i)) (st p g (xs.getD i 0))
    rw [specCount_eq _ hr.1 hr.2 k (by omega), h3.2]
theorem l3_true {p g : Nat} {xs : List Int} (h : Found p g xs) : ∀ (d i k : Nat) (acc : Int), i + d = xs.length → d + 1048700 < k → acc = (p : Int) - prevC p xs i → laws_FnAllowed.l3 k xs (g : Int) (xs.map (st p g)) 6 acc (i : Int) (p : Int) (xs.map (st p g)) xs = some true := by
  intro d
  have h1 := h.hp
  have h2 := h.hl
  induction d with
  | zero =>
    intro i k acc hi hk ha
    obtain ⟨k, rfl⟩ : ∃ m, k = m + 1 := ⟨k - 1, by omega⟩
    simp only [laws_FnAllowed.l3]
    rw [if_neg (by rw [List.length_map]; omega), implValid_eq _ _ _ (by rw [List.length_map]; omega) k (by omega), Option.bind_some, if_pos (found_ok h), if_pos trivial, List.length_map, if_pos rfl, ha]
    have hl := h.last
    unfold prevC
    rw [if_neg (by omega), show i - 1 = xs.length - 1 by omega, hl]
    simp
  | succ d ih =>
    intro i k acc hi hk ha
    obtain ⟨k, rfl⟩ : ∃ m, k = m + 1 := ⟨k - 1, by omega⟩
    obtain ⟨v, e1, e2⟩ := found_lost h i (by omega) k (by omega)
    have r1 := found_prevR h i (by omega)
    have r2 := h.hx _ (getD_mem xs i (by omega))
    have r3 := r1.2
    have r4 := r2.2
    simp only [laws_FnAllowed.l3]
    rw [if_pos (by rw [List.length_map]; omega), e1]
    simp only [Option.bind_some]
    rw [if_pos trivial, e2]
    simp only [Option.bind_some]
    rw [wrap_nat i (by omega), wrap64_id _ (by omega) (by omega)]
    refine ih (i + 1) k _ (by omega) (by omega) ?_
    rw [ha]
    unfold prevC
    rw [if_neg (show ¬ i + 1 = 0 by omega), Nat.add_sub_cancel]
    omega
theorem i16_id (n : Int) (h : 0 ≤ n ∧ n ≤ 100) : IntKind.i16.wrap n = n := by
  simp [IntKind.wrap, IntKind.bits, IntKind.signed]
  omega
theorem l2_true {p g : Nat} {xs : List Int} (h : Found p g xs) : ∀ (d i k : Nat), i + d = xs.length → d + 1048800 < k → laws_FnAllowed.l2 k xs (g : Int) (xs.map (st p g)) (i : Int) (p : Int) (xs.map (st p g)) (xs.take i) = some true := by
  intro d
  have h1 := h.hp
  have h2 := h.hl
  induction d with
  | zero =>
    intro i k hi hk
    obtain ⟨k, rfl⟩ : ∃ m, k = m + 1 := ⟨k - 1, by omega⟩
    simp only [laws_FnAllowed.l2]
    rw [if_neg (by omega), List.take_of_length_le (by omega), found_first h k (by omega)]
    simp only [Option.bind_some]
    have := l3_true h xs.length 0 k 0 (by omega) (by omega) (by simp [prevC])
    rwa [show ((0 : Nat) : Int) = 0 from rfl] at this
  | succ d ih =>
    intro i k hi hk
    obtain ⟨k, rfl⟩ : ∃ m, k = m + 1 := ⟨k - 1, by omega⟩
    have r2 := h.hx _ (getD_mem xs i (by omega))
    have r3 := r2.2
    simp only [laws_FnAllowed.l2]
    rw [if_pos (by omega), if_pos (by omega), if_pos (by rw [List.length_take]; omega), rd_nat, i16_id _ (by omega), wrap_nat i (by omega), ← take_getD 0 xs i (by omega)]
    exact ih (i + 1) k (by omega) (by omega)
theorem l1_true (p : Nat) (hp : 1 ≤ p ∧ p < 9) (xs : List Int) (hl : 1 ≤ xs.length ∧ xs.length ≤ 12) (hx : ∀ n ∈ xs, 0 ≤ n ∧ n ≤ p) (hc : codeC (p : Int) xs = 0) (g : Nat) (hg : (p : Int) - xs.getD (xs.length - 1) 0 = g) (A : Bool) (hA : A = falls (p : Int) xs) : ∀ (d i k : Nat), i + d = g → d + 1049000 < k → laws_FnAllowed.l1 k (p : Int) xs A (g : Int) ((List.range i).map (fun (j : Nat) => (p : Int) - 1 - (j : Int))) (i : Int) = some true := by
  intro d
  have hlast := hx _ (getD_mem xs (xs.length - 1) (by omega))
  have hgp : g ≤ p := by omega
  have F := fin0 p hp.2 g (by omega) hgp
  induction d with
  | zero =>
    intro i k hi hk
    obtain ⟨k, rfl⟩ : ∃ m, k = m + 2 := ⟨k - 2, by omega⟩
    obtain rfl : i = g := by omega
    have eP : spec_PeopleOf.f (k + 1) (lst p i) = some (maskG p i, 0) := by
      unfold spec_PeopleOf.f
      have := peopleSpec_l0 (lst p i) (by simp [lst]; omega) (lst p i).length 0 (k + 1) 0 (by omega) (by simp [lst]; omega)
      rw [show ((0 : Nat) : Int) = 0 from rfl, List.drop_zero, F.1, if_neg (by decide)] at this
      exact this
    simp only [laws_FnAllowed.l1]
    rw [if_neg (by omega)]
    rw [show (List.range i).map (fun (j : Nat) => (p : Int) - 1 - (j : Int)) = lst p i from rfl, eP]
    simp only [Option.bind_some]
    rw [implPoss_eq (p : Int) xs (maskG p i) F.2.1 (by omega) (k + 1) (by omega), specPoss_eq (p : Int) xs (maskG p i) F.2.1 (by omega) (fun n hn => by have := hx n hn; omega) (k + 1) (by omega)]
    simp only [Option.bind_some]
    have hlen := poss_len (p : Int) xs (maskG p i)
    rw [if_pos trivial, if_pos trivial, a2same_eq _ (by omega) (k + 1) (by omega)]
    simp only [Option.bind_some, if_true]
    have hR : finR (p : Int) xs (maskG p i) = if falls (p : Int) xs = true then (xs.map (st p i), 0) else ([], 4) := by
      unfold finR
      rw [if_pos hc, if_pos F.2.2.1, last_rd xs hl.1, F.2.2.2.1, hg]
      by_cases f : falls (p : Int) xs = true
      · rw [if_pos ⟨f, rfl⟩, if_pos f, Int.toNat_natCast]
        rfl
      · rw [if_neg (fun h => f h.1), if_neg f]
    rw [hR]
    simp only [laws_FnAllowed.j3]
    by_cases f : falls (p : Int) xs = true
    · rw [if_pos f, hA, f, if_neg (by simp), if_pos rfl]
      have hF : Found p i xs := ⟨hp, hgp, fun n hn => by
        have h2 := hx n hn
        have h3 := falls_last xs (p : Int) (fun e => by rw [e] at hl; simp at hl) f n hn
        rw [List.getLast_eq_getElem] at h3
        rw [List.getD_eq_getElem?_getD, List.getElem?_eq_getElem (by omega)] at hg
        simp only [Option.getD_some] at hg
        exact ⟨by omega, h2.1, h2.2⟩, hl, f, hg⟩
      have := l2_true hF xs.length 0 k (by omega) (by omega)
      rwa [show ((0 : Nat) : Int) = 0 from rfl, List.take_zero] at this
    · rw [if_neg f, hA, Bool.eq_false_iff.mpr f, if_neg (by simp), if_neg (by simp)]
      rfl
  | succ d ih =>
    intro i k hi hk
    obtain ⟨k, rfl⟩ : ∃ m, k = m + 1 := ⟨k - 1, by omega⟩
    simp only [laws_FnAllowed.l1]
    rw [if_pos (by omega), if_pos (by simp; omega), wrap64_id ((p : Int) - 1) (by omega) (by omega), wrap64_id ((p : Int) - 1 - (i : Int)) (by omega) (by omega), wrap_nat i (by omega)]
    have := ih (i + 1) k (by omega) (by omega)
    rw [List.range_succ, List.map_append] at this
    exact this
theorem l0_true (x0 x1 : List Int) (h0 : x0.length ≤ 3000) (h1 : x1.length ≤ 3000) (b0 : ∀ x ∈ x0, (Lit.int .u8 x).wf = true) (b1 : ∀ x ∈ x1, (Lit.int .u8 x).wf = true) (p : Nat) (hp : 1 ≤ p ∧ p < 9) (t : Int) (ht : laws_a2At.f x0 1 5 = some t) (ht0 : 0 ≤ t ∧ t ≤ 4) : ∀ (d i k : Nat) (xs : List Int), (i : Int) + d = 1 + t → d + 1050000 < k → xs.length = i → (∀ n ∈ xs, 0 ≤ n ∧ n ≤ p) → laws_FnAllowed.l0 k x0 x1 (p : Int) xs (i : Int) = some true := by
  intro d
  induction d with
  | zero =>
    intro i k xs hi hk hx hb
    obtain ⟨k, rfl⟩ : ∃ m, k = m + 2 := ⟨k - 2, by omega⟩
    have hc : codeC (p : Int) xs = 0 := by
      unfold codeC
      rw [if_pos (by omega), if_pos (by omega), if_pos]
      unfold inC
      exact List.all_eq_true.2 (fun n hn => decide_eq_true (by have := hb n hn; omega))
    have hw := ways_falls (p : Int) xs hc
    simp only [laws_FnAllowed.l0]
    rw [ht, Option.bind_some, wrap64_id (1 + t) (by omega) (by omega), if_neg (by omega)]
    unfold impl_CountsAllow.f spec_CountsAllow.f
    rw [implWaysFor_eq (p : Int) xs (by omega) (k + 1) (by omega), specWaysFor_eq (p : Int) xs (by omega) (k + 1) (by omega), l05Counts_eq (p : Int) xs (by omega) (k + 1) (by omega), l05Allow_eq (p : Int) xs (by omega) (k + 1) (by omega), if_pos hc, hc]
    simp only [Option.bind_some]
    generalize hW : (if falls (p : Int) xs = true then waysS (p : Int) 1 xs else 0) = W at hw
    have e1 : (decide (W > 0) != falls (p : Int) xs) = false := by
      by_cases f : falls (p : Int) xs = true
      · have := hw.2 f; simp [f, this]
      · have : ¬ 0 < W := fun z => f (hw.1 z)
        simp [f, this]
    have e2 : decide (W < 0) = false := by
      by_cases f : falls (p : Int) xs = true
      · have := hw.2 f; simp; omega
      · rw [if_neg f] at hW; simp [← hW]
    rw [if_pos trivial, Option.bind_some]
    simp only [if_true]
    rw [e1, e2, if_neg (by decide), if_neg (by decide)]
    have hlast := hb _ (getD_mem xs (xs.length - 1) (by omega))
    obtain ⟨g, hg⟩ := Int.eq_ofNat_of_zero_le (show 0 ≤ (p : Int) - xs.getD (xs.length - 1) 0 by omega)
    simp only [laws_FnAllowed.j1]
    rw [if_neg (by decide), wrap64_id ((xs.length : Int) - 1) (by omega) (by omega), if_pos (by omega), if_pos (by omega), last_rd xs (by omega), wrap64_id _ (by omega) (by omega), hg]
    have := l1_true p hp xs (by omega) hb hc g hg (falls (p : Int) xs) rfl g 0 k (by omega) (by omega)
    rwa [show ((0 : Nat) : Int) = 0 from rfl] at this
  | succ d ih =>
    intro i k xs hi hk hx hb
    obtain ⟨k, rfl⟩ : ∃ m, k = m + 1 := ⟨k - 1, by omega⟩
    obtain ⟨v, hv, hv0⟩ := a2At_eq x1 h1 b1 i ((p : Int) + 1) (by omega) (by omega)
    simp only [laws_FnAllowed.l0]
    rw [ht, Option.bind_some, wrap64_id (1 + t) (by omega) (by omega), if_pos (by omega), wrap64_id ((p : Int) + 1) (by omega) (by omega), hv, Option.bind_some, if_pos (by omega), wrap_nat i (by omega)]
    refine ih (i + 1) k _ (by omega) (by omega) (by simp [hx]) (fun n hn => ?_)
    rcases List.mem_append.1 hn with h | h
    · exact hb n h
    · rw [List.mem_singleton.1 h]; omega
theorem main : laws_FnAllowed.Pure := by
  intro x0 x1 hl0 _ b0 hl1 _ b1
  refine rounds_of 1060000 fun k hk => ?_
  unfold laws_FnAllowed.f laws_a2Long.f
  by_cases c0 : (x0.length : Int) > 3000
  · rw [if_pos c0, Option.bind_some, if_pos rfl]
  · rw [if_neg c0, Option.bind_some]
    by_cases c1 : (x1.length : Int) > 3000
    · rw [decide_eq_true c1, if_pos rfl]
    · rw [decide_eq_false c1, if_neg (by decide)]
      obtain ⟨v, hv, hv0⟩ := a2At_eq x0 (by omega) b0 0 8 (by omega) (by omega)
      obtain ⟨t, ht, ht0⟩ := a2At_eq x0 (by omega) b0 1 5 (by omega) (by omega)
      rw [show ((0 : Nat) : Int) = 0 from rfl] at hv
      rw [show ((1 : Nat) : Int) = 1 from rfl] at ht
      rw [hv, Option.bind_some, wrap64_id (1 + v) (by omega) (by omega)]
      obtain ⟨p, hp⟩ := Int.eq_ofNat_of_zero_le (show 0 ≤ 1 + v by omega)
      obtain ⟨d, hd⟩ := Int.eq_ofNat_of_zero_le (show 0 ≤ 1 + t by omega)
      rw [hp]
      have := l0_true x0 x1 (by omega) (by omega) b0 b1 p (by omega) t ht (by omega) d 0 k [] (by omega) (by omega) rfl (fun n hn => by simp at hn)
      rwa [show ((0 : Nat) : Int) = 0 from rfl] at this

end Go.Proofs.Ytelgmojnndbgmaa.PureFnAllowed
namespace Go.Proofs.Ytelgmojnndbgmaa.Pure
theorem FnAllowed : Go.Proofs.Ytelgmojnndbgmaa.P.laws_FnAllowed.Pure := Go.Proofs.Ytelgmojnndbgmaa.PureFnAllowed.main
end Go.Proofs.Ytelgmojnndbgmaa.Pure
