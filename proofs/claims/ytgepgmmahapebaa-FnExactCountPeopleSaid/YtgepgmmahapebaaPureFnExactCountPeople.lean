/- For every set of people the program's CountPeople returns the reference's number; no condition. -/
import Derived.Test.YtgepgmmahapebaaP14
import Derived.Laws.BitsLemmas
namespace Go.Proofs.Ytgepgmmahapebaa.PureFnExactCountPeople
open Go.RowKit Go.Proofs.Ytgepgmmahapebaa.P Go.Proofs.YtgepgmmahapebaaW.PrintWords Go.Proofs.YtgepgmmahapebaaW.PrintLast
set_option linter.unusedSimpArgs false
set_option linter.unusedVariables false

theorem wrap64_id (x : Int) (h0 : -9223372036854775808 ≤ x) (h1 : x ≤ 9223372036854775807) : wrap64 x = x := by unfold wrap64; omega
theorem wrap_nat (n : Nat) (h : n < 4611686018427387904) : wrap64 ((n : Int) + 1) = ((n + 1 : Nat) : Int) := by
  rw [wrap64_id _ (by omega) (by omega)]; omega
theorem rounds_of (B : Nat) {α : Type} {F : Nat → Option α} {v : α} (h : ∀ k, B ≤ k → F k = some v) : ∃ k, F k = some v := ⟨B, h B (Nat.le_refl _)⟩

theorem wrap_u16 (n : Int) : IntKind.u16.wrap n = n % 65536 := by simp [IntKind.wrap, IntKind.bits, IntKind.signed]
theorem wrap_u64 (n : Int) : IntKind.u64.wrap n = n % 18446744073709551616 := by simp [IntKind.wrap, IntKind.bits, IntKind.signed]
theorem wraps_u16 (n : Int) (h₀ : 0 ≤ n) (h₁ : n < 2 ^ 16) : IntKind.u16.wrap n = n := by rw [wrap_u16]; omega
theorem wrap_u64_id (n : Int) (h0 : 0 ≤ n) (h1 : n < 18446744073709551616) : IntKind.u64.wrap n = n := by rw [wrap_u64]; omega
theorem wf_u16 {a : Int} (h : (Lit.int .u16 a).wf = true) : 0 ≤ a ∧ a < 65536 := by
  simp [Lit.wf, IntKind.min, IntKind.max, IntKind.bits, IntKind.signed] at h
  omega
theorem shr_range (a n : Int) (h0 : 0 ≤ a) (h1 : a < 65536) : 0 ≤ shr .u16 a n ∧ shr .u16 a n < 65536 := by
  unfold shr
  have hp : (0 : Int) < 2 ^ min n.toNat IntKind.u16.bits := Int.pow_pos (by decide)
  constructor
  · exact Int.ediv_nonneg h0 (Int.le_of_lt hp)
  · exact Int.lt_of_le_of_lt (Int.ediv_le_self _ h0) h1

/-- Is number i in the set p? -/
def hasB (p i : Int) : Bool := shr .u16 p i % 2 == 1
theorem l05Has_eq (p i : Int) (h0 : 0 ≤ p) (h1 : p < 65536) (hi : 0 ≤ i) (hi2 : i < 18446744073709551616) : spec_l05Has.f p i = some (hasB p i) := by
  unfold spec_l05Has.f
  rw [wrap_u64_id i hi hi2, if_pos hi, Int.tmod_eq_emod_of_nonneg (shr_range p i h0 h1).1]
  rfl
/-- The numbers of a set from i on. -/
def listFrom (p : Int) : Nat → Nat → List Int
  | 0, _ => []
  | d + 1, i => if hasB p (i : Int) = true then (i : Int) :: listFrom p d (i + 1) else listFrom p d (i + 1)
def listP (p : Int) : List Int := listFrom p 14 0
theorem l05List_l0 (p : Int) (h0 : 0 ≤ p) (h1 : p < 65536) : ∀ (d i k : Nat) (xs : List Int), i + d = 14 → d < k → xs.length ≤ i → spec_l05List.l0 k p xs (i : Int) = some (xs ++ listFrom p d i) := by
  intro d
  induction d with
  | zero =>
    intro i k xs hi hk hx
    obtain ⟨k, rfl⟩ : ∃ m, k = m + 1 := ⟨k - 1, by omega⟩
    simp only [spec_l05List.l0]
    rw [if_neg (by omega)]
    simp [listFrom]
  | succ d ih =>
    intro i k xs hi hk hx
    obtain ⟨k, rfl⟩ : ∃ m, k = m + 1 := ⟨k - 1, by omega⟩
    simp only [spec_l05List.l0]
    rw [if_pos (by omega), l05Has_eq p i h0 h1 (by omega) (by omega), Option.bind_some, wrap_nat i (by omega)]
    unfold listFrom
    by_cases h : hasB p (i : Int) = true
    · rw [if_pos h, if_pos (by omega), ih (i + 1) k _ (by omega) (by omega) (by simp; omega), if_pos h]
      simp
    · rw [if_neg h, ih (i + 1) k _ (by omega) (by omega) (by omega), if_neg h]
theorem l05List_eq (p : Int) (h0 : 0 ≤ p) (h1 : p < 65536) (k : Nat) (hk : 14 < k) : spec_l05List.f k p = some (listP p) := by
  unfold spec_l05List.f
  have := l05List_l0 p h0 h1 14 0 k [] (by omega) hk (by simp)
  simpa [listP] using this

def TAB : ByteArray := ⟨#[0, 1, 1, 2, 1, 2, 2, 3, 1, 2, 2, 3, 2, 3, 3, 4, 1, 2, 2, 3, 2, 3, 3, 4, 2, 3, 3, 4, 3, 4, 4, 5, 1, 2, 2, 3, 2, 3, 3, 4, 2, 3, 3, 4, 3, 4, 4, 5, 2, 3, 3, 4, 3, 4, 4, 5, 3, 4, 4, 5, 4, 5, 5, 6, 1, 2, 2, 3, 2, 3, 3, 4, 2, 3, 3, 4, 3, 4, 4, 5, 2, 3, 3, 4, 3, 4, 4, 5, 3, 4, 4, 5, 4, 5, 5, 6, 2, 3, 3, 4, 3, 4, 4, 5, 3, 4, 4, 5, 4, 5, 5, 6, 3, 4, 4, 5, 4, 5, 5, 6, 4, 5, 5, 6, 5, 6, 6, 7, 1, 2, 2, 3, 2, 3, 3, 4, 2, 3, 3, 4, 3, 4, 4, 5, 2, 3, 3, 4, 3, 4, 4, 5, 3, 4, 4, 5, 4, 5, 5, 6, 2, 3, 3, 4, 3, 4, 4, 5, 3, 4, 4, 5, 4, 5, 5, 6, 3, 4, 4, 5, 4, 5, 5, 6, 4, 5, 5, 6, 5, 6, 6, 7, 2, 3, 3, 4, 3, 4, 4, 5, 3, 4, 4, 5, 4, 5, 5, 6, 3, 4, 4, 5, 4, 5, 5, 6, 4, 5, 5, 6, 5, 6, 6, 7, 3, 4, 4, 5, 4, 5, 5, 6, 4, 5, 5, 6, 5, 6, 6, 7, 4, 5, 5, 6, 5, 6, 6, 7, 5, 6, 6, 7, 6, 7, 7, 8]⟩
def pop8 (j : Int) : Int := j % 2 + j / 2 % 2 + j / 4 % 2 + j / 8 % 2 + j / 16 % 2 + j / 32 % 2 + j / 64 % 2 + j / 128 % 2
theorem TAB_eq : ∀ j : Nat, j < 256 → bt TAB (j : Int) = pop8 (j : Int) := by decide +kernel
theorem and_255 (x : Int) (h₀ : 0 ≤ x) (h₁ : x < 65536) : Go.bits .and .u16 x 255 = x % 256 := by
  have := Go.bits_mask .u16 16 (by decide) wraps_u16 8 (by decide) x h₀ (by omega)
  simpa using this
theorem and_14 (x : Int) (h₀ : 0 ≤ x) (h₁ : x < 65536) : Go.bits .and .u16 x 16383 = x % 16384 := by
  have := Go.bits_mask .u16 16 (by decide) wraps_u16 14 (by decide) x h₀ (by omega)
  simpa using this
theorem ones_eq (x : Int) (h0 : 0 ≤ x) (h1 : x < 65536) : bits_OnesCount16.f x = some ((pop8 (x / 256) + pop8 (x % 256)) % 256) := by
  unfold bits_OnesCount16.f
  rw [and_255 x h0 h1, if_pos (by omega), if_pos (by omega), if_pos (by omega), if_pos (by omega)]
  obtain ⟨a, ha⟩ := Int.eq_ofNat_of_zero_le (show 0 ≤ x / 256 by omega)
  obtain ⟨b, hb⟩ := Int.eq_ofNat_of_zero_le (show 0 ≤ x % 256 by omega)
  rw [ha, hb]
  have e1 := TAB_eq a (by omega)
  have e2 := TAB_eq b (by omega)
  unfold TAB at e1 e2
  rw [e1, e2]
theorem hasB_iff (p : Int) (i : Nat) (hi : i ≤ 16) : hasB p (i : Int) = (p / 2 ^ i % 2 == 1) := by
  unfold hasB shr
  rw [Int.toNat_natCast, Nat.min_eq_left (by simpa [IntKind.bits] using hi)]
theorem listFrom_count (p : Int) (d i : Nat) (hi : i ≤ 16) : ((listFrom p (d + 1) i).length : Int) = p / 2 ^ i % 2 + ((listFrom p d (i + 1)).length : Int) := by
  rw [show listFrom p (d + 1) i = if hasB p (i : Int) = true then (i : Int) :: listFrom p d (i + 1) else listFrom p d (i + 1) from rfl, hasB_iff p i hi]
  have h : p / 2 ^ i % 2 = 0 ∨ p / 2 ^ i % 2 = 1 := by omega
  rcases h with h | h
  · rw [h]; simp
  · rw [h]; simp; omega
def cnt14 (p : Int) : Int := p % 2 + (p / 2 % 2 + (p / 4 % 2 + (p / 8 % 2 + (p / 16 % 2 + (p / 32 % 2 + (p / 64 % 2 + (p / 128 % 2 + (p / 256 % 2 + (p / 512 % 2 + (p / 1024 % 2 + (p / 2048 % 2 + (p / 4096 % 2 + p / 8192 % 2))))))))))))
theorem listP_count (p : Int) : ((listP p).length : Int) = cnt14 p := by
  unfold listP
  rw [listFrom_count p 13 0 (by decide), listFrom_count p 12 1 (by decide), listFrom_count p 11 2 (by decide), listFrom_count p 10 3 (by decide), listFrom_count p 9 4 (by decide), listFrom_count p 8 5 (by decide), listFrom_count p 7 6 (by decide), listFrom_count p 6 7 (by decide), listFrom_count p 5 8 (by decide), listFrom_count p 4 9 (by decide), listFrom_count p 3 10 (by decide), listFrom_count p 2 11 (by decide), listFrom_count p 1 12 (by decide), listFrom_count p 0 13 (by decide)]
  simp [listFrom, cnt14]
theorem pop_cnt (p : Int) (h0 : 0 ≤ p) : (pop8 (p % 16384 / 256) + pop8 (p % 16384 % 256)) % 256 = cnt14 p := by
  have a0 : p % 16384 % 256 % 2 = p % 2 := by omega
  have a1 : p % 16384 % 256 / 2 % 2 = p / 2 % 2 := by omega
  have a2 : p % 16384 % 256 / 4 % 2 = p / 4 % 2 := by omega
  have a3 : p % 16384 % 256 / 8 % 2 = p / 8 % 2 := by omega
  have a4 : p % 16384 % 256 / 16 % 2 = p / 16 % 2 := by omega
  have a5 : p % 16384 % 256 / 32 % 2 = p / 32 % 2 := by omega
  have a6 : p % 16384 % 256 / 64 % 2 = p / 64 % 2 := by omega
  have a7 : p % 16384 % 256 / 128 % 2 = p / 128 % 2 := by omega
  have b0 : p % 16384 / 256 % 2 = p / 256 % 2 := by omega
  have b1 : p % 16384 / 256 / 2 % 2 = p / 512 % 2 := by omega
  have b2 : p % 16384 / 256 / 4 % 2 = p / 1024 % 2 := by omega
  have b3 : p % 16384 / 256 / 8 % 2 = p / 2048 % 2 := by omega
  have b4 : p % 16384 / 256 / 16 % 2 = p / 4096 % 2 := by omega
  have b5 : p % 16384 / 256 / 32 % 2 = p / 8192 % 2 := by omega
  have b6 : p % 16384 / 256 / 64 % 2 = 0 := by omega
  have b7 : p % 16384 / 256 / 128 % 2 = 0 := by omega
  unfold pop8 cnt14
  rw [a0, a1, a2, a3, a4, a5, a6, a7, b0, b1, b2, b3, b4, b5, b6, b7]
  have c : ∀ n : Int, 0 ≤ n % 2 ∧ n % 2 ≤ 1 := fun n => by omega
  have := c p; have := c (p / 2); have := c (p / 4); have := c (p / 8); have := c (p / 16); have := c (p / 32); have := c (p / 64); have := c (p / 128); have := c (p / 256); have := c (p / 512); have := c (p / 1024); have := c (p / 2048); have := c (p / 4096); have := c (p / 8192)
  generalize p % 2 = x0 at *
  generalize p / 2 % 2 = x1 at *
  generalize p / 4 % 2 = x2 at *
  generalize p / 8 % 2 = x3 at *
  generalize p / 16 % 2 = x4 at *
  generalize p / 32 % 2 = x5 at *
  generalize p / 64 % 2 = x6 at *
  generalize p / 128 % 2 = x7 at *
  generalize p / 256 % 2 = x8 at *
  generalize p / 512 % 2 = x9 at *
  generalize p / 1024 % 2 = x10 at *
  generalize p / 2048 % 2 = x11 at *
  generalize p / 4096 % 2 = x12 at *
  generalize p / 8192 % 2 = x13 at *
  clear a0 a1 a2 a3 a4 a5 a6 a7 b0 b1 b2 b3 b4 b5 b6 b7
  omega
theorem all14 : impl_everybody.f 14 = some 16383 := by
  unfold impl_everybody.f
  rw [if_pos (by decide)]
  have : IntKind.u16.wrap (shl .u16 1 14 - 1) = 16383 := by decide +kernel
  rw [this]
theorem implCount_eq (p : Int) (h0 : 0 ≤ p) (h1 : p < 65536) : impl_CountPeople.f p = some ((listP p).length : Int) := by
  unfold impl_CountPeople.f
  rw [all14, Option.bind_some, and_14 p h0 h1, ones_eq _ (by omega) (by omega), Option.bind_some, pop_cnt p h0, listP_count]
theorem specCount_eq (p : Int) (h0 : 0 ≤ p) (h1 : p < 65536) (k : Nat) (hk : 14 < k) : spec_CountPeople.f k p = some ((listP p).length : Int) := by
  unfold spec_CountPeople.f
  rw [l05List_eq p h0 h1 k hk, Option.bind_some]

theorem main : laws_FnExactCountPeople.Pure := by
  intro p h
  have hr := wf_u16 h
  refine rounds_of 32 fun k hk => ?_
  unfold laws_FnExactCountPeople.f
  rw [specCount_eq p hr.1 hr.2 k (by omega), implCount_eq p hr.1 hr.2]
  simp

end Go.Proofs.Ytgepgmmahapebaa.PureFnExactCountPeople
namespace Go.Proofs.Ytgepgmmahapebaa.Pure
theorem FnExactCountPeople : Go.Proofs.Ytgepgmmahapebaa.P.laws_FnExactCountPeople.Pure := Go.Proofs.Ytgepgmmahapebaa.PureFnExactCountPeople.main
end Go.Proofs.Ytgepgmmahapebaa.Pure
