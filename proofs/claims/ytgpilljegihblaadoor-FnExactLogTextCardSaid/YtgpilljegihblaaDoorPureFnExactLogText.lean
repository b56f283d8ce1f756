/- For every log the program's LogText returns the reference's text and leaves the log as it was; no condition. -/
import Derived.Test.YtgpilljegihblaaDoorP5
import Derived.Laws.BitsLemmas
import Derived.Lib.ItoaLen
namespace Go.Proofs.YtgpilljegihblaaDoor.PureFnExactLogText
open Go.RowKit Go.Proofs.YtgpilljegihblaaDoor.P Go.Proofs.YtgpilljegihblaaDoorW.PrintWords Go.Proofs.YtgpilljegihblaaDoorW.PrintLast
set_option linter.unusedSimpArgs false
set_option linter.unusedVariables false

theorem wrap64_id (x : Int) (h0 : -9223372036854775808 ≤ x) (h1 : x ≤ 9223372036854775807) : wrap64 x = x := by unfold wrap64; omega
theorem wrap_nat (n : Nat) (h : n < 4611686018427387904) : wrap64 ((n : Int) + 1) = ((n + 1 : Nat) : Int) := by
  rw [wrap64_id _ (by omega) (by omega)]; omega
theorem rd_nat (l : List Int) (i : Nat) : rd l (i : Int) = l.getD i 0 := by simp [rd]
theorem drop_rd (l : List Int) (i : Nat) (h : i < l.length) : l.drop i = rd l (i : Int) :: l.drop (i + 1) := by
  rw [List.drop_eq_getElem_cons h, rd_nat, List.getD_eq_getElem?_getD, List.getElem?_eq_getElem h]; rfl
theorem drop_getD {α : Type} (z : α) (l : List α) (i : Nat) (h : i < l.length) : l.drop i = l.getD i z :: l.drop (i + 1) := by
  rw [List.drop_eq_getElem_cons h, List.getD_eq_getElem?_getD, List.getElem?_eq_getElem h]; rfl
theorem take_getD {α : Type} (z : α) (l : List α) (i : Nat) (h : i < l.length) : l.take (i + 1) = l.take i ++ [l.getD i z] := by
  rw [List.take_succ_eq_append_getElem h, List.getD_eq_getElem?_getD, List.getElem?_eq_getElem h]; rfl
theorem set_rep {α : Type} (a : List α) (i d : Nat) (z v : α) (h : a.length = i) : (a ++ List.replicate (d + 1) z).set i v = (a ++ [v]) ++ List.replicate d z := by
  subst h
  rw [List.set_append_right _ _ (Nat.le_refl _), Nat.sub_self, List.replicate_succ, List.set_cons_zero]
  simp
theorem rounds_of (B : Nat) {α : Type} {F : Nat → Option α} {v : α} (h : ∀ k, B ≤ k → F k = some v) : ∃ k, F k = some v := ⟨B, h B (Nat.le_refl _)⟩

def dB (n : Int) : ByteArray := ⟨(Go.Lib.itoa n).toArray⟩
theorem dB_size (n : Int) (h : 0 ≤ n ∧ n ≤ 100000) : (dB n).size ≤ 21 := by
  have := Go.Lib.itoa_length_le n (by omega) (by omega)
  simpa [dB, ByteArray.size] using this
theorem implDec_eq (n : Int) (h : 0 ≤ n ∧ n ≤ 100000) : impl_decimal.f n = some (dB n) := by
  unfold impl_decimal.f dB
  rw [if_pos (by omega)]
theorem dB_small (u : Nat) (h : u < 10) : dB (u : Int) = strOfNums [48 + (u : Int)] := by
  unfold dB
  rw [Go.Lib.itoa_nonneg, Go.Lib.decDigits_one h]
  have : UInt8.ofNat (48 + u) = UInt8.ofNat (48 + (u : Int)).toNat := by congr 1
  rw [this]
  rfl
theorem dB_big (u : Nat) (h : ¬ u < 10) : dB ((u / 10 : Nat) : Int) ++ strOfNums [48 + ((u % 10 : Nat) : Int)] = dB (u : Int) := by
  unfold dB
  rw [Go.Lib.itoa_nonneg, Go.Lib.itoa_nonneg]
  conv => rhs; rw [Go.Lib.decDigits, dif_neg h]
  have : UInt8.ofNat (48 + u % 10) = UInt8.ofNat (48 + ((u % 10 : Nat) : Int)).toNat := by congr 1
  rw [this]
  apply ByteArray.ext
  rw [ByteArray.data_append]
  show _ ++ #[UInt8.ofNat (48 + ((u % 10 : Nat) : Int)).toNat] = _
  simp
theorem specDec_go : ∀ (k u : Nat), u < 10 ^ (k + 1) → u ≤ 100000 → spec_Decimal.f (k + 1) (u : Int) = some (dB (u : Int)) := by
  intro k
  induction k with
  | zero =>
    intro u h _
    have h : u < 10 := by simpa using h
    simp only [spec_Decimal.f]
    rw [if_pos (by omega), Int.tmod_eq_emod_of_nonneg (by omega), wrap64_id _ (by omega) (by omega), dB_small u h]
    congr 3
    omega
  | succ k ih =>
    intro u h hu
    by_cases c : u < 10
    · unfold spec_Decimal.f
      rw [if_pos (by omega), Int.tmod_eq_emod_of_nonneg (by omega), wrap64_id _ (by omega) (by omega), dB_small u c]
      congr 3
      omega
    · have hd : u / 10 < 10 ^ (k + 1) := by rw [Nat.pow_succ] at h; omega
      have hs := dB_size ((u / 10 : Nat) : Int) (by omega)
      unfold spec_Decimal.f
      rw [if_neg (by omega), Int.tdiv_eq_ediv_of_nonneg (by omega), wrap64_id _ (by omega) (by omega), show (u : Int) / 10 = ((u / 10 : Nat) : Int) by omega, ih (u / 10) hd (by omega), Option.bind_some, Option.bind_some, Int.tmod_eq_emod_of_nonneg (by omega), wrap64_id _ (by omega) (by omega), show (48 + (u : Int) % 10) % 256 = 48 + ((u % 10 : Nat) : Int) by omega]
      rw [if_pos (by have : (strOfNums [48 + ((u % 10 : Nat) : Int)]).size = 1 := rfl; omega), dB_big u c]
theorem specDec_eq (n : Int) (h : 0 ≤ n ∧ n ≤ 100000) (k : Nat) (hk : 10 ≤ k) : spec_Decimal.f k n = some (dB n) := by
  obtain ⟨u, rfl⟩ := Int.eq_ofNat_of_zero_le h.1
  obtain ⟨k, rfl⟩ : ∃ m, k = m + 1 := ⟨k - 1, by omega⟩
  refine specDec_go k u ?_ (by omega)
  calc u < 10 ^ 6 := by omega
    _ ≤ 10 ^ (k + 1) := Nat.pow_le_pow_right (by decide) (by omega)
def joinB (sep : ByteArray) (xs : List ByteArray) : ByteArray := ⟨(Go.Lib.join (xs.map (·.data.toList)) sep.data.toList).toArray⟩
theorem joinB_nil (sep : ByteArray) : joinB sep [] = ⟨#[]⟩ := rfl
theorem joinB_fold (sep : ByteArray) : ∀ (r : List ByteArray) (a : ByteArray), r.foldl (fun a y => (a ++ sep) ++ y) a = ⟨(a.data.toList ++ Go.Lib.joinTail sep.data.toList (r.map (·.data.toList))).toArray⟩ := by
  intro r
  induction r with
  | nil => intro a; simp [Go.Lib.joinTail]
  | cons y r ih =>
    intro a
    rw [List.foldl_cons, ih]
    simp [Go.Lib.joinTail, ByteArray.data_append]
theorem joinB_cons (sep x : ByteArray) (r : List ByteArray) : joinB sep (x :: r) = r.foldl (fun a y => (a ++ sep) ++ y) x := by
  rw [joinB_fold]
  unfold joinB
  rw [List.map_cons, Go.Lib.join_cons]
theorem fold_size (sep : ByteArray) (hsep : sep.size = 1) : ∀ (r : List ByteArray) (a : ByteArray), (∀ x ∈ r, x.size ≤ 21) → (r.foldl (fun a y => (a ++ sep) ++ y) a).size ≤ a.size + 22 * r.length := by
  intro r
  induction r with
  | nil => intro a _; simp
  | cons y r ih =>
    intro a h
    rw [List.foldl_cons, List.length_cons]
    have h1 := ih ((a ++ sep) ++ y) (fun x hx => h x (List.mem_cons_of_mem _ hx))
    have h2 := h y (by simp)
    rw [ByteArray.size_append, ByteArray.size_append] at h1
    omega
theorem joinB_size (sep : ByteArray) (hsep : sep.size = 1) (xs : List ByteArray) (h : ∀ x ∈ xs, x.size ≤ 21) : (joinB sep xs).size ≤ 22 * xs.length := by
  cases xs with
  | nil => rw [joinB_nil]; simp [ByteArray.size]
  | cons x r =>
    rw [joinB_cons, List.length_cons]
    have h1 := fold_size sep hsep r x (fun y hy => h y (List.mem_cons_of_mem _ hy))
    have h2 := h x (by simp)
    omega
theorem implJoin_eq (xs : List ByteArray) (sep : ByteArray) (hl : xs.length ≤ 100000) (hs : (joinB sep xs).size ≤ 100000000) : strings_Join.f xs sep = some (joinB sep xs) := by
  unfold strings_Join.f
  have h1 : (Go.Lib.join (xs.map (·.data.toList)) sep.data.toList).length ≤ 100000000 := by simpa [joinB, ByteArray.size] using hs
  rw [if_pos ⟨by omega, by omega⟩]
  rfl

theorem wrap_u16 (n : Int) : IntKind.u16.wrap n = n % 65536 := by simp [IntKind.wrap, IntKind.bits, IntKind.signed]
theorem wrap_u64 (n : Int) : IntKind.u64.wrap n = n % 18446744073709551616 := by simp [IntKind.wrap, IntKind.bits, IntKind.signed]
theorem wraps_u16 (n : Int) (h₀ : 0 ≤ n) (h₁ : n < 2 ^ 16) : IntKind.u16.wrap n = n := by rw [wrap_u16]; omega
theorem wrap_u64_id (n : Int) (h0 : 0 ≤ n) (h1 : n < 18446744073709551616) : IntKind.u64.wrap n = n := by rw [wrap_u64]; omega
theorem and_one (x : Int) (h₀ : 0 ≤ x) (h₁ : x < 65536) : Go.bits .and .u16 x 1 = x % 2 := by
  have := Go.bits_mask .u16 16 (by decide) wraps_u16 1 (by decide) x h₀ (by omega)
  simpa using this
theorem wf_u16 {a : Int} (h : (Lit.int .u16 a).wf = true) : 0 ≤ a ∧ a < 65536 := by
  simp [Lit.wf, IntKind.min, IntKind.max, IntKind.bits, IntKind.signed] at h
  omega
theorem wf_i16 {a : Int} (h : (Lit.int .i16 a).wf = true) : -32768 ≤ a ∧ a ≤ 32767 := by
  simp [Lit.wf, IntKind.min, IntKind.max, IntKind.bits, IntKind.signed] at h
  omega
theorem shr_range (a n : Int) (h0 : 0 ≤ a) (h1 : a < 65536) : 0 ≤ shr .u16 a n ∧ shr .u16 a n < 65536 := by
  unfold shr
  have hp : (0 : Int) < 2 ^ min n.toNat IntKind.u16.bits := Int.pow_pos (by decide)
  constructor
  · exact Int.ediv_nonneg h0 (Int.le_of_lt hp)
  · exact Int.lt_of_le_of_lt (Int.ediv_le_self _ h0) h1
theorem in_eq (a b c : Int) : spec_l00In.f a b c = some (decide (b ≤ a ∧ a ≤ c)) := by
  unfold spec_l00In.f
  by_cases h : b ≤ a
  · rw [if_pos (by omega)]; simp [h]
  · rw [if_neg (by omega)]; simp [h]
theorem within_eq (a b c : Int) : impl_within.f a b c = some (decide (b ≤ a ∧ a ≤ c)) := by
  unfold impl_within.f
  by_cases h : b ≤ a
  · rw [if_pos (by omega)]; simp [h]
  · rw [if_neg (by omega)]; simp [h]
def isP (i : Int) : Bool := decide (0 ≤ i ∧ i ≤ 13)
theorem isP_iff (i : Int) : isP i = true ↔ 0 ≤ i ∧ i ≤ 13 := by simp [isP]
theorem isPerson_eq (i : Int) : impl_isPerson.f i = some (isP i) := by
  unfold impl_isPerson.f
  rw [within_eq]; rfl
/-- Is number i in the set p? -/
def hasB (p i : Int) : Bool := shr .u16 p i % 2 == 1
theorem l05Has_eq (p i : Int) (h0 : 0 ≤ p) (h1 : p < 65536) (hi : 0 ≤ i) (hi2 : i < 18446744073709551616) : spec_l05Has.f p i = some (hasB p i) := by
  unfold spec_l05Has.f
  rw [wrap_u64_id i hi hi2, if_pos hi, Int.tmod_eq_emod_of_nonneg (shr_range p i h0 h1).1]
  rfl
def hasP (p i : Int) : Bool := isP i && hasB p i
theorem implHas_eq (p i : Int) (h0 : 0 ≤ p) (h1 : p < 65536) : impl_HasPerson.f p i = some (hasP p i) := by
  unfold impl_HasPerson.f
  rw [isPerson_eq, Option.bind_some]
  by_cases h : isP i = true
  · have := (isP_iff i).1 h
    rw [if_pos h, if_pos (by omega), and_one _ (shr_range p i h0 h1).1 (shr_range p i h0 h1).2]
    simp [hasP, h, hasB]
  · rw [if_neg h]
    simp [hasP, h]

def allB (p : Int) : Int := IntKind.u16.wrap (shl .u16 1 p - 1)
theorem l05All_eq (p : Int) (h0 : 0 ≤ p) (h1 : p < 18446744073709551616) : spec_l05All.f p = some (allB p) := by
  unfold spec_l05All.f
  rw [wrap_u64_id p h0 h1, if_pos h0]
  rfl
theorem everybody_eq (p : Int) (h0 : 0 ≤ p) : impl_everybody.f p = some (allB p) := by
  unfold impl_everybody.f
  rw [if_pos h0]
  rfl
def cntOk (c : Int) : Bool := decide (0 ≤ wrap64 c ∧ wrap64 c ≤ 100)
def okFrom (b : Int) : List Int → List Int → Bool
  | s :: ss, c :: cs => decide (Go.bits .andNot .u16 s b = 0) && cntOk c && okFrom s ss cs
  | _, _ => true
def okLog (p : Int) (s c : List Int) : Bool :=
  decide (1 ≤ p ∧ p ≤ 14) && decide (1 ≤ (s.length : Int) ∧ (s.length : Int) ≤ 12) && decide (s.length = c.length) && okFrom (allB p) s c
theorem l05Ok_l0 (p : Int) (s c : List Int) (hl : s.length ≤ 1048576) (hc : s.length = c.length) : ∀ (d i k : Nat) (b : Int), i + d = s.length → d < k → spec_l05Ok.l0 k b (i : Int) p s c = some (okFrom b (s.drop i) (c.drop i)) := by
  intro d
  induction d with
  | zero =>
    intro i k b hi hk
    obtain ⟨k, rfl⟩ : ∃ m, k = m + 1 := ⟨k - 1, by omega⟩
    simp only [spec_l05Ok.l0]
    rw [if_neg (by omega), List.drop_eq_nil_of_le (by omega)]
    simp [okFrom]
  | succ d ih =>
    intro i k b hi hk
    obtain ⟨k, rfl⟩ : ∃ m, k = m + 1 := ⟨k - 1, by omega⟩
    simp only [spec_l05Ok.l0]
    rw [if_pos (by omega), if_pos (by omega), if_pos (show (i : Int) < (c.length : Int) by omega), drop_rd s i (by omega), drop_rd c i (by omega), in_eq, Option.bind_some, wrap_nat i (by omega), ih (i + 1) k _ (by omega) (by omega)]
    by_cases h1 : Go.bits .andNot .u16 (rd s (i : Int)) b = 0 <;> by_cases h2 : 0 ≤ wrap64 (rd c (i : Int)) ∧ wrap64 (rd c (i : Int)) ≤ 100 <;> simp [okFrom, cntOk, h1, h2]
theorem l05Ok_eq (p : Int) (s c : List Int) (hl : s.length ≤ 1048576) (k : Nat) (hk : 1048578 < k) : spec_l05Ok.f k p s c = some (okLog p s c) := by
  unfold spec_l05Ok.f
  rw [in_eq, in_eq]
  simp only [Option.bind_some]
  obtain ⟨k, rfl⟩ : ∃ m, k = m + 1 := ⟨k - 1, by omega⟩
  by_cases h1 : 1 ≤ p ∧ p ≤ 14
  · by_cases h2 : 1 ≤ (s.length : Int) ∧ (s.length : Int) ≤ 12
    · rw [decide_eq_true h1, if_pos rfl, decide_eq_true h2, if_pos rfl]
      simp only [spec_l05Ok.j0]
      by_cases h3 : s.length = c.length
      · have := l05Ok_l0 p s c hl h3 s.length 0 k (allB p) (by omega) (by omega)
        rw [show ((0 : Nat) : Int) = 0 from rfl] at this
        rw [if_neg (by simp [h3]), l05All_eq p (by omega) (by omega), Option.bind_some, this]
        simp only [okLog, decide_eq_true h1, decide_eq_true h2, decide_eq_true h3, Bool.true_and, List.drop_zero]
      · rw [if_pos (by simp; omega)]
        simp [okLog, h3]
    · rw [decide_eq_true h1, if_pos rfl, decide_eq_false h2, if_neg (by decide)]
      simp only [spec_l05Ok.j0, if_true]
      simp [okLog, h2]
  · rw [decide_eq_false h1, if_neg (by decide)]
    simp only [spec_l05Ok.j0, if_true]
    simp [okLog, h1]
theorem okLog_iff (p : Int) (s c : List Int) (h : okLog p s c = true) : (1 ≤ p ∧ p ≤ 14) ∧ (1 ≤ s.length ∧ s.length ≤ 12) ∧ s.length = c.length := by
  simp only [okLog, Bool.and_eq_true, decide_eq_true_eq] at h
  omega
/-- Who was seen before station i. -/
def befB (p : Int) (s : List Int) (i : Nat) : Int := if i = 0 then allB p else s.getD (i - 1) 0
theorem before_eq (p : Int) (s c : List Int) (h0 : 0 ≤ p) (i : Nat) (hi : i ≤ s.length) (hl : s.length ≤ 1048576) : impl_Log_before.f p s c (i : Int) = some (befB p s i) := by
  unfold impl_Log_before.f befB
  by_cases h : i = 0
  · subst h
    rw [if_pos (show ((0 : Nat) : Int) = 0 from rfl), everybody_eq p h0, if_pos rfl]
    rfl
  · rw [if_neg (by omega), wrap64_id _ (by omega) (by omega), if_pos (by omega), if_pos (by omega), if_neg h]
    rw [show (i : Int) - 1 = ((i - 1 : Nat) : Int) by omega, rd_nat]
theorem implValid_l0 (p : Int) (s c : List Int) (hp : 0 ≤ p) (hl : s.length ≤ 1048576) (hc : s.length = c.length) : ∀ (d i k : Nat), i + d = s.length → d < k → impl_ValidLog.l0 k s (s.length : Int) (i : Int) p s c = some (okFrom (befB p s i) (s.drop i) (c.drop i)) := by
  intro d
  induction d with
  | zero =>
    intro i k hi hk
    obtain ⟨k, rfl⟩ : ∃ m, k = m + 1 := ⟨k - 1, by omega⟩
    simp only [impl_ValidLog.l0]
    rw [if_neg (by omega), List.drop_eq_nil_of_le (by omega)]
    simp [okFrom]
  | succ d ih =>
    intro i k hi hk
    obtain ⟨k, rfl⟩ : ∃ m, k = m + 1 := ⟨k - 1, by omega⟩
    have hb : befB p s (i + 1) = rd s (i : Int) := by
      unfold befB
      rw [if_neg (by omega), rd_nat]
      rfl
    simp only [impl_ValidLog.l0]
    rw [if_pos (by omega), if_pos (by omega), if_pos (by omega), before_eq p s c hp i (by omega) hl, Option.bind_some, if_pos (show (i : Int) < (c.length : Int) by omega), drop_rd s i (by omega), drop_rd c i (by omega), within_eq, Option.bind_some, wrap_nat i (by omega), ih (i + 1) k (by omega) (by omega), hb]
    by_cases h1 : Go.bits .andNot .u16 (rd s (i : Int)) (befB p s i) = 0 <;> by_cases h2 : 0 ≤ wrap64 (rd c (i : Int)) ∧ wrap64 (rd c (i : Int)) ≤ 100 <;> simp [okFrom, cntOk, h1, h2]
theorem implValid_eq (p : Int) (s c : List Int) (hl : s.length ≤ 1048576) (k : Nat) (hk : 1048578 < k) : impl_ValidLog.f k p s c = some (okLog p s c) := by
  unfold impl_ValidLog.f impl_size_People.f
  simp only [within_eq, Option.bind_some]
  obtain ⟨k, rfl⟩ : ∃ m, k = m + 1 := ⟨k - 1, by omega⟩
  by_cases h1 : 1 ≤ p ∧ p ≤ 14
  · by_cases h2 : 1 ≤ (s.length : Int) ∧ (s.length : Int) ≤ 12
    · rw [decide_eq_true h1, if_pos rfl, decide_eq_true h2, if_pos rfl]
      simp only [impl_ValidLog.j0]
      by_cases h3 : s.length = c.length
      · have := implValid_l0 p s c (by omega) hl h3 s.length 0 k (by omega) (by omega)
        rw [show ((0 : Nat) : Int) = 0 from rfl] at this
        rw [if_neg (by simp [h3]), this]
        simp only [okLog, decide_eq_true h1, decide_eq_true h2, decide_eq_true h3, Bool.true_and, List.drop_zero, befB, if_true]
      · rw [if_pos (by simp; omega)]
        simp [okLog, h3]
    · rw [decide_eq_true h1, if_pos rfl, decide_eq_false h2, if_neg (by decide)]
      simp only [impl_ValidLog.j0, if_true]
      simp [okLog, h2]
  · rw [decide_eq_false h1, if_neg (by decide)]
    simp only [impl_ValidLog.j0, if_true]
    simp [okLog, h1]

theorem toPeopleS_l0 (l : List Int) (hl : l.length ≤ 1048576) : ∀ (d i k : Nat), i + d = l.length → d < k → laws_toPeopleS.l0 k l ((l.map id).take i ++ List.replicate d 0) (i : Int) = some (l.map id) := by
  intro d
  induction d with
  | zero =>
    intro i k hi hk
    obtain ⟨k, rfl⟩ : ∃ m, k = m + 1 := ⟨k - 1, by omega⟩
    simp only [laws_toPeopleS.l0]
    rw [if_neg (by omega), List.take_of_length_le (by simp; omega)]
    simp
  | succ d ih =>
    intro i k hi hk
    obtain ⟨k, rfl⟩ : ∃ m, k = m + 1 := ⟨k - 1, by omega⟩
    have hlen : (((l.map id).take i ++ List.replicate (d + 1) 0).length : Int) = l.length := by simp; omega
    have hg : (l.map id).getD i 0 = id (rd l (i : Int)) := by
      simp [rd, List.getD_eq_getElem?_getD, List.getElem?_map, List.getElem?_eq_getElem (show i < l.length by omega)]
    have hstep := set_rep ((l.map id).take i) i d 0 (id (rd l (i : Int))) (by simp; omega)
    rw [← hg, ← take_getD 0 (l.map id) i (by simp; omega), hg] at hstep
    simp only [laws_toPeopleS.l0]
    rw [if_pos (by omega), if_pos (by omega), if_pos (by rw [hlen]; omega), wrap_nat i (by omega), Int.toNat_natCast]
    exact (congrArg (fun o => laws_toPeopleS.l0 k l o ((i + 1 : Nat) : Int)) hstep).trans (ih (i + 1) k (by omega) (by omega))
theorem toPeopleS_eq (l : List Int) (hl : l.length ≤ 1048576) (k : Nat) (hk : l.length < k) : laws_toPeopleS.f k l = some l := by
  unfold laws_toPeopleS.f
  rw [if_pos (by omega), if_pos (by omega)]
  have := toPeopleS_l0 l hl l.length 0 k (by omega) hk
  simpa using this

theorem toInt16S_l0 (l : List Int) (hl : l.length ≤ 1048576) : ∀ (d i k : Nat), i + d = l.length → d < k → laws_toInt16S.l0 k l ((l.map id).take i ++ List.replicate d 0) (i : Int) = some (l.map id) := by
  intro d
  induction d with
  | zero =>
    intro i k hi hk
    obtain ⟨k, rfl⟩ : ∃ m, k = m + 1 := ⟨k - 1, by omega⟩
    simp only [laws_toInt16S.l0]
    rw [if_neg (by omega), List.take_of_length_le (by simp; omega)]
    simp
  | succ d ih =>
    intro i k hi hk
    obtain ⟨k, rfl⟩ : ∃ m, k = m + 1 := ⟨k - 1, by omega⟩
    have hlen : (((l.map id).take i ++ List.replicate (d + 1) 0).length : Int) = l.length := by simp; omega
    have hg : (l.map id).getD i 0 = id (rd l (i : Int)) := by
      simp [rd, List.getD_eq_getElem?_getD, List.getElem?_map, List.getElem?_eq_getElem (show i < l.length by omega)]
    have hstep := set_rep ((l.map id).take i) i d 0 (id (rd l (i : Int))) (by simp; omega)
    rw [← hg, ← take_getD 0 (l.map id) i (by simp; omega), hg] at hstep
    simp only [laws_toInt16S.l0]
    rw [if_pos (by omega), if_pos (by omega), if_pos (by rw [hlen]; omega), wrap_nat i (by omega), Int.toNat_natCast]
    exact (congrArg (fun o => laws_toInt16S.l0 k l o ((i + 1 : Nat) : Int)) hstep).trans (ih (i + 1) k (by omega) (by omega))
theorem toInt16S_eq (l : List Int) (hl : l.length ≤ 1048576) (k : Nat) (hk : l.length < k) : laws_toInt16S.f k l = some l := by
  unfold laws_toInt16S.f
  rw [if_pos (by omega), if_pos (by omega)]
  have := toInt16S_l0 l hl l.length 0 k (by omega) hk
  simpa using this

theorem eqPeopleS_l0 (a b : List Int) (hab : a.length = b.length) (hl : a.length ≤ 1048576) : ∀ (d i k : Nat), i + d = a.length → d < k → laws_eqPeopleS.l0 k a b (i : Int) = some (decide (a.drop i = b.drop i)) := by
  intro d
  induction d with
  | zero =>
    intro i k hi hk
    obtain ⟨k, rfl⟩ : ∃ m, k = m + 1 := ⟨k - 1, by omega⟩
    simp only [laws_eqPeopleS.l0]
    rw [if_neg (by omega), List.drop_eq_nil_of_le (by omega), List.drop_eq_nil_of_le (by omega)]
    simp
  | succ d ih =>
    intro i k hi hk
    obtain ⟨k, rfl⟩ : ∃ m, k = m + 1 := ⟨k - 1, by omega⟩
    have ha : a.drop i = rd a (i : Int) :: a.drop (i + 1) := by
      rw [drop_getD 0 a i (by omega)]; simp [rd]
    have hb : b.drop i = rd b (i : Int) :: b.drop (i + 1) := by
      rw [drop_getD 0 b i (by omega)]; simp [rd]
    simp only [laws_eqPeopleS.l0]
    rw [if_pos (by omega), if_pos (by omega), if_pos (by omega), ha, hb]
    by_cases e : rd a (i : Int) = rd b (i : Int)
    · rw [if_pos e, wrap_nat i (by omega), ih (i + 1) k (by omega) (by omega)]
      simp [e]
    · rw [if_neg e]
      simp [e]
theorem eqPeopleS_eq (a b : List Int) (hl : a.length ≤ 1048576) (k : Nat) (hk : a.length < k) : laws_eqPeopleS.f k a b = some (decide (a = b)) := by
  unfold laws_eqPeopleS.f
  by_cases h : a.length = b.length
  · rw [if_pos (by omega)]
    have := eqPeopleS_l0 a b h hl a.length 0 k (by omega) hk
    simpa using this
  · rw [if_neg (by omega)]
    have : a ≠ b := fun e => h (by rw [e])
    simp [this]

theorem eqInt16S_l0 (a b : List Int) (hab : a.length = b.length) (hl : a.length ≤ 1048576) : ∀ (d i k : Nat), i + d = a.length → d < k → laws_eqInt16S.l0 k a b (i : Int) = some (decide (a.drop i = b.drop i)) := by
  intro d
  induction d with
  | zero =>
    intro i k hi hk
    obtain ⟨k, rfl⟩ : ∃ m, k = m + 1 := ⟨k - 1, by omega⟩
    simp only [laws_eqInt16S.l0]
    rw [if_neg (by omega), List.drop_eq_nil_of_le (by omega), List.drop_eq_nil_of_le (by omega)]
    simp
  | succ d ih =>
    intro i k hi hk
    obtain ⟨k, rfl⟩ : ∃ m, k = m + 1 := ⟨k - 1, by omega⟩
    have ha : a.drop i = rd a (i : Int) :: a.drop (i + 1) := by
      rw [drop_getD 0 a i (by omega)]; simp [rd]
    have hb : b.drop i = rd b (i : Int) :: b.drop (i + 1) := by
      rw [drop_getD 0 b i (by omega)]; simp [rd]
    simp only [laws_eqInt16S.l0]
    rw [if_pos (by omega), if_pos (by omega), if_pos (by omega), ha, hb]
    by_cases e : rd a (i : Int) = rd b (i : Int)
    · rw [if_pos e, wrap_nat i (by omega), ih (i + 1) k (by omega) (by omega)]
      simp [e]
    · rw [if_neg e]
      simp [e]
theorem eqInt16S_eq (a b : List Int) (hl : a.length ≤ 1048576) (k : Nat) (hk : a.length < k) : laws_eqInt16S.f k a b = some (decide (a = b)) := by
  unfold laws_eqInt16S.f
  by_cases h : a.length = b.length
  · rw [if_pos (by omega)]
    have := eqInt16S_l0 a b h hl a.length 0 k (by omega) hk
    simpa using this
  · rw [if_neg (by omega)]
    have : a ≠ b := fun e => h (by rw [e])
    simp [this]

theorem szPeopleS_eq (l : List Int) (a : Int) (h0 : 0 ≤ a) (h1 : a ≤ 1048576) (hl : l.length ≤ 9223372036854775807) : laws_szPeopleS.f l a = some (if a < l.length then -1 else a - l.length) := by
  unfold laws_szPeopleS.f
  rw [wrap64_id _ (by omega) (by omega)]
  by_cases h : a < (l.length : Int)
  · rw [if_pos (by omega), if_pos h]
  · rw [if_neg (by omega), if_neg h]

theorem szInt16S_eq (l : List Int) (a : Int) (h0 : 0 ≤ a) (h1 : a ≤ 1048576) (hl : l.length ≤ 9223372036854775807) : laws_szInt16S.f l a = some (if a < l.length then -1 else a - l.length) := by
  unfold laws_szInt16S.f
  rw [wrap64_id _ (by omega) (by omega)]
  by_cases h : a < (l.length : Int)
  · rw [if_pos (by omega), if_pos h]
  · rw [if_neg (by omega), if_neg h]

theorem toLog_eq (p : Int) (s c : List Int) (hs : s.length ≤ 1048576) (hc : c.length ≤ 1048576) (k : Nat) (hk : 1048576 < k) : laws_toLog.f k p s c = some (p, s, c) := by
  unfold laws_toLog.f
  rw [toPeopleS_eq s hs k (by omega), Option.bind_some, toInt16S_eq c hc k (by omega), Option.bind_some]
theorem eqLog_eq (p : Int) (s c : List Int) (q : Int) (t d : List Int) (hs : s.length ≤ 1048576) (hc : c.length ≤ 1048576) (k : Nat) (hk : 1048576 < k) : laws_eqLog.f k p s c q t d = some (decide (p = q ∧ s = t ∧ c = d)) := by
  unfold laws_eqLog.f
  rw [eqPeopleS_eq s t hs k (by omega), eqInt16S_eq c d hc k (by omega)]
  by_cases h1 : p = q <;> by_cases h2 : s = t <;> by_cases h3 : c = d <;> simp [h1, h2, h3]
theorem szLog_eq (p : Int) (s c : List Int) (a : Int) (h0 : 0 ≤ a) (h1 : a ≤ 1048576) (hs : s.length ≤ 9223372036854775807) (hc : c.length ≤ 9223372036854775807) :
    laws_szLog.f p s c a = some (if a < (s.length : Int) + c.length then -1 else a - s.length - c.length) := by
  unfold laws_szLog.f
  rw [szPeopleS_eq s a h0 h1 hs, Option.bind_some]
  by_cases h : a < (s.length : Int)
  · rw [if_pos h, if_pos (by decide), if_pos (by omega)]
  · rw [if_neg h, if_neg (by omega), szInt16S_eq c _ (by omega) (by omega) hc, Option.bind_some]
    by_cases h2 : a - (s.length : Int) < c.length
    · rw [if_pos h2, if_pos (by decide), if_pos (by omega)]
    · rw [if_neg h2, if_neg (by omega), if_neg (by omega)]

/-- The numbers of a set from i on. -/
def listFrom (p : Int) : Nat → Nat → List Int
  | 0, _ => []
  | d + 1, i => if hasB p (i : Int) = true then (i : Int) :: listFrom p d (i + 1) else listFrom p d (i + 1)
def listP (p : Int) : List Int := listFrom p 14 0
theorem listFrom_length (p : Int) : ∀ d i, (listFrom p d i).length ≤ d
  | 0, _ => by simp [listFrom]
  | d + 1, i => by
    have := listFrom_length p d (i + 1)
    unfold listFrom
    split <;> simp <;> omega
theorem listP_length (p : Int) : (listP p).length ≤ 14 := listFrom_length p 14 0
theorem l05List_l0 (p : Int) (h0 : 0 ≤ p) (h1 : p < 65536) : ∀ (d i k : Nat) (xs : List Int), i + d = 14 → d < k → xs.length ≤ i → spec_l05List.l0 k p xs (i : Int) = some (xs ++ listFrom p d i) := by
  intro d
  induction d with
  | zero =>
    intro i k xs hi hk hx
    obtain ⟨k, rfl⟩ : ∃ m, k = m + 1 := ⟨k - 1, by omega⟩
    simp only [spec_l05List.l0]
    rw [if_neg (by omega)]
    simp [listFrom]
  | succ d ih =>
    intro i k xs hi hk hx
    obtain ⟨k, rfl⟩ : ∃ m, k = m + 1 := ⟨k - 1, by omega⟩
    simp only [spec_l05List.l0]
    rw [if_pos (by omega), l05Has_eq p i h0 h1 (by omega) (by omega), Option.bind_some, wrap_nat i (by omega)]
    unfold listFrom
    by_cases h : hasB p (i : Int) = true
    · rw [if_pos h, if_pos (by omega), ih (i + 1) k _ (by omega) (by omega) (by simp; omega), if_pos h]
      simp
    · rw [if_neg h, ih (i + 1) k _ (by omega) (by omega) (by omega), if_neg h]
theorem l05List_eq (p : Int) (h0 : 0 ≤ p) (h1 : p < 65536) (k : Nat) (hk : 14 < k) : spec_l05List.f k p = some (listP p) := by
  unfold spec_l05List.f
  have := l05List_l0 p h0 h1 14 0 k [] (by omega) hk (by simp)
  simpa [listP] using this

theorem indices_l0 (p : Int) (h0 : 0 ≤ p) (h1 : p < 65536) : ∀ (d i k : Nat) (xs : List Int), i + d = 14 → d < k → xs.length ≤ i → impl_indices_at_ListPeople_1.l0 k xs 14 (i : Int) p = some (xs ++ listFrom p d i) := by
  intro d
  induction d with
  | zero =>
    intro i k xs hi hk hx
    obtain ⟨k, rfl⟩ : ∃ m, k = m + 1 := ⟨k - 1, by omega⟩
    simp only [impl_indices_at_ListPeople_1.l0]
    rw [if_neg (by omega)]
    simp [listFrom]
  | succ d ih =>
    intro i k xs hi hk hx
    obtain ⟨k, rfl⟩ : ∃ m, k = m + 1 := ⟨k - 1, by omega⟩
    simp only [impl_indices_at_ListPeople_1.l0, impl_ListPeople_1.f]
    have hh : hasP p (i : Int) = hasB p (i : Int) := by
      simp [hasP, (isP_iff (i : Int)).2 (by omega)]
    rw [if_pos (by omega), implHas_eq p i h0 h1, hh, Option.bind_some, Option.bind_some, wrap_nat i (by omega)]
    unfold listFrom
    by_cases h : hasB p (i : Int) = true
    · rw [if_pos h, if_pos (by omega), ih (i + 1) k _ (by omega) (by omega) (by simp; omega), if_pos h]
      simp
    · rw [if_neg h, ih (i + 1) k _ (by omega) (by omega) (by omega), if_neg h]
theorem ListPeople_eq (p : Int) (h0 : 0 ≤ p) (h1 : p < 65536) (k : Nat) (hk : 14 < k) : impl_ListPeople.f k p = some (listP p) := by
  unfold impl_ListPeople.f impl_indices_at_ListPeople_1.f
  have := indices_l0 p h0 h1 14 0 k [] (by omega) hk (by simp)
  rw [show ((0 : Nat) : Int) = 0 from rfl] at this
  rw [this]
  simp [listP]

theorem okFrom_cnt : ∀ (s c : List Int) (b : Int), okFrom b s c = true → ∀ i : Nat, i < s.length → i < c.length → cntOk (rd c (i : Int)) = true := by
  intro s
  induction s with
  | nil => intro c b _ i hi; simp at hi
  | cons x s ih =>
    intro c b h i hi hc
    cases c with
    | nil => simp at hc
    | cons y c =>
      unfold okFrom at h
      rw [Bool.and_eq_true, Bool.and_eq_true] at h
      cases i with
      | zero => rw [rd_nat]; exact h.1.2
      | succ i =>
        have := ih c x h.2 i (by simpa using hi) (by simpa using hc)
        rw [rd_nat] at this ⊢
        exact this
theorem listFrom_mem (p : Int) : ∀ (d i : Nat), ∀ x ∈ listFrom p d i, (i : Int) ≤ x ∧ x < (i : Int) + d := by
  intro d
  induction d with
  | zero => intro i x hx; simp [listFrom] at hx
  | succ d ih =>
    intro i x hx
    unfold listFrom at hx
    split at hx
    · rcases List.mem_cons.1 hx with rfl | hx
      · omega
      · have := ih (i + 1) x hx; omega
    · have := ih (i + 1) x hx; omega
theorem listP_rng (p : Int) (i : Nat) (h : i < (listP p).length) : 0 ≤ rd (listP p) (i : Int) ∧ rd (listP p) (i : Int) < 14 := by
  have hm : rd (listP p) (i : Int) ∈ listP p := by
    rw [rd_nat, List.getD_eq_getElem?_getD, List.getElem?_eq_getElem h]
    exact List.getElem_mem _
  have := listFrom_mem p 14 0 _ hm
  omega
theorem app_empty (b : ByteArray) : b ++ (⟨#[]⟩ : ByteArray) = b := by
  apply ByteArray.ext; rw [ByteArray.data_append]; simp
theorem app_assoc (a b c : ByteArray) : (a ++ b) ++ c = a ++ (b ++ c) := by
  apply ByteArray.ext; simp only [ByteArray.data_append, Array.append_assoc]
theorem app_fold (sep : ByteArray) : ∀ (r : List ByteArray) (b x : ByteArray), b ++ r.foldl (fun a y => (a ++ sep) ++ y) x = r.foldl (fun a y => (a ++ sep) ++ y) (b ++ x) := by
  intro r
  induction r with
  | nil => intro b x; rfl
  | cons y r ih =>
    intro b x
    rw [List.foldl_cons, List.foldl_cons, ih, ← app_assoc, ← app_assoc]
def cm : ByteArray := ⟨#[44]⟩
def headB (n : Int) : ByteArray := ((⟨#[32]⟩ : ByteArray) ++ dB n) ++ (⟨#[47]⟩ : ByteArray)
def tailB (p : Int) : ByteArray := joinB cm ((listP p).map dB)
def txtF (s c : List Int) : Nat → Nat → ByteArray → ByteArray
  | 0, _, a => a
  | d + 1, i, a => txtF s c d (i + 1) (a ++ (headB (rd c (i : Int)) ++ tailB (rd s (i : Int))))
theorem mem_size (p : Int) : ∀ x ∈ (listP p).map dB, x.size ≤ 21 := fun x hx => by
  obtain ⟨n, hn, rfl⟩ := List.mem_map.1 hx
  have := listFrom_mem p 14 0 n hn
  exact dB_size _ (by omega)
theorem tailB_size (p : Int) : (tailB p).size ≤ 308 := by
  have := joinB_size cm rfl _ (mem_size p)
  rw [List.length_map] at this
  have := listP_length p
  unfold tailB
  omega
theorem headB_size (n : Int) (h : 0 ≤ n ∧ n ≤ 100) : (headB n).size ≤ 23 := by
  have := dB_size n (by omega)
  unfold headB
  rw [ByteArray.size_append, ByteArray.size_append, show (⟨#[32]⟩ : ByteArray).size = 1 from rfl, show (⟨#[47]⟩ : ByteArray).size = 1 from rfl]
  omega
theorem specL_l1 (p : Int) (s c : List Int) (x : Int) (i : Nat) (hi : i < 1000) : ∀ (d j k : Nat) (b : ByteArray), 1 ≤ j → j + d = (listP x).length → d + 20 < k → b.size + 22 * d ≤ 100000 → ∃ q, k ≤ q + d + 1 ∧ spec_l05Text.l1 k b (i : Int) (listP x) (j : Int) p s c = spec_l05Text.l0 q ((((listP x).drop j).map dB).foldl (fun a y => (a ++ cm) ++ y) b) ((i + 1 : Nat) : Int) p s c := by
  have hL := listP_length x
  intro d
  induction d with
  | zero =>
    intro j k b h1 hj hk hs
    obtain ⟨k, rfl⟩ : ∃ m, k = m + 1 := ⟨k - 1, by omega⟩
    refine ⟨k, by omega, ?_⟩
    simp only [spec_l05Text.l1]
    rw [if_neg (by omega), List.drop_eq_nil_of_le (by omega), wrap_nat i (by omega)]
    rfl
  | succ d ih =>
    intro j k b h1 hj hk hs
    obtain ⟨k, rfl⟩ : ∃ m, k = m + 1 := ⟨k - 1, by omega⟩
    have hx := listP_rng x j (by omega)
    have hz := dB_size (rd (listP x) (j : Int)) (by omega)
    obtain ⟨q, q1, q2⟩ := ih (j + 1) k ((b ++ cm) ++ dB (rd (listP x) (j : Int))) (by omega) (by omega) (by omega) (by rw [ByteArray.size_append, ByteArray.size_append, show cm.size = 1 from rfl]; omega)
    refine ⟨q, by omega, ?_⟩
    simp only [spec_l05Text.l1]
    rw [if_pos (by omega), if_pos (by omega), if_pos (by omega), if_pos (by omega), specDec_eq _ (by omega) k (by omega), Option.bind_some, if_pos (by omega), wrap_nat j (by omega), drop_rd (listP x) j (by omega)]
    exact q2
theorem specL_in (p : Int) (s c : List Int) (x : Int) (i : Nat) (hi : i < 1000) (k : Nat) (hk : 50 < k) (b : ByteArray) (hs : b.size + 400 ≤ 100000) : ∃ q, k ≤ q + 16 ∧ spec_l05Text.l1 k b (i : Int) (listP x) 0 p s c = spec_l05Text.l0 q (b ++ tailB x) ((i + 1 : Nat) : Int) p s c := by
  have hL := listP_length x
  obtain ⟨k, rfl⟩ : ∃ m, k = m + 1 := ⟨k - 1, by omega⟩
  unfold tailB
  by_cases h0 : (listP x).length = 0
  · refine ⟨k, by omega, ?_⟩
    simp only [spec_l05Text.l1]
    rw [if_neg (by omega), wrap_nat i (by omega), List.length_eq_zero_iff.1 h0, List.map_nil, joinB_nil, app_empty]
  · have hx := listP_rng x 0 (by omega)
    rw [show ((0 : Nat) : Int) = 0 from rfl] at hx
    have hz := dB_size (rd (listP x) 0) (by omega)
    obtain ⟨q, q1, q2⟩ := specL_l1 p s c x i hi ((listP x).length - 1) 1 k (b ++ dB (rd (listP x) 0)) (by omega) (by omega) (by omega) (by rw [ByteArray.size_append]; omega)
    refine ⟨q, by omega, ?_⟩
    simp only [spec_l05Text.l1]
    rw [if_pos (by omega), if_neg (by decide), if_pos (by decide), specDec_eq _ (by omega) k (by omega), Option.bind_some, if_pos (by omega), show wrap64 (0 + 1) = ((1 : Nat) : Int) by rw [wrap64_id _ (by decide) (by decide)]; rfl, q2]
    have hd := drop_rd (listP x) 0 (by omega)
    rw [List.drop_zero, show ((0 : Nat) : Int) = 0 from rfl] at hd
    have hj : joinB cm ((listP x).map dB) = (((listP x).drop 1).map dB).foldl (fun a y => (a ++ cm) ++ y) (dB (rd (listP x) 0)) := by
      conv => lhs; rw [hd]
      rw [List.map_cons, joinB_cons]
    rw [hj, app_fold]
theorem specL_l0 (p : Int) (s c : List Int) (hl : s.length ≤ 12) (hc : s.length = c.length) (hs : ∀ i : Nat, i < s.length → 0 ≤ rd s (i : Int) ∧ rd s (i : Int) < 65536) (hn : ∀ i : Nat, i < s.length → wrap64 (rd c (i : Int)) = rd c (i : Int) ∧ 0 ≤ rd c (i : Int) ∧ rd c (i : Int) ≤ 100) : ∀ (d i k : Nat) (a : ByteArray), i + d = s.length → d * 20 + 100 < k → a.size + 800 * d ≤ 90000 → spec_l05Text.l0 k a (i : Int) p s c = some (txtF s c d i a) := by
  intro d
  induction d with
  | zero =>
    intro i k a hi hk ha
    obtain ⟨k, rfl⟩ : ∃ m, k = m + 1 := ⟨k - 1, by omega⟩
    simp only [spec_l05Text.l0]
    rw [if_neg (by omega)]
    rfl
  | succ d ih =>
    intro i k a hi hk ha
    obtain ⟨k, rfl⟩ : ∃ m, k = m + 1 := ⟨k - 1, by have := Nat.zero_le (d * 20); rw [Nat.succ_mul] at hk; omega⟩
    obtain ⟨D, hD⟩ : ∃ D, D = d * 20 := ⟨_, rfl⟩
    obtain ⟨E, hE⟩ : ∃ E, E = 800 * d := ⟨_, rfl⟩
    rw [Nat.succ_mul, ← hD] at hk
    rw [Nat.mul_succ, ← hE] at ha
    have ih' : ∀ (i k : Nat) (a : ByteArray), i + d = s.length → D + 100 < k → a.size + E ≤ 90000 → _ := fun i k a h1 h2 h3 => ih i k a h1 (hD ▸ h2) (hE ▸ h3)
    clear ih hD hE
    obtain ⟨n0, n1, n2⟩ := hn i (by omega)
    have hz := dB_size (rd c (i : Int)) (by omega)
    have hh := headB_size (rd c (i : Int)) ⟨n1, n2⟩
    have ht := tailB_size (rd s (i : Int))
    have hsi := hs i (by omega)
    have hA : a.size ≤ 89200 := by clear hz hh ht hsi ih' hn hs; omega
    have hAB : (a ++ headB (rd c (i : Int))).size + 400 ≤ 100000 := by
      have e : (a ++ headB (rd c (i : Int))).size = a.size + (headB (rd c (i : Int))).size := ByteArray.size_append
      rw [e]
      exact Nat.le_trans (Nat.add_le_add_right (Nat.add_le_add hA hh) 400) (by decide)
    have hk50 : 50 < k := by clear hz hh ht hsi ih' hn hs; omega
    obtain ⟨q, q1, q2⟩ := specL_in p s c (rd s (i : Int)) i (by omega) k hk50 (a ++ headB (rd c (i : Int))) hAB
    simp only [spec_l05Text.l0]
    rw [if_pos (by omega), if_pos (by omega), if_pos (by omega), n0, specDec_eq _ (by omega) k (by omega), Option.bind_some, if_pos (by omega), if_pos (by omega), if_pos (by omega), l05List_eq _ hsi.1 hsi.2 k (by omega), Option.bind_some]
    rw [show ((⟨#[32]⟩ : ByteArray) ++ dB (rd c (i : Int))) ++ (⟨#[47]⟩ : ByteArray) = headB (rd c (i : Int)) from rfl, q2, app_assoc]
    exact ih' (i + 1) q _ (by omega) (by omega) (by rw [ByteArray.size_append, ByteArray.size_append]; omega)
theorem implL_l1 (p : Int) (s c : List Int) (hc : s.length = c.length) (hl : s.length ≤ 12) (x : Int) (i : Nat) (hi : i < s.length) (hn : wrap64 (rd c (i : Int)) = rd c (i : Int) ∧ 0 ≤ rd c (i : Int) ∧ rd c (i : Int) ≤ 100) (a : ByteArray) (ha : a.size ≤ 90000) : ∀ (d j k : Nat), j + d = (listP x).length → d + 20 < k → ∃ q, k ≤ q + d + 1 ∧ impl_LogText.l1 k a (i : Int) (((listP x).take j).map dB) s (s.length : Int) (i : Int) (listP x) ((listP x).length : Int) (j : Int) p s c = impl_LogText.l0 q (a ++ (headB (rd c (i : Int)) ++ tailB x)) s (s.length : Int) ((i + 1 : Nat) : Int) p s c := by
  have hL := listP_length x
  intro d
  induction d with
  | zero =>
    intro j k hj hk
    obtain ⟨k, rfl⟩ : ∃ m, k = m + 1 := ⟨k - 1, by omega⟩
    obtain ⟨n0, n1, n2⟩ := hn
    have hz := dB_size (rd c (i : Int)) (by omega)
    have ht := tailB_size x
    refine ⟨k, by omega, ?_⟩
    simp only [impl_LogText.l1]
    rw [if_neg (by omega), if_pos (by omega), if_pos (by omega), n0, implDec_eq _ (by omega), Option.bind_some, if_pos (by omega), if_pos (by omega), List.take_of_length_le (by omega)]
    rw [implJoin_eq ((listP x).map dB) ⟨#[44]⟩ (by rw [List.length_map]; omega) (by show (tailB x).size ≤ _; omega), Option.bind_some]
    rw [show joinB ⟨#[44]⟩ ((listP x).map dB) = tailB x from rfl, if_pos (by omega), if_pos (by omega), wrap_nat i (by omega)]
    rfl
  | succ d ih =>
    intro j k hj hk
    obtain ⟨k, rfl⟩ : ∃ m, k = m + 1 := ⟨k - 1, by omega⟩
    have hx := listP_rng x j (by omega)
    obtain ⟨q, q1, q2⟩ := ih (j + 1) k (by omega) (by omega)
    refine ⟨q, by omega, ?_⟩
    simp only [impl_LogText.l1]
    rw [if_pos (by omega), if_pos (by omega), if_pos (by omega), implDec_eq _ (by omega), Option.bind_some, if_pos (by rw [List.length_map, List.length_take]; omega), wrap_nat j (by omega)]
    have ht : ((listP x).take j).map dB ++ [dB (rd (listP x) (j : Int))] = ((listP x).take (j + 1)).map dB := by
      rw [take_getD 0 (listP x) j (by omega), List.map_append, rd_nat]; rfl
    rw [ht]
    exact q2
theorem implL_l0 (p : Int) (s c : List Int) (hl : s.length ≤ 12) (hc : s.length = c.length) (hs : ∀ i : Nat, i < s.length → 0 ≤ rd s (i : Int) ∧ rd s (i : Int) < 65536) (hn : ∀ i : Nat, i < s.length → wrap64 (rd c (i : Int)) = rd c (i : Int) ∧ 0 ≤ rd c (i : Int) ∧ rd c (i : Int) ≤ 100) : ∀ (d i k : Nat) (a : ByteArray), i + d = s.length → d * 20 + 100 < k → a.size + 800 * d ≤ 90000 → impl_LogText.l0 k a s (s.length : Int) (i : Int) p s c = some (txtF s c d i a) := by
  intro d
  induction d with
  | zero =>
    intro i k a hi hk ha
    obtain ⟨k, rfl⟩ : ∃ m, k = m + 1 := ⟨k - 1, by omega⟩
    simp only [impl_LogText.l0]
    rw [if_neg (by omega)]
    rfl
  | succ d ih =>
    intro i k a hi hk ha
    obtain ⟨k, rfl⟩ : ∃ m, k = m + 1 := ⟨k - 1, by have := Nat.zero_le (d * 20); rw [Nat.succ_mul] at hk; omega⟩
    obtain ⟨D, hD⟩ : ∃ D, D = d * 20 := ⟨_, rfl⟩
    obtain ⟨E, hE⟩ : ∃ E, E = 800 * d := ⟨_, rfl⟩
    rw [Nat.succ_mul, ← hD] at hk
    rw [Nat.mul_succ, ← hE] at ha
    have ih' : ∀ (i k : Nat) (a : ByteArray), i + d = s.length → D + 100 < k → a.size + E ≤ 90000 → _ := fun i k a h1 h2 h3 => ih i k a h1 (hD ▸ h2) (hE ▸ h3)
    clear ih hD hE
    have hni := hn i (by omega)
    have hh := headB_size (rd c (i : Int)) hni.2
    have ht := tailB_size (rd s (i : Int))
    have hsi := hs i (by omega)
    have hL := listP_length (rd s (i : Int))
    obtain ⟨q, q1, q2⟩ := implL_l1 p s c hc hl (rd s (i : Int)) i (by omega) hni a (by omega) (listP (rd s (i : Int))).length 0 k (by omega) (by omega)
    rw [List.take_zero, List.map_nil, show ((0 : Nat) : Int) = 0 from rfl] at q2
    simp only [impl_LogText.l0]
    rw [if_pos (by omega), if_pos (by omega), if_pos (by omega), ListPeople_eq _ hsi.1 hsi.2 k (by omega), Option.bind_some, q2]
    exact ih' (i + 1) q _ (by omega) (by omega) (by rw [ByteArray.size_append, ByteArray.size_append]; omega)
theorem main : laws_FnExactLogText.Pure := by
  intro p s c hp hs hc
  refine rounds_of 2000000 fun k hk => ?_
  unfold laws_FnExactLogText.f
  rw [szLog_eq p s c 1048576 (by decide) (by decide) hs.1 hc.1, Option.bind_some]
  by_cases hl : (1048576 : Int) < (s.length : Int) + c.length
  · rw [if_pos hl, if_pos (by decide)]
  · rw [if_neg hl, if_neg (by omega), toLog_eq p s c (by omega) (by omega) k (by omega)]
    simp only [Option.bind_some]
    have key : spec_LogText.f k p s c = impl_LogText.f k p s c ∧ ∃ t, impl_LogText.f k p s c = some t := by
      unfold spec_LogText.f impl_LogText.f
      rw [l05Ok_eq p s c (by omega) k (by omega), implValid_eq p s c (by omega) k (by omega), Option.bind_some, Option.bind_some]
      by_cases h : okLog p s c = true
      · obtain ⟨h1, h2, h3⟩ := okLog_iff p s c h
        have hok : okFrom (allB p) s c = true := by
          simp only [okLog, Bool.and_eq_true] at h
          exact h.2
        have hsr : ∀ i : Nat, i < s.length → 0 ≤ rd s (i : Int) ∧ rd s (i : Int) < 65536 := fun i hi => by
          rw [rd_nat, List.getD_eq_getElem?_getD, List.getElem?_eq_getElem hi]
          have := wf_u16 (hs.2 _ (List.getElem_mem hi))
          show 0 ≤ s[i] ∧ s[i] < 65536
          omega
        have hnr : ∀ i : Nat, i < s.length → wrap64 (rd c (i : Int)) = rd c (i : Int) ∧ 0 ≤ rd c (i : Int) ∧ rd c (i : Int) ≤ 100 := fun i hi => by
          have hw : wrap64 (rd c (i : Int)) = rd c (i : Int) := by
            rw [rd_nat, List.getD_eq_getElem?_getD, List.getElem?_eq_getElem (by omega)]
            have := wf_i16 (hc.2 _ (List.getElem_mem (show i < c.length by omega)))
            exact wrap64_id _ (by show _ ≤ c[i]; omega) (by show c[i] ≤ _; omega)
          have := okFrom_cnt s c _ hok i hi (by omega)
          unfold cntOk at this
          rw [decide_eq_true_eq, hw] at this
          exact ⟨hw, this⟩
        have hz := dB_size p (by omega)
        have hsz : (dB p ++ (⟨#[58]⟩ : ByteArray)).size = (dB p).size + 1 := by rw [ByteArray.size_append]; rfl
        have e1 := specL_l0 p s c (by omega) h3 hsr hnr s.length 0 k (dB p ++ (⟨#[58]⟩ : ByteArray)) (by omega) (by omega) (by omega)
        have e2 := implL_l0 p s c (by omega) h3 hsr hnr s.length 0 k (dB p ++ (⟨#[58]⟩ : ByteArray)) (by omega) (by omega) (by omega)
        rw [show ((0 : Nat) : Int) = 0 from rfl] at e1 e2
        unfold spec_l05Text.f
        rw [if_pos h, if_pos h, specDec_eq p (by omega) k (by omega), implDec_eq p (by omega), Option.bind_some, Option.bind_some, if_pos (by omega), if_pos (by omega), e1, e2]
        exact ⟨rfl, _, rfl⟩
      · rw [if_neg h, if_neg h]
        exact ⟨rfl, _, rfl⟩
    obtain ⟨t1, t, t2⟩ := key
    rw [t1, t2]
    simp only [Option.bind_some, if_true]
    rw [eqLog_eq p s c p s c (by omega) (by omega) k (by omega)]
    simp

end Go.Proofs.YtgpilljegihblaaDoor.PureFnExactLogText
namespace Go.Proofs.YtgpilljegihblaaDoor.Pure
theorem FnExactLogText : Go.Proofs.YtgpilljegihblaaDoor.P.laws_FnExactLogText.Pure := Go.Proofs.YtgpilljegihblaaDoor.PureFnExactLogText.main
end Go.Proofs.YtgpilljegihblaaDoor.Pure
