-- Printed by wip/print (my turned copy of the kit's print) out of the translation; Lean checks it.
import Derived.Test.YtooidjdgfoioiaaP0
import Derived.Test.YtooidjdgfoioiaaP3
import Derived.Test.YtooidjdgfoioiaaP4
namespace Go.Proofs.Ytooidjdgfoioiaa.P
open Go.RowKit Go.Proofs.YtooidjdgfoioiaaW.PrintWords Go.Proofs.YtooidjdgfoioiaaW.PrintLast Go.Proofs.YtooidjdgfoioiaaW.PrintMore
attribute [local go_sem] max2_int min2_int max_two min_two max_three min_three max_four min_four   -- for this text's walks alone
set_option linter.unusedVariables false
set_option linter.unusedSimpArgs false

/-! ### spec_l01Two: function 74 -/
def spec_l01Two.j0 : Nat → Int → Int → Int → Int → Int → Int → Int → Int → Int → Int → Int → Int → Int → Int → Int → Int → Int → Option (Int)
  | 0, _, _, _, _, _, _, _, _, _, _, _, _, _, _, _, _, _ => none
  | k + 1, x7, AH, AE, AK, AL, AM, AN, AG, AO, AF, AI, AP, AJ, AB, AA, AD, AC => if x7 = 0 then ((spec_l01Free.f AH AE AK AL AM AN AG AO AF AI AP AJ AB AA).bind fun AR => (if AR = true then ((spec_l01Free.f AH AE AK AL AM AN AG AO AF AI AP AJ AD AC).bind fun AQ => (if AQ = true then (some x7) else (some 4))) else (some 4))) else (some x7)
def spec_l01Two.f (k : Nat) (AC : Int) (AE : Int) (AJ : Int) (AF : Int) (AG : Int) (AK : Int) (AI : Int) (AD : Int) (AL : Int) (AH : Int) (AA : Int) (AB : Int) (AN : Int) (AO : Int) (AP : Int) (AM : Int) : Option (Int) := (spec_l01Asked.f k AC AE AJ AF AG AK AI AD AL AH AA AB AN AO true).bind fun AQ => (if AQ = 0 then ((spec_l01Asked.f k AC AE AJ AF AG AK AI AD AL AH AA AB AP AM true).bind fun AR => (spec_l01Two.j0 k AR AC AE AJ AF AG AK AI AD AL AH AA AB AN AO AP AM)) else (spec_l01Two.j0 k AQ AC AE AJ AF AG AK AI AD AL AH AA AB AN AO AP AM))
set_option maxHeartbeats 8000000 in
set_option maxRecDepth 100000 in
theorem spec_l01Two.calls (k : Nat) (b0 : Nat) (Ak : Int) (Af : Int) (Aj : Int) (Ac : Int) (Ag : Int) (Ah : Int) (An : Int) (Al : Int) (Ae : Int) (Ai : Int) (AX : Int) (AW : Int) (AU : Int) (AV : Int) (Aa : Int) (Ab : Int) (r : Int) (w : World) (Bz : w.heap[b0]? = some (.cells #[.int .i8 Ak, .int .i8 Af, .int .u16 Aj, .int .u16 Ac, .int .u16 Ag, .int .u16 Ah, .int .u16 An, .int .u16 Al, .int .u16 Ae, .int .u16 Ai, .int .u16 AX, .int .u16 AW] 35 (0, 0))) (h : spec_l01Two.f k Ak Af Aj Ac Ag Ah An Al Ae Ai AX AW AU AV Aa Ab = some r) :
    Calls Try.prog 74 #[.pointer (some ⟨b0, 0, none⟩), .agg #[.int .i8 AU, .int .i8 AV], .agg #[.int .i8 Aa, .int .i8 Ab]] w fun e w' => e = .returned (.int .i64 r) ∧ Below w.heap.size w w' := by
 have CM := Try.underlying62
 have AT := ak Bz
 clear Bz
 have HB := ak (Below.refl w.heap.size w)
 have H := h
 unfold spec_l01Two.f at H
 clear h
 replace H := Option.bind_eq_some_iff.mp H
 obtain ⟨Aq, Bx, H⟩ := H
 have A4 := ak Bx
 clear Bx
 have Bf := ak H
 clear H
 go_enter Try.func74, Try.ntmps74
 go_upto_if 12 with (first | ((with_reducible refine gate_dst (N := 4) rfl ?_); refine box_event ?hg (N := 4) ?hd (cs := #[.int .i8 AU, .int .i8 AV]) (t := 62) ?hr ?_; (case hd => rfl); (case hg => rfl); (case hr => first | (go_simp; done) | (go_simp; rfl)); intro AS hg w6 hbox hb; have Ay := ak (blk_below (g := b0) (o := .cells #[.int .i8 Ak, .int .i8 Af, .int .u16 Aj, .int .u16 Ac, .int .u16 Ag, .int .u16 Ah, .int .u16 An, .int .u16 Al, .int .u16 Ae, .int .u16 Ai, .int .u16 AX, .int .u16 AW] 35 (0, 0)) (zK AT.out) hb); have Aw := ak (below_step (zB HB.out) hb); have Ax := ak (hbox); have Az := gS HB hg; have BC := gS HB hg; have A3 := nL AT hg; have BB := nG AT hg; clear AT HB; have AT := Ay; have HB := Aw; have AA := Ax; have CC := Az; have AC := BC; have AZ := A3; have AY := BB; clear Ay Aw Ax Az BC A3 BB; clear hb hbox hg) | ((with_reducible refine gate_dst (N := 5) rfl ?_); refine box_event ?hg (N := 5) ?hd (cs := #[.int .i8 Aa, .int .i8 Ab]) (t := 62) ?hr ?_; (case hd => rfl); (case hg => rfl); (case hr => first | (go_simp; done) | (go_simp; rfl)); intro Ar hg w7 hbox hb; have Ay := ak (blk_below (g := b0) (o := .cells #[.int .i8 Ak, .int .i8 Af, .int .u16 Aj, .int .u16 Ac, .int .u16 Ag, .int .u16 Ah, .int .u16 An, .int .u16 Al, .int .u16 Ae, .int .u16 Ai, .int .u16 AX, .int .u16 AW] 35 (0, 0)) (zK AT.out) hb); have Aw := ak (blk_below (g := AS) (o := .cells #[.int .i8 AU, .int .i8 AV] 62 (0, 0)) (zK AA.out) hb); have Ax := ak (below_step (zBG HB.out AC.out) hb); have Az := ak (hbox); have BC := gS1 HB AC hg; have A3 := gS1 HB AC hg; have BB := nL AT hg; have Bs := nG AT hg; have Bu := nL AA hg; have Bv := nG AA hg; clear AT AA HB; have AT := Ay; have AA := Aw; have HB := Ax; have AB := Az; have B0 := BC; have AR := A3; have Am := BB; have Ad := Bs; have AQ := Bu; have AP := Bv; clear Ay Aw Ax Az BC A3 BB Bs Bu Bv; clear hb hbox hg; have CN := AY.out; have CG := AZ.out; have CK := AQ.out; have CJ := AP.out; have Av : w7.cell? ⟨AS, 0, none⟩ = some (.int .i8 AU) := (blk_cell AA.out 0).trans rfl; have Au : w7.cell? ⟨AS, 1, none⟩ = some (.int .i8 AV) := (blk_cell AA.out 1).trans rfl; have At := blk_frozen AA.out 0; have As := blk_frozen AA.out 1) | ((with_reducible refine gate_callee (f := 89) rfl ?_); refine goesL_ (some 10) rfl rfl Try.func89 (by kernel_rfl) rfl #[.pointer (some ⟨b0, 0, none⟩), .agg #[.int .i8 AU, .int .i8 AV], .bool true] rfl gl_ ?_; (with_reducible refine (spec_l01Asked.calls k b0 Ak Af Aj Ac Ag Ah An Al Ae Ai AX AW AU AV true Aq _ ?side1 A4.out).mono ?_); (case side1 => exact (zK AT.out)); rintro e Bl ⟨rfl, hb⟩; refine ⟨_, rfl, ?_⟩; have Ay := ak (blk_below (g := b0) (o := .cells #[.int .i8 Ak, .int .i8 Af, .int .u16 Aj, .int .u16 Ac, .int .u16 Ag, .int .u16 Ah, .int .u16 An, .int .u16 Al, .int .u16 Ae, .int .u16 Ai, .int .u16 AX, .int .u16 AW] 35 (0, 0)) (zK AT.out) hb); have Aw := ak (blk_below (g := AS) (o := .cells #[.int .i8 AU, .int .i8 AV] 62 (0, 0)) (zK AA.out) hb); have Ax := ak (blk_below (g := Ar) (o := .cells #[.int .i8 Aa, .int .i8 Ab] 62 (0, 0)) (zK AB.out) hb); have Az := ak (below_step (zH2 HB AC AR) hb); clear AT AA AB HB; have AT := Ay; have AA := Aw; have AB := Ax; have HB := Az; clear Ay Aw Ax Az; (try clear hb); (try clear hb2); (try clear hk); (try clear hi)))
 (try simp only [Act.put, zs, zz, zk])
 go_cut [7] (fun v7 wc => ∃ (kq : Nat) (Ao : Int) (AL : Int) (AJ : Int) (AG : Int) (AM : Int) (AN : Int) (AK : Int) (AO : Int) (AF : Int) (AE : Int) (AD : Int) (AH : Int) (AI : Int), v7 = .int .i64 Ao ∧ Aside0 (spec_l01Two.j0 kq Ao AL AJ AG AM AN AK AO AF AE AD AH AI AU AV Aa Ab = some r) ∧ Aside0 (kq ≤ k) ∧ Aside0 (wc.heap[b0]? = some (.cells #[.int .i8 AL, .int .i8 AJ, .int .u16 AG, .int .u16 AM, .int .u16 AN, .int .u16 AK, .int .u16 AO, .int .u16 AF, .int .u16 AE, .int .u16 AD, .int .u16 AH, .int .u16 AI] 35 (0, 0))) ∧ Aside0 (wc.heap[AS]? = some (.cells #[.int .i8 AU, .int .i8 AV] 62 (0, 0))) ∧ Aside0 (wc.heap[Ar]? = some (.cells #[.int .i8 Aa, .int .i8 Ab] 62 (0, 0))) ∧ Aside0 (Below w.heap.size w wc))
 case first => (
 have H := Bf.out
 clear Bf
 by_cases A0 : Aq = 0
 {
 rw [if_pos A0] at H
 have Ap : (Aq == 0) = true := beq_iff_eq.mpr A0
 have A9 : (Aq != 0) = false := bne_eq_false_iff_eq.mpr A0
 clear A0
 (first | rw [Ap] | (simp only [i64_w, i32_w]; rw [Ap]) | skip)
 replace H := Option.bind_eq_some_iff.mp H
 obtain ⟨A7, A5, H⟩ := H
 have CH := ak A5
 clear A5
 have H' := ak H
 clear H
 have Bn := Ad.out
 have Bq := Am.out
 have CD := AP.out
 have Bm := AQ.out
 have Bb : Bl.cell? ⟨Ar, 0, none⟩ = some (.int .i8 Aa) := (blk_cell AB.out 0).trans rfl
 have BU : Bl.cell? ⟨Ar, 1, none⟩ = some (.int .i8 Ab) := (blk_cell AB.out 1).trans rfl
 have Bc := blk_frozen AB.out 0
 have BN := blk_frozen AB.out 1
 go_wp2_with (first | ((with_reducible refine gate_callee (f := 89) rfl ?_); refine goesL_ (some 15) rfl rfl Try.func89 (by kernel_rfl) rfl #[.pointer (some ⟨b0, 0, none⟩), .agg #[.int .i8 Aa, .int .i8 Ab], .bool true] rfl gl_ ?_; (with_reducible refine (spec_l01Asked.calls k b0 Ak Af Aj Ac Ag Ah An Al Ae Ai AX AW Aa Ab true A7 _ ?side1 CH.out).mono ?_); (case side1 => exact (zK AT.out)); rintro e CS ⟨rfl, hb⟩; refine ⟨_, rfl, ?_⟩; replace AT := kK AT hb; replace AA := kK AA hb; replace AB := kK AB hb; replace HB := kB2 HB AC AR hb; (try clear hb)))
 go_meet
 case rel => exact ⟨_, (A7), (Ak), (Af), (Aj), (Ac), (Ag), (Ah), (An), (Al), (Ae), (Ai), (AX), (AW), rfl, H', ⟨by omega⟩, ⟨(zK AT.out)⟩, ⟨(zK AA.out)⟩, ⟨(zK AB.out)⟩, ⟨zH2 HB AC AR⟩⟩
 }
 {
 rw [if_neg A0] at H
 have Ap : (Aq == 0) = false := beq_eq_false_iff_ne.mpr A0
 have A9 : (Aq != 0) = true := bne_iff_ne.mpr A0
 (first | rw [Ap] | (simp only [i64_w, i32_w]; rw [Ap]) | skip)
 have H' := ak H
 clear H
 go_wp2
 go_meet
 case rel => exact ⟨_, (Aq), (Ak), (Af), (Aj), (Ac), (Ag), (Ah), (An), (Al), (Ae), (Ai), (AX), (AW), rfl, H', ⟨by omega⟩, ⟨(zK AT.out)⟩, ⟨(zK AA.out)⟩, ⟨(zK AB.out)⟩, ⟨zH2 HB AC AR⟩⟩
 }
 )
 case rest => (
 clear Bf
 obtain ⟨kq, Ao, AL, AJ, AG, AM, AN, AK, AO, AF, AE, AD, AH, AI, rfl, HA, CP, AT, AA, AB, HB⟩ := hcut
 cases kq with
 | zero => exact absurd HA.out (by simp [spec_l01Two.j0])
 | succ CQ => (
 have H := HA.out
 clear HA
 simp only [spec_l01Two.j0] at H
 by_cases A1 : Ao = 0
 {
 rw [if_pos A1] at H
 have A2 : (Ao == 0) = true := beq_iff_eq.mpr A1
 have A6 : (Ao != 0) = false := bne_eq_false_iff_eq.mpr A1
 clear A1
 replace H := Option.bind_eq_some_iff.mp H
 obtain ⟨Bg, A8, H⟩ := H
 have Bd := ak A8
 clear A8
 by_cases BL : Bg = true
 {
 subst BL
 rw [if_pos rfl] at H
 replace H := Option.bind_eq_some_iff.mp H
 obtain ⟨Be, BA, H⟩ := H
 have CF := ak BA
 clear BA
 by_cases BG : Be = true
 {
 subst BG
 rw [if_pos rfl] at H
 obtain rfl := Option.some.inj H
 have Bp := AY.out
 have Bi := AZ.out
 have CA := AQ.out
 have By := AP.out
 have BX : wc.cell? ⟨AS, 0, none⟩ = some (.int .i8 AU) := (blk_cell AA.out 0).trans rfl
 have BY : wc.cell? ⟨AS, 1, none⟩ = some (.int .i8 AV) := (blk_cell AA.out 1).trans rfl
 have BW := blk_frozen AA.out 0
 have BJ := blk_frozen AA.out 1
 go_wp2_with (first | (go_at_call 84; (with_reducible refine (spec_l01Free.calls b0 AL AJ AG AM AN AK AO AF AE AD AH AI AU AV true _ ?side1 Bd.out).mono ?_); (case side1 => exact (zK AT.out)); rintro e CI ⟨rfl, hb⟩; replace AT := kK AT hb; replace AA := kK AA hb; replace AB := kK AB hb; replace HB := kB2 HB AC AR hb; (try clear hb); have B3 := Ad.out; have Bj := Am.out; obtain ⟨BV, BK, BP, BI⟩ := cz2 CI AB) | (go_at_call 84; (with_reducible refine (spec_l01Free.calls b0 AL AJ AG AM AN AK AO AF AE AD AH AI Aa Ab true _ ?side1 CF.out).mono ?_); (case side1 => exact (zK AT.out)); rintro e CR ⟨rfl, hb⟩; replace AT := kK AT hb; replace AA := kK AA hb; replace AB := kK AB hb; replace HB := kB2 HB AC AR hb; (try clear hb)))
 go_ret
 exact ⟨rfl, zH2 HB AC AR⟩
 }
 {
 replace BG := Bool.eq_false_iff.mpr BG
 subst BG
 rw [if_neg (show ¬ (false = true) by decide)] at H
 obtain rfl := Option.some.inj H
 have Bw := AY.out
 have Bo := AZ.out
 have CE := AQ.out
 have Br := AP.out
 have BF : wc.cell? ⟨AS, 0, none⟩ = some (.int .i8 AU) := (blk_cell AA.out 0).trans rfl
 have BQ : wc.cell? ⟨AS, 1, none⟩ = some (.int .i8 AV) := (blk_cell AA.out 1).trans rfl
 have BE := blk_frozen AA.out 0
 have BH := blk_frozen AA.out 1
 go_wp2_with (first | (go_at_call 84; (with_reducible refine (spec_l01Free.calls b0 AL AJ AG AM AN AK AO AF AE AD AH AI AU AV true _ ?side1 Bd.out).mono ?_); (case side1 => exact (zK AT.out)); rintro e CL ⟨rfl, hb⟩; replace AT := kK AT hb; replace AA := kK AA hb; replace AB := kK AB hb; replace HB := kB2 HB AC AR hb; (try clear hb); have Bk := Ad.out; have CB := Am.out; obtain ⟨BM, BS, BR, BZ⟩ := cz2 CL AB) | (go_at_call 84; (with_reducible refine (spec_l01Free.calls b0 AL AJ AG AM AN AK AO AF AE AD AH AI Aa Ab false _ ?side1 CF.out).mono ?_); (case side1 => exact (zK AT.out)); rintro e CO ⟨rfl, hb⟩; replace AT := kK AT hb; replace AA := kK AA hb; replace AB := kK AB hb; replace HB := kB2 HB AC AR hb; (try clear hb)))
 go_ret
 exact ⟨rfl, zH2 HB AC AR⟩
 }
 }
 {
 replace BL := Bool.eq_false_iff.mpr BL
 subst BL
 rw [if_neg (show ¬ (false = true) by decide)] at H
 obtain rfl := Option.some.inj H
 have B9 := AY.out
 have Bt := AZ.out
 have Bh := AQ.out
 have B8 := AP.out
 have BO : wc.cell? ⟨AS, 0, none⟩ = some (.int .i8 AU) := (blk_cell AA.out 0).trans rfl
 have Ba : wc.cell? ⟨AS, 1, none⟩ = some (.int .i8 AV) := (blk_cell AA.out 1).trans rfl
 have BD := blk_frozen AA.out 0
 have BT := blk_frozen AA.out 1
 go_wp2_with (first | (go_at_call 84; (with_reducible refine (spec_l01Free.calls b0 AL AJ AG AM AN AK AO AF AE AD AH AI AU AV false _ ?side1 Bd.out).mono ?_); (case side1 => exact (zK AT.out)); rintro e CT ⟨rfl, hb⟩; replace AT := kK AT hb; replace AA := kK AA hb; replace AB := kK AB hb; replace HB := kB2 HB AC AR hb; (try clear hb)))
 go_ret
 exact ⟨rfl, zH2 HB AC AR⟩
 }
 }
 {
 rw [if_neg A1] at H
 have A2 : (Ao == 0) = false := beq_eq_false_iff_ne.mpr A1
 have A6 : (Ao != 0) = true := bne_iff_ne.mpr A1
 obtain rfl := Option.some.inj H
 go_wp2
 go_ret
 exact ⟨rfl, zH2 HB AC AR⟩
 }
 )
 )
/-! ### spec_l01Next: function 94 -/
def spec_l01Next.f (AB : Int) (AA : Int) (a1 : Int) : Option (Int × Int) := if a1 = 0 then (some (AB, IntKind.i8.wrap (AA - 1))) else (if a1 = 1 then (some (IntKind.i8.wrap (AB + 1), AA)) else (if a1 = 2 then (some (AB, IntKind.i8.wrap (AA + 1))) else (if a1 = 3 then (some (IntKind.i8.wrap (AB - 1), AA)) else (some (AB, AA)))))
set_option maxHeartbeats 8000000 in
set_option maxRecDepth 100000 in
theorem spec_l01Next.calls (AF : Int) (AI : Int) (a1 : Int) (r1 : Int) (r2 : Int) (w : World) (h : spec_l01Next.f AF AI a1 = some (r1, r2)) :
    Calls Try.prog 94 #[.agg #[.int .i8 AF, .int .i8 AI], .int .i64 a1] w fun e w' => e = .returned (.agg #[.int .i8 r1, .int .i8 r2]) ∧ Below w.heap.size w w' := by
 have BN := Try.underlying62
 have HB := ak (Below.refl w.heap.size w)
 have H := h
 unfold spec_l01Next.f at H
 clear h
 by_cases c3 : a1 = 0
 {
 rw [if_pos c3] at H
 have A0 : (a1 == 0) = true := beq_iff_eq.mpr c3
 have A1 : (a1 != 0) = false := bne_eq_false_iff_eq.mpr c3
 clear c3
 simp only [Option.some.injEq, Prod.mk.injEq] at H
 obtain ⟨rfl, rfl⟩ := H
 go_enter Try.func94, Try.ntmps94
 go_wp2_with (first | ((with_reducible refine gate_dst (N := 2) rfl ?_); refine box_event ?hg (N := 2) ?hd (cs := #[.int .i8 AF, .int .i8 AI]) (t := 62) ?hr ?_; (case hd => rfl); (case hg => rfl); (case hr => first | (go_simp; done) | (go_simp; rfl)); intro AL hg w4 hbox hb; have AB := ak (hbox); have AJ := gS HB hg; have AC := gS HB hg; replace HB := kB HB hb; clear hb hbox hg) | ((with_reducible refine gate_dst (N := 4) rfl ?_); refine box_event ?hg (N := 4) ?hd (cs := #[.int .i8 0, .int .i8 0]) (t := 62) ?hr ?_; (case hd => rfl); (case hg => rfl); (case hr => first | (go_simp; done) | (go_simp; rfl)); intro AH hg w5 hbox hb; have AE := ak (hbox); have AK := gS1 HB AC hg; have AG := gS1 HB AC hg; have AD := nL AB hg; have AA := nG AB hg; replace AB := kK AB hb; replace HB := kB1 HB AC hb; clear hb hbox hg; have BM := AD.out; have BO := AA.out; obtain ⟨A2, A9, A6, A3⟩ := cz2 w5 AB; obtain ⟨Az, A4, Ay, A5⟩ := cz2 w5 AE))
 refine bodyPost_ret (results_cell_row rfl _ _ AH 62 #[.int .i8 AF, .int .i8 (IntKind.i8.wrap (AI - 1))] (0, 0) _ rfl (by refine blk_put (cs := #[.int .i8 AF, .int .i8 0]) ?_ 1 _ rfl; refine blk_put (cs := #[.int .i8 0, .int .i8 0]) ?_ 0 _ rfl; refine blk_far ?_ AA.out _; exact AE.out) Try.underlying62 rfl (by kernel_rfl)) rfl ?_
 exact ⟨rfl, zH2 HB AC AG⟩
 }
 {
 rw [if_neg c3] at H
 have A0 : (a1 == 0) = false := beq_eq_false_iff_ne.mpr c3
 have A1 : (a1 != 0) = true := bne_iff_ne.mpr c3
 by_cases c9 : a1 = 1
 {
 rw [if_pos c9] at H
 have A7 : (a1 == 1) = true := beq_iff_eq.mpr c9
 have A8 : (a1 != 1) = false := bne_eq_false_iff_eq.mpr c9
 clear c9
 simp only [Option.some.injEq, Prod.mk.injEq] at H
 obtain ⟨rfl, rfl⟩ := H
 go_enter Try.func94, Try.ntmps94
 go_wp2_with (first | ((with_reducible refine gate_dst (N := 2) rfl ?_); refine box_event ?hg (N := 2) ?hd (cs := #[.int .i8 AF, .int .i8 AI]) (t := 62) ?hr ?_; (case hd => rfl); (case hg => rfl); (case hr => first | (go_simp; done) | (go_simp; rfl)); intro AL hg BP hbox hb; have AB := ak (hbox); have AJ := gS HB hg; have AC := gS HB hg; replace HB := kB HB hb; clear hb hbox hg) | ((with_reducible refine gate_dst (N := 4) rfl ?_); refine box_event ?hg (N := 4) ?hd (cs := #[.int .i8 0, .int .i8 0]) (t := 62) ?hr ?_; (case hd => rfl); (case hg => rfl); (case hr => first | (go_simp; done) | (go_simp; rfl)); intro AH hg BC hbox hb; have AE := ak (hbox); have AK := gS1 HB AC hg; have AG := gS1 HB AC hg; have AD := nL AB hg; have AA := nG AB hg; replace AB := kK AB hb; replace HB := kB1 HB AC hb; clear hb hbox hg; have BD := AD.out; have BE := AA.out; obtain ⟨Ad, AS, Ap, Ax⟩ := cz2 BC AB; obtain ⟨Ao, Ai, Am, Af⟩ := cz2 BC AE))
 refine bodyPost_ret (results_cell_row rfl _ _ AH 62 #[.int .i8 (IntKind.i8.wrap (AF + 1)), .int .i8 AI] (0, 0) _ rfl (by refine blk_put (cs := #[.int .i8 (IntKind.i8.wrap (AF + 1)), .int .i8 0]) ?_ 1 _ rfl; refine blk_put (cs := #[.int .i8 0, .int .i8 0]) ?_ 0 _ rfl; refine blk_far ?_ AA.out _; exact AE.out) Try.underlying62 rfl (by kernel_rfl)) rfl ?_
 exact ⟨rfl, zH2 HB AC AG⟩
 }
 {
 rw [if_neg c9] at H
 have A7 : (a1 == 1) = false := beq_eq_false_iff_ne.mpr c9
 have A8 : (a1 != 1) = true := bne_iff_ne.mpr c9
 by_cases AN : a1 = 2
 {
 rw [if_pos AN] at H
 have AQ : (a1 == 2) = true := beq_iff_eq.mpr AN
 have AR : (a1 != 2) = false := bne_eq_false_iff_eq.mpr AN
 clear AN
 simp only [Option.some.injEq, Prod.mk.injEq] at H
 obtain ⟨rfl, rfl⟩ := H
 go_enter Try.func94, Try.ntmps94
 go_wp2_with (first | ((with_reducible refine gate_dst (N := 2) rfl ?_); refine box_event ?hg (N := 2) ?hd (cs := #[.int .i8 AF, .int .i8 AI]) (t := 62) ?hr ?_; (case hd => rfl); (case hg => rfl); (case hr => first | (go_simp; done) | (go_simp; rfl)); intro AL hg BS hbox hb; have AB := ak (hbox); have AJ := gS HB hg; have AC := gS HB hg; replace HB := kB HB hb; clear hb hbox hg) | ((with_reducible refine gate_dst (N := 4) rfl ?_); refine box_event ?hg (N := 4) ?hd (cs := #[.int .i8 0, .int .i8 0]) (t := 62) ?hr ?_; (case hd => rfl); (case hg => rfl); (case hr => first | (go_simp; done) | (go_simp; rfl)); intro AH hg BA hbox hb; have AE := ak (hbox); have AK := gS1 HB AC hg; have AG := gS1 HB AC hg; have AD := nL AB hg; have AA := nG AB hg; replace AB := kK AB hb; replace HB := kB1 HB AC hb; clear hb hbox hg; have BG := AD.out; have BI := AA.out; obtain ⟨Av, AV, Ak, AU⟩ := cz2 BA AB; obtain ⟨Aq, AZ, Ar, AT⟩ := cz2 BA AE))
 refine bodyPost_ret (results_cell_row rfl _ _ AH 62 #[.int .i8 AF, .int .i8 (IntKind.i8.wrap (AI + 1))] (0, 0) _ rfl (by refine blk_put (cs := #[.int .i8 AF, .int .i8 0]) ?_ 1 _ rfl; refine blk_put (cs := #[.int .i8 0, .int .i8 0]) ?_ 0 _ rfl; refine blk_far ?_ AA.out _; exact AE.out) Try.underlying62 rfl (by kernel_rfl)) rfl ?_
 exact ⟨rfl, zH2 HB AC AG⟩
 }
 {
 rw [if_neg AN] at H
 have AQ : (a1 == 2) = false := beq_eq_false_iff_ne.mpr AN
 have AR : (a1 != 2) = true := bne_iff_ne.mpr AN
 by_cases AM : a1 = 3
 {
 rw [if_pos AM] at H
 have AP : (a1 == 3) = true := beq_iff_eq.mpr AM
 have AO : (a1 != 3) = false := bne_eq_false_iff_eq.mpr AM
 clear AM
 simp only [Option.some.injEq, Prod.mk.injEq] at H
 obtain ⟨rfl, rfl⟩ := H
 go_enter Try.func94, Try.ntmps94
 go_wp2_with (first | ((with_reducible refine gate_dst (N := 2) rfl ?_); refine box_event ?hg (N := 2) ?hd (cs := #[.int .i8 AF, .int .i8 AI]) (t := 62) ?hr ?_; (case hd => rfl); (case hg => rfl); (case hr => first | (go_simp; done) | (go_simp; rfl)); intro AL hg BR hbox hb; have AB := ak (hbox); have AJ := gS HB hg; have AC := gS HB hg; replace HB := kB HB hb; clear hb hbox hg) | ((with_reducible refine gate_dst (N := 4) rfl ?_); refine box_event ?hg (N := 4) ?hd (cs := #[.int .i8 0, .int .i8 0]) (t := 62) ?hr ?_; (case hd => rfl); (case hg => rfl); (case hr => first | (go_simp; done) | (go_simp; rfl)); intro AH hg BJ hbox hb; have AE := ak (hbox); have AK := gS1 HB AC hg; have AG := gS1 HB AC hg; have AD := nL AB hg; have AA := nG AB hg; replace AB := kK AB hb; replace HB := kB1 HB AC hb; clear hb hbox hg; have BF := AD.out; have BB := AA.out; obtain ⟨Aj, Al, Ah, Ag⟩ := cz2 BJ AB; obtain ⟨At, Ac, Aa, AW⟩ := cz2 BJ AE))
 refine bodyPost_ret (results_cell_row rfl _ _ AH 62 #[.int .i8 (IntKind.i8.wrap (AF - 1)), .int .i8 AI] (0, 0) _ rfl (by refine blk_put (cs := #[.int .i8 (IntKind.i8.wrap (AF - 1)), .int .i8 0]) ?_ 1 _ rfl; refine blk_put (cs := #[.int .i8 0, .int .i8 0]) ?_ 0 _ rfl; refine blk_far ?_ AA.out _; exact AE.out) Try.underlying62 rfl (by kernel_rfl)) rfl ?_
 exact ⟨rfl, zH2 HB AC AG⟩
 }
 {
 rw [if_neg AM] at H
 have AP : (a1 == 3) = false := beq_eq_false_iff_ne.mpr AM
 have AO : (a1 != 3) = true := bne_iff_ne.mpr AM
 simp only [Option.some.injEq, Prod.mk.injEq] at H
 obtain ⟨rfl, rfl⟩ := H
 go_enter Try.func94, Try.ntmps94
 go_wp2_with (first | ((with_reducible refine gate_dst (N := 2) rfl ?_); refine box_event ?hg (N := 2) ?hd (cs := #[.int .i8 AF, .int .i8 AI]) (t := 62) ?hr ?_; (case hd => rfl); (case hg => rfl); (case hr => first | (go_simp; done) | (go_simp; rfl)); intro AL hg BQ hbox hb; have AB := ak (hbox); have AJ := gS HB hg; have AC := gS HB hg; replace HB := kB HB hb; clear hb hbox hg) | ((with_reducible refine gate_dst (N := 4) rfl ?_); refine box_event ?hg (N := 4) ?hd (cs := #[.int .i8 0, .int .i8 0]) (t := 62) ?hr ?_; (case hd => rfl); (case hg => rfl); (case hr => first | (go_simp; done) | (go_simp; rfl)); intro AH hg BK hbox hb; have AE := ak (hbox); have AK := gS1 HB AC hg; have AG := gS1 HB AC hg; have AD := nL AB hg; have AA := nG AB hg; replace AB := kK AB hb; replace HB := kB1 HB AC hb; clear hb hbox hg; have BL := AD.out; have BH := AA.out; obtain ⟨As, An, AX, AY⟩ := cz2 BK AB; obtain ⟨Au, Ab, Aw, Ae⟩ := cz2 BK AE))
 refine bodyPost_ret (results_cell_row rfl _ _ AH 62 #[.int .i8 AF, .int .i8 AI] (0, 0) _ rfl (by refine blk_put (cs := #[.int .i8 AF, .int .i8 0]) ?_ 1 _ rfl; refine blk_put (cs := #[.int .i8 0, .int .i8 0]) ?_ 0 _ rfl; exact AE.out) Try.underlying62 rfl (by kernel_rfl)) rfl ?_
 exact ⟨rfl, zH2 HB AC AG⟩
 }
 }
 }
 }
/-! ### spec_l01Beside: function 86 -/
def spec_l01Beside.l0 : Nat → List (S62) → Int → Int → Int → Int → Int → Int → Int → Int → Int → Int → Int → Int → Int → Int → Int → Option ((List (S62)))
  | 0, _, _, _, _, _, _, _, _, _, _, _, _, _, _, _, _ => none
  | k + 1, x5, x6, AG, AD, AJ, AK, AL, AM, AF, AN, AE, AH, AO, AI, AB, AA => if x6 < 4 then ((spec_l01Next.f AB AA x6).bind fun AC => ((spec_l01Free.f AG AD AJ AK AL AM AF AN AE AH AO AI AC.1 AC.2).bind fun AP => (if AP = true then (if x5.length < 70368744177664 then (spec_l01Beside.l0 k (x5 ++ [(⟨AC.1, AC.2⟩ : S62)]) (wrap64 (x6 + 1)) AG AD AJ AK AL AM AF AN AE AH AO AI AB AA) else (none)) else (spec_l01Beside.l0 k x5 (wrap64 (x6 + 1)) AG AD AJ AK AL AM AF AN AE AH AO AI AB AA)))) else (some x5)
def spec_l01Beside.f (k : Nat) (AH : Int) (AK : Int) (AN : Int) (AE : Int) (AF : Int) (AD : Int) (AL : Int) (AG : Int) (AM : Int) (AC : Int) (AB : Int) (AA : Int) (AJ : Int) (AI : Int) : Option ((List (S62))) := spec_l01Beside.l0 k (([] : List (S62))) 0 AH AK AN AE AF AD AL AG AM AC AB AA AJ AI
set_option maxHeartbeats 8000000 in
set_option maxRecDepth 100000 in
theorem spec_l01Beside.calls (k : Nat) (b0 : Nat) (Ar : Int) (Am : Int) (Aq : Int) (Ak : Int) (An : Int) (Ao : Int) (At : Int) (As : Int) (Al : Int) (Ap : Int) (Aj : Int) (Ah : Int) (AU : Int) (AV : Int) (r : List (S62)) (w : World) (Bb : w.heap[b0]? = some (.cells #[.int .i8 Ar, .int .i8 Am, .int .u16 Aq, .int .u16 Ak, .int .u16 An, .int .u16 Ao, .int .u16 At, .int .u16 As, .int .u16 Al, .int .u16 Ap, .int .u16 Aj, .int .u16 Ah] 35 (0, 0))) (h : spec_l01Beside.f k Ar Am Aq Ak An Ao At As Al Ap Aj Ah AU AV = some r) :
    Calls Try.prog 86 #[.pointer (some ⟨b0, 0, none⟩), .agg #[.int .i8 AU, .int .i8 AV]] w fun e w' => ∃ v0_ : Value, e = .returned (v0_) ∧ Kd.R k62 62 w' w.heap.size (fun _ => True) v0_ r ∧ Below w.heap.size w w' := by
 have Bq := Try.underlying62
 have AX := ak Bb
 clear Bb
 have HB := ak (Below.refl w.heap.size w)
 have H := h
 unfold spec_l01Beside.f at H
 clear h
 obtain ⟨Ax, Ad⟩ : ∃ y_ : List (S62), y_ = (([] : List (S62))) := ⟨_, rfl⟩
 replace H : (spec_l01Beside.l0 k Ax 0 Ar Am Aq Ak An Ao At As Al Ap Aj Ah AU AV) = some r := by first | (rw [Ad]; with_reducible exact H) | (have Av := (Option.bind_some _ _).symm.trans H; rw [Ad]; with_reducible exact Av) | (have Av := (Option.bind_some _ _).symm.trans H; with_reducible exact Av) | with_reducible exact H | (rw [Ad]; exact H) | exact H
 have Au := ak Ad
 clear Ad
 have H' := ak H
 clear H
 go_enter Try.func86, Try.ntmps86
 go_wp2_with (first | ((with_reducible refine gate_dst (N := 3) rfl ?_); refine box_event ?hg (N := 3) ?hd (cs := #[.int .i8 AU, .int .i8 AV]) (t := 62) ?hr ?_; (case hd => rfl); (case hg => rfl); (case hr => first | (go_simp; done) | (go_simp; rfl)); intro AS hg w3 hbox hb; have AA := ak (hbox); have Bc := gS HB hg; have AO := gS HB hg; have Ag := nL AX hg; have Ai := nG AX hg; replace AX := kK AX hb; replace HB := kB HB hb; clear hb hbox hg) | ((with_reducible refine gate_dst (N := 8) rfl ?_); refine Kd.R_lit k62 _ 62 ?hg (N := 8) ?hd (xs := ([] : List (S62))) (inner := []) (ok := fun _ => True) (okp := fun _ => True) ?hr ?hp (fun _ hk => hk) trivial (Below.refl _ _) (Nat.le_refl _) (by simp) ?_; (case hd => rfl); (case hg => rfl); (case hr => first | (go_simp; done) | (go_simp; rfl)); (case hp => exact (Reps.none _ _)); intro Bn w4 A2 hb Bo A0; clear Bo A0; (first | rw [← Au.out] at A2 | (simp only [Int.reduceToNat] at A2; rw [← Au.out] at A2)); have Ay := ak (Kd.R_lower (Kd.R_newB A2 (g := AS) (o := .cells #[.int .i8 AU, .int .i8 AV] 62 (0, 0)) (zK AA.out)) (below_size (zBG HB.out AO.out))); replace AX := kK AX hb; replace AA := kK AA hb; replace HB := kB1 HB AO hb; clear hb A2))
 go_loopg [5, 6] k (fun kq v5 v6 w' => ∃ (Af : List (S62)) (AZ : Int) (AJ : Int) (AC : Int) (AI : Int) (AE : Int) (AN : Int) (AK : Int) (AL : Int) (AH : Int) (AF : Int) (AM : Int) (AD : Int) (AG : Int), v6 = .int .i64 AZ ∧ Aside0 (spec_l01Beside.l0 kq Af AZ AJ AC AI AE AN AK AL AH AF AM AD AG AU AV = some r) ∧ Aside0 (kq ≤ k) ∧ Aside0 (Kd.R k62 62 w' w.heap.size (fun k_ => k_ ≠ AS) v5 Af) ∧ Aside0 (w'.heap[b0]? = some (.cells #[.int .i8 AJ, .int .i8 AC, .int .u16 AI, .int .u16 AE, .int .u16 AN, .int .u16 AK, .int .u16 AL, .int .u16 AH, .int .u16 AF, .int .u16 AM, .int .u16 AD, .int .u16 AG] 35 (0, 0))) ∧ Aside0 (w'.heap[AS]? = some (.cells #[.int .i8 AU, .int .i8 AV] 62 (0, 0))) ∧ Aside0 (Below w.heap.size w w'))
 case atStart => exact ⟨(Ax), (0), (Ar), (Am), (Aq), (Ak), (An), (Ao), (At), (As), (Al), (Ap), (Aj), (Ah), rfl, H', ⟨Nat.le_refl _⟩, ⟨Kd.R_mono Ay.out (fun _ hk => hk.2)⟩, ⟨(zK AX.out)⟩, ⟨(zK AA.out)⟩, ⟨zBG HB.out AO.out⟩⟩
 case round => (
 clear H'
 obtain ⟨Af, AZ, AJ, AC, AI, AE, AN, AK, AL, AH, AF, AM, AD, AG, rfl, HA, BG, AR, AX, AA, HB⟩ := hrel
 cases gk with
 | zero => exact absurd HA.out (by simp [spec_l01Beside.l0])
 | succ k1 => (
 have H := HA.out
 clear HA
 simp only [spec_l01Beside.l0] at H
 by_cases c6 : AZ < 4
 {
 rw [if_pos c6] at H
 have BT : decide (AZ < 4) = true := decide_eq_true c6
 clear c6
 replace H := Option.bind_eq_some_iff.mp H
 obtain ⟨⟨AT, AY⟩, BZ, H⟩ := H
 have A7 := ak BZ
 clear BZ
 replace H := Option.bind_eq_some_iff.mp H
 obtain ⟨BU, Ba, H⟩ := H
 have A8 := ak Ba
 clear Ba
 by_cases c9 : BU = true
 {
 subst c9
 rw [if_pos rfl] at H
 by_cases BQ : Af.length < 70368744177664
 {
 rw [if_pos BQ] at H
 have A1 := ak BQ
 clear BQ
 obtain ⟨A3, Ae⟩ : ∃ y_ : List (S62), y_ = (Af ++ [(⟨AT, AY⟩ : S62)]) := ⟨_, rfl⟩
 replace H : (spec_l01Beside.l0 k1 A3 (wrap64 (AZ + 1)) AJ AC AI AE AN AK AL AH AF AM AD AG AU AV) = some r := by first | (rw [Ae]; with_reducible exact H) | (have Av := (Option.bind_some _ _).symm.trans H; rw [Ae]; with_reducible exact Av) | (have Av := (Option.bind_some _ _).symm.trans H; with_reducible exact Av) | with_reducible exact H | (rw [Ae]; exact H) | exact H
 have A4 := ak Ae
 clear Ae
 have H' := ak H
 clear H
 have BV := Ai.out
 have Bh := Ag.out
 have BN : wr.cell? ⟨AS, 0, none⟩ = some (.int .i8 AU) := (blk_cell AA.out 0).trans rfl
 have BR : wr.cell? ⟨AS, 1, none⟩ = some (.int .i8 AV) := (blk_cell AA.out 1).trans rfl
 have A5 := blk_frozen AA.out 0
 have BF := blk_frozen AA.out 1
 go_wp2_with (first | ((with_reducible refine gate_callee (f := 94) rfl ?_); refine goesL_ (some 15) rfl rfl Try.func94 (by kernel_rfl) rfl #[.agg #[.int .i8 AU, .int .i8 AV], .int .i64 AZ] rfl gl_ ?_; (with_reducible refine (spec_l01Next.calls AU AV AZ AT AY _ A7.out).mono ?_); rintro e Bu ⟨rfl, hb⟩; refine ⟨_, rfl, ?_⟩; replace AR := kR AR hb; replace AX := kK AX hb; replace AA := kK AA hb; replace HB := kB1 HB AO hb; (try clear hb)) | ((with_reducible refine gate_dst (N := 7) rfl ?_); refine box_event ?hg (N := 7) ?hd (cs := #[.int .i8 0, .int .i8 0]) (t := 62) ?hr ?_; (case hd => rfl); (case hg => rfl); (case hr => first | (go_simp; done) | (go_simp; rfl)); intro AQ hg Br hbox hb; have AW := ak (hbox); have Az := gS1 HB AO hg; have Ab := gS1 HB AO hg; have AB := nL AX hg; have Ac := nG AX hg; have AP := nL AA hg; have Aa := nG AA hg; replace AR := ak (Kd.R_below (Kd.R_elderB (zR AR.out) AQ (Nat.le_of_eq hg.symm)) hb); replace AX := kK AX hb; replace AA := kK AA hb; replace HB := kB1 HB AO hb; clear hb hbox hg; have Bj := Ac.out; have BX := AB.out; have Bk := Aa.out; have Bf := AP.out; obtain ⟨BB, A6, BD, BA⟩ := cz2 Br AW) | ((with_reducible refine gate_callee (f := 84) rfl ?_); refine goesL_ (some 18) rfl rfl Try.func84 (by kernel_rfl) rfl #[.pointer (some ⟨b0, 0, none⟩), .agg #[.int .i8 AT, .int .i8 AY]] rfl gl_ ?_; (with_reducible refine (spec_l01Free.calls b0 AJ AC AI AE AN AK AL AH AF AM AD AG AT AY true _ ?side1 A8.out).mono ?_); (case side1 => exact (by first | exact AX.out | (refine blk_far ?_ AB.out _; refine blk_far ?_ AB.out _; exact AX.out))); rintro e Bp ⟨rfl, hb⟩; refine ⟨_, rfl, ?_⟩; replace AR := ak (Kd.R_below ((Kd.R_mono (Kd.R_far (p := ⟨AQ, 1, none⟩) (Kd.R_far (p := ⟨AQ, 0, none⟩) (Kd.R_mono AR.out (fun k_ hk => (⟨hk, hk.2⟩ : _ ∧ k_ ≠ AQ))) (fun _ hk => hk.2) (.int .i8 AT)) (fun _ hk => hk.2) (.int .i8 AY)) (fun _ h_ => h_.1))) hb); replace AX := ak (blk_below (g := b0) (o := .cells #[.int .i8 AJ, .int .i8 AC, .int .u16 AI, .int .u16 AE, .int .u16 AN, .int .u16 AK, .int .u16 AL, .int .u16 AH, .int .u16 AF, .int .u16 AM, .int .u16 AD, .int .u16 AG] 35 (0, 0)) (by refine blk_far ?_ AB.out _; refine blk_far ?_ AB.out _; exact AX.out) hb); replace AA := ak (blk_below (g := AS) (o := .cells #[.int .i8 AU, .int .i8 AV] 62 (0, 0)) (by refine blk_far ?_ AP.out _; refine blk_far ?_ AP.out _; exact AA.out) hb); replace AW := ak (blk_below (g := AQ) (o := .cells #[.int .i8 AT, .int .i8 AY] 62 (0, 0)) (by refine blk_put (cs := #[.int .i8 AT, .int .i8 0]) ?_ 1 _ rfl; refine blk_put (cs := #[.int .i8 0, .int .i8 0]) ?_ 0 _ rfl; exact AW.out) hb); replace HB := kB2 HB AO Ab hb; (try clear hb); (try clear hk); obtain ⟨BP, BJ, BL, BI⟩ := cz2 Bp AW) | ((with_reducible refine gate_builtin (b := .append) (xs := #[.tmp 19, .tmp 21]) rfl ?_); at_builtin; refine Kd.R_append k62 (w0 := w) w.heap.size rfl (.tmp 19) (.tmp 21) 37 62 (.agg #[(.int .i8 0), (.int .i8 0)]) 2 rfl Try.underlying37 info62 rfl (by decide) (by omega) u5 Af (⟨AT, AY⟩ : S62) [.int .i8 AT, .int .i8 AY] (fun k_ => k_ ≠ AS ∧ k_ ≠ AQ) (fun _ => False) rfl rfl ?aP (fun _ hk => hk.elim) ?aF ?aO ?aB ?aS ?aL ?_; (case aP => exact k62_mkM _ _ _ (⟨AT, AY⟩ : S62)); (case aB => exact (zH2 HB AO Ab)); (case aF => exact (fun k_ hk => ⟨Kd.freshB (g := AS) (o := .cells #[.int .i8 AU, .int .i8 AV] 62 (0, 0)) (zK AA.out) k_ hk, Kd.freshB (g := AQ) (o := .cells #[.int .i8 AT, .int .i8 AY] 62 (0, 0)) (zK AW.out) k_ hk⟩)); (case aO => exact (zR AR.out)); (case aS => exact (below_size (zH2 HB AO Ab))); (case aL => have := A1.out; omega); intro Bm Bs ho hb hg hat; rw [← A4.out] at ho; have Aw := ak (ho); replace AX := ak (blk_grown (g := b0) (o := .cells #[.int .i8 AJ, .int .i8 AC, .int .u16 AI, .int .u16 AE, .int .u16 AN, .int .u16 AK, .int .u16 AL, .int .u16 AH, .int .u16 AF, .int .u16 AM, .int .u16 AD, .int .u16 AG] 35 (0, 0)) (zK AX.out) hg (Kd.R_ne AR.out AX.out (by decide))); replace AA := ak (blk_grown (g := AS) (o := .cells #[.int .i8 AU, .int .i8 AV] 62 (0, 0)) (zK AA.out) hg (Kd.R_away AR.out (fun _ hk => hk.1))); replace AW := ak (blk_grown (g := AQ) (o := .cells #[.int .i8 AT, .int .i8 AY] 62 (0, 0)) (zK AW.out) hg (Kd.R_away AR.out (fun _ hk => hk.2))); replace HB := ak (hb); clear AR ho hb hg hat))
 go_roundg k1
 case measure => have := BG.out; omega
 case rel => exact ⟨(A3), (wrap64 (AZ + 1)), (AJ), (AC), (AI), (AE), (AN), (AK), (AL), (AH), (AF), (AM), (AD), (AG), rfl, H', ⟨by have := BG.out; omega⟩, ⟨Kd.R_mono Aw.out (fun _ hk => hk.1)⟩, ⟨(zK AX.out)⟩, ⟨(zK AA.out)⟩, ⟨zH2 HB AO Ab⟩⟩
 }
 · rw [if_neg BQ] at H; exact absurd H (by simp)
 }
 {
 replace c9 := Bool.eq_false_iff.mpr c9
 subst c9
 rw [if_neg (show ¬ (false = true) by decide)] at H
 have H' := ak H
 clear H
 have Bd := Ai.out
 have Bi := Ag.out
 have A9 : wr.cell? ⟨AS, 0, none⟩ = some (.int .i8 AU) := (blk_cell AA.out 0).trans rfl
 have BK : wr.cell? ⟨AS, 1, none⟩ = some (.int .i8 AV) := (blk_cell AA.out 1).trans rfl
 have BO := blk_frozen AA.out 0
 have BM := blk_frozen AA.out 1
 go_wp2_with (first | ((with_reducible refine gate_callee (f := 94) rfl ?_); refine goesL_ (some 15) rfl rfl Try.func94 (by kernel_rfl) rfl #[.agg #[.int .i8 AU, .int .i8 AV], .int .i64 AZ] rfl gl_ ?_; (with_reducible refine (spec_l01Next.calls AU AV AZ AT AY _ A7.out).mono ?_); rintro e Bt ⟨rfl, hb⟩; refine ⟨_, rfl, ?_⟩; replace AR := kR AR hb; replace AX := kK AX hb; replace AA := kK AA hb; replace HB := kB1 HB AO hb; (try clear hb)) | ((with_reducible refine gate_dst (N := 7) rfl ?_); refine box_event ?hg (N := 7) ?hd (cs := #[.int .i8 0, .int .i8 0]) (t := 62) ?hr ?_; (case hd => rfl); (case hg => rfl); (case hr => first | (go_simp; done) | (go_simp; rfl)); intro AQ hg Bl hbox hb; have AW := ak (hbox); have Az := gS1 HB AO hg; have Ab := gS1 HB AO hg; have AB := nL AX hg; have Ac := nG AX hg; have AP := nL AA hg; have Aa := nG AA hg; replace AR := ak (Kd.R_below (Kd.R_elderB (zR AR.out) AQ (Nat.le_of_eq hg.symm)) hb); replace AX := kK AX hb; replace AA := kK AA hb; replace HB := kB1 HB AO hb; clear hb hbox hg; have BW := Ac.out; have Bg := AB.out; have BY := Aa.out; have Be := AP.out; obtain ⟨BC, BS, BH, BE⟩ := cz2 Bl AW) | ((with_reducible refine gate_callee (f := 84) rfl ?_); refine goesL_ (some 18) rfl rfl Try.func84 (by kernel_rfl) rfl #[.pointer (some ⟨b0, 0, none⟩), .agg #[.int .i8 AT, .int .i8 AY]] rfl gl_ ?_; (with_reducible refine (spec_l01Free.calls b0 AJ AC AI AE AN AK AL AH AF AM AD AG AT AY false _ ?side1 A8.out).mono ?_); (case side1 => exact (by first | exact AX.out | (refine blk_far ?_ AB.out _; refine blk_far ?_ AB.out _; exact AX.out))); rintro e Bv ⟨rfl, hb⟩; refine ⟨_, rfl, ?_⟩; replace AR := ak (Kd.R_below ((Kd.R_mono (Kd.R_far (p := ⟨AQ, 1, none⟩) (Kd.R_far (p := ⟨AQ, 0, none⟩) (Kd.R_mono AR.out (fun k_ hk => (⟨hk, hk.2⟩ : _ ∧ k_ ≠ AQ))) (fun _ hk => hk.2) (.int .i8 AT)) (fun _ hk => hk.2) (.int .i8 AY)) (fun _ h_ => h_.1))) hb); replace AX := ak (blk_below (g := b0) (o := .cells #[.int .i8 AJ, .int .i8 AC, .int .u16 AI, .int .u16 AE, .int .u16 AN, .int .u16 AK, .int .u16 AL, .int .u16 AH, .int .u16 AF, .int .u16 AM, .int .u16 AD, .int .u16 AG] 35 (0, 0)) (by refine blk_far ?_ AB.out _; refine blk_far ?_ AB.out _; exact AX.out) hb); replace AA := ak (blk_below (g := AS) (o := .cells #[.int .i8 AU, .int .i8 AV] 62 (0, 0)) (by refine blk_far ?_ AP.out _; refine blk_far ?_ AP.out _; exact AA.out) hb); replace AW := ak (blk_below (g := AQ) (o := .cells #[.int .i8 AT, .int .i8 AY] 62 (0, 0)) (by refine blk_put (cs := #[.int .i8 AT, .int .i8 0]) ?_ 1 _ rfl; refine blk_put (cs := #[.int .i8 0, .int .i8 0]) ?_ 0 _ rfl; exact AW.out) hb); replace HB := kB2 HB AO Ab hb; (try clear hb); (try clear hk)))
 go_roundg k1
 case measure => have := BG.out; omega
 case rel => exact ⟨(Af), (wrap64 (AZ + 1)), (AJ), (AC), (AI), (AE), (AN), (AK), (AL), (AH), (AF), (AM), (AD), (AG), rfl, H', ⟨by have := BG.out; omega⟩, ⟨Kd.R_mono AR.out (fun _ hk => hk.1)⟩, ⟨(zK AX.out)⟩, ⟨(zK AA.out)⟩, ⟨zH2 HB AO Ab⟩⟩
 }
 }
 {
 rw [if_neg c6] at H
 have BT : decide (AZ < 4) = false := decide_eq_false c6
 clear c6
 obtain rfl := Option.some.inj H
 go_wp2
 go_ret
 exact ⟨_, rfl, Kd.R_mono AR.out (fun _ hk => trivial), zBG HB.out AO.out⟩
 }
 )
 )
end Go.Proofs.Ytooidjdgfoioiaa.P
