-- Written by a program of this session.
import Derived.Test.YtbhfimbikooccaaPFnPlacesx0
import Derived.Test.YtbhfimbikooccaaPFnPlacesx12
import Derived.Test.YtbhfimbikooccaaPFnPlacesx14
namespace Go.Proofs.Ytbhfimbikooccaa.PFnPlaces
open Go.RowKit Go.Proofs.YtbhfimbikooccaaW.PrintWords Go.Proofs.YtbhfimbikooccaaW.PrintLast Go.Proofs.YtbhfimbikooccaaW.PrintMore
attribute [local go_sem] max2_int min2_int max_two min_two max_three min_three max_four min_four   -- for this text's walks alone
set_option linter.unusedVariables false
set_option linter.unusedSimpArgs false

/-! ### spec_l04DrawComps: function 74 -/
def spec_l04DrawComps.l0 : Nat → List Int → Int → List Int → Int → Int → Int → Int → Int → Int → List (S66) → Option (List Int × Int × Int)
 | 0, _, _, _, _, _, _, _, _, _, _ => none
 | k + 1, x5, x6, x1000, x1001, x1002, x512000, x512001, x512002, x512003, x512004 => if x6 < (x512004.length : Int) then ((spec_l01Cur_once.f x1000 x1001 x1002 2).bind fun bt515 => (if bt515.1 = true then (if x5.length < 17592186044416 then (spec_l04DrawComps.l0 k (x5 ++ [x6]) (wrap64 (x6 + 1)) x1000 bt515.2.1 bt515.2.2 x512000 x512001 x512002 x512003 x512004) else (none)) else (spec_l04DrawComps.l0 k x5 (wrap64 (x6 + 1)) x1000 bt515.2.1 bt515.2.2 x512000 x512001 x512002 x512003 x512004))) else ((spec_l01Cur_once.f x1000 x1001 x1002 10).bind fun bt521 => (if bt521.1 = true then ((spec_l01Cur_pick.f x1000 bt521.2.1 bt521.2.2 6).bind fun bt524 => (if x5.length < 17592186044416 then (some ((x5 ++ [wrap64 (bt524.1 - 1)]), bt524.2.1, bt524.2.2)) else (none))) else (some (x5, bt521.2.1, bt521.2.2))))
def spec_l04DrawComps.f (k : Nat) (s0_0 : List Int) (s0_1 : Int) (s0_2 : Int) (a1_0 : Int) (a1_1 : Int) (a1_2 : Int) (a1_3 : Int) (l1_4 : List (S66)) : Option (List Int × Int × Int) := spec_l04DrawComps.l0 k (([] : List Int)) 0 s0_0 s0_1 s0_2 a1_0 a1_1 a1_2 a1_3 l1_4
set_option maxHeartbeats 8000000 in
set_option maxRecDepth 100000 in
theorem spec_l04DrawComps.calls (k : Nat) (g : Nat) (s0_0 : List Int) (s0_1 : Int) (s0_2 : Int) (a1_0 : Int) (a1_1 : Int) (a1_2 : Int) (a1_3 : Int) (A1_4 : Option Addr) (c1_4 : Nat) (l1_4 : List (S66)) (r1 : List Int) (r2 : Int) (r3 : Int) (w0 w : World) (hI : IsS94 w0 w g s0_0 s0_1 s0_2) (hB : Below w0.heap.size w0 w) (hr1_4 : ∀ W_, KeepBut w W_ g none → Kd.C k66 W_ A1_4 l1_4.length l1_4) (hc1_4 : l1_4.length ≤ c1_4) (h : spec_l04DrawComps.f k s0_0 s0_1 s0_2 a1_0 a1_1 a1_2 a1_3 l1_4 = some (r1, r2, r3)) :
  Calls Try.prog 74 #[.pointer (some ⟨g, 0, none⟩), .agg #[.int .i64 a1_0, .int .i64 a1_1, .int .i64 a1_2, .int .i64 a1_3, .slice A1_4 l1_4.length c1_4]] w fun e w' => ∃ v0_ : Value, e = .returned (v0_) ∧ Kd.R (Kd.int .i64) 3 w' w.heap.size (fun _ => True) v0_ r1 ∧ IsS94 w0 w' g s0_0 r2 r3 ∧ Below w0.heap.size w0 w' ∧ KeepBut w w' g none := by
 have hu29 := Try.underlying29
 have HR1_4 := Aside0.mk hr1_4
 have HC1_4 := Aside0.mk hc1_4
 clear hr1_4 hc1_4
 have HI0 := Aside0.mk hI
 have HK := Aside0.mk (KeepBut.refl w g none)
 have HL := Aside0.mk hB.size
 clear hI
 have HW0 := Aside0.mk hB.size
 have HB := Aside0.mk hB
 clear hB
 have H : (spec_l04DrawComps.l0 k (([] : List Int)) 0 s0_0 s0_1 s0_2 a1_0 a1_1 a1_2 a1_3 l1_4) = some (r1, r2, r3) := h
 clear h
 obtain ⟨y512, hy512⟩ : ∃ y_ : List Int, y_ = (([] : List Int)) := ⟨_, rfl⟩
 replace H : (spec_l04DrawComps.l0 k y512 0 s0_0 s0_1 s0_2 a1_0 a1_1 a1_2 a1_3 l1_4) = some (r1, r2, r3) := by first | (rw [hy512]; with_reducible exact H) | (have H2_ := (Option.bind_some _ _).symm.trans H; rw [hy512]; with_reducible exact H2_) | (have H2_ := (Option.bind_some _ _).symm.trans H; with_reducible exact H2_) | with_reducible exact H | (rw [hy512]; exact H) | exact H
 have Ny512 := Aside0.mk hy512
 clear hy512
 have H' := Aside0.mk H
 clear H
 go_enter Try.func74, Try.ntmps74
 go_wp2_with (first | ((with_reducible refine gate_dst (N := 3) rfl ?_); refine box_event ?hg (N := 3) ?hd (cs := #[.int .i64 a1_0, .int .i64 a1_1, .int .i64 a1_2, .int .i64 a1_3, .slice A1_4 l1_4.length c1_4]) (t := 29) ?hr ?_; (case hd => rfl); (case hg => rfl); (case hr => first | (go_simp; done) | (go_simp; rfl)); intro gb511 hg w3 hbox hb; have n0_ := Aside0.mk (IsS94.below (zq8 HI0.out) hb); have n1_ := Aside0.mk (KeepBut.trans (zq9 HK.out) (KeepBut.of_below hb g none) (.inl rfl)); have n2_ := Aside0.mk (below_step (zq11 HB.out (IsS94.ge HI0.out)) hb); have n3_ := Aside0.mk (hbox); have n4_ := Aside0.mk ((by rw [hg]; exact (keep_size (w := w) (g := g) (row := none) (zq9 HK.out)) : w.heap.size ≤ gb511)); have n5_ := Aside0.mk ((Nat.le_trans HW0.out (by rw [hg]; exact (keep_size (w := w) (g := g) (row := none) (zq9 HK.out)) : w.heap.size ≤ gb511) : w0.heap.size ≤ gb511)); have n6_ := Aside0.mk ((by rw [hg]; exact Nat.ne_of_lt (IsS94.lt (show IsS94 w0 _ g s0_0 s0_1 s0_2 from zq8 HI0.out)) : g ≠ gb511)); have n7_ := Aside0.mk ((by rw [hg]; exact Nat.ne_of_gt (IsS94.lt (show IsS94 w0 _ g s0_0 s0_1 s0_2 from zq8 HI0.out)) : gb511 ≠ g)); clear HI0; clear HK; clear HB; have HI0 := n0_; have HK := n1_; have HB := n2_; have BK511 := n3_; have GW511 := n4_; have GE511 := n5_; have NB0_511 := n6_; have NB511_0 := n7_; clear n0_ n1_ n2_ n3_ n4_ n5_ n6_ n7_; clear hb hbox hg) | ((with_reducible refine gate_dst (N := 7) rfl ?_); refine Kd.R_lit (Kd.int .i64) _ 3 ?hg (N := 7) ?hd (xs := ([] : List Int)) (inner := []) (ok := fun _ => True) (okp := fun _ => True) ?hr ?hp (fun _ hk => hk) trivial (Below.refl _ _) (Nat.le_refl _) (by simp) ?_; (case hd => rfl); (case hg => rfl); (case hr => first | (go_simp; done) | (go_simp; rfl)); (case hp => exact (Reps.none _ _)); intro v513 w4 ho5 hb hg_ hnew_; clear hg_ hnew_; (first | rw [← Ny512.out] at ho5 | (simp only [Int.reduceToNat] at ho5; rw [← Ny512.out] at ho5)); have n0_ := Aside0.mk (Kd.R_lower ho5 (keep_size (w := w) (g := g) (row := none) (zq7 HK.out GW511.out))); have n1_ := Aside0.mk (IsS94.below (zq5 HI0.out NB0_511.out) hb); have n2_ := Aside0.mk (kB BK511.out hb); have n3_ := Aside0.mk (KeepBut.trans (zq7 HK.out GW511.out) (KeepBut.of_below hb g none) (.inl rfl)); have n4_ := Aside0.mk (below_step (zq10 HB.out (IsS94.ge HI0.out) GE511.out) hb); clear HI0; clear BK511; clear HK; clear HB; have HO514 := n0_; have HI0 := n1_; have BK511 := n2_; have HK := n3_; have HB := n4_; clear n0_ n1_ n2_ n3_ n4_; clear hb ho5))
 go_loopg [5, 6] k (fun kq v5 v6 w' => ∃ (x5_1 : List Int) (x6_1 : Int) (x1001_1 : Int) (x1002_1 : Int), v6 = .int .i64 x6_1 ∧ Aside0 (spec_l04DrawComps.l0 kq x5_1 x6_1 s0_0 x1001_1 x1002_1 a1_0 a1_1 a1_2 a1_3 l1_4 = some (r1, r2, r3)) ∧ Aside0 (kq ≤ k) ∧ Aside0 (Kd.R (Kd.int .i64) 3 w' w.heap.size (fun _ => True) v5 x5_1) ∧ Aside0 (w'.heap[gb511]? = some (.cells #[.int .i64 a1_0, .int .i64 a1_1, .int .i64 a1_2, .int .i64 a1_3, (.slice A1_4 l1_4.length c1_4)] 29 (0, 0))) ∧ Aside0 (IsS94 w0 w' g s0_0 x1001_1 x1002_1) ∧ Aside0 (KeepBut w w' g none) ∧ Aside0 (Below w0.heap.size w0 w'))
 case atStart => exact ⟨(y512), (0), (s0_1), (s0_2), (by first | rfl | (simp; done) | (simp [*]; done)), H', ⟨Nat.le_refl _⟩, ⟨zR HO514.out⟩, ⟨zK BK511.out⟩, ⟨zq5 HI0.out NB0_511.out⟩, ⟨zq7 HK.out GW511.out⟩, ⟨zq10 HB.out (IsS94.ge HI0.out) GE511.out⟩⟩
 case round =>
  clear H'
  obtain ⟨x5_1, x6_1, x1001_1, x1002_1, rfl, HA, HK1, HO_5, BK511, HI0, HK, HB⟩ := hrel
  cases gk with
  | zero => exact absurd HA.out (by simp [spec_l04DrawComps.l0])
  | succ k1 =>
   have H := HA.out
   clear HA
   simp only [spec_l04DrawComps.l0] at H
   by_cases c6 : x6_1 < (l1_4.length : Int)
   ·rw [if_pos c6] at H
    have c6b0 : decide (x6_1 < (l1_4.length : Int)) = true := decide_eq_true c6
    clear c6
    replace H := Option.bind_eq_some_iff.mp H
    obtain ⟨⟨t515, t516, t517⟩, A70, H⟩ := H
    (try dsimp only at H)
    have A7 := Aside0.mk A70
    clear A70
    by_cases c8 : t515 = true
    ·subst c8
     have H1 : (if x5_1.length < 17592186044416 then (spec_l04DrawComps.l0 k1 (x5_1 ++ [x6_1]) (wrap64 (x6_1 + 1)) s0_0 t516 t517 a1_0 a1_1 a1_2 a1_3 l1_4) else (none)) = some (r1, r2, r3) := by rw [if_pos rfl] at H; exact H
     clear H
     have H := H1
     clear H1
     by_cases c9 : x5_1.length < 17592186044416
     ·rw [if_pos c9] at H
      have LMc9 := Aside0.mk c9
      clear c9
      obtain ⟨y518, hy518⟩ : ∃ y_ : List Int, y_ = (x5_1 ++ [x6_1]) := ⟨_, rfl⟩
      replace H : (spec_l04DrawComps.l0 k1 y518 (wrap64 (x6_1 + 1)) s0_0 t516 t517 a1_0 a1_1 a1_2 a1_3 l1_4) = some (r1, r2, r3) := by first | (rw [hy518]; with_reducible exact H) | (have H2_ := (Option.bind_some _ _).symm.trans H; rw [hy518]; with_reducible exact H2_) | (have H2_ := (Option.bind_some _ _).symm.trans H; with_reducible exact H2_) | with_reducible exact H | (rw [hy518]; exact H) | exact H
      have Ny518 := Aside0.mk hy518
      clear hy518
      have H' := Aside0.mk H
      clear H
      have hnb10 := NB511_0.out
      have hnc10 := NB0_511.out
      obtain ⟨hcz11_0, hcz11_1, hcz11_2, hcz11_3, hcz11_4, hfz11_0, hfz11_1, hfz11_2, hfz11_3, hfz11_4⟩ := bf5 BK511.out
      go_wp2_with (first | ((with_reducible refine gate_callee (f := 75) rfl ?_); refine goesL_ (some 16) rfl rfl Try.func75 (by kernel_rfl) rfl #[.pointer (some ⟨g, 0, none⟩), .int .i64 2] rfl zM ?_; (with_reducible refine (spec_l01Cur_once.calls g s0_0 x1001_1 x1002_1 2 true t516 t517 w0 _ ?side1 ?side2 A7.out).mono ?_); (case side1 => exact zq5 HI0.out NB0_511.out); (case side2 => exact zq10 HB.out (IsS94.ge HI0.out) GE511.out); rintro e w12 ⟨rfl, hi, hb, hk⟩; refine ⟨_, rfl, ?_⟩; have n0_ := Aside0.mk (Kd.R_mono (Kd.R_keep (IsS94.apart (show IsS94 w0 _ g s0_0 x1001_1 x1002_1 from zq5 HI0.out NB0_511.out) (zR HO_5.out) (by decide)) hk (fun _ h => h.2)) (fun _ h => h.1)); have n1_ := Aside0.mk (kP BK511.out hk NB511_0.out); have n2_ := Aside0.mk (KeepBut.trans (zq7 HK.out GW511.out) hk (.inl rfl)); have n3_ := Aside0.mk (hb); have n4_ := Aside0.mk (hi); clear HO_5; clear BK511; clear HK; clear HB; clear HI0; have HO_5 := n0_; have BK511 := n1_; have HK := n2_; have HB := n3_; have HI0 := n4_; clear n0_ n1_ n2_ n3_ n4_; try clear hb) | ((with_reducible refine gate_builtin (b := .append) (xs := #[.tmp 17, .tmp 19]) rfl ?_); at_builtin; refine Kd.R_append (Kd.int .i64) w.heap.size rfl (.tmp 17) (.tmp 19) 45 3 (.int .i64 0) 8 rfl Try.underlying45 info3 rfl (by decide) (by omega) u5 x5_1 x6_1 [.int .i64 x6_1] (fun _ => True) (fun _ => False) rfl rfl ?aP (fun _ hk => hk.elim) ?aF ?aO (Below.refl _ _) ?aS ?aL ?_; (case aP => exact rfl); (case aF => exact (fun _ _ => trivial)); (case aO => exact (zR HO_5.out)); (case aS => exact (keep_size (w := w) (g := g) (row := none) (zq7 HK.out GW511.out))); (case aL => have := LMc9.out; omega); intro v519 w13 ho hb hg hat; rw [← Ny518.out] at ho; have n0_ := Aside0.mk (kG BK511.out hg (Kd.R_ne HO_5.out BK511.out (by decide))); have n1_ := Aside0.mk (IsS94.grown (zq5 HI0.out NB0_511.out) hg (IsS94.own_ne HI0.out HO_5.out (by decide))); have n2_ := Aside0.mk (below_weaken (zq10 HB.out (IsS94.ge HI0.out) GE511.out) HL.out hb); have n3_ := Aside0.mk (KeepBut.trans (zq7 HK.out GW511.out) (KeepBut.of_grown hg g) (Kd.R_base2 HO_5.out)); have n4_ := Aside0.mk (ho); clear BK511; clear HI0; clear HB; clear HK; clear HO_5; have BK511 := n0_; have HI0 := n1_; have HB := n2_; have HK := n3_; have HO520 := n4_; clear n0_ n1_ n2_ n3_ n4_; clear ho hb hg hat))
      go_roundg k1
      case measure => have := HK1.out; omega
      case rel => exact ⟨(y518), (wrap64 (x6_1 + 1)), (t516), (t517), (by first | rfl | (simp; done) | (simp [*]; done)), H', ⟨by have := HK1.out; omega⟩, ⟨zR HO520.out⟩, ⟨zK BK511.out⟩, ⟨zq5 HI0.out NB0_511.out⟩, ⟨zq7 HK.out GW511.out⟩, ⟨zq10 HB.out (IsS94.ge HI0.out) GE511.out⟩⟩
     ·rw [if_neg c9] at H
      exact absurd H (by simp)
    ·replace c8 := Bool.eq_false_iff.mpr c8
     subst c8
     have H1 : (spec_l04DrawComps.l0 k1 x5_1 (wrap64 (x6_1 + 1)) s0_0 t516 t517 a1_0 a1_1 a1_2 a1_3 l1_4) = some (r1, r2, r3) := by rw [if_neg (show ¬ (false = true) by decide)] at H; exact H
     clear H
     have H := H1
     clear H1
     have H' := Aside0.mk H
     clear H
     have hnb14 := NB511_0.out
     have hnc14 := NB0_511.out
     obtain ⟨hcz15_0, hcz15_1, hcz15_2, hcz15_3, hcz15_4, hfz15_0, hfz15_1, hfz15_2, hfz15_3, hfz15_4⟩ := bf5 BK511.out
     go_wp2_with (first | ((with_reducible refine gate_callee (f := 75) rfl ?_); refine goesL_ (some 16) rfl rfl Try.func75 (by kernel_rfl) rfl #[.pointer (some ⟨g, 0, none⟩), .int .i64 2] rfl zM ?_; (with_reducible refine (spec_l01Cur_once.calls g s0_0 x1001_1 x1002_1 2 false t516 t517 w0 _ ?side1 ?side2 A7.out).mono ?_); (case side1 => exact zq5 HI0.out NB0_511.out); (case side2 => exact zq10 HB.out (IsS94.ge HI0.out) GE511.out); rintro e w16 ⟨rfl, hi, hb, hk⟩; refine ⟨_, rfl, ?_⟩; have n0_ := Aside0.mk (Kd.R_mono (Kd.R_keep (IsS94.apart (show IsS94 w0 _ g s0_0 x1001_1 x1002_1 from zq5 HI0.out NB0_511.out) (zR HO_5.out) (by decide)) hk (fun _ h => h.2)) (fun _ h => h.1)); have n1_ := Aside0.mk (kP BK511.out hk NB511_0.out); have n2_ := Aside0.mk (KeepBut.trans (zq7 HK.out GW511.out) hk (.inl rfl)); have n3_ := Aside0.mk (hb); have n4_ := Aside0.mk (hi); clear HO_5; clear BK511; clear HK; clear HB; clear HI0; have HO_5 := n0_; have BK511 := n1_; have HK := n2_; have HB := n3_; have HI0 := n4_; clear n0_ n1_ n2_ n3_ n4_; try clear hb))
     go_roundg k1
     case measure => have := HK1.out; omega
     case rel => exact ⟨(x5_1), (wrap64 (x6_1 + 1)), (t516), (t517), (by first | rfl | (simp; done) | (simp [*]; done)), H', ⟨by have := HK1.out; omega⟩, ⟨zR HO_5.out⟩, ⟨zK BK511.out⟩, ⟨zq5 HI0.out NB0_511.out⟩, ⟨zq7 HK.out GW511.out⟩, ⟨zq10 HB.out (IsS94.ge HI0.out) GE511.out⟩⟩
   ·rw [if_neg c6] at H
    have c6b0 : decide (x6_1 < (l1_4.length : Int)) = false := decide_eq_false c6
    clear c6
    replace H := Option.bind_eq_some_iff.mp H
    obtain ⟨⟨t521, t522, t523⟩, A170, H⟩ := H
    (try dsimp only at H)
    have A17 := Aside0.mk A170
    clear A170
    by_cases c18 : t521 = true
    ·subst c18
     have H1 : ((spec_l01Cur_pick.f s0_0 t522 t523 6).bind fun bt524 => (if x5_1.length < 17592186044416 then (some ((x5_1 ++ [wrap64 (bt524.1 - 1)]), bt524.2.1, bt524.2.2)) else (none))) = some (r1, r2, r3) := by rw [if_pos rfl] at H; exact H
     clear H
     have H := H1
     clear H1
     replace H := Option.bind_eq_some_iff.mp H
     obtain ⟨⟨t524, t525, t526⟩, A190, H⟩ := H
     replace H : (if x5_1.length < 17592186044416 then (some ((x5_1 ++ [wrap64 (t524 - 1)]), t525, t526)) else (none)) = some (r1, r2, r3) := H
     have A19 := Aside0.mk A190
     clear A190
     by_cases c20 : x5_1.length < 17592186044416
     ·rw [if_pos c20] at H
      have LMc20 := Aside0.mk c20
      clear c20
      obtain ⟨y527, hy527⟩ : ∃ y_ : List Int, y_ = (x5_1 ++ [wrap64 (t524 - 1)]) := ⟨_, rfl⟩
      replace H : (some (y527, t525, t526)) = some (r1, r2, r3) := by first | (rw [hy527]; with_reducible exact H) | (have H2_ := (Option.bind_some _ _).symm.trans H; rw [hy527]; with_reducible exact H2_) | (have H2_ := (Option.bind_some _ _).symm.trans H; with_reducible exact H2_) | with_reducible exact H | (rw [hy527]; exact H) | exact H
      have Ny527 := Aside0.mk hy527
      clear hy527
      simp only [Option.some.injEq, Prod.mk.injEq] at H
      obtain ⟨rfl, rfl, rfl⟩ := H
      have hnb21 := NB511_0.out
      have hnc21 := NB0_511.out
      obtain ⟨hcz22_0, hcz22_1, hcz22_2, hcz22_3, hcz22_4, hfz22_0, hfz22_1, hfz22_2, hfz22_3, hfz22_4⟩ := bf5 BK511.out
      go_wp2_with (first | ((with_reducible refine gate_callee (f := 75) rfl ?_); refine goesL_ (some 22) rfl rfl Try.func75 (by kernel_rfl) rfl #[.pointer (some ⟨g, 0, none⟩), .int .i64 10] rfl zM ?_; (with_reducible refine (spec_l01Cur_once.calls g s0_0 x1001_1 x1002_1 10 true t522 t523 w0 _ ?side1 ?side2 A17.out).mono ?_); (case side1 => exact zq5 HI0.out NB0_511.out); (case side2 => exact zq10 HB.out (IsS94.ge HI0.out) GE511.out); rintro e w23 ⟨rfl, hi, hb, hk⟩; refine ⟨_, rfl, ?_⟩; have n0_ := Aside0.mk (Kd.R_mono (Kd.R_keep (IsS94.apart (show IsS94 w0 _ g s0_0 x1001_1 x1002_1 from zq5 HI0.out NB0_511.out) (zR HO_5.out) (by decide)) hk (fun _ h => h.2)) (fun _ h => h.1)); have n1_ := Aside0.mk (kP BK511.out hk NB511_0.out); have n2_ := Aside0.mk (KeepBut.trans (zq7 HK.out GW511.out) hk (.inl rfl)); have n3_ := Aside0.mk (hb); have n4_ := Aside0.mk (hi); clear HO_5; clear BK511; clear HK; clear HB; clear HI0; have HO_5 := n0_; have BK511 := n1_; have HK := n2_; have HB := n3_; have HI0 := n4_; clear n0_ n1_ n2_ n3_ n4_; try clear hb) | ((with_reducible refine gate_callee (f := 90) rfl ?_); refine goesL_ (some 25) rfl rfl Try.func90 (by kernel_rfl) rfl #[.pointer (some ⟨g, 0, none⟩), .int .i64 6] rfl zM ?_; (with_reducible refine (spec_l01Cur_pick.calls g s0_0 t522 t523 6 t524 t525 t526 w0 _ ?side1 ?side2 A19.out).mono ?_); (case side1 => exact zq5 HI0.out NB0_511.out); (case side2 => exact zq10 HB.out (IsS94.ge HI0.out) GE511.out); rintro e w24 ⟨rfl, hi, hb, hk⟩; refine ⟨_, rfl, ?_⟩; have n0_ := Aside0.mk (Kd.R_mono (Kd.R_keep (IsS94.apart (show IsS94 w0 _ g s0_0 t522 t523 from zq5 HI0.out NB0_511.out) (zR HO_5.out) (by decide)) hk (fun _ h => h.2)) (fun _ h => h.1)); have n1_ := Aside0.mk (kP BK511.out hk NB511_0.out); have n2_ := Aside0.mk (KeepBut.trans (zq7 HK.out GW511.out) hk (.inl rfl)); have n3_ := Aside0.mk (hb); have n4_ := Aside0.mk (hi); clear HO_5; clear BK511; clear HK; clear HB; clear HI0; have HO_5 := n0_; have BK511 := n1_; have HK := n2_; have HB := n3_; have HI0 := n4_; clear n0_ n1_ n2_ n3_ n4_; try clear hb) | ((with_reducible refine gate_builtin (b := .append) (xs := #[.tmp 23, .tmp 27]) rfl ?_); at_builtin; refine Kd.R_append (Kd.int .i64) w.heap.size rfl (.tmp 23) (.tmp 27) 45 3 (.int .i64 0) 8 rfl Try.underlying45 info3 rfl (by decide) (by omega) u5 x5_1 (wrap64 (t524 - 1)) [.int .i64 (wrap64 (t524 - 1))] (fun _ => True) (fun _ => False) rfl rfl ?aP (fun _ hk => hk.elim) ?aF ?aO (Below.refl _ _) ?aS ?aL ?_; (case aP => exact rfl); (case aF => exact (fun _ _ => trivial)); (case aO => exact (zR HO_5.out)); (case aS => exact (keep_size (w := w) (g := g) (row := none) (zq7 HK.out GW511.out))); (case aL => have := LMc20.out; omega); intro v528 w25 ho hb hg hat; rw [← Ny527.out] at ho; have n0_ := Aside0.mk (kG BK511.out hg (Kd.R_ne HO_5.out BK511.out (by decide))); have n1_ := Aside0.mk (IsS94.grown (zq5 HI0.out NB0_511.out) hg (IsS94.own_ne HI0.out HO_5.out (by decide))); have n2_ := Aside0.mk (below_weaken (zq10 HB.out (IsS94.ge HI0.out) GE511.out) HL.out hb); have n3_ := Aside0.mk (KeepBut.trans (zq7 HK.out GW511.out) (KeepBut.of_grown hg g) (Kd.R_base2 HO_5.out)); have n4_ := Aside0.mk (ho); clear BK511; clear HI0; clear HB; clear HK; clear HO_5; have BK511 := n0_; have HI0 := n1_; have HB := n2_; have HK := n3_; have HO529 := n4_; clear n0_ n1_ n2_ n3_ n4_; clear ho hb hg hat))
      go_ret
      exact ⟨_, by first | rfl | (simp [errW_none, errW_some] <;> rfl) | (simp [*, errW_none, errW_some] <;> rfl), zR HO529.out, zq5 HI0.out NB0_511.out, zq10 HB.out (IsS94.ge HI0.out) GE511.out, zq7 HK.out GW511.out⟩
     ·rw [if_neg c20] at H
      exact absurd H (by simp)
    ·replace c18 := Bool.eq_false_iff.mpr c18
     subst c18
     have H1 : (some (x5_1, t522, t523)) = some (r1, r2, r3) := by rw [if_neg (show ¬ (false = true) by decide)] at H; exact H
     clear H
     have H := H1
     clear H1
     simp only [Option.some.injEq, Prod.mk.injEq] at H
     obtain ⟨rfl, rfl, rfl⟩ := H
     have hnb26 := NB511_0.out
     have hnc26 := NB0_511.out
     obtain ⟨hcz27_0, hcz27_1, hcz27_2, hcz27_3, hcz27_4, hfz27_0, hfz27_1, hfz27_2, hfz27_3, hfz27_4⟩ := bf5 BK511.out
     go_wp2_with (first | ((with_reducible refine gate_callee (f := 75) rfl ?_); refine goesL_ (some 22) rfl rfl Try.func75 (by kernel_rfl) rfl #[.pointer (some ⟨g, 0, none⟩), .int .i64 10] rfl zM ?_; (with_reducible refine (spec_l01Cur_once.calls g s0_0 x1001_1 x1002_1 10 false t522 t523 w0 _ ?side1 ?side2 A17.out).mono ?_); (case side1 => exact zq5 HI0.out NB0_511.out); (case side2 => exact zq10 HB.out (IsS94.ge HI0.out) GE511.out); rintro e w28 ⟨rfl, hi, hb, hk⟩; refine ⟨_, rfl, ?_⟩; have n0_ := Aside0.mk (Kd.R_mono (Kd.R_keep (IsS94.apart (show IsS94 w0 _ g s0_0 x1001_1 x1002_1 from zq5 HI0.out NB0_511.out) (zR HO_5.out) (by decide)) hk (fun _ h => h.2)) (fun _ h => h.1)); have n1_ := Aside0.mk (kP BK511.out hk NB511_0.out); have n2_ := Aside0.mk (KeepBut.trans (zq7 HK.out GW511.out) hk (.inl rfl)); have n3_ := Aside0.mk (hb); have n4_ := Aside0.mk (hi); clear HO_5; clear BK511; clear HK; clear HB; clear HI0; have HO_5 := n0_; have BK511 := n1_; have HK := n2_; have HB := n3_; have HI0 := n4_; clear n0_ n1_ n2_ n3_ n4_; try clear hb))
     go_ret
     exact ⟨_, by first | rfl | (simp [errW_none, errW_some] <;> rfl) | (simp [*, errW_none, errW_some] <;> rfl), zR HO_5.out, zq5 HI0.out NB0_511.out, zq10 HB.out (IsS94.ge HI0.out) GE511.out, zq7 HK.out GW511.out⟩

/-! ### spec_DrawOrderOf: function 43 -/
def spec_DrawOrderOf.f (k : Nat) (l0 : List Int) : Option (Int × Int × Int × Int × (List (S66)) × List Int) := (spec_l01Open.f l0).bind fun bt531 => ((spec_l03DrawAny.f k bt531.1 bt531.2.1 bt531.2.2 8).bind fun bt535 => ((spec_l04DrawComps.f k bt531.1 bt535.2.2.2.2.2.1 bt535.2.2.2.2.2.2 bt535.1 bt535.2.1 bt535.2.2.1 bt535.2.2.2.1 bt535.2.2.2.2.1).bind fun bt545 => (some (bt535.1, bt535.2.1, bt535.2.2.1, bt535.2.2.2.1, bt535.2.2.2.2.1, bt545.1))))
set_option maxHeartbeats 8000000 in
set_option maxRecDepth 100000 in
theorem spec_DrawOrderOf.calls (k : Nat) (A0 : Option Addr) (c0 : Nat) (l0 : List Int) (r1 : Int) (r2 : Int) (r3 : Int) (r4 : Int) (r5 : List (S66)) (r6 : List Int) (w : World) (hr0 : Kd.C (Kd.int .u8) w A0 l0.length l0) (hc0 : l0.length ≤ c0) (h : spec_DrawOrderOf.f k l0 = some (r1, r2, r3, r4, r5, r6)) :
  Calls Try.prog 43 #[.slice A0 l0.length c0] w fun e w' => ∃ v4_ v5_ : Value, e = .returned (.tuple #[.agg #[.int .i64 r1, .int .i64 r2, .int .i64 r3, .int .i64 r4, v4_], v5_]) ∧ Kd.R k66 66 w' w.heap.size (fun _ => True) v4_ r5 ∧ Kd.R (Kd.int .i64) 3 w' w.heap.size (fun _ => True) v5_ r6 ∧ Below w.heap.size w w' := by
 have hu29 := Try.underlying29
 have HR0 := Aside0.mk hr0
 have HC0 := Aside0.mk hc0
 clear hr0 hc0
 have HB := Aside0.mk (Below.refl w.heap.size w)
 have H : ((spec_l01Open.f l0).bind fun bt531 => ((spec_l03DrawAny.f k bt531.1 bt531.2.1 bt531.2.2 8).bind fun bt535 => ((spec_l04DrawComps.f k bt531.1 bt535.2.2.2.2.2.1 bt535.2.2.2.2.2.2 bt535.1 bt535.2.1 bt535.2.2.1 bt535.2.2.2.1 bt535.2.2.2.2.1).bind fun bt545 => (some (bt535.1, bt535.2.1, bt535.2.2.1, bt535.2.2.2.1, bt535.2.2.2.2.1, bt545.1))))) = some (r1, r2, r3, r4, r5, r6) := h
 clear h
 replace H := Option.bind_eq_some_iff.mp H
 obtain ⟨⟨t531, t532, t533⟩, A20, H⟩ := H
 (try dsimp only at H)
 have A2 := Aside0.mk A20
 clear A20
 replace H := Option.bind_eq_some_iff.mp H
 obtain ⟨⟨t535, t536, t537, t538, t539, t542, t543⟩, A30, H⟩ := H
 replace H : ((spec_l04DrawComps.f k t531 t542 t543 t535 t536 t537 t538 t539).bind fun bt545 => (some (t535, t536, t537, t538, t539, bt545.1))) = some (r1, r2, r3, r4, r5, r6) := H
 have A3 := Aside0.mk A30
 clear A30
 replace H := Option.bind_eq_some_iff.mp H
 obtain ⟨⟨t545, t548, t549⟩, A40, H⟩ := H
 replace H : (some (t535, t536, t537, t538, t539, t545)) = some (r1, r2, r3, r4, r5, r6) := H
 have A4 := Aside0.mk A40
 clear A40
 simp only [Option.some.injEq, Prod.mk.injEq] at H
 obtain ⟨rfl, rfl, rfl, rfl, rfl, rfl⟩ := H
 go_enter Try.func43, Try.ntmps43
 try go_wp2_with (first | ((with_reducible refine gate_dst (N := 2) rfl ?_); refine box_event ?hg (N := 2) ?hd (cs := #[.int .i64 0, .int .i64 0, .int .i64 0, .int .i64 0, .slice none 0 0]) (t := 29) ?hr ?_; (case hd => rfl); (case hg => rfl); (case hr => first | (go_simp; done) | (go_simp; rfl)); intro gb530 hg w5 hbox hb; have n0_ := Aside0.mk (below_step (zB HB.out) hb); have n1_ := Aside0.mk (hbox); have n2_ := Aside0.mk (gE hg HB.out); have n3_ := Aside0.mk (gE hg HB.out); clear HB; have HB := n0_; have BK530 := n1_; have GW530 := n2_; have GE530 := n3_; clear n0_ n1_ n2_ n3_; clear hb hbox hg) | ((with_reducible refine gate_callee (f := 72) rfl ?_); refine goesL_ (some 7) rfl rfl Try.func72 (by kernel_rfl) rfl #[.slice A0 l0.length c0] rfl zM ?_; (with_reducible refine (spec_l01Open.calls _ _ l0 t531 t532 t533 w _ ?side1 ?side2 ?side3 A2.out).mono ?_); (case side1 => with_reducible repeat (first | exact HB.out | apply below_alloc | apply pw_below_drewN | apply below_drew1 | refine below_set ?_ GE530.out)); (case side2 => exact HR0.out); (case side3 => exact HC0.out); rintro e w6 ⟨g534, rfl, hi, hb, hb2⟩; refine ⟨_, rfl, ?_⟩; have n0_ := Aside0.mk (blk_below (g := gb530) (o := .cells #[.int .i64 0, .int .i64 0, .int .i64 0, .int .i64 0, .slice none 0 0] 29 (0, 0)) (zK BK530.out) hb2); have n1_ := Aside0.mk (hb); have n2_ := Aside0.mk (hi); have n3_ := Aside0.mk (IsS94.ne_blk hi (blk_below (g := gb530) (o := .cells #[.int .i64 0, .int .i64 0, .int .i64 0, .int .i64 0, .slice none 0 0] 29 (0, 0)) (zK BK530.out) hb2) (by decide)); have n4_ := Aside0.mk (Ne.symm (IsS94.ne_blk hi (blk_below (g := gb530) (o := .cells #[.int .i64 0, .int .i64 0, .int .i64 0, .int .i64 0, .slice none 0 0] 29 (0, 0)) (zK BK530.out) hb2) (by decide))); clear BK530; clear HB; have BK530 := n0_; have HB := n1_; have HI534 := n2_; have NB534_530 := n3_; have NB530_534 := n4_; clear n0_ n1_ n2_ n3_ n4_; try clear hb) | ((with_reducible refine gate_callee (f := 73) rfl ?_); refine goesL_ (some 9) rfl rfl Try.func73 (by kernel_rfl) rfl #[.pointer (some ⟨g534, 0, none⟩), .int .i64 8] rfl zM ?_; (with_reducible refine (spec_l03DrawAny.calls k g534 t531 t532 t533 8 t535 t536 t537 t538 t539 t542 t543 w _ ?side1 ?side2 A3.out).mono ?_); (case side1 => exact zq5 HI534.out NB534_530.out); (case side2 => exact zq10 HB.out (IsS94.ge HI534.out) GE530.out); rintro e w7 ⟨v540, rfl, ho0, hi, hb, hk⟩; refine ⟨_, rfl, ?_⟩; have n0_ := Aside0.mk (kP BK530.out hk NB530_534.out); have n1_ := Aside0.mk (Kd.R_lower ho0 (below_size (zq10 HB.out (IsS94.ge HI534.out) GE530.out))); have n2_ := Aside0.mk (hb); have n3_ := Aside0.mk (hi); clear BK530; clear HB; clear HI534; have BK530 := n0_; have HO541 := n1_; have HB := n2_; have HI534 := n3_; clear n0_ n1_ n2_ n3_; try clear hb; (try clear ho0)) | ((with_reducible refine gate_dst (N := 5) rfl ?_); refine box_event ?hg (N := 5) ?hd (cs := #[.int .i64 0, .int .i64 0, .int .i64 0, .int .i64 0, .slice none 0 0]) (t := 29) ?hr ?_; (case hd => rfl); (case hg => rfl); (case hr => first | (go_simp; done) | (go_simp; rfl)); intro gb544 hg w8 hbox hb; have n0_ := Aside0.mk (Kd.R_below (zR HO541.out) hb); have n1_ := Aside0.mk (kB BK530.out hb); have n2_ := Aside0.mk (IsS94.below (zq5 HI534.out NB534_530.out) hb); have n3_ := Aside0.mk (below_step (zq10 HB.out (IsS94.ge HI534.out) GE530.out) hb); have n4_ := Aside0.mk (hbox); have n5_ := Aside0.mk ((by rw [hg]; exact (below_size (zq10 HB.out (IsS94.ge HI534.out) GE530.out)) : w.heap.size ≤ gb544)); have n6_ := Aside0.mk ((by rw [hg]; exact (below_size (zq10 HB.out (IsS94.ge HI534.out) GE530.out)) : w.heap.size ≤ gb544)); have n7_ := Aside0.mk (nL hg BK530.out); have n8_ := Aside0.mk (nG hg BK530.out); have n9_ := Aside0.mk ((by rw [hg]; exact Nat.ne_of_lt (IsS94.lt (show IsS94 w _ g534 t531 t542 t543 from zq5 HI534.out NB534_530.out)) : g534 ≠ gb544)); have n10_ := Aside0.mk ((by rw [hg]; exact Nat.ne_of_gt (IsS94.lt (show IsS94 w _ g534 t531 t542 t543 from zq5 HI534.out NB534_530.out)) : gb544 ≠ g534)); clear HO541; clear BK530; clear HI534; clear HB; have HO541 := n0_; have BK530 := n1_; have HI534 := n2_; have HB := n3_; have BK544 := n4_; have GW544 := n5_; have GE544 := n6_; have NB530_544 := n7_; have NB544_530 := n8_; have NB534_544 := n9_; have NB544_534 := n10_; clear n0_ n1_ n2_ n3_ n4_ n5_ n6_ n7_ n8_ n9_ n10_; clear hb hbox hg; have hnb9 := NB544_530.out; have hnc9 := NB530_544.out; have hnb10 := NB544_534.out; have hnc10 := NB534_544.out; obtain ⟨hcz11_0, hcz11_1, hcz11_2, hcz11_3, hcz11_4, hfz11_0, hfz11_1, hfz11_2, hfz11_3, hfz11_4⟩ := bf5 BK544.out; obtain ⟨Ao12, co12, eo12⟩ := Kd.R_slice HO541.out; subst eo12))
 have n0_ : Aside0 (Kd.R k66 66 (((((w8.setCell ⟨gb544, 0, none⟩ (.int .i64 t535)).setCell ⟨gb544, 1, none⟩ (.int .i64 t536)).setCell ⟨gb544, 2, none⟩ (.int .i64 t537)).setCell ⟨gb544, 3, none⟩ (.int .i64 t538)).setCell ⟨gb544, 4, none⟩ (.slice Ao12 t539.length co12)) w.heap.size (fun _ => True) (.slice Ao12 t539.length co12) t539) := ⟨by (with_reducible repeat (first | apply Kd.R_alloc | apply Kd.R_drewN | apply Kd.R_drew)); exact Kd.R_mono (Kd.R_far (p := ⟨gb544, 4, none⟩) (Kd.R_far (p := ⟨gb544, 3, none⟩) (Kd.R_far (p := ⟨gb544, 2, none⟩) (Kd.R_far (p := ⟨gb544, 1, none⟩) (Kd.R_far (p := ⟨gb544, 0, none⟩) (Kd.R_types HO541.out BK544.out (by decide)) (fun _ hk => hk.2) (.int .i64 t535)) (fun _ hk => hk.2) (.int .i64 t536)) (fun _ hk => hk.2) (.int .i64 t537)) (fun _ hk => hk.2) (.int .i64 t538)) (fun _ hk => hk.2) (.slice Ao12 t539.length co12)) (fun _ hk => trivial)⟩
 have n1_ : Aside0 ((((((w8.setCell ⟨gb544, 0, none⟩ (.int .i64 t535)).setCell ⟨gb544, 1, none⟩ (.int .i64 t536)).setCell ⟨gb544, 2, none⟩ (.int .i64 t537)).setCell ⟨gb544, 3, none⟩ (.int .i64 t538)).setCell ⟨gb544, 4, none⟩ (.slice Ao12 t539.length co12)).heap[gb530]? = some (.cells #[.int .i64 0, .int .i64 0, .int .i64 0, .int .i64 0, .slice none 0 0] 29 (0, 0))) := ⟨zF BK530.out NB530_544.out⟩
 have n2_ : Aside0 ((((((w8.setCell ⟨gb544, 0, none⟩ (.int .i64 t535)).setCell ⟨gb544, 1, none⟩ (.int .i64 t536)).setCell ⟨gb544, 2, none⟩ (.int .i64 t537)).setCell ⟨gb544, 3, none⟩ (.int .i64 t538)).setCell ⟨gb544, 4, none⟩ (.slice Ao12 t539.length co12)).heap[gb544]? = some (.cells #[.int .i64 t535, .int .i64 t536, .int .i64 t537, .int .i64 t538, .slice Ao12 t539.length co12] 29 (0, 0))) := ⟨zP BK544.out⟩
 have n3_ : Aside0 (IsS94 w (((((w8.setCell ⟨gb544, 0, none⟩ (.int .i64 t535)).setCell ⟨gb544, 1, none⟩ (.int .i64 t536)).setCell ⟨gb544, 2, none⟩ (.int .i64 t537)).setCell ⟨gb544, 3, none⟩ (.int .i64 t538)).setCell ⟨gb544, 4, none⟩ (.slice Ao12 t539.length co12)) g534 t531 t542 t543) := ⟨zq2 HI534.out NB534_530.out NB534_544.out⟩
 have n4_ : Aside0 (Below w.heap.size w (((((w8.setCell ⟨gb544, 0, none⟩ (.int .i64 t535)).setCell ⟨gb544, 1, none⟩ (.int .i64 t536)).setCell ⟨gb544, 2, none⟩ (.int .i64 t537)).setCell ⟨gb544, 3, none⟩ (.int .i64 t538)).setCell ⟨gb544, 4, none⟩ (.slice Ao12 t539.length co12))) := ⟨zq6 HB.out (IsS94.ge HI534.out) GE530.out GE544.out⟩
 generalize (((((w8.setCell ⟨gb544, 0, none⟩ (.int .i64 t535)).setCell ⟨gb544, 1, none⟩ (.int .i64 t536)).setCell ⟨gb544, 2, none⟩ (.int .i64 t537)).setCell ⟨gb544, 3, none⟩ (.int .i64 t538)).setCell ⟨gb544, 4, none⟩ (.slice Ao12 t539.length co12)) = w13 at n0_ n1_ n2_ n3_ n4_ ⊢
 have HO541 := n0_
 have BK530 := n1_
 have BK544 := n2_
 have HI534 := n3_
 have HB := n4_
 clear n0_ n1_ n2_ n3_ n4_
 have n0_ := Aside0.mk (Kd.R_drew HO541.out)
 have n1_ := Aside0.mk (blk_drew BK530.out)
 have n2_ := Aside0.mk (blk_drew BK544.out)
 have n3_ := Aside0.mk (IsS94.drew HI534.out)
 have n4_ := Aside0.mk (below_drew1 HB.out)
 clear HO541
 clear BK530
 clear BK544
 clear HI534
 clear HB
 have HO541 := n0_
 have BK530 := n1_
 have BK544 := n2_
 have HI534 := n3_
 have HB := n4_
 clear n0_ n1_ n2_ n3_ n4_
 refine start_ (n := 6) (S := fun w' => w'.cell? ⟨gb544, 0, none⟩ = some (.int .i64 t535) ∧ w'.cell? ⟨gb544, 1, none⟩ = some (.int .i64 t536) ∧ w'.cell? ⟨gb544, 2, none⟩ = some (.int .i64 t537) ∧ w'.cell? ⟨gb544, 3, none⟩ = some (.int .i64 t538) ∧ w'.cell? ⟨gb544, 4, none⟩ = some (.slice Ao12 t539.length co12)) (ds := []) (Array.replicate 6 false) (by kernel_rfl) rfl rfl ⟨(blk_cell BK544.out 0).trans rfl, (blk_cell BK544.out 1).trans rfl, (blk_cell BK544.out 2).trans rfl, (blk_cell BK544.out 3).trans rfl, (blk_cell BK544.out 4).trans rfl⟩ (fun hHeld => ?_)
 generalize w13.drew = w14 at HO541 BK530 BK544 HI534 HB hHeld ⊢
 refine sv 1 11 (lbn 6 2) ?_
 refine st 0 10 (lbn 6 3) hHeld ?_
 refine st 2 12 (lbn 6 7) hHeld ?_
 refine one_ (i := 3) (N := some 13) #[true, true, true, true, false, false] rfl rfl (by kernel_rfl) (by decide) (fun K hK => ?_)
 refine goes_ Try.func74 (by kernel_rfl) rfl #[.pointer (some ⟨g534, 0, none⟩), .agg #[.int .i64 t535, .int .i64 t536, .int .i64 t537, .int .i64 t538, .slice Ao12 t539.length co12]] (by rfl) rfl rfl zM ?_
 with_reducible refine (spec_l04DrawComps.calls k g534 t531 t542 t543 t535 t536 t537 t538 _ _ t539 t545 t548 t549 w _ ?side1 ?side2 ?side3 ?side4 A4.out).mono ?_
 (case side1 => exact zq2 HI534.out NB534_530.out NB534_544.out)
 (case side2 => exact zq6 HB.out (IsS94.ge HI534.out) GE530.out GE544.out)
 (case side3 => exact Kd.C_foot_own (IsS94.apart (show IsS94 w _ g534 t531 t542 t543 from zq2 HI534.out NB534_530.out NB534_544.out) (zR HO541.out) (by decide)) (fun _ h_ => h_.2))
 (case side4 => exact (Kd.R_reads' HO541.out).2.1)
 rintro e w15 ⟨v546, rfl, ho0, hi, hb, hk⟩
 refine ⟨_, rfl, ?_⟩
 have n0_ := Aside0.mk (kP BK530.out hk NB530_534.out)
 have n1_ := Aside0.mk (Kd.R_mono (Kd.R_keep (IsS94.apart (show IsS94 w _ g534 t531 t542 t543 from zq2 HI534.out NB534_530.out NB534_544.out) (zR HO541.out) (by decide)) hk (fun _ h => h.2)) (fun _ h => h.1))
 have n2_ := Aside0.mk (kP BK544.out hk NB544_534.out)
 have n3_ := Aside0.mk (Kd.R_lower ho0 (below_size (zq6 HB.out (IsS94.ge HI534.out) GE530.out GE544.out)))
 have n4_ := Aside0.mk (hb)
 have n5_ := Aside0.mk (hi)
 clear BK530
 clear HO541
 clear BK544
 clear HB
 clear HI534
 have BK530 := n0_
 have HO541 := n1_
 have BK544 := n2_
 have HO547 := n3_
 have HB := n4_
 have HI534 := n5_
 clear n0_ n1_ n2_ n3_ n4_ n5_
 refine hK.out _ _ ⟨(blk_cell BK544.out 0).trans rfl, (blk_cell BK544.out 1).trans rfl, (blk_cell BK544.out 2).trans rfl, (blk_cell BK544.out 3).trans rfl, (blk_cell BK544.out 4).trans rfl⟩ (fun hHeld => ?_)
 clear hK K
 refine norm_ (a' := ?_) ?_ ?_
 rotate_left
 ·show Act.put _ (some 13) _ = _
  simp only [Act.put, List.setIfInBounds_toArray, List.set_cons_zero, List.set_cons_succ, i64_w, i32_w]
  rfl
 refine one_ (i := 4) (N := none) #[true, true, true, true, true, false] rfl rfl (by kernel_rfl) (by decide) (fun K hK => ?_)
 have hs16 : w15.cell? ⟨gb530, 0, none⟩ = some (.int .i64 0) := (blk_cell BK530.out 0).trans rfl
 have hfs16 := blk_frozen BK530.out 0
 have hns16_1 := NB544_530.out
 have hms16_1 := NB530_544.out
 have hs17 : w15.cell? ⟨gb530, 1, none⟩ = some (.int .i64 0) := (blk_cell BK530.out 1).trans rfl
 have hfs17 := blk_frozen BK530.out 1
 have hns17_1 := NB544_530.out
 have hms17_1 := NB530_544.out
 have hs18 : w15.cell? ⟨gb530, 2, none⟩ = some (.int .i64 0) := (blk_cell BK530.out 2).trans rfl
 have hfs18 := blk_frozen BK530.out 2
 have hns18_1 := NB544_530.out
 have hms18_1 := NB530_544.out
 have hs19 : w15.cell? ⟨gb530, 3, none⟩ = some (.int .i64 0) := (blk_cell BK530.out 3).trans rfl
 have hfs19 := blk_frozen BK530.out 3
 have hns19_1 := NB544_530.out
 have hms19_1 := NB530_544.out
 have hs20 : w15.cell? ⟨gb530, 4, none⟩ = some (.slice none 0 0) := (blk_cell BK530.out 4).trans rfl
 have hfs20 := blk_frozen BK530.out 4
 have hns20_1 := NB544_530.out
 have hms20_1 := NB530_544.out
 refine skip_ (w1 := ?_) (by rfl) rfl ?_ ?_
 rotate_left
 ·go_simp
  rfl
 refine hK.out _ _ ⟨((cell_far (p := ⟨gb530, _, none⟩) NB544_530.out _).trans (((cell_far (p := ⟨gb530, _, none⟩) NB544_530.out _).trans (((cell_far (p := ⟨gb530, _, none⟩) NB544_530.out _).trans (((cell_far (p := ⟨gb530, _, none⟩) NB544_530.out _).trans (((cell_far (p := ⟨gb530, _, none⟩) NB544_530.out _).trans (hHeld.1)))))))))), ((cell_far (p := ⟨gb530, _, none⟩) NB544_530.out _).trans (((cell_far (p := ⟨gb530, _, none⟩) NB544_530.out _).trans (((cell_far (p := ⟨gb530, _, none⟩) NB544_530.out _).trans (((cell_far (p := ⟨gb530, _, none⟩) NB544_530.out _).trans (((cell_far (p := ⟨gb530, _, none⟩) NB544_530.out _).trans (hHeld.2.1)))))))))), ((cell_far (p := ⟨gb530, _, none⟩) NB544_530.out _).trans (((cell_far (p := ⟨gb530, _, none⟩) NB544_530.out _).trans (((cell_far (p := ⟨gb530, _, none⟩) NB544_530.out _).trans (((cell_far (p := ⟨gb530, _, none⟩) NB544_530.out _).trans (((cell_far (p := ⟨gb530, _, none⟩) NB544_530.out _).trans (hHeld.2.2.1)))))))))), ((cell_far (p := ⟨gb530, _, none⟩) NB544_530.out _).trans (((cell_far (p := ⟨gb530, _, none⟩) NB544_530.out _).trans (((cell_far (p := ⟨gb530, _, none⟩) NB544_530.out _).trans (((cell_far (p := ⟨gb530, _, none⟩) NB544_530.out _).trans (((cell_far (p := ⟨gb530, _, none⟩) NB544_530.out _).trans (hHeld.2.2.2.1)))))))))), ((cell_far (p := ⟨gb530, _, none⟩) NB544_530.out _).trans (((cell_far (p := ⟨gb530, _, none⟩) NB544_530.out _).trans (((cell_far (p := ⟨gb530, _, none⟩) NB544_530.out _).trans (((cell_far (p := ⟨gb530, _, none⟩) NB544_530.out _).trans (((cell_far (p := ⟨gb530, _, none⟩) NB544_530.out _).trans (hHeld.2.2.2.2))))))))))⟩ (fun hHeld => ?_)
 clear hK K
 refine sv 5 3 (lbn 6 63) ?_
 refine done_ (by kernel_rfl) ?_
 try go_wp2
 refine bodyPost_ret (results_ct rfl _ _ gb530 29 #[.int .i64 t535, .int .i64 t536, .int .i64 t537, .int .i64 t538, .slice Ao12 t539.length co12] (0, 0) _ rfl (zP BK530.out) Try.underlying29 rfl (by kernel_rfl)) rfl ?_
 exact ⟨_, _, by first | rfl | (simp [errW_none, errW_some] <;> rfl) | (simp [*, errW_none, errW_some] <;> rfl), by (with_reducible repeat (first | apply Kd.R_alloc | apply Kd.R_drewN | apply Kd.R_drew)); exact Kd.R_mono (Kd.R_far (p := ⟨gb530, 4, none⟩) (Kd.R_far (p := ⟨gb530, 3, none⟩) (Kd.R_far (p := ⟨gb530, 2, none⟩) (Kd.R_far (p := ⟨gb530, 1, none⟩) (Kd.R_far (p := ⟨gb530, 0, none⟩) (Kd.R_types HO541.out BK530.out (by decide)) (fun _ hk => hk.2) (.int .i64 t535)) (fun _ hk => hk.2) (.int .i64 t536)) (fun _ hk => hk.2) (.int .i64 t537)) (fun _ hk => hk.2) (.int .i64 t538)) (fun _ hk => hk.2) (.slice Ao12 t539.length co12)) (fun _ hk => trivial), by (with_reducible repeat (first | apply Kd.R_alloc | apply Kd.R_drewN | apply Kd.R_drew)); exact Kd.R_mono (Kd.R_far (p := ⟨gb530, 4, none⟩) (Kd.R_far (p := ⟨gb530, 3, none⟩) (Kd.R_far (p := ⟨gb530, 2, none⟩) (Kd.R_far (p := ⟨gb530, 1, none⟩) (Kd.R_far (p := ⟨gb530, 0, none⟩) (Kd.R_types HO547.out BK530.out (by decide)) (fun _ hk => hk.2) (.int .i64 t535)) (fun _ hk => hk.2) (.int .i64 t536)) (fun _ hk => hk.2) (.int .i64 t537)) (fun _ hk => hk.2) (.int .i64 t538)) (fun _ hk => hk.2) (.slice Ao12 t539.length co12)) (fun _ hk => trivial), zq6 HB.out (IsS94.ge HI534.out) GE530.out GE544.out⟩

end Go.Proofs.Ytbhfimbikooccaa.PFnPlaces
