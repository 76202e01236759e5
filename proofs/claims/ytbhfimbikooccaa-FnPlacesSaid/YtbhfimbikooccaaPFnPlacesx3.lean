-- Written by a program of this session.
import Derived.Test.YtbhfimbikooccaaPFnPlacesx0
import Derived.Test.YtbhfimbikooccaaPFnPlacesx2
namespace Go.Proofs.Ytbhfimbikooccaa.PFnPlaces
open Go.RowKit Go.Proofs.YtbhfimbikooccaaW.PrintWords Go.Proofs.YtbhfimbikooccaaW.PrintLast Go.Proofs.YtbhfimbikooccaaW.PrintMore
attribute [local go_sem] max2_int min2_int max_two min_two max_three min_three max_four min_four   -- for this text's walks alone
set_option linter.unusedVariables false
set_option linter.unusedSimpArgs false

/-! ### impl_FrameOk: function 16 -/
mutual
def impl_FrameOk.j0 : Nat → Bool → Int → Int → Int → Int → List (S66) → Option (Bool)
 | 0, _, _, _, _, _, _ => none
 | k + 1, x46, x102000, x102001, x102002, x102003, x102004 => if x46 = true then (some false) else (impl_FrameOk.l0 k 0 x102004 (x102004.length : Int) 0 x102000 x102001 x102002 x102003 x102004)
def impl_FrameOk.l0 : Nat → Int → List (S66) → Int → Int → Int → Int → Int → Int → List (S66) → Option (Bool)
 | 0, _, _, _, _, _, _, _, _, _ => none
 | k + 1, x3, x48, x49, x50, x102000, x102001, x102002, x102003, x102004 => if x50 < x49 then (if 0 ≤ x50 then (if x50 < (x48.length : Int) then ((impl_within.f ((rd_T66 x48 x50).f0) 0 255).bind fun t112 => (if t112 = true then ((impl_within.f ((rd_T66 x48 x50).f1) 1 4).bind fun t113 => (if t113 = true then ((impl_within.f ((rd_T66 x48 x50).f2) 1 4).bind fun t114 => (if t114 = true then ((impl_within.f ((rd_T66 x48 x50).f3) 0 3).bind fun t115 => (impl_FrameOk.j2 k x3 x50 x48 x49 x50 (!t115) x102000 x102001 x102002 x102003 x102004 ((rd_T66 x48 x50).f0) ((rd_T66 x48 x50).f1) ((rd_T66 x48 x50).f2) ((rd_T66 x48 x50).f3))) else (impl_FrameOk.j2 k x3 x50 x48 x49 x50 true x102000 x102001 x102002 x102003 x102004 ((rd_T66 x48 x50).f0) ((rd_T66 x48 x50).f1) ((rd_T66 x48 x50).f2) ((rd_T66 x48 x50).f3)))) else (impl_FrameOk.j2 k x3 x50 x48 x49 x50 true x102000 x102001 x102002 x102003 x102004 ((rd_T66 x48 x50).f0) ((rd_T66 x48 x50).f1) ((rd_T66 x48 x50).f2) ((rd_T66 x48 x50).f3)))) else (impl_FrameOk.j2 k x3 x50 x48 x49 x50 true x102000 x102001 x102002 x102003 x102004 ((rd_T66 x48 x50).f0) ((rd_T66 x48 x50).f1) ((rd_T66 x48 x50).f2) ((rd_T66 x48 x50).f3)))) else (none)) else (none)) else (some (decide (x3 ≤ 10)))
def impl_FrameOk.j2 : Nat → Int → Int → List (S66) → Int → Int → Bool → Int → Int → Int → Int → List (S66) → Int → Int → Int → Int → Option (Bool)
 | 0, _, _, _, _, _, _, _, _, _, _, _, _, _, _, _ => none
 | k + 1, x3, x4, x48, x49, x50, x76, x102000, x102001, x102002, x102003, x102004, x112000, x112001, x112002, x112003 => if x76 = true then (some false) else (if 0 ≤ x4 then (if x4 ≤ (x102004.length : Int) then ((slices_Has54.f (x102004.take (x4 : Int).toNat) x112000).bind fun t120 => (if t120 = true then (some false) else (impl_FrameOk.l0 k (wrap64 (x3 + (wrap64 (x112001 * x112002)))) x48 x49 (wrap64 (x50 + 1)) x102000 x102001 x102002 x102003 x102004))) else (none)) else (none))
end
def impl_FrameOk.f (k : Nat) (a0_0 : Int) (a0_1 : Int) (a0_2 : Int) (a0_3 : Int) (l0_4 : List (S66)) : Option (Bool) := if a0_0 = 8 then ((impl_within.f a0_1 1 256).bind fun t102 => (if t102 = true then ((impl_within.f a0_2 1 256).bind fun t103 => (if t103 = true then (if (wrap64 (a0_1 * a0_2)) > 16384 then (impl_FrameOk.j0 k true a0_0 a0_1 a0_2 a0_3 l0_4) else ((impl_within.f a0_3 0 255).bind fun t104 => (if t104 = true then ((impl_within.f (l0_4.length : Int) 1 4).bind fun t105 => (impl_FrameOk.j0 k (!t105) a0_0 a0_1 a0_2 a0_3 l0_4)) else (impl_FrameOk.j0 k true a0_0 a0_1 a0_2 a0_3 l0_4)))) else (impl_FrameOk.j0 k true a0_0 a0_1 a0_2 a0_3 l0_4))) else (impl_FrameOk.j0 k true a0_0 a0_1 a0_2 a0_3 l0_4))) else (if a0_0 = 12 then ((impl_within.f a0_1 1 256).bind fun t106 => (if t106 = true then ((impl_within.f a0_2 1 256).bind fun t107 => (if t107 = true then (if (wrap64 (a0_1 * a0_2)) > 16384 then (impl_FrameOk.j0 k true a0_0 a0_1 a0_2 a0_3 l0_4) else ((impl_within.f a0_3 0 255).bind fun t108 => (if t108 = true then ((impl_within.f (l0_4.length : Int) 1 4).bind fun t109 => (impl_FrameOk.j0 k (!t109) a0_0 a0_1 a0_2 a0_3 l0_4)) else (impl_FrameOk.j0 k true a0_0 a0_1 a0_2 a0_3 l0_4)))) else (impl_FrameOk.j0 k true a0_0 a0_1 a0_2 a0_3 l0_4))) else (impl_FrameOk.j0 k true a0_0 a0_1 a0_2 a0_3 l0_4))) else (impl_FrameOk.j0 k true a0_0 a0_1 a0_2 a0_3 l0_4))
set_option maxHeartbeats 8000000 in
set_option maxRecDepth 100000 in
theorem impl_FrameOk.calls (k : Nat) (a0_0 : Int) (a0_1 : Int) (a0_2 : Int) (a0_3 : Int) (A0_4 : Option Addr) (c0_4 : Nat) (l0_4 : List (S66)) (r : Bool) (w : World) (hr0_4 : Kd.C k66 w A0_4 l0_4.length l0_4) (hc0_4 : l0_4.length ≤ c0_4) (h : impl_FrameOk.f k a0_0 a0_1 a0_2 a0_3 l0_4 = some r) :
  Calls Try.prog 16 #[.agg #[.int .i64 a0_0, .int .i64 a0_1, .int .i64 a0_2, .int .i64 a0_3, .slice A0_4 l0_4.length c0_4]] w fun e w' => e = .returned (.bool r) ∧ Below w.heap.size w w' := by
 have hu29 := Try.underlying29
 have hu66 := Try.underlying66
 have HR0_4 := Aside0.mk hr0_4
 have HC0_4 := Aside0.mk hc0_4
 clear hr0_4 hc0_4
 have HB := Aside0.mk (Below.refl w.heap.size w)
 have H : (if a0_0 = 8 then ((impl_within.f a0_1 1 256).bind fun t102 => (if t102 = true then ((impl_within.f a0_2 1 256).bind fun t103 => (if t103 = true then (if (wrap64 (a0_1 * a0_2)) > 16384 then (impl_FrameOk.j0 k true a0_0 a0_1 a0_2 a0_3 l0_4) else ((impl_within.f a0_3 0 255).bind fun t104 => (if t104 = true then ((impl_within.f (l0_4.length : Int) 1 4).bind fun t105 => (impl_FrameOk.j0 k (!t105) a0_0 a0_1 a0_2 a0_3 l0_4)) else (impl_FrameOk.j0 k true a0_0 a0_1 a0_2 a0_3 l0_4)))) else (impl_FrameOk.j0 k true a0_0 a0_1 a0_2 a0_3 l0_4))) else (impl_FrameOk.j0 k true a0_0 a0_1 a0_2 a0_3 l0_4))) else (if a0_0 = 12 then ((impl_within.f a0_1 1 256).bind fun t106 => (if t106 = true then ((impl_within.f a0_2 1 256).bind fun t107 => (if t107 = true then (if (wrap64 (a0_1 * a0_2)) > 16384 then (impl_FrameOk.j0 k true a0_0 a0_1 a0_2 a0_3 l0_4) else ((impl_within.f a0_3 0 255).bind fun t108 => (if t108 = true then ((impl_within.f (l0_4.length : Int) 1 4).bind fun t109 => (impl_FrameOk.j0 k (!t109) a0_0 a0_1 a0_2 a0_3 l0_4)) else (impl_FrameOk.j0 k true a0_0 a0_1 a0_2 a0_3 l0_4)))) else (impl_FrameOk.j0 k true a0_0 a0_1 a0_2 a0_3 l0_4))) else (impl_FrameOk.j0 k true a0_0 a0_1 a0_2 a0_3 l0_4))) else (impl_FrameOk.j0 k true a0_0 a0_1 a0_2 a0_3 l0_4))) = some r := h
 clear h
 have HC2 := Aside0.mk H
 clear H
 go_enter Try.func16, Try.ntmps16
 go_upto_region 1 with (first | ((with_reducible refine gate_dst (N := 1) rfl ?_); (try (refine gate_guard (by rfl) ?_; dsimp only)); refine box_event ?hg (N := 1) ?hd (cs := #[.int .i64 a0_0, .int .i64 a0_1, .int .i64 a0_2, .int .i64 a0_3, .slice A0_4 l0_4.length c0_4]) (t := 29) ?hr ?_; (case hd => rfl); (case hg => rfl); (case hr => first | (go_simp; done) | (go_simp; rfl)); intro gb101 hg w3 hbox hb; have n0_ := Aside0.mk (below_step (zB HB.out) hb); have n1_ := Aside0.mk (hbox); have n2_ := Aside0.mk (gE hg HB.out); have n3_ := Aside0.mk (gE hg HB.out); clear HB; have HB := n0_; have BK101 := n1_; have GW101 := n2_; have GE101 := n3_; clear n0_ n1_ n2_ n3_; clear hb hbox hg))
 (try simp only [Act.put, List.setIfInBounds_toArray, List.set_cons_zero, List.set_cons_succ])
 go_cut [46] (fun v46 wc => ∃ (kq : Nat) (x46_1 : Bool), v46 = .bool x46_1 ∧ Aside0 (impl_FrameOk.j0 kq x46_1 a0_0 a0_1 a0_2 a0_3 l0_4 = some r) ∧ Aside0 (kq ≤ k) ∧ Aside0 (wc.heap[gb101]? = some (.cells #[.int .i64 a0_0, .int .i64 a0_1, .int .i64 a0_2, .int .i64 a0_3, (.slice A0_4 l0_4.length c0_4)] 29 (0, 0))) ∧ Aside0 (Below w.heap.size w wc))
 case first =>
  have H := HC2.out
  clear HC2
  by_cases c4 : a0_0 = 8
  ·rw [if_pos c4] at H
   have c4b0 : (a0_0 == 8) = true := beq_iff_eq.mpr c4
   have c4b1 : (a0_0 != 8) = false := bne_eq_false_iff_eq.mpr c4
   clear c4
   (first | rw [c4b0] | (simp only [i64_w, i32_w]; rw [c4b0]) | skip)
   replace H := Option.bind_eq_some_iff.mp H
   obtain ⟨t102, A50, H⟩ := H
   (try dsimp only at H)
   have A5 := Aside0.mk A50
   clear A50
   by_cases c6 : t102 = true
   ·subst c6
    have H1 : ((impl_within.f a0_2 1 256).bind fun t103 => (if t103 = true then (if (wrap64 (a0_1 * a0_2)) > 16384 then (impl_FrameOk.j0 k true a0_0 a0_1 a0_2 a0_3 l0_4) else ((impl_within.f a0_3 0 255).bind fun t104 => (if t104 = true then ((impl_within.f (l0_4.length : Int) 1 4).bind fun t105 => (impl_FrameOk.j0 k (!t105) a0_0 a0_1 a0_2 a0_3 l0_4)) else (impl_FrameOk.j0 k true a0_0 a0_1 a0_2 a0_3 l0_4)))) else (impl_FrameOk.j0 k true a0_0 a0_1 a0_2 a0_3 l0_4))) = some r := by rw [if_pos rfl] at H; exact H
    clear H
    have H := H1
    clear H1
    replace H := Option.bind_eq_some_iff.mp H
    obtain ⟨t103, A70, H⟩ := H
    (try dsimp only at H)
    have A7 := Aside0.mk A70
    clear A70
    by_cases c8 : t103 = true
    ·subst c8
     have H1 : (if (wrap64 (a0_1 * a0_2)) > 16384 then (impl_FrameOk.j0 k true a0_0 a0_1 a0_2 a0_3 l0_4) else ((impl_within.f a0_3 0 255).bind fun t104 => (if t104 = true then ((impl_within.f (l0_4.length : Int) 1 4).bind fun t105 => (impl_FrameOk.j0 k (!t105) a0_0 a0_1 a0_2 a0_3 l0_4)) else (impl_FrameOk.j0 k true a0_0 a0_1 a0_2 a0_3 l0_4)))) = some r := by rw [if_pos rfl] at H; exact H
     clear H
     have H := H1
     clear H1
     by_cases c9 : (wrap64 (a0_1 * a0_2)) > 16384
     ·rw [if_pos c9] at H
      have c9b0 : decide (16384 < (wrap64 (a0_1 * a0_2))) = true := decide_eq_true c9
      clear c9
      have H' := Aside0.mk H
      clear H
      obtain ⟨hcz10_0, hcz10_1, hcz10_2, hcz10_3, hcz10_4, hfz10_0, hfz10_1, hfz10_2, hfz10_3, hfz10_4⟩ := bf5 BK101.out
      go_wp2_with (first | (go_at_call 53; (with_reducible refine (impl_within.calls a0_1 1 256 true _ A5.out).mono ?_); rintro e w' ⟨rfl, ⟨nd, rfl⟩⟩) | (go_at_call 53; (with_reducible refine (impl_within.calls a0_2 1 256 true _ A7.out).mono ?_); rintro e w' ⟨rfl, ⟨nd, rfl⟩⟩))
      go_meet
      case rel => exact ⟨_, (true), (by first | rfl | (simp; done) | (simp [*]; done)), H', ⟨by first | omega | exact Nat.le_refl _⟩, ⟨zK BK101.out⟩, ⟨zS HB.out GE101.out⟩⟩
     ·rw [if_neg c9] at H
      have c9b0 : decide (16384 < (wrap64 (a0_1 * a0_2))) = false := decide_eq_false c9
      clear c9
      replace H := Option.bind_eq_some_iff.mp H
      obtain ⟨t104, A110, H⟩ := H
      replace H : (if t104 = true then ((impl_within.f (l0_4.length : Int) 1 4).bind fun t105 => (impl_FrameOk.j0 k (!t105) a0_0 a0_1 a0_2 a0_3 l0_4)) else (impl_FrameOk.j0 k true a0_0 a0_1 a0_2 a0_3 l0_4)) = some r := H
      have A11 := Aside0.mk A110
      clear A110
      by_cases c12 : t104 = true
      ·subst c12
       have H1 : ((impl_within.f (l0_4.length : Int) 1 4).bind fun t105 => (impl_FrameOk.j0 k (!t105) a0_0 a0_1 a0_2 a0_3 l0_4)) = some r := by rw [if_pos rfl] at H; exact H
       clear H
       have H := H1
       clear H1
       replace H := Option.bind_eq_some_iff.mp H
       obtain ⟨t105, A130, H⟩ := H
       replace H : (impl_FrameOk.j0 k (!t105) a0_0 a0_1 a0_2 a0_3 l0_4) = some r := H
       have A13 := Aside0.mk A130
       clear A130
       have H' := Aside0.mk H
       clear H
       obtain ⟨hcz14_0, hcz14_1, hcz14_2, hcz14_3, hcz14_4, hfz14_0, hfz14_1, hfz14_2, hfz14_3, hfz14_4⟩ := bf5 BK101.out
       go_wp2_with (first | (go_at_call 53; (with_reducible refine (impl_within.calls a0_1 1 256 true _ A5.out).mono ?_); rintro e w' ⟨rfl, ⟨nd, rfl⟩⟩) | (go_at_call 53; (with_reducible refine (impl_within.calls a0_2 1 256 true _ A7.out).mono ?_); rintro e w' ⟨rfl, ⟨nd, rfl⟩⟩) | (go_at_call 53; (with_reducible refine (impl_within.calls a0_3 0 255 true _ A11.out).mono ?_); rintro e w' ⟨rfl, ⟨nd, rfl⟩⟩) | (go_at_call 53; (with_reducible refine (impl_within.calls (l0_4.length : Int) 1 4 t105 _ A13.out).mono ?_); rintro e w' ⟨rfl, ⟨nd, rfl⟩⟩))
       go_meet
       case rel => exact ⟨_, (!t105), (by first | rfl | (simp; done) | (simp [*]; done)), H', ⟨by first | omega | exact Nat.le_refl _⟩, ⟨zK BK101.out⟩, ⟨zS HB.out GE101.out⟩⟩
      ·replace c12 := Bool.eq_false_iff.mpr c12
       subst c12
       have H1 : (impl_FrameOk.j0 k true a0_0 a0_1 a0_2 a0_3 l0_4) = some r := by rw [if_neg (show ¬ (false = true) by decide)] at H; exact H
       clear H
       have H := H1
       clear H1
       have H' := Aside0.mk H
       clear H
       obtain ⟨hcz15_0, hcz15_1, hcz15_2, hcz15_3, hcz15_4, hfz15_0, hfz15_1, hfz15_2, hfz15_3, hfz15_4⟩ := bf5 BK101.out
       go_wp2_with (first | (go_at_call 53; (with_reducible refine (impl_within.calls a0_1 1 256 true _ A5.out).mono ?_); rintro e w' ⟨rfl, ⟨nd, rfl⟩⟩) | (go_at_call 53; (with_reducible refine (impl_within.calls a0_2 1 256 true _ A7.out).mono ?_); rintro e w' ⟨rfl, ⟨nd, rfl⟩⟩) | (go_at_call 53; (with_reducible refine (impl_within.calls a0_3 0 255 false _ A11.out).mono ?_); rintro e w' ⟨rfl, ⟨nd, rfl⟩⟩))
       go_meet
       case rel => exact ⟨_, (true), (by first | rfl | (simp; done) | (simp [*]; done)), H', ⟨by first | omega | exact Nat.le_refl _⟩, ⟨zK BK101.out⟩, ⟨zS HB.out GE101.out⟩⟩
    ·replace c8 := Bool.eq_false_iff.mpr c8
     subst c8
     have H1 : (impl_FrameOk.j0 k true a0_0 a0_1 a0_2 a0_3 l0_4) = some r := by rw [if_neg (show ¬ (false = true) by decide)] at H; exact H
     clear H
     have H := H1
     clear H1
     have H' := Aside0.mk H
     clear H
     obtain ⟨hcz16_0, hcz16_1, hcz16_2, hcz16_3, hcz16_4, hfz16_0, hfz16_1, hfz16_2, hfz16_3, hfz16_4⟩ := bf5 BK101.out
     go_wp2_with (first | (go_at_call 53; (with_reducible refine (impl_within.calls a0_1 1 256 true _ A5.out).mono ?_); rintro e w' ⟨rfl, ⟨nd, rfl⟩⟩) | (go_at_call 53; (with_reducible refine (impl_within.calls a0_2 1 256 false _ A7.out).mono ?_); rintro e w' ⟨rfl, ⟨nd, rfl⟩⟩))
     go_meet
     case rel => exact ⟨_, (true), (by first | rfl | (simp; done) | (simp [*]; done)), H', ⟨by first | omega | exact Nat.le_refl _⟩, ⟨zK BK101.out⟩, ⟨zS HB.out GE101.out⟩⟩
   ·replace c6 := Bool.eq_false_iff.mpr c6
    subst c6
    have H1 : (impl_FrameOk.j0 k true a0_0 a0_1 a0_2 a0_3 l0_4) = some r := by rw [if_neg (show ¬ (false = true) by decide)] at H; exact H
    clear H
    have H := H1
    clear H1
    have H' := Aside0.mk H
    clear H
    obtain ⟨hcz17_0, hcz17_1, hcz17_2, hcz17_3, hcz17_4, hfz17_0, hfz17_1, hfz17_2, hfz17_3, hfz17_4⟩ := bf5 BK101.out
    go_wp2_with (first | (go_at_call 53; (with_reducible refine (impl_within.calls a0_1 1 256 false _ A5.out).mono ?_); rintro e w' ⟨rfl, ⟨nd, rfl⟩⟩))
    go_meet
    case rel => exact ⟨_, (true), (by first | rfl | (simp; done) | (simp [*]; done)), H', ⟨by first | omega | exact Nat.le_refl _⟩, ⟨zK BK101.out⟩, ⟨zS HB.out GE101.out⟩⟩
  ·rw [if_neg c4] at H
   have c4b0 : (a0_0 == 8) = false := beq_eq_false_iff_ne.mpr c4
   have c4b1 : (a0_0 != 8) = true := bne_iff_ne.mpr c4
   (first | rw [c4b0] | (simp only [i64_w, i32_w]; rw [c4b0]) | skip)
   by_cases c18 : a0_0 = 12
   ·rw [if_pos c18] at H
    have c18b0 : (a0_0 == 12) = true := beq_iff_eq.mpr c18
    have c18b1 : (a0_0 != 12) = false := bne_eq_false_iff_eq.mpr c18
    clear c18
    replace H := Option.bind_eq_some_iff.mp H
    obtain ⟨t106, A190, H⟩ := H
    (try dsimp only at H)
    have A19 := Aside0.mk A190
    clear A190
    by_cases c20 : t106 = true
    ·subst c20
     have H1 : ((impl_within.f a0_2 1 256).bind fun t107 => (if t107 = true then (if (wrap64 (a0_1 * a0_2)) > 16384 then (impl_FrameOk.j0 k true a0_0 a0_1 a0_2 a0_3 l0_4) else ((impl_within.f a0_3 0 255).bind fun t108 => (if t108 = true then ((impl_within.f (l0_4.length : Int) 1 4).bind fun t109 => (impl_FrameOk.j0 k (!t109) a0_0 a0_1 a0_2 a0_3 l0_4)) else (impl_FrameOk.j0 k true a0_0 a0_1 a0_2 a0_3 l0_4)))) else (impl_FrameOk.j0 k true a0_0 a0_1 a0_2 a0_3 l0_4))) = some r := by rw [if_pos rfl] at H; exact H
     clear H
     have H := H1
     clear H1
     replace H := Option.bind_eq_some_iff.mp H
     obtain ⟨t107, A210, H⟩ := H
     (try dsimp only at H)
     have A21 := Aside0.mk A210
     clear A210
     by_cases c22 : t107 = true
     ·subst c22
      have H1 : (if (wrap64 (a0_1 * a0_2)) > 16384 then (impl_FrameOk.j0 k true a0_0 a0_1 a0_2 a0_3 l0_4) else ((impl_within.f a0_3 0 255).bind fun t108 => (if t108 = true then ((impl_within.f (l0_4.length : Int) 1 4).bind fun t109 => (impl_FrameOk.j0 k (!t109) a0_0 a0_1 a0_2 a0_3 l0_4)) else (impl_FrameOk.j0 k true a0_0 a0_1 a0_2 a0_3 l0_4)))) = some r := by rw [if_pos rfl] at H; exact H
      clear H
      have H := H1
      clear H1
      by_cases c23 : (wrap64 (a0_1 * a0_2)) > 16384
      ·rw [if_pos c23] at H
       have c23b0 : decide (16384 < (wrap64 (a0_1 * a0_2))) = true := decide_eq_true c23
       clear c23
       have H' := Aside0.mk H
       clear H
       obtain ⟨hcz24_0, hcz24_1, hcz24_2, hcz24_3, hcz24_4, hfz24_0, hfz24_1, hfz24_2, hfz24_3, hfz24_4⟩ := bf5 BK101.out
       go_wp2_with (first | (go_at_call 53; (with_reducible refine (impl_within.calls a0_1 1 256 true _ A19.out).mono ?_); rintro e w' ⟨rfl, ⟨nd, rfl⟩⟩) | (go_at_call 53; (with_reducible refine (impl_within.calls a0_2 1 256 true _ A21.out).mono ?_); rintro e w' ⟨rfl, ⟨nd, rfl⟩⟩))
       go_meet
       case rel => exact ⟨_, (true), (by first | rfl | (simp; done) | (simp [*]; done)), H', ⟨by first | omega | exact Nat.le_refl _⟩, ⟨zK BK101.out⟩, ⟨zS HB.out GE101.out⟩⟩
      ·rw [if_neg c23] at H
       have c23b0 : decide (16384 < (wrap64 (a0_1 * a0_2))) = false := decide_eq_false c23
       clear c23
       replace H := Option.bind_eq_some_iff.mp H
       obtain ⟨t108, A250, H⟩ := H
       replace H : (if t108 = true then ((impl_within.f (l0_4.length : Int) 1 4).bind fun t109 => (impl_FrameOk.j0 k (!t109) a0_0 a0_1 a0_2 a0_3 l0_4)) else (impl_FrameOk.j0 k true a0_0 a0_1 a0_2 a0_3 l0_4)) = some r := H
       have A25 := Aside0.mk A250
       clear A250
       by_cases c26 : t108 = true
       ·subst c26
        have H1 : ((impl_within.f (l0_4.length : Int) 1 4).bind fun t109 => (impl_FrameOk.j0 k (!t109) a0_0 a0_1 a0_2 a0_3 l0_4)) = some r := by rw [if_pos rfl] at H; exact H
        clear H
        have H := H1
        clear H1
        replace H := Option.bind_eq_some_iff.mp H
        obtain ⟨t109, A270, H⟩ := H
        replace H : (impl_FrameOk.j0 k (!t109) a0_0 a0_1 a0_2 a0_3 l0_4) = some r := H
        have A27 := Aside0.mk A270
        clear A270
        have H' := Aside0.mk H
        clear H
        obtain ⟨hcz28_0, hcz28_1, hcz28_2, hcz28_3, hcz28_4, hfz28_0, hfz28_1, hfz28_2, hfz28_3, hfz28_4⟩ := bf5 BK101.out
        go_wp2_with (first | (go_at_call 53; (with_reducible refine (impl_within.calls a0_1 1 256 true _ A19.out).mono ?_); rintro e w' ⟨rfl, ⟨nd, rfl⟩⟩) | (go_at_call 53; (with_reducible refine (impl_within.calls a0_2 1 256 true _ A21.out).mono ?_); rintro e w' ⟨rfl, ⟨nd, rfl⟩⟩) | (go_at_call 53; (with_reducible refine (impl_within.calls a0_3 0 255 true _ A25.out).mono ?_); rintro e w' ⟨rfl, ⟨nd, rfl⟩⟩) | (go_at_call 53; (with_reducible refine (impl_within.calls (l0_4.length : Int) 1 4 t109 _ A27.out).mono ?_); rintro e w' ⟨rfl, ⟨nd, rfl⟩⟩))
        go_meet
        case rel => exact ⟨_, (!t109), (by first | rfl | (simp; done) | (simp [*]; done)), H', ⟨by first | omega | exact Nat.le_refl _⟩, ⟨zK BK101.out⟩, ⟨zS HB.out GE101.out⟩⟩
       ·replace c26 := Bool.eq_false_iff.mpr c26
        subst c26
        have H1 : (impl_FrameOk.j0 k true a0_0 a0_1 a0_2 a0_3 l0_4) = some r := by rw [if_neg (show ¬ (false = true) by decide)] at H; exact H
        clear H
        have H := H1
        clear H1
        have H' := Aside0.mk H
        clear H
        obtain ⟨hcz29_0, hcz29_1, hcz29_2, hcz29_3, hcz29_4, hfz29_0, hfz29_1, hfz29_2, hfz29_3, hfz29_4⟩ := bf5 BK101.out
        go_wp2_with (first | (go_at_call 53; (with_reducible refine (impl_within.calls a0_1 1 256 true _ A19.out).mono ?_); rintro e w' ⟨rfl, ⟨nd, rfl⟩⟩) | (go_at_call 53; (with_reducible refine (impl_within.calls a0_2 1 256 true _ A21.out).mono ?_); rintro e w' ⟨rfl, ⟨nd, rfl⟩⟩) | (go_at_call 53; (with_reducible refine (impl_within.calls a0_3 0 255 false _ A25.out).mono ?_); rintro e w' ⟨rfl, ⟨nd, rfl⟩⟩))
        go_meet
        case rel => exact ⟨_, (true), (by first | rfl | (simp; done) | (simp [*]; done)), H', ⟨by first | omega | exact Nat.le_refl _⟩, ⟨zK BK101.out⟩, ⟨zS HB.out GE101.out⟩⟩
     ·replace c22 := Bool.eq_false_iff.mpr c22
      subst c22
      have H1 : (impl_FrameOk.j0 k true a0_0 a0_1 a0_2 a0_3 l0_4) = some r := by rw [if_neg (show ¬ (false = true) by decide)] at H; exact H
      clear H
      have H := H1
      clear H1
      have H' := Aside0.mk H
      clear H
      obtain ⟨hcz30_0, hcz30_1, hcz30_2, hcz30_3, hcz30_4, hfz30_0, hfz30_1, hfz30_2, hfz30_3, hfz30_4⟩ := bf5 BK101.out
      go_wp2_with (first | (go_at_call 53; (with_reducible refine (impl_within.calls a0_1 1 256 true _ A19.out).mono ?_); rintro e w' ⟨rfl, ⟨nd, rfl⟩⟩) | (go_at_call 53; (with_reducible refine (impl_within.calls a0_2 1 256 false _ A21.out).mono ?_); rintro e w' ⟨rfl, ⟨nd, rfl⟩⟩))
      go_meet
      case rel => exact ⟨_, (true), (by first | rfl | (simp; done) | (simp [*]; done)), H', ⟨by first | omega | exact Nat.le_refl _⟩, ⟨zK BK101.out⟩, ⟨zS HB.out GE101.out⟩⟩
    ·replace c20 := Bool.eq_false_iff.mpr c20
     subst c20
     have H1 : (impl_FrameOk.j0 k true a0_0 a0_1 a0_2 a0_3 l0_4) = some r := by rw [if_neg (show ¬ (false = true) by decide)] at H; exact H
     clear H
     have H := H1
     clear H1
     have H' := Aside0.mk H
     clear H
     obtain ⟨hcz31_0, hcz31_1, hcz31_2, hcz31_3, hcz31_4, hfz31_0, hfz31_1, hfz31_2, hfz31_3, hfz31_4⟩ := bf5 BK101.out
     go_wp2_with (first | (go_at_call 53; (with_reducible refine (impl_within.calls a0_1 1 256 false _ A19.out).mono ?_); rintro e w' ⟨rfl, ⟨nd, rfl⟩⟩))
     go_meet
     case rel => exact ⟨_, (true), (by first | rfl | (simp; done) | (simp [*]; done)), H', ⟨by first | omega | exact Nat.le_refl _⟩, ⟨zK BK101.out⟩, ⟨zS HB.out GE101.out⟩⟩
   ·rw [if_neg c18] at H
    have c18b0 : (a0_0 == 12) = false := beq_eq_false_iff_ne.mpr c18
    have c18b1 : (a0_0 != 12) = true := bne_iff_ne.mpr c18
    have H' := Aside0.mk H
    clear H
    obtain ⟨hcz32_0, hcz32_1, hcz32_2, hcz32_3, hcz32_4, hfz32_0, hfz32_1, hfz32_2, hfz32_3, hfz32_4⟩ := bf5 BK101.out
    go_wp2
    go_meet
    case rel => exact ⟨_, (true), (by first | rfl | (simp; done) | (simp [*]; done)), H', ⟨by first | omega | exact Nat.le_refl _⟩, ⟨zK BK101.out⟩, ⟨zS HB.out GE101.out⟩⟩
 case rest =>
  clear HC2
  obtain ⟨kq, x46_1, rfl, HA, HJ1, BK101, HB⟩ := hcut
  cases kq with
  | zero => exact absurd HA.out (by simp [impl_FrameOk.j0])
  | succ kj1 =>
   have H := HA.out
   clear HA
   simp only [impl_FrameOk.j0] at H
   by_cases c33 : x46_1 = true
   ·subst c33
    have H1 : (some false) = some r := by rw [if_pos rfl] at H; exact H
    clear H
    have H := H1
    clear H1
    obtain rfl := Option.some.inj H
    go_wp2
    go_ret
    exact ⟨by first | rfl | (simp [errW_none, errW_some] <;> rfl) | (simp [*, errW_none, errW_some] <;> rfl), zS HB.out GE101.out⟩
   ·replace c33 := Bool.eq_false_iff.mpr c33
    subst c33
    have H1 : (impl_FrameOk.l0 kj1 0 l0_4 (l0_4.length : Int) 0 a0_0 a0_1 a0_2 a0_3 l0_4) = some r := by rw [if_neg (show ¬ (false = true) by decide)] at H; exact H
    clear H
    have H := H1
    clear H1
    have H' := Aside0.mk H
    clear H
    obtain ⟨hcz34_0, hcz34_1, hcz34_2, hcz34_3, hcz34_4, hfz34_0, hfz34_1, hfz34_2, hfz34_3, hfz34_4⟩ := bf5 BK101.out
    go_wp2
    go_loopg [3, 50] kj1 (fun kq v3 v50 w' => ∃ (x3_2 : Int) (x50_2 : Int), v3 = .int .i64 x3_2 ∧ v50 = .int .i64 x50_2 ∧ Aside0 (impl_FrameOk.l0 kq x3_2 l0_4 (l0_4.length : Int) x50_2 a0_0 a0_1 a0_2 a0_3 l0_4 = some r) ∧ Aside0 (kq ≤ kj1) ∧ Aside0 (w'.heap[gb101]? = some (.cells #[.int .i64 a0_0, .int .i64 a0_1, .int .i64 a0_2, .int .i64 a0_3, (.slice A0_4 l0_4.length c0_4)] 29 (0, 0))) ∧ Aside0 (Below w.heap.size w w'))
    case atStart => exact ⟨(0), (0), (by first | rfl | (simp; done) | (simp [*]; done)), (by first | rfl | (simp; done) | (simp [*]; done)), H', ⟨Nat.le_refl _⟩, ⟨zK BK101.out⟩, ⟨zS HB.out GE101.out⟩⟩
    case round =>
     clear H'
     obtain ⟨x3_2, x50_2, rfl, rfl, HA, HK2, BK101, HB⟩ := hrel
     cases gk with
     | zero => exact absurd HA.out (by simp [impl_FrameOk.l0])
     | succ k2 =>
      have H := HA.out
      clear HA
      simp only [impl_FrameOk.l0] at H
      by_cases c35 : x50_2 < (l0_4.length : Int)
      ·rw [if_pos c35] at H
       have c35b0 : decide (x50_2 < (l0_4.length : Int)) = true := decide_eq_true c35
       clear c35
       by_cases c36 : 0 ≤ x50_2
       ·rw [if_pos c36] at H
        have c36b0 : decide (0 ≤ x50_2) = true := decide_eq_true c36
        clear c36
        by_cases c37 : x50_2 < (l0_4.length : Int)
        ·rw [if_pos c37] at H
         have c37b0 : decide (x50_2 < (l0_4.length : Int)) = true := decide_eq_true c37
         clear c37
         have HC38 := Aside0.mk H
         clear H
         have p110 : 0 ≤ (x50_2 : Int) := dT
         have q110 : x50_2 < (l0_4.length : Int) := dT
         obtain ⟨ad110, e110, hx110_0, hx110_1, hx110_2, hx110_3⟩ := at_T66 HR0_4.out x50_2 p110 q110
         cases e110
         replace hx110_0 := cB HB.out hx110_0
         replace hx110_1 := cB HB.out hx110_1
         replace hx110_2 := cB HB.out hx110_2
         replace hx110_3 := cB HB.out hx110_3
         replace p110 := eq_true p110
         replace q110 := eq_true q110
         go_upto_region 7 with (first | ((with_reducible refine gate_dst (N := 5) rfl ?_); (try (refine gate_guard (by rfl) ?_; dsimp only)); refine box_event ?hg (N := 5) ?hd (cs := #[.int .i64 0, .int .i64 0, .int .i64 0, .int .i64 0]) (t := 66) ?hr ?_; (case hd => rfl); (case hg => rfl); (case hr => first | (go_simp; done) | (go_simp; rfl)); intro gb111 hg w39 hbox hb; have n0_ := Aside0.mk (kB BK101.out hb); have n1_ := Aside0.mk (below_step (zS HB.out GE101.out) hb); have n2_ := Aside0.mk (hbox); have n3_ := Aside0.mk (gS hg HB.out GE101.out); have n4_ := Aside0.mk (gS hg HB.out GE101.out); have n5_ := Aside0.mk (nL hg BK101.out); have n6_ := Aside0.mk (nG hg BK101.out); clear BK101; clear HB; have BK101 := n0_; have HB := n1_; have BK111 := n2_; have GW111 := n3_; have GE111 := n4_; have NB101_111 := n5_; have NB111_101 := n6_; clear n0_ n1_ n2_ n3_ n4_ n5_ n6_; clear hb hbox hg; have hnb40 := NB111_101.out; have hnc40 := NB101_111.out; obtain ⟨hcz41_0, hcz41_1, hcz41_2, hcz41_3, hfz41_0, hfz41_1, hfz41_2, hfz41_3⟩ := bf4 BK111.out))
         (try simp only [Act.put, List.setIfInBounds_toArray, List.set_cons_zero, List.set_cons_succ])
         go_cut [76] (fun v76 wc => ∃ (kq : Nat) (x76_37 : Bool), v76 = .bool x76_37 ∧ Aside0 (impl_FrameOk.j2 kq x3_2 x50_2 l0_4 (l0_4.length : Int) x50_2 x76_37 a0_0 a0_1 a0_2 a0_3 l0_4 ((rd_T66 l0_4 x50_2).f0) ((rd_T66 l0_4 x50_2).f1) ((rd_T66 l0_4 x50_2).f2) ((rd_T66 l0_4 x50_2).f3) = some r) ∧ Aside0 (kq ≤ k2) ∧ Aside0 (wc.heap[gb101]? = some (.cells #[.int .i64 a0_0, .int .i64 a0_1, .int .i64 a0_2, .int .i64 a0_3, (.slice (some ad110) l0_4.length c0_4)] 29 (0, 0))) ∧ Aside0 (wc.heap[gb111]? = some (.cells #[.int .i64 ((rd_T66 l0_4 x50_2).f0), .int .i64 ((rd_T66 l0_4 x50_2).f1), .int .i64 ((rd_T66 l0_4 x50_2).f2), .int .i64 ((rd_T66 l0_4 x50_2).f3)] 66 (0, 0))) ∧ Aside0 (Below w.heap.size w wc))
         case first =>
          have H := HC38.out
          clear HC38
          replace H := Option.bind_eq_some_iff.mp H
          obtain ⟨t112, A420, H⟩ := H
          (try dsimp only at H)
          have A42 := Aside0.mk A420
          clear A420
          by_cases c43 : t112 = true
          ·subst c43
           have H1 : ((impl_within.f ((rd_T66 l0_4 x50_2).f1) 1 4).bind fun t113 => (if t113 = true then ((impl_within.f ((rd_T66 l0_4 x50_2).f2) 1 4).bind fun t114 => (if t114 = true then ((impl_within.f ((rd_T66 l0_4 x50_2).f3) 0 3).bind fun t115 => (impl_FrameOk.j2 k2 x3_2 x50_2 l0_4 (l0_4.length : Int) x50_2 (!t115) a0_0 a0_1 a0_2 a0_3 l0_4 ((rd_T66 l0_4 x50_2).f0) ((rd_T66 l0_4 x50_2).f1) ((rd_T66 l0_4 x50_2).f2) ((rd_T66 l0_4 x50_2).f3))) else (impl_FrameOk.j2 k2 x3_2 x50_2 l0_4 (l0_4.length : Int) x50_2 true a0_0 a0_1 a0_2 a0_3 l0_4 ((rd_T66 l0_4 x50_2).f0) ((rd_T66 l0_4 x50_2).f1) ((rd_T66 l0_4 x50_2).f2) ((rd_T66 l0_4 x50_2).f3)))) else (impl_FrameOk.j2 k2 x3_2 x50_2 l0_4 (l0_4.length : Int) x50_2 true a0_0 a0_1 a0_2 a0_3 l0_4 ((rd_T66 l0_4 x50_2).f0) ((rd_T66 l0_4 x50_2).f1) ((rd_T66 l0_4 x50_2).f2) ((rd_T66 l0_4 x50_2).f3)))) = some r := by rw [if_pos rfl] at H; exact H
           clear H
           have H := H1
           clear H1
           replace H := Option.bind_eq_some_iff.mp H
           obtain ⟨t113, A440, H⟩ := H
           (try dsimp only at H)
           have A44 := Aside0.mk A440
           clear A440
           by_cases c45 : t113 = true
           ·subst c45
            have H1 : ((impl_within.f ((rd_T66 l0_4 x50_2).f2) 1 4).bind fun t114 => (if t114 = true then ((impl_within.f ((rd_T66 l0_4 x50_2).f3) 0 3).bind fun t115 => (impl_FrameOk.j2 k2 x3_2 x50_2 l0_4 (l0_4.length : Int) x50_2 (!t115) a0_0 a0_1 a0_2 a0_3 l0_4 ((rd_T66 l0_4 x50_2).f0) ((rd_T66 l0_4 x50_2).f1) ((rd_T66 l0_4 x50_2).f2) ((rd_T66 l0_4 x50_2).f3))) else (impl_FrameOk.j2 k2 x3_2 x50_2 l0_4 (l0_4.length : Int) x50_2 true a0_0 a0_1 a0_2 a0_3 l0_4 ((rd_T66 l0_4 x50_2).f0) ((rd_T66 l0_4 x50_2).f1) ((rd_T66 l0_4 x50_2).f2) ((rd_T66 l0_4 x50_2).f3)))) = some r := by rw [if_pos rfl] at H; exact H
            clear H
            have H := H1
            clear H1
            replace H := Option.bind_eq_some_iff.mp H
            obtain ⟨t114, A460, H⟩ := H
            (try dsimp only at H)
            have A46 := Aside0.mk A460
            clear A460
            by_cases c47 : t114 = true
            ·subst c47
             have H1 : ((impl_within.f ((rd_T66 l0_4 x50_2).f3) 0 3).bind fun t115 => (impl_FrameOk.j2 k2 x3_2 x50_2 l0_4 (l0_4.length : Int) x50_2 (!t115) a0_0 a0_1 a0_2 a0_3 l0_4 ((rd_T66 l0_4 x50_2).f0) ((rd_T66 l0_4 x50_2).f1) ((rd_T66 l0_4 x50_2).f2) ((rd_T66 l0_4 x50_2).f3))) = some r := by rw [if_pos rfl] at H; exact H
             clear H
             have H := H1
             clear H1
             replace H := Option.bind_eq_some_iff.mp H
             obtain ⟨t115, A480, H⟩ := H
             (try dsimp only at H)
             have A48 := Aside0.mk A480
             clear A480
             have H' := Aside0.mk H
             clear H
             have hnb49 := NB111_101.out
             have hnc49 := NB101_111.out
             obtain ⟨hcz50_0, hcz50_1, hcz50_2, hcz50_3, hfz50_0, hfz50_1, hfz50_2, hfz50_3⟩ := bf4 BK111.out
             go_wp2_with (first | ((with_reducible refine gate_callee (f := 53) rfl ?_); refine goesL_ (some 57) rfl rfl Try.func53 (by kernel_rfl) rfl #[.int .i64 ((rd_T66 l0_4 x50_2).f0), .int .i64 0, .int .i64 255] rfl zM ?_; (with_reducible refine (impl_within.calls ((rd_T66 l0_4 x50_2).f0) 0 255 true _ A42.out).mono ?_); rintro e w' ⟨rfl, ⟨nd, rfl⟩⟩; refine ⟨_, rfl, ?_⟩) | (go_at_call 53; (with_reducible refine (impl_within.calls ((rd_T66 l0_4 x50_2).f1) 1 4 true _ A44.out).mono ?_); rintro e w' ⟨rfl, ⟨nd, rfl⟩⟩) | (go_at_call 53; (with_reducible refine (impl_within.calls ((rd_T66 l0_4 x50_2).f2) 1 4 true _ A46.out).mono ?_); rintro e w' ⟨rfl, ⟨nd, rfl⟩⟩) | (go_at_call 53; (with_reducible refine (impl_within.calls ((rd_T66 l0_4 x50_2).f3) 0 3 t115 _ A48.out).mono ?_); rintro e w' ⟨rfl, ⟨nd, rfl⟩⟩))
             go_meet
             case rel => exact ⟨_, (!t115), (by first | rfl | (simp; done) | (simp [*]; done)), H', ⟨by have := HJ1.out; have := HK2.out; first | omega | exact Nat.le_refl _⟩, ⟨zF BK101.out NB101_111.out⟩, ⟨zP BK111.out⟩, ⟨zT HB.out GE101.out GE111.out⟩⟩
            ·replace c47 := Bool.eq_false_iff.mpr c47
             subst c47
             have H1 : (impl_FrameOk.j2 k2 x3_2 x50_2 l0_4 (l0_4.length : Int) x50_2 true a0_0 a0_1 a0_2 a0_3 l0_4 ((rd_T66 l0_4 x50_2).f0) ((rd_T66 l0_4 x50_2).f1) ((rd_T66 l0_4 x50_2).f2) ((rd_T66 l0_4 x50_2).f3)) = some r := by rw [if_neg (show ¬ (false = true) by decide)] at H; exact H
             clear H
             have H := H1
             clear H1
             have H' := Aside0.mk H
             clear H
             have hnb51 := NB111_101.out
             have hnc51 := NB101_111.out
             obtain ⟨hcz52_0, hcz52_1, hcz52_2, hcz52_3, hfz52_0, hfz52_1, hfz52_2, hfz52_3⟩ := bf4 BK111.out
             go_wp2_with (first | ((with_reducible refine gate_callee (f := 53) rfl ?_); refine goesL_ (some 57) rfl rfl Try.func53 (by kernel_rfl) rfl #[.int .i64 ((rd_T66 l0_4 x50_2).f0), .int .i64 0, .int .i64 255] rfl zM ?_; (with_reducible refine (impl_within.calls ((rd_T66 l0_4 x50_2).f0) 0 255 true _ A42.out).mono ?_); rintro e w' ⟨rfl, ⟨nd, rfl⟩⟩; refine ⟨_, rfl, ?_⟩) | (go_at_call 53; (with_reducible refine (impl_within.calls ((rd_T66 l0_4 x50_2).f1) 1 4 true _ A44.out).mono ?_); rintro e w' ⟨rfl, ⟨nd, rfl⟩⟩) | (go_at_call 53; (with_reducible refine (impl_within.calls ((rd_T66 l0_4 x50_2).f2) 1 4 false _ A46.out).mono ?_); rintro e w' ⟨rfl, ⟨nd, rfl⟩⟩))
             go_meet
             case rel => exact ⟨_, (true), (by first | rfl | (simp; done) | (simp [*]; done)), H', ⟨by have := HJ1.out; have := HK2.out; first | omega | exact Nat.le_refl _⟩, ⟨zF BK101.out NB101_111.out⟩, ⟨zP BK111.out⟩, ⟨zT HB.out GE101.out GE111.out⟩⟩
           ·replace c45 := Bool.eq_false_iff.mpr c45
            subst c45
            have H1 : (impl_FrameOk.j2 k2 x3_2 x50_2 l0_4 (l0_4.length : Int) x50_2 true a0_0 a0_1 a0_2 a0_3 l0_4 ((rd_T66 l0_4 x50_2).f0) ((rd_T66 l0_4 x50_2).f1) ((rd_T66 l0_4 x50_2).f2) ((rd_T66 l0_4 x50_2).f3)) = some r := by rw [if_neg (show ¬ (false = true) by decide)] at H; exact H
            clear H
            have H := H1
            clear H1
            have H' := Aside0.mk H
            clear H
            have hnb53 := NB111_101.out
            have hnc53 := NB101_111.out
            obtain ⟨hcz54_0, hcz54_1, hcz54_2, hcz54_3, hfz54_0, hfz54_1, hfz54_2, hfz54_3⟩ := bf4 BK111.out
            go_wp2_with (first | ((with_reducible refine gate_callee (f := 53) rfl ?_); refine goesL_ (some 57) rfl rfl Try.func53 (by kernel_rfl) rfl #[.int .i64 ((rd_T66 l0_4 x50_2).f0), .int .i64 0, .int .i64 255] rfl zM ?_; (with_reducible refine (impl_within.calls ((rd_T66 l0_4 x50_2).f0) 0 255 true _ A42.out).mono ?_); rintro e w' ⟨rfl, ⟨nd, rfl⟩⟩; refine ⟨_, rfl, ?_⟩) | (go_at_call 53; (with_reducible refine (impl_within.calls ((rd_T66 l0_4 x50_2).f1) 1 4 false _ A44.out).mono ?_); rintro e w' ⟨rfl, ⟨nd, rfl⟩⟩))
            go_meet
            case rel => exact ⟨_, (true), (by first | rfl | (simp; done) | (simp [*]; done)), H', ⟨by have := HJ1.out; have := HK2.out; first | omega | exact Nat.le_refl _⟩, ⟨zF BK101.out NB101_111.out⟩, ⟨zP BK111.out⟩, ⟨zT HB.out GE101.out GE111.out⟩⟩
          ·replace c43 := Bool.eq_false_iff.mpr c43
           subst c43
           have H1 : (impl_FrameOk.j2 k2 x3_2 x50_2 l0_4 (l0_4.length : Int) x50_2 true a0_0 a0_1 a0_2 a0_3 l0_4 ((rd_T66 l0_4 x50_2).f0) ((rd_T66 l0_4 x50_2).f1) ((rd_T66 l0_4 x50_2).f2) ((rd_T66 l0_4 x50_2).f3)) = some r := by rw [if_neg (show ¬ (false = true) by decide)] at H; exact H
           clear H
           have H := H1
           clear H1
           have H' := Aside0.mk H
           clear H
           have hnb55 := NB111_101.out
           have hnc55 := NB101_111.out
           obtain ⟨hcz56_0, hcz56_1, hcz56_2, hcz56_3, hfz56_0, hfz56_1, hfz56_2, hfz56_3⟩ := bf4 BK111.out
           go_wp2_with (first | ((with_reducible refine gate_callee (f := 53) rfl ?_); refine goesL_ (some 57) rfl rfl Try.func53 (by kernel_rfl) rfl #[.int .i64 ((rd_T66 l0_4 x50_2).f0), .int .i64 0, .int .i64 255] rfl zM ?_; (with_reducible refine (impl_within.calls ((rd_T66 l0_4 x50_2).f0) 0 255 false _ A42.out).mono ?_); rintro e w' ⟨rfl, ⟨nd, rfl⟩⟩; refine ⟨_, rfl, ?_⟩))
           go_meet
           case rel => exact ⟨_, (true), (by first | rfl | (simp; done) | (simp [*]; done)), H', ⟨by have := HJ1.out; have := HK2.out; first | omega | exact Nat.le_refl _⟩, ⟨zF BK101.out NB101_111.out⟩, ⟨zP BK111.out⟩, ⟨zT HB.out GE101.out GE111.out⟩⟩
         case rest =>
          clear HC38
          obtain ⟨kq, x76_37, rfl, HA, HJ37, BK101, BK111, HB⟩ := hcut
          cases kq with
          | zero => exact absurd HA.out (by simp [impl_FrameOk.j2])
          | succ kj37 =>
           have H := HA.out
           clear HA
           simp only [impl_FrameOk.j2] at H
           by_cases c57 : x76_37 = true
           ·subst c57
            have H1 : (some false) = some r := by rw [if_pos rfl] at H; exact H
            clear H
            have H := H1
            clear H1
            obtain rfl := Option.some.inj H
            go_wp2
            go_ret
            exact ⟨by first | rfl | (simp [errW_none, errW_some] <;> rfl) | (simp [*, errW_none, errW_some] <;> rfl), zT HB.out GE101.out GE111.out⟩
           ·replace c57 := Bool.eq_false_iff.mpr c57
            subst c57
            have H1 : (if 0 ≤ x50_2 then (if x50_2 ≤ (l0_4.length : Int) then ((slices_Has54.f (l0_4.take (x50_2 : Int).toNat) ((rd_T66 l0_4 x50_2).f0)).bind fun t120 => (if t120 = true then (some false) else (impl_FrameOk.l0 kj37 (wrap64 (x3_2 + (wrap64 (((rd_T66 l0_4 x50_2).f1) * ((rd_T66 l0_4 x50_2).f2))))) l0_4 (l0_4.length : Int) (wrap64 (x50_2 + 1)) a0_0 a0_1 a0_2 a0_3 l0_4))) else (none)) else (none)) = some r := by rw [if_neg (show ¬ (false = true) by decide)] at H; exact H
            clear H
            have H := H1
            clear H1
            by_cases c58 : 0 ≤ x50_2
            ·rw [if_pos c58] at H
             have c58b0 := eq_true c58
             have c58b1 : decide (0 ≤ x50_2) = true := decide_eq_true c58
             clear c58
             by_cases c59 : x50_2 ≤ (l0_4.length : Int)
             ·rw [if_pos c59] at H
              have c59b0 := eq_true c59
              have c59b1 : decide (x50_2 ≤ (l0_4.length : Int)) = true := decide_eq_true c59
              clear c59
              obtain ⟨y116, hy116⟩ : ∃ y_ : List (S66), y_ = (l0_4.take (x50_2 : Int).toNat) := ⟨_, rfl⟩
              replace H : ((slices_Has54.f y116 ((rd_T66 l0_4 x50_2).f0)).bind fun t120 => (if t120 = true then (some false) else (impl_FrameOk.l0 kj37 (wrap64 (x3_2 + (wrap64 (((rd_T66 l0_4 x50_2).f1) * ((rd_T66 l0_4 x50_2).f2))))) l0_4 (l0_4.length : Int) (wrap64 (x50_2 + 1)) a0_0 a0_1 a0_2 a0_3 l0_4))) = some r := by first | (rw [hy116]; with_reducible exact H) | (have H2_ := (Option.bind_some _ _).symm.trans H; rw [hy116]; with_reducible exact H2_) | (have H2_ := (Option.bind_some _ _).symm.trans H; with_reducible exact H2_) | with_reducible exact H | (rw [hy116]; exact H) | exact H
              have Ny116 := Aside0.mk hy116
              clear hy116
              replace H := Option.bind_eq_some_iff.mp H
              obtain ⟨t120, A600, H⟩ := H
              (try dsimp only at H)
              have A60 := Aside0.mk A600
              clear A600
              by_cases c61 : t120 = true
              ·subst c61
               have H1 : (some false) = some r := by rw [if_pos rfl] at H; exact H
               clear H
               have H := H1
               clear H1
               obtain rfl := Option.some.inj H
               have hnb62 := NB101_111.out
               have hnc62 := NB111_101.out
               obtain ⟨hcz63_0, hcz63_1, hcz63_2, hcz63_3, hcz63_4, hfz63_0, hfz63_1, hfz63_2, hfz63_3, hfz63_4⟩ := bf5 BK101.out
               have q64 : (x50_2 : Int) ≤ ((l0_4.length : Int) : Int) := dT
               obtain ⟨i064, hi064, _, hsz64, _⟩ := info_parts info66
               have hroom64 : l0_4.length ≤ c0_4 := HC0_4.out
               have hC64 : Kd.C k66 _ (some ad110) l0_4.length l0_4 := HR0_4.out
               have hcut64 := cut_to (P := Try.prog) 27 66 .i64 Try.underlying27 hi064 (some ad110) l0_4.length c0_4 x50_2 (dT) q64 hroom64
               have hr64 := Kd.C_take (m := (x50_2 : Int).toNat) hC64 (by omega)
               have hy64 : y116.length = (x50_2 : Int).toNat := (by rw [Ny116.out, List.length_take]; omega)
               rw [← Ny116.out] at hr64
               rw [← hy64] at hcut64
               have HR119 := Aside0.mk hr64
               have HC119 := Aside0.mk (show y116.length ≤ c0_4 from by omega)
               clear hr64 hC64 hroom64 hi064 hsz64
               have KY64 := Aside0.mk hy64
               clear hy64
               replace q64 := eq_true q64
               have hmf_ : ∀ (fn : Fn) (first cap : Array Value) (w : World), (Instr.makeFunc fn first cap).run Try.prog w = .ok (.func fn first cap) w := fun _ _ _ _ => rfl
               go_wp2_with (first | (go_at_call 54; (with_reducible refine (slices_Has54.calls _ _ y116 ((rd_T66 l0_4 x50_2).f0) true _ ?side1 ?side2 ?side3 A60.out).mono ?_); (case side1 => repeat (first | exact (Kd.C_below HR119.out HB.out) | (with_reducible refine Kd.C_alloc ?_ _) | (with_reducible refine Kd.C_drewN ?_ _) | (with_reducible refine Kd.C_drew ?_))); (case side2 => exact HC119.out); (case side3 => exact (blk_cell (zK BK111.out) 0).trans rfl); rintro e w65 ⟨rfl, hb⟩; have n0_ := Aside0.mk (kB BK101.out hb); have n1_ := Aside0.mk (kB BK111.out hb); have n2_ := Aside0.mk (below_step (zT HB.out GE101.out GE111.out) hb); clear BK101; clear BK111; clear HB; have BK101 := n0_; have BK111 := n1_; have HB := n2_; clear n0_ n1_ n2_; try clear hb))
               go_ret
               exact ⟨by first | rfl | (simp [errW_none, errW_some] <;> rfl) | (simp [*, errW_none, errW_some] <;> rfl), zT HB.out GE101.out GE111.out⟩
              ·replace c61 := Bool.eq_false_iff.mpr c61
               subst c61
               have H1 : (impl_FrameOk.l0 kj37 (wrap64 (x3_2 + (wrap64 (((rd_T66 l0_4 x50_2).f1) * ((rd_T66 l0_4 x50_2).f2))))) l0_4 (l0_4.length : Int) (wrap64 (x50_2 + 1)) a0_0 a0_1 a0_2 a0_3 l0_4) = some r := by rw [if_neg (show ¬ (false = true) by decide)] at H; exact H
               clear H
               have H := H1
               clear H1
               have H' := Aside0.mk H
               clear H
               have hnb66 := NB101_111.out
               have hnc66 := NB111_101.out
               obtain ⟨hcz67_0, hcz67_1, hcz67_2, hcz67_3, hcz67_4, hfz67_0, hfz67_1, hfz67_2, hfz67_3, hfz67_4⟩ := bf5 BK101.out
               have q68 : (x50_2 : Int) ≤ ((l0_4.length : Int) : Int) := dT
               obtain ⟨i068, hi068, _, hsz68, _⟩ := info_parts info66
               have hroom68 : l0_4.length ≤ c0_4 := HC0_4.out
               have hC68 : Kd.C k66 _ (some ad110) l0_4.length l0_4 := HR0_4.out
               have hcut68 := cut_to (P := Try.prog) 27 66 .i64 Try.underlying27 hi068 (some ad110) l0_4.length c0_4 x50_2 (dT) q68 hroom68
               have hr68 := Kd.C_take (m := (x50_2 : Int).toNat) hC68 (by omega)
               have hy68 : y116.length = (x50_2 : Int).toNat := (by rw [Ny116.out, List.length_take]; omega)
               rw [← Ny116.out] at hr68
               rw [← hy68] at hcut68
               have HR119 := Aside0.mk hr68
               have HC119 := Aside0.mk (show y116.length ≤ c0_4 from by omega)
               clear hr68 hC68 hroom68 hi068 hsz68
               have KY68 := Aside0.mk hy68
               clear hy68
               replace q68 := eq_true q68
               have hmf_ : ∀ (fn : Fn) (first cap : Array Value) (w : World), (Instr.makeFunc fn first cap).run Try.prog w = .ok (.func fn first cap) w := fun _ _ _ _ => rfl
               go_wp2_with (first | (go_at_call 54; (with_reducible refine (slices_Has54.calls _ _ y116 ((rd_T66 l0_4 x50_2).f0) false _ ?side1 ?side2 ?side3 A60.out).mono ?_); (case side1 => repeat (first | exact (Kd.C_below HR119.out HB.out) | (with_reducible refine Kd.C_alloc ?_ _) | (with_reducible refine Kd.C_drewN ?_ _) | (with_reducible refine Kd.C_drew ?_))); (case side2 => exact HC119.out); (case side3 => exact (blk_cell (zK BK111.out) 0).trans rfl); rintro e w69 ⟨rfl, hb⟩; have n0_ := Aside0.mk (kB BK101.out hb); have n1_ := Aside0.mk (kB BK111.out hb); have n2_ := Aside0.mk (below_step (zT HB.out GE101.out GE111.out) hb); clear BK101; clear BK111; clear HB; have BK101 := n0_; have BK111 := n1_; have HB := n2_; clear n0_ n1_ n2_; try clear hb; obtain ⟨hcz70_0, hcz70_1, hcz70_2, hcz70_3, hfz70_0, hfz70_1, hfz70_2, hfz70_3⟩ := bf4 BK111.out))
               go_roundg kj37
               case measure => have := HJ1.out; have := HK2.out; have := HJ37.out; omega
               case rel => exact ⟨(wrap64 (x3_2 + (wrap64 (((rd_T66 l0_4 x50_2).f1) * ((rd_T66 l0_4 x50_2).f2))))), (wrap64 (x50_2 + 1)), (by first | rfl | (simp; done) | (simp [*]; done)), (by first | rfl | (simp; done) | (simp [*]; done)), H', ⟨by have := HJ1.out; have := HK2.out; have := HJ37.out; omega⟩, ⟨zK BK101.out⟩, ⟨zT HB.out GE101.out GE111.out⟩⟩
             ·rw [if_neg c59] at H
              exact absurd H (by simp)
            ·rw [if_neg c58] at H
             exact absurd H (by simp)
        ·rw [if_neg c37] at H
         exact absurd H (by simp)
       ·rw [if_neg c36] at H
        exact absurd H (by simp)
      ·rw [if_neg c35] at H
       have c35b0 : decide (x50_2 < (l0_4.length : Int)) = false := decide_eq_false c35
       clear c35
       obtain rfl := Option.some.inj H
       go_wp2
       go_ret
       exact ⟨by first | rfl | (simp [errW_none, errW_some] <;> rfl) | (simp [*, errW_none, errW_some] <;> rfl), zS HB.out GE101.out⟩

end Go.Proofs.Ytbhfimbikooccaa.PFnPlaces
