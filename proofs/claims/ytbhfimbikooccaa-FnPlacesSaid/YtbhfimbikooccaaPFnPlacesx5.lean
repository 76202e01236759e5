-- Written by a program of this session.
import Derived.Test.YtbhfimbikooccaaPFnPlacesx0
import Derived.Test.YtbhfimbikooccaaPFnPlacesx4
namespace Go.Proofs.Ytbhfimbikooccaa.PFnPlaces
open Go.RowKit Go.Proofs.YtbhfimbikooccaaW.PrintWords Go.Proofs.YtbhfimbikooccaaW.PrintLast Go.Proofs.YtbhfimbikooccaaW.PrintMore
attribute [local go_sem] max2_int min2_int max_two min_two max_three min_three max_four min_four   -- for this text's walks alone
set_option linter.unusedVariables false
set_option linter.unusedSimpArgs false

/-! ### spec_FrameOk: function 14 -/
mutual
def spec_FrameOk.j0 : Nat → Bool → Int → Int → Int → Int → List (S66) → Option (Bool)
 | 0, _, _, _, _, _, _ => none
 | k + 1, x47, x139000, x139001, x139002, x139003, x139004 => if x47 = true then (some false) else (spec_FrameOk.l0 k 0 0 x139000 x139001 x139002 x139003 x139004)
def spec_FrameOk.l0 : Nat → Int → Int → Int → Int → Int → Int → List (S66) → Option (Bool)
 | 0, _, _, _, _, _, _, _ => none
 | k + 1, x3, x4, x139000, x139001, x139002, x139003, x139004 => if x4 < (x139004.length : Int) then (if 0 ≤ x4 then ((spec_l01Between.f ((rd_T66 x139004 x4).f0) 0 255).bind fun t149 => (if t149 = true then ((spec_l01Between.f ((rd_T66 x139004 x4).f1) 1 4).bind fun t150 => (if t150 = true then ((spec_l01Between.f ((rd_T66 x139004 x4).f2) 1 4).bind fun t151 => (if t151 = true then ((spec_l01Between.f ((rd_T66 x139004 x4).f3) 0 3).bind fun t152 => (spec_FrameOk.j2 k x3 x4 (!t152) x139000 x139001 x139002 x139003 x139004 ((rd_T66 x139004 x4).f0) ((rd_T66 x139004 x4).f1) ((rd_T66 x139004 x4).f2) ((rd_T66 x139004 x4).f3))) else (spec_FrameOk.j2 k x3 x4 true x139000 x139001 x139002 x139003 x139004 ((rd_T66 x139004 x4).f0) ((rd_T66 x139004 x4).f1) ((rd_T66 x139004 x4).f2) ((rd_T66 x139004 x4).f3)))) else (spec_FrameOk.j2 k x3 x4 true x139000 x139001 x139002 x139003 x139004 ((rd_T66 x139004 x4).f0) ((rd_T66 x139004 x4).f1) ((rd_T66 x139004 x4).f2) ((rd_T66 x139004 x4).f3)))) else (spec_FrameOk.j2 k x3 x4 true x139000 x139001 x139002 x139003 x139004 ((rd_T66 x139004 x4).f0) ((rd_T66 x139004 x4).f1) ((rd_T66 x139004 x4).f2) ((rd_T66 x139004 x4).f3)))) else (none)) else (some (decide (x3 ≤ 10)))
def spec_FrameOk.j2 : Nat → Int → Int → Bool → Int → Int → Int → Int → List (S66) → Int → Int → Int → Int → Option (Bool)
 | 0, _, _, _, _, _, _, _, _, _, _, _, _ => none
 | k + 1, x3, x4, x81, x139000, x139001, x139002, x139003, x139004, x149000, x149001, x149002, x149003 => if x81 = true then (some false) else (spec_FrameOk.l1 k x3 x4 0 x139000 x139001 x139002 x139003 x139004 x149000 x149001 x149002 x149003)
def spec_FrameOk.l1 : Nat → Int → Int → Int → Int → Int → Int → Int → List (S66) → Int → Int → Int → Int → Option (Bool)
 | 0, _, _, _, _, _, _, _, _, _, _, _, _ => none
 | k + 1, x3, x4, x6, x139000, x139001, x139002, x139003, x139004, x149000, x149001, x149002, x149003 => if x6 < x4 then (if 0 ≤ x6 then (if x6 < (x139004.length : Int) then (if ((rd_T66 x139004 x6).f0) = x149000 then (some false) else (spec_FrameOk.l1 k x3 x4 (wrap64 (x6 + 1)) x139000 x139001 x139002 x139003 x139004 x149000 x149001 x149002 x149003)) else (none)) else (none)) else (spec_FrameOk.l0 k (wrap64 (x3 + (wrap64 (x149001 * x149002)))) (wrap64 (x4 + 1)) x139000 x139001 x139002 x139003 x139004)
end
def spec_FrameOk.f (k : Nat) (a0_0 : Int) (a0_1 : Int) (a0_2 : Int) (a0_3 : Int) (l0_4 : List (S66)) : Option (Bool) := if a0_0 = 8 then ((spec_l01Between.f a0_1 1 256).bind fun t139 => (if t139 = true then ((spec_l01Between.f a0_2 1 256).bind fun t140 => (if t140 = true then (if (wrap64 (a0_1 * a0_2)) > 16384 then (spec_FrameOk.j0 k true a0_0 a0_1 a0_2 a0_3 l0_4) else ((spec_l01Between.f a0_3 0 255).bind fun t141 => (if t141 = true then ((spec_l01Between.f (l0_4.length : Int) 1 4).bind fun t142 => (spec_FrameOk.j0 k (!t142) a0_0 a0_1 a0_2 a0_3 l0_4)) else (spec_FrameOk.j0 k true a0_0 a0_1 a0_2 a0_3 l0_4)))) else (spec_FrameOk.j0 k true a0_0 a0_1 a0_2 a0_3 l0_4))) else (spec_FrameOk.j0 k true a0_0 a0_1 a0_2 a0_3 l0_4))) else (if a0_0 = 12 then ((spec_l01Between.f a0_1 1 256).bind fun t143 => (if t143 = true then ((spec_l01Between.f a0_2 1 256).bind fun t144 => (if t144 = true then (if (wrap64 (a0_1 * a0_2)) > 16384 then (spec_FrameOk.j0 k true a0_0 a0_1 a0_2 a0_3 l0_4) else ((spec_l01Between.f a0_3 0 255).bind fun t145 => (if t145 = true then ((spec_l01Between.f (l0_4.length : Int) 1 4).bind fun t146 => (spec_FrameOk.j0 k (!t146) a0_0 a0_1 a0_2 a0_3 l0_4)) else (spec_FrameOk.j0 k true a0_0 a0_1 a0_2 a0_3 l0_4)))) else (spec_FrameOk.j0 k true a0_0 a0_1 a0_2 a0_3 l0_4))) else (spec_FrameOk.j0 k true a0_0 a0_1 a0_2 a0_3 l0_4))) else (spec_FrameOk.j0 k true a0_0 a0_1 a0_2 a0_3 l0_4))
set_option maxHeartbeats 8000000 in
set_option maxRecDepth 100000 in
theorem spec_FrameOk.calls (k : Nat) (a0_0 : Int) (a0_1 : Int) (a0_2 : Int) (a0_3 : Int) (A0_4 : Option Addr) (c0_4 : Nat) (l0_4 : List (S66)) (r : Bool) (w : World) (hr0_4 : Kd.C k66 w A0_4 l0_4.length l0_4) (hc0_4 : l0_4.length ≤ c0_4) (h : spec_FrameOk.f k a0_0 a0_1 a0_2 a0_3 l0_4 = some r) :
  Calls Try.prog 14 #[.agg #[.int .i64 a0_0, .int .i64 a0_1, .int .i64 a0_2, .int .i64 a0_3, .slice A0_4 l0_4.length c0_4]] w fun e w' => e = .returned (.bool r) ∧ Below w.heap.size w w' := by
 have hu29 := Try.underlying29
 have hu66 := Try.underlying66
 have HR0_4 := Aside0.mk hr0_4
 have HC0_4 := Aside0.mk hc0_4
 clear hr0_4 hc0_4
 have HB := Aside0.mk (Below.refl w.heap.size w)
 have H : (if a0_0 = 8 then ((spec_l01Between.f a0_1 1 256).bind fun t139 => (if t139 = true then ((spec_l01Between.f a0_2 1 256).bind fun t140 => (if t140 = true then (if (wrap64 (a0_1 * a0_2)) > 16384 then (spec_FrameOk.j0 k true a0_0 a0_1 a0_2 a0_3 l0_4) else ((spec_l01Between.f a0_3 0 255).bind fun t141 => (if t141 = true then ((spec_l01Between.f (l0_4.length : Int) 1 4).bind fun t142 => (spec_FrameOk.j0 k (!t142) a0_0 a0_1 a0_2 a0_3 l0_4)) else (spec_FrameOk.j0 k true a0_0 a0_1 a0_2 a0_3 l0_4)))) else (spec_FrameOk.j0 k true a0_0 a0_1 a0_2 a0_3 l0_4))) else (spec_FrameOk.j0 k true a0_0 a0_1 a0_2 a0_3 l0_4))) else (if a0_0 = 12 then ((spec_l01Between.f a0_1 1 256).bind fun t143 => (if t143 = true then ((spec_l01Between.f a0_2 1 256).bind fun t144 => (if t144 = true then (if (wrap64 (a0_1 * a0_2)) > 16384 then (spec_FrameOk.j0 k true a0_0 a0_1 a0_2 a0_3 l0_4) else ((spec_l01Between.f a0_3 0 255).bind fun t145 => (if t145 = true then ((spec_l01Between.f (l0_4.length : Int) 1 4).bind fun t146 => (spec_FrameOk.j0 k (!t146) a0_0 a0_1 a0_2 a0_3 l0_4)) else (spec_FrameOk.j0 k true a0_0 a0_1 a0_2 a0_3 l0_4)))) else (spec_FrameOk.j0 k true a0_0 a0_1 a0_2 a0_3 l0_4))) else (spec_FrameOk.j0 k true a0_0 a0_1 a0_2 a0_3 l0_4))) else (spec_FrameOk.j0 k true a0_0 a0_1 a0_2 a0_3 l0_4))) = some r := h
 clear h
 have HC2 := Aside0.mk H
 clear H
 go_enter Try.func14, Try.ntmps14
 go_upto_region 1 with (first | ((with_reducible refine gate_dst (N := 1) rfl ?_); (try (refine gate_guard (by rfl) ?_; dsimp only)); refine box_event ?hg (N := 1) ?hd (cs := #[.int .i64 a0_0, .int .i64 a0_1, .int .i64 a0_2, .int .i64 a0_3, .slice A0_4 l0_4.length c0_4]) (t := 29) ?hr ?_; (case hd => rfl); (case hg => rfl); (case hr => first | (go_simp; done) | (go_simp; rfl)); intro gb138 hg w3 hbox hb; have n0_ := Aside0.mk (below_step (zB HB.out) hb); have n1_ := Aside0.mk (hbox); have n2_ := Aside0.mk (gE hg HB.out); have n3_ := Aside0.mk (gE hg HB.out); clear HB; have HB := n0_; have BK138 := n1_; have GW138 := n2_; have GE138 := n3_; clear n0_ n1_ n2_ n3_; clear hb hbox hg))
 repeat (go_quiet (first | ((with_reducible refine gate_dst (N := 1) rfl ?_); (try (refine gate_guard (by rfl) ?_; dsimp only)); refine box_event ?hg (N := 1) ?hd (cs := #[.int .i64 a0_0, .int .i64 a0_1, .int .i64 a0_2, .int .i64 a0_3, .slice A0_4 l0_4.length c0_4]) (t := 29) ?hr ?_; (case hd => rfl); (case hg => rfl); (case hr => first | (go_simp; done) | (go_simp; rfl)); intro gb138 hg w3 hbox hb; have n0_ := Aside0.mk (below_step (zB HB.out) hb); have n1_ := Aside0.mk (hbox); have n2_ := Aside0.mk (gE hg HB.out); have n3_ := Aside0.mk (gE hg HB.out); clear HB; have HB := n0_; have BK138 := n1_; have GW138 := n2_; have GE138 := n3_; clear n0_ n1_ n2_ n3_; clear hb hbox hg)); go_upto_region 1 with (first | ((with_reducible refine gate_dst (N := 1) rfl ?_); (try (refine gate_guard (by rfl) ?_; dsimp only)); refine box_event ?hg (N := 1) ?hd (cs := #[.int .i64 a0_0, .int .i64 a0_1, .int .i64 a0_2, .int .i64 a0_3, .slice A0_4 l0_4.length c0_4]) (t := 29) ?hr ?_; (case hd => rfl); (case hg => rfl); (case hr => first | (go_simp; done) | (go_simp; rfl)); intro gb138 hg w3 hbox hb; have n0_ := Aside0.mk (below_step (zB HB.out) hb); have n1_ := Aside0.mk (hbox); have n2_ := Aside0.mk (gE hg HB.out); have n3_ := Aside0.mk (gE hg HB.out); clear HB; have HB := n0_; have BK138 := n1_; have GW138 := n2_; have GE138 := n3_; clear n0_ n1_ n2_ n3_; clear hb hbox hg)))
 (try simp only [Act.put, List.setIfInBounds_toArray, List.set_cons_zero, List.set_cons_succ])
 go_cut [47] (fun v47 wc => ∃ (kq : Nat) (x47_1 : Bool), v47 = .bool x47_1 ∧ Aside0 (spec_FrameOk.j0 kq x47_1 a0_0 a0_1 a0_2 a0_3 l0_4 = some r) ∧ Aside0 (kq ≤ k) ∧ Aside0 (wc.heap[gb138]? = some (.cells #[.int .i64 a0_0, .int .i64 a0_1, .int .i64 a0_2, .int .i64 a0_3, (.slice A0_4 l0_4.length c0_4)] 29 (0, 0))) ∧ Aside0 (Below w.heap.size w wc))
 case first =>
  have H := HC2.out
  clear HC2
  by_cases c4 : a0_0 = 8
  ·rw [if_pos c4] at H
   have c4b0 : (a0_0 == 8) = true := beq_iff_eq.mpr c4
   have c4b1 : (a0_0 != 8) = false := bne_eq_false_iff_eq.mpr c4
   clear c4
   (first | rw [c4b0] | (simp only [i64_w, i32_w]; rw [c4b0]) | skip)
   replace H := Option.bind_eq_some_iff.mp H
   obtain ⟨t139, A50, H⟩ := H
   (try dsimp only at H)
   have A5 := Aside0.mk A50
   clear A50
   by_cases c6 : t139 = true
   ·subst c6
    have H1 : ((spec_l01Between.f a0_2 1 256).bind fun t140 => (if t140 = true then (if (wrap64 (a0_1 * a0_2)) > 16384 then (spec_FrameOk.j0 k true a0_0 a0_1 a0_2 a0_3 l0_4) else ((spec_l01Between.f a0_3 0 255).bind fun t141 => (if t141 = true then ((spec_l01Between.f (l0_4.length : Int) 1 4).bind fun t142 => (spec_FrameOk.j0 k (!t142) a0_0 a0_1 a0_2 a0_3 l0_4)) else (spec_FrameOk.j0 k true a0_0 a0_1 a0_2 a0_3 l0_4)))) else (spec_FrameOk.j0 k true a0_0 a0_1 a0_2 a0_3 l0_4))) = some r := by rw [if_pos rfl] at H; exact H
    clear H
    have H := H1
    clear H1
    replace H := Option.bind_eq_some_iff.mp H
    obtain ⟨t140, A70, H⟩ := H
    (try dsimp only at H)
    have A7 := Aside0.mk A70
    clear A70
    by_cases c8 : t140 = true
    ·subst c8
     have H1 : (if (wrap64 (a0_1 * a0_2)) > 16384 then (spec_FrameOk.j0 k true a0_0 a0_1 a0_2 a0_3 l0_4) else ((spec_l01Between.f a0_3 0 255).bind fun t141 => (if t141 = true then ((spec_l01Between.f (l0_4.length : Int) 1 4).bind fun t142 => (spec_FrameOk.j0 k (!t142) a0_0 a0_1 a0_2 a0_3 l0_4)) else (spec_FrameOk.j0 k true a0_0 a0_1 a0_2 a0_3 l0_4)))) = some r := by rw [if_pos rfl] at H; exact H
     clear H
     have H := H1
     clear H1
     by_cases c9 : (wrap64 (a0_1 * a0_2)) > 16384
     ·rw [if_pos c9] at H
      have c9b0 : decide (16384 < (wrap64 (a0_1 * a0_2))) = true := decide_eq_true c9
      clear c9
      have H' := Aside0.mk H
      clear H
      obtain ⟨hcz10_0, hcz10_1, hcz10_2, hcz10_3, hcz10_4, hfz10_0, hfz10_1, hfz10_2, hfz10_3, hfz10_4⟩ := bf5 BK138.out
      go_wp2_with (first | (go_at_call 51; (with_reducible refine (spec_l01Between.calls a0_1 1 256 true _ A5.out).mono ?_); rintro e w' ⟨rfl, ⟨nd, rfl⟩⟩; (try exact zD)) | (go_at_call 51; (with_reducible refine (spec_l01Between.calls a0_2 1 256 true _ A7.out).mono ?_); rintro e w' ⟨rfl, ⟨nd, rfl⟩⟩; (try exact zD)))
      repeat (go_quiet (first | (go_at_call 51; (with_reducible refine (spec_l01Between.calls a0_1 1 256 true _ A5.out).mono ?_); rintro e w' ⟨rfl, ⟨nd, rfl⟩⟩; (try exact zD)) | (go_at_call 51; (with_reducible refine (spec_l01Between.calls a0_2 1 256 true _ A7.out).mono ?_); rintro e w' ⟨rfl, ⟨nd, rfl⟩⟩; (try exact zD))); try go_wp2_with (first | (go_at_call 51; (with_reducible refine (spec_l01Between.calls a0_1 1 256 true _ A5.out).mono ?_); rintro e w' ⟨rfl, ⟨nd, rfl⟩⟩; (try exact zD)) | (go_at_call 51; (with_reducible refine (spec_l01Between.calls a0_2 1 256 true _ A7.out).mono ?_); rintro e w' ⟨rfl, ⟨nd, rfl⟩⟩; (try exact zD))))
      go_meet
      case rel => exact ⟨_, (true), (by first | rfl | (simp; done) | (simp [*]; done)), H', ⟨by first | omega | exact Nat.le_refl _⟩, ⟨zK BK138.out⟩, ⟨zS HB.out GE138.out⟩⟩
     ·rw [if_neg c9] at H
      have c9b0 : decide (16384 < (wrap64 (a0_1 * a0_2))) = false := decide_eq_false c9
      clear c9
      replace H := Option.bind_eq_some_iff.mp H
      obtain ⟨t141, A110, H⟩ := H
      (try dsimp only at H)
      have A11 := Aside0.mk A110
      clear A110
      by_cases c12 : t141 = true
      ·subst c12
       have H1 : ((spec_l01Between.f (l0_4.length : Int) 1 4).bind fun t142 => (spec_FrameOk.j0 k (!t142) a0_0 a0_1 a0_2 a0_3 l0_4)) = some r := by rw [if_pos rfl] at H; exact H
       clear H
       have H := H1
       clear H1
       replace H := Option.bind_eq_some_iff.mp H
       obtain ⟨t142, A130, H⟩ := H
       replace H : (spec_FrameOk.j0 k (!t142) a0_0 a0_1 a0_2 a0_3 l0_4) = some r := H
       have A13 := Aside0.mk A130
       clear A130
       have H' := Aside0.mk H
       clear H
       obtain ⟨hcz14_0, hcz14_1, hcz14_2, hcz14_3, hcz14_4, hfz14_0, hfz14_1, hfz14_2, hfz14_3, hfz14_4⟩ := bf5 BK138.out
       go_wp2_with (first | (go_at_call 51; (with_reducible refine (spec_l01Between.calls a0_1 1 256 true _ A5.out).mono ?_); rintro e w' ⟨rfl, ⟨nd, rfl⟩⟩; (try exact zD)) | (go_at_call 51; (with_reducible refine (spec_l01Between.calls a0_2 1 256 true _ A7.out).mono ?_); rintro e w' ⟨rfl, ⟨nd, rfl⟩⟩; (try exact zD)) | (go_at_call 51; (with_reducible refine (spec_l01Between.calls a0_3 0 255 true _ A11.out).mono ?_); rintro e w' ⟨rfl, ⟨nd, rfl⟩⟩; (try exact zD)) | (go_at_call 51; (with_reducible refine (spec_l01Between.calls (l0_4.length : Int) 1 4 t142 _ A13.out).mono ?_); rintro e w' ⟨rfl, ⟨nd, rfl⟩⟩; (try exact zD)))
       repeat (go_quiet (first | (go_at_call 51; (with_reducible refine (spec_l01Between.calls a0_1 1 256 true _ A5.out).mono ?_); rintro e w' ⟨rfl, ⟨nd, rfl⟩⟩; (try exact zD)) | (go_at_call 51; (with_reducible refine (spec_l01Between.calls a0_2 1 256 true _ A7.out).mono ?_); rintro e w' ⟨rfl, ⟨nd, rfl⟩⟩; (try exact zD)) | (go_at_call 51; (with_reducible refine (spec_l01Between.calls a0_3 0 255 true _ A11.out).mono ?_); rintro e w' ⟨rfl, ⟨nd, rfl⟩⟩; (try exact zD)) | (go_at_call 51; (with_reducible refine (spec_l01Between.calls (l0_4.length : Int) 1 4 t142 _ A13.out).mono ?_); rintro e w' ⟨rfl, ⟨nd, rfl⟩⟩; (try exact zD))); try go_wp2_with (first | (go_at_call 51; (with_reducible refine (spec_l01Between.calls a0_1 1 256 true _ A5.out).mono ?_); rintro e w' ⟨rfl, ⟨nd, rfl⟩⟩; (try exact zD)) | (go_at_call 51; (with_reducible refine (spec_l01Between.calls a0_2 1 256 true _ A7.out).mono ?_); rintro e w' ⟨rfl, ⟨nd, rfl⟩⟩; (try exact zD)) | (go_at_call 51; (with_reducible refine (spec_l01Between.calls a0_3 0 255 true _ A11.out).mono ?_); rintro e w' ⟨rfl, ⟨nd, rfl⟩⟩; (try exact zD)) | (go_at_call 51; (with_reducible refine (spec_l01Between.calls (l0_4.length : Int) 1 4 t142 _ A13.out).mono ?_); rintro e w' ⟨rfl, ⟨nd, rfl⟩⟩; (try exact zD))))
       go_meet
       case rel => exact ⟨_, (!t142), (by first | rfl | (simp; done) | (simp [*]; done)), H', ⟨by first | omega | exact Nat.le_refl _⟩, ⟨zK BK138.out⟩, ⟨zS HB.out GE138.out⟩⟩
      ·replace c12 := Bool.eq_false_iff.mpr c12
       subst c12
       have H1 : (spec_FrameOk.j0 k true a0_0 a0_1 a0_2 a0_3 l0_4) = some r := by rw [if_neg (show ¬ (false = true) by decide)] at H; exact H
       clear H
       have H := H1
       clear H1
       have H' := Aside0.mk H
       clear H
       obtain ⟨hcz15_0, hcz15_1, hcz15_2, hcz15_3, hcz15_4, hfz15_0, hfz15_1, hfz15_2, hfz15_3, hfz15_4⟩ := bf5 BK138.out
       go_wp2_with (first | (go_at_call 51; (with_reducible refine (spec_l01Between.calls a0_1 1 256 true _ A5.out).mono ?_); rintro e w' ⟨rfl, ⟨nd, rfl⟩⟩; (try exact zD)) | (go_at_call 51; (with_reducible refine (spec_l01Between.calls a0_2 1 256 true _ A7.out).mono ?_); rintro e w' ⟨rfl, ⟨nd, rfl⟩⟩; (try exact zD)) | (go_at_call 51; (with_reducible refine (spec_l01Between.calls a0_3 0 255 false _ A11.out).mono ?_); rintro e w' ⟨rfl, ⟨nd, rfl⟩⟩; (try exact zD)))
       repeat (go_quiet (first | (go_at_call 51; (with_reducible refine (spec_l01Between.calls a0_1 1 256 true _ A5.out).mono ?_); rintro e w' ⟨rfl, ⟨nd, rfl⟩⟩; (try exact zD)) | (go_at_call 51; (with_reducible refine (spec_l01Between.calls a0_2 1 256 true _ A7.out).mono ?_); rintro e w' ⟨rfl, ⟨nd, rfl⟩⟩; (try exact zD)) | (go_at_call 51; (with_reducible refine (spec_l01Between.calls a0_3 0 255 false _ A11.out).mono ?_); rintro e w' ⟨rfl, ⟨nd, rfl⟩⟩; (try exact zD))); try go_wp2_with (first | (go_at_call 51; (with_reducible refine (spec_l01Between.calls a0_1 1 256 true _ A5.out).mono ?_); rintro e w' ⟨rfl, ⟨nd, rfl⟩⟩; (try exact zD)) | (go_at_call 51; (with_reducible refine (spec_l01Between.calls a0_2 1 256 true _ A7.out).mono ?_); rintro e w' ⟨rfl, ⟨nd, rfl⟩⟩; (try exact zD)) | (go_at_call 51; (with_reducible refine (spec_l01Between.calls a0_3 0 255 false _ A11.out).mono ?_); rintro e w' ⟨rfl, ⟨nd, rfl⟩⟩; (try exact zD))))
       go_meet
       case rel => exact ⟨_, (true), (by first | rfl | (simp; done) | (simp [*]; done)), H', ⟨by first | omega | exact Nat.le_refl _⟩, ⟨zK BK138.out⟩, ⟨zS HB.out GE138.out⟩⟩
    ·replace c8 := Bool.eq_false_iff.mpr c8
     subst c8
     have H1 : (spec_FrameOk.j0 k true a0_0 a0_1 a0_2 a0_3 l0_4) = some r := by rw [if_neg (show ¬ (false = true) by decide)] at H; exact H
     clear H
     have H := H1
     clear H1
     have H' := Aside0.mk H
     clear H
     obtain ⟨hcz16_0, hcz16_1, hcz16_2, hcz16_3, hcz16_4, hfz16_0, hfz16_1, hfz16_2, hfz16_3, hfz16_4⟩ := bf5 BK138.out
     go_wp2_with (first | (go_at_call 51; (with_reducible refine (spec_l01Between.calls a0_1 1 256 true _ A5.out).mono ?_); rintro e w' ⟨rfl, ⟨nd, rfl⟩⟩; (try exact zD)) | (go_at_call 51; (with_reducible refine (spec_l01Between.calls a0_2 1 256 false _ A7.out).mono ?_); rintro e w' ⟨rfl, ⟨nd, rfl⟩⟩; (try exact zD)))
     repeat (go_quiet (first | (go_at_call 51; (with_reducible refine (spec_l01Between.calls a0_1 1 256 true _ A5.out).mono ?_); rintro e w' ⟨rfl, ⟨nd, rfl⟩⟩; (try exact zD)) | (go_at_call 51; (with_reducible refine (spec_l01Between.calls a0_2 1 256 false _ A7.out).mono ?_); rintro e w' ⟨rfl, ⟨nd, rfl⟩⟩; (try exact zD))); try go_wp2_with (first | (go_at_call 51; (with_reducible refine (spec_l01Between.calls a0_1 1 256 true _ A5.out).mono ?_); rintro e w' ⟨rfl, ⟨nd, rfl⟩⟩; (try exact zD)) | (go_at_call 51; (with_reducible refine (spec_l01Between.calls a0_2 1 256 false _ A7.out).mono ?_); rintro e w' ⟨rfl, ⟨nd, rfl⟩⟩; (try exact zD))))
     go_meet
     case rel => exact ⟨_, (true), (by first | rfl | (simp; done) | (simp [*]; done)), H', ⟨by first | omega | exact Nat.le_refl _⟩, ⟨zK BK138.out⟩, ⟨zS HB.out GE138.out⟩⟩
   ·replace c6 := Bool.eq_false_iff.mpr c6
    subst c6
    have H1 : (spec_FrameOk.j0 k true a0_0 a0_1 a0_2 a0_3 l0_4) = some r := by rw [if_neg (show ¬ (false = true) by decide)] at H; exact H
    clear H
    have H := H1
    clear H1
    have H' := Aside0.mk H
    clear H
    obtain ⟨hcz17_0, hcz17_1, hcz17_2, hcz17_3, hcz17_4, hfz17_0, hfz17_1, hfz17_2, hfz17_3, hfz17_4⟩ := bf5 BK138.out
    go_wp2_with (first | (go_at_call 51; (with_reducible refine (spec_l01Between.calls a0_1 1 256 false _ A5.out).mono ?_); rintro e w' ⟨rfl, ⟨nd, rfl⟩⟩; (try exact zD)))
    repeat (go_quiet (first | (go_at_call 51; (with_reducible refine (spec_l01Between.calls a0_1 1 256 false _ A5.out).mono ?_); rintro e w' ⟨rfl, ⟨nd, rfl⟩⟩; (try exact zD))); try go_wp2_with (first | (go_at_call 51; (with_reducible refine (spec_l01Between.calls a0_1 1 256 false _ A5.out).mono ?_); rintro e w' ⟨rfl, ⟨nd, rfl⟩⟩; (try exact zD))))
    go_meet
    case rel => exact ⟨_, (true), (by first | rfl | (simp; done) | (simp [*]; done)), H', ⟨by first | omega | exact Nat.le_refl _⟩, ⟨zK BK138.out⟩, ⟨zS HB.out GE138.out⟩⟩
  ·rw [if_neg c4] at H
   have c4b0 : (a0_0 == 8) = false := beq_eq_false_iff_ne.mpr c4
   have c4b1 : (a0_0 != 8) = true := bne_iff_ne.mpr c4
   (first | rw [c4b0] | (simp only [i64_w, i32_w]; rw [c4b0]) | skip)
   by_cases c18 : a0_0 = 12
   ·rw [if_pos c18] at H
    have c18b0 : (a0_0 == 12) = true := beq_iff_eq.mpr c18
    have c18b1 : (a0_0 != 12) = false := bne_eq_false_iff_eq.mpr c18
    clear c18
    replace H := Option.bind_eq_some_iff.mp H
    obtain ⟨t143, A190, H⟩ := H
    (try dsimp only at H)
    have A19 := Aside0.mk A190
    clear A190
    by_cases c20 : t143 = true
    ·subst c20
     have H1 : ((spec_l01Between.f a0_2 1 256).bind fun t144 => (if t144 = true then (if (wrap64 (a0_1 * a0_2)) > 16384 then (spec_FrameOk.j0 k true a0_0 a0_1 a0_2 a0_3 l0_4) else ((spec_l01Between.f a0_3 0 255).bind fun t145 => (if t145 = true then ((spec_l01Between.f (l0_4.length : Int) 1 4).bind fun t146 => (spec_FrameOk.j0 k (!t146) a0_0 a0_1 a0_2 a0_3 l0_4)) else (spec_FrameOk.j0 k true a0_0 a0_1 a0_2 a0_3 l0_4)))) else (spec_FrameOk.j0 k true a0_0 a0_1 a0_2 a0_3 l0_4))) = some r := by rw [if_pos rfl] at H; exact H
     clear H
     have H := H1
     clear H1
     replace H := Option.bind_eq_some_iff.mp H
     obtain ⟨t144, A210, H⟩ := H
     (try dsimp only at H)
     have A21 := Aside0.mk A210
     clear A210
     by_cases c22 : t144 = true
     ·subst c22
      have H1 : (if (wrap64 (a0_1 * a0_2)) > 16384 then (spec_FrameOk.j0 k true a0_0 a0_1 a0_2 a0_3 l0_4) else ((spec_l01Between.f a0_3 0 255).bind fun t145 => (if t145 = true then ((spec_l01Between.f (l0_4.length : Int) 1 4).bind fun t146 => (spec_FrameOk.j0 k (!t146) a0_0 a0_1 a0_2 a0_3 l0_4)) else (spec_FrameOk.j0 k true a0_0 a0_1 a0_2 a0_3 l0_4)))) = some r := by rw [if_pos rfl] at H; exact H
      clear H
      have H := H1
      clear H1
      by_cases c23 : (wrap64 (a0_1 * a0_2)) > 16384
      ·rw [if_pos c23] at H
       have c23b0 : decide (16384 < (wrap64 (a0_1 * a0_2))) = true := decide_eq_true c23
       clear c23
       have H' := Aside0.mk H
       clear H
       obtain ⟨hcz24_0, hcz24_1, hcz24_2, hcz24_3, hcz24_4, hfz24_0, hfz24_1, hfz24_2, hfz24_3, hfz24_4⟩ := bf5 BK138.out
       go_wp2_with (first | (go_at_call 51; (with_reducible refine (spec_l01Between.calls a0_1 1 256 true _ A19.out).mono ?_); rintro e w' ⟨rfl, ⟨nd, rfl⟩⟩; (try exact zD)) | (go_at_call 51; (with_reducible refine (spec_l01Between.calls a0_2 1 256 true _ A21.out).mono ?_); rintro e w' ⟨rfl, ⟨nd, rfl⟩⟩; (try exact zD)))
       repeat (go_quiet (first | (go_at_call 51; (with_reducible refine (spec_l01Between.calls a0_1 1 256 true _ A19.out).mono ?_); rintro e w' ⟨rfl, ⟨nd, rfl⟩⟩; (try exact zD)) | (go_at_call 51; (with_reducible refine (spec_l01Between.calls a0_2 1 256 true _ A21.out).mono ?_); rintro e w' ⟨rfl, ⟨nd, rfl⟩⟩; (try exact zD))); try go_wp2_with (first | (go_at_call 51; (with_reducible refine (spec_l01Between.calls a0_1 1 256 true _ A19.out).mono ?_); rintro e w' ⟨rfl, ⟨nd, rfl⟩⟩; (try exact zD)) | (go_at_call 51; (with_reducible refine (spec_l01Between.calls a0_2 1 256 true _ A21.out).mono ?_); rintro e w' ⟨rfl, ⟨nd, rfl⟩⟩; (try exact zD))))
       go_meet
       case rel => exact ⟨_, (true), (by first | rfl | (simp; done) | (simp [*]; done)), H', ⟨by first | omega | exact Nat.le_refl _⟩, ⟨zK BK138.out⟩, ⟨zS HB.out GE138.out⟩⟩
      ·rw [if_neg c23] at H
       have c23b0 : decide (16384 < (wrap64 (a0_1 * a0_2))) = false := decide_eq_false c23
       clear c23
       replace H := Option.bind_eq_some_iff.mp H
       obtain ⟨t145, A250, H⟩ := H
       (try dsimp only at H)
       have A25 := Aside0.mk A250
       clear A250
       by_cases c26 : t145 = true
       ·subst c26
        have H1 : ((spec_l01Between.f (l0_4.length : Int) 1 4).bind fun t146 => (spec_FrameOk.j0 k (!t146) a0_0 a0_1 a0_2 a0_3 l0_4)) = some r := by rw [if_pos rfl] at H; exact H
        clear H
        have H := H1
        clear H1
        replace H := Option.bind_eq_some_iff.mp H
        obtain ⟨t146, A270, H⟩ := H
        replace H : (spec_FrameOk.j0 k (!t146) a0_0 a0_1 a0_2 a0_3 l0_4) = some r := H
        have A27 := Aside0.mk A270
        clear A270
        have H' := Aside0.mk H
        clear H
        obtain ⟨hcz28_0, hcz28_1, hcz28_2, hcz28_3, hcz28_4, hfz28_0, hfz28_1, hfz28_2, hfz28_3, hfz28_4⟩ := bf5 BK138.out
        go_wp2_with (first | (go_at_call 51; (with_reducible refine (spec_l01Between.calls a0_1 1 256 true _ A19.out).mono ?_); rintro e w' ⟨rfl, ⟨nd, rfl⟩⟩; (try exact zD)) | (go_at_call 51; (with_reducible refine (spec_l01Between.calls a0_2 1 256 true _ A21.out).mono ?_); rintro e w' ⟨rfl, ⟨nd, rfl⟩⟩; (try exact zD)) | (go_at_call 51; (with_reducible refine (spec_l01Between.calls a0_3 0 255 true _ A25.out).mono ?_); rintro e w' ⟨rfl, ⟨nd, rfl⟩⟩; (try exact zD)) | (go_at_call 51; (with_reducible refine (spec_l01Between.calls (l0_4.length : Int) 1 4 t146 _ A27.out).mono ?_); rintro e w' ⟨rfl, ⟨nd, rfl⟩⟩; (try exact zD)))
        repeat (go_quiet (first | (go_at_call 51; (with_reducible refine (spec_l01Between.calls a0_1 1 256 true _ A19.out).mono ?_); rintro e w' ⟨rfl, ⟨nd, rfl⟩⟩; (try exact zD)) | (go_at_call 51; (with_reducible refine (spec_l01Between.calls a0_2 1 256 true _ A21.out).mono ?_); rintro e w' ⟨rfl, ⟨nd, rfl⟩⟩; (try exact zD)) | (go_at_call 51; (with_reducible refine (spec_l01Between.calls a0_3 0 255 true _ A25.out).mono ?_); rintro e w' ⟨rfl, ⟨nd, rfl⟩⟩; (try exact zD)) | (go_at_call 51; (with_reducible refine (spec_l01Between.calls (l0_4.length : Int) 1 4 t146 _ A27.out).mono ?_); rintro e w' ⟨rfl, ⟨nd, rfl⟩⟩; (try exact zD))); try go_wp2_with (first | (go_at_call 51; (with_reducible refine (spec_l01Between.calls a0_1 1 256 true _ A19.out).mono ?_); rintro e w' ⟨rfl, ⟨nd, rfl⟩⟩; (try exact zD)) | (go_at_call 51; (with_reducible refine (spec_l01Between.calls a0_2 1 256 true _ A21.out).mono ?_); rintro e w' ⟨rfl, ⟨nd, rfl⟩⟩; (try exact zD)) | (go_at_call 51; (with_reducible refine (spec_l01Between.calls a0_3 0 255 true _ A25.out).mono ?_); rintro e w' ⟨rfl, ⟨nd, rfl⟩⟩; (try exact zD)) | (go_at_call 51; (with_reducible refine (spec_l01Between.calls (l0_4.length : Int) 1 4 t146 _ A27.out).mono ?_); rintro e w' ⟨rfl, ⟨nd, rfl⟩⟩; (try exact zD))))
        go_meet
        case rel => exact ⟨_, (!t146), (by first | rfl | (simp; done) | (simp [*]; done)), H', ⟨by first | omega | exact Nat.le_refl _⟩, ⟨zK BK138.out⟩, ⟨zS HB.out GE138.out⟩⟩
       ·replace c26 := Bool.eq_false_iff.mpr c26
        subst c26
        have H1 : (spec_FrameOk.j0 k true a0_0 a0_1 a0_2 a0_3 l0_4) = some r := by rw [if_neg (show ¬ (false = true) by decide)] at H; exact H
        clear H
        have H := H1
        clear H1
        have H' := Aside0.mk H
        clear H
        obtain ⟨hcz29_0, hcz29_1, hcz29_2, hcz29_3, hcz29_4, hfz29_0, hfz29_1, hfz29_2, hfz29_3, hfz29_4⟩ := bf5 BK138.out
        go_wp2_with (first | (go_at_call 51; (with_reducible refine (spec_l01Between.calls a0_1 1 256 true _ A19.out).mono ?_); rintro e w' ⟨rfl, ⟨nd, rfl⟩⟩; (try exact zD)) | (go_at_call 51; (with_reducible refine (spec_l01Between.calls a0_2 1 256 true _ A21.out).mono ?_); rintro e w' ⟨rfl, ⟨nd, rfl⟩⟩; (try exact zD)) | (go_at_call 51; (with_reducible refine (spec_l01Between.calls a0_3 0 255 false _ A25.out).mono ?_); rintro e w' ⟨rfl, ⟨nd, rfl⟩⟩; (try exact zD)))
        repeat (go_quiet (first | (go_at_call 51; (with_reducible refine (spec_l01Between.calls a0_1 1 256 true _ A19.out).mono ?_); rintro e w' ⟨rfl, ⟨nd, rfl⟩⟩; (try exact zD)) | (go_at_call 51; (with_reducible refine (spec_l01Between.calls a0_2 1 256 true _ A21.out).mono ?_); rintro e w' ⟨rfl, ⟨nd, rfl⟩⟩; (try exact zD)) | (go_at_call 51; (with_reducible refine (spec_l01Between.calls a0_3 0 255 false _ A25.out).mono ?_); rintro e w' ⟨rfl, ⟨nd, rfl⟩⟩; (try exact zD))); try go_wp2_with (first | (go_at_call 51; (with_reducible refine (spec_l01Between.calls a0_1 1 256 true _ A19.out).mono ?_); rintro e w' ⟨rfl, ⟨nd, rfl⟩⟩; (try exact zD)) | (go_at_call 51; (with_reducible refine (spec_l01Between.calls a0_2 1 256 true _ A21.out).mono ?_); rintro e w' ⟨rfl, ⟨nd, rfl⟩⟩; (try exact zD)) | (go_at_call 51; (with_reducible refine (spec_l01Between.calls a0_3 0 255 false _ A25.out).mono ?_); rintro e w' ⟨rfl, ⟨nd, rfl⟩⟩; (try exact zD))))
        go_meet
        case rel => exact ⟨_, (true), (by first | rfl | (simp; done) | (simp [*]; done)), H', ⟨by first | omega | exact Nat.le_refl _⟩, ⟨zK BK138.out⟩, ⟨zS HB.out GE138.out⟩⟩
     ·replace c22 := Bool.eq_false_iff.mpr c22
      subst c22
      have H1 : (spec_FrameOk.j0 k true a0_0 a0_1 a0_2 a0_3 l0_4) = some r := by rw [if_neg (show ¬ (false = true) by decide)] at H; exact H
      clear H
      have H := H1
      clear H1
      have H' := Aside0.mk H
      clear H
      obtain ⟨hcz30_0, hcz30_1, hcz30_2, hcz30_3, hcz30_4, hfz30_0, hfz30_1, hfz30_2, hfz30_3, hfz30_4⟩ := bf5 BK138.out
      go_wp2_with (first | (go_at_call 51; (with_reducible refine (spec_l01Between.calls a0_1 1 256 true _ A19.out).mono ?_); rintro e w' ⟨rfl, ⟨nd, rfl⟩⟩; (try exact zD)) | (go_at_call 51; (with_reducible refine (spec_l01Between.calls a0_2 1 256 false _ A21.out).mono ?_); rintro e w' ⟨rfl, ⟨nd, rfl⟩⟩; (try exact zD)))
      repeat (go_quiet (first | (go_at_call 51; (with_reducible refine (spec_l01Between.calls a0_1 1 256 true _ A19.out).mono ?_); rintro e w' ⟨rfl, ⟨nd, rfl⟩⟩; (try exact zD)) | (go_at_call 51; (with_reducible refine (spec_l01Between.calls a0_2 1 256 false _ A21.out).mono ?_); rintro e w' ⟨rfl, ⟨nd, rfl⟩⟩; (try exact zD))); try go_wp2_with (first | (go_at_call 51; (with_reducible refine (spec_l01Between.calls a0_1 1 256 true _ A19.out).mono ?_); rintro e w' ⟨rfl, ⟨nd, rfl⟩⟩; (try exact zD)) | (go_at_call 51; (with_reducible refine (spec_l01Between.calls a0_2 1 256 false _ A21.out).mono ?_); rintro e w' ⟨rfl, ⟨nd, rfl⟩⟩; (try exact zD))))
      go_meet
      case rel => exact ⟨_, (true), (by first | rfl | (simp; done) | (simp [*]; done)), H', ⟨by first | omega | exact Nat.le_refl _⟩, ⟨zK BK138.out⟩, ⟨zS HB.out GE138.out⟩⟩
    ·replace c20 := Bool.eq_false_iff.mpr c20
     subst c20
     have H1 : (spec_FrameOk.j0 k true a0_0 a0_1 a0_2 a0_3 l0_4) = some r := by rw [if_neg (show ¬ (false = true) by decide)] at H; exact H
     clear H
     have H := H1
     clear H1
     have H' := Aside0.mk H
     clear H
     obtain ⟨hcz31_0, hcz31_1, hcz31_2, hcz31_3, hcz31_4, hfz31_0, hfz31_1, hfz31_2, hfz31_3, hfz31_4⟩ := bf5 BK138.out
     go_wp2_with (first | (go_at_call 51; (with_reducible refine (spec_l01Between.calls a0_1 1 256 false _ A19.out).mono ?_); rintro e w' ⟨rfl, ⟨nd, rfl⟩⟩; (try exact zD)))
     repeat (go_quiet (first | (go_at_call 51; (with_reducible refine (spec_l01Between.calls a0_1 1 256 false _ A19.out).mono ?_); rintro e w' ⟨rfl, ⟨nd, rfl⟩⟩; (try exact zD))); try go_wp2_with (first | (go_at_call 51; (with_reducible refine (spec_l01Between.calls a0_1 1 256 false _ A19.out).mono ?_); rintro e w' ⟨rfl, ⟨nd, rfl⟩⟩; (try exact zD))))
     go_meet
     case rel => exact ⟨_, (true), (by first | rfl | (simp; done) | (simp [*]; done)), H', ⟨by first | omega | exact Nat.le_refl _⟩, ⟨zK BK138.out⟩, ⟨zS HB.out GE138.out⟩⟩
   ·rw [if_neg c18] at H
    have c18b0 : (a0_0 == 12) = false := beq_eq_false_iff_ne.mpr c18
    have c18b1 : (a0_0 != 12) = true := bne_iff_ne.mpr c18
    have H' := Aside0.mk H
    clear H
    obtain ⟨hcz32_0, hcz32_1, hcz32_2, hcz32_3, hcz32_4, hfz32_0, hfz32_1, hfz32_2, hfz32_3, hfz32_4⟩ := bf5 BK138.out
    go_wp2
    repeat (go_quiet (fail); try go_wp2)
    go_meet
    case rel => exact ⟨_, (true), (by first | rfl | (simp; done) | (simp [*]; done)), H', ⟨by first | omega | exact Nat.le_refl _⟩, ⟨zK BK138.out⟩, ⟨zS HB.out GE138.out⟩⟩
 case rest =>
  clear HC2
  obtain ⟨kq, x47_1, rfl, HA, HJ1, BK138, HB⟩ := hcut
  cases kq with
  | zero => exact absurd HA.out (by simp [spec_FrameOk.j0])
  | succ kj1 =>
   have H := HA.out
   clear HA
   simp only [spec_FrameOk.j0] at H
   by_cases c33 : x47_1 = true
   ·subst c33
    have H1 : (some false) = some r := by rw [if_pos rfl] at H; exact H
    clear H
    have H := H1
    clear H1
    obtain rfl := Option.some.inj H
    go_wp2
    repeat (go_quiet (fail); try go_wp2)
    go_ret
    exact ⟨by first | rfl | (simp [errW_none, errW_some] <;> rfl) | (simp [*, errW_none, errW_some] <;> rfl), zS HB.out GE138.out⟩
   ·replace c33 := Bool.eq_false_iff.mpr c33
    subst c33
    have H1 : (spec_FrameOk.l0 kj1 0 0 a0_0 a0_1 a0_2 a0_3 l0_4) = some r := by rw [if_neg (show ¬ (false = true) by decide)] at H; exact H
    clear H
    have H := H1
    clear H1
    have H' := Aside0.mk H
    clear H
    go_wp2
    repeat (go_quiet (fail); try go_wp2)
    go_loopg [3, 4] kj1 (fun kq v3 v4 w' => ∃ (x3_2 : Int) (x4_2 : Int), v3 = .int .i64 x3_2 ∧ v4 = .int .i64 x4_2 ∧ Aside0 (spec_FrameOk.l0 kq x3_2 x4_2 a0_0 a0_1 a0_2 a0_3 l0_4 = some r) ∧ Aside0 (kq ≤ kj1) ∧ Aside0 (w'.heap[gb138]? = some (.cells #[.int .i64 a0_0, .int .i64 a0_1, .int .i64 a0_2, .int .i64 a0_3, (.slice A0_4 l0_4.length c0_4)] 29 (0, 0))) ∧ Aside0 (Below w.heap.size w w'))
    case atStart => exact ⟨(0), (0), (by first | rfl | (simp; done) | (simp [*]; done)), (by first | rfl | (simp; done) | (simp [*]; done)), H', ⟨Nat.le_refl _⟩, ⟨zK BK138.out⟩, ⟨zS HB.out GE138.out⟩⟩
    case round =>
     clear H'
     obtain ⟨x3_2, x4_2, rfl, rfl, HA, HK2, BK138, HB⟩ := hrel
     cases gk with
     | zero => exact absurd HA.out (by simp [spec_FrameOk.l0])
     | succ k2 =>
      have H := HA.out
      clear HA
      simp only [spec_FrameOk.l0] at H
      by_cases c34 : x4_2 < (l0_4.length : Int)
      ·rw [if_pos c34] at H
       have c34b0 : decide (x4_2 < (l0_4.length : Int)) = true := decide_eq_true c34
       clear c34
       by_cases c35 : 0 ≤ x4_2
       ·rw [if_pos c35] at H
        have c35b0 : decide (0 ≤ x4_2) = true := decide_eq_true c35
        clear c35
        have HC36 := Aside0.mk H
        clear H
        obtain ⟨hcz37_0, hcz37_1, hcz37_2, hcz37_3, hcz37_4, hfz37_0, hfz37_1, hfz37_2, hfz37_3, hfz37_4⟩ := bf5 BK138.out
        have p147 : 0 ≤ (x4_2 : Int) := dT
        have q147 : x4_2 < (l0_4.length : Int) := dT
        obtain ⟨ad147, e147, hx147_0, hx147_1, hx147_2, hx147_3⟩ := at_T66 HR0_4.out x4_2 p147 q147
        cases e147
        replace hx147_0 := cB HB.out hx147_0
        replace hx147_1 := cB HB.out hx147_1
        replace hx147_2 := cB HB.out hx147_2
        replace hx147_3 := cB HB.out hx147_3
        replace p147 := eq_true p147
        replace q147 := eq_true q147
        go_upto_region 8 with (first | ((with_reducible refine gate_dst (N := 5) rfl ?_); (try (refine gate_guard (by rfl) ?_; dsimp only)); refine box_event ?hg (N := 5) ?hd (cs := #[.int .i64 0, .int .i64 0, .int .i64 0, .int .i64 0]) (t := 66) ?hr ?_; (case hd => rfl); (case hg => rfl); (case hr => first | (go_simp; done) | (go_simp; rfl)); intro gb148 hg w38 hbox hb; have n0_ := Aside0.mk (kB BK138.out hb); have n1_ := Aside0.mk (below_step (zS HB.out GE138.out) hb); have n2_ := Aside0.mk (hbox); have n3_ := Aside0.mk (gS hg HB.out GE138.out); have n4_ := Aside0.mk (gS hg HB.out GE138.out); have n5_ := Aside0.mk (nL hg BK138.out); have n6_ := Aside0.mk (nG hg BK138.out); clear BK138; clear HB; have BK138 := n0_; have HB := n1_; have BK148 := n2_; have GW148 := n3_; have GE148 := n4_; have NB138_148 := n5_; have NB148_138 := n6_; clear n0_ n1_ n2_ n3_ n4_ n5_ n6_; clear hb hbox hg; have hnb39 := NB148_138.out; have hnc39 := NB138_148.out; obtain ⟨hcz40_0, hcz40_1, hcz40_2, hcz40_3, hfz40_0, hfz40_1, hfz40_2, hfz40_3⟩ := bf4 BK148.out))
        repeat (go_quiet (first | ((with_reducible refine gate_dst (N := 5) rfl ?_); (try (refine gate_guard (by rfl) ?_; dsimp only)); refine box_event ?hg (N := 5) ?hd (cs := #[.int .i64 0, .int .i64 0, .int .i64 0, .int .i64 0]) (t := 66) ?hr ?_; (case hd => rfl); (case hg => rfl); (case hr => first | (go_simp; done) | (go_simp; rfl)); intro gb148 hg w38 hbox hb; have n0_ := Aside0.mk (kB BK138.out hb); have n1_ := Aside0.mk (below_step (zS HB.out GE138.out) hb); have n2_ := Aside0.mk (hbox); have n3_ := Aside0.mk (gS hg HB.out GE138.out); have n4_ := Aside0.mk (gS hg HB.out GE138.out); have n5_ := Aside0.mk (nL hg BK138.out); have n6_ := Aside0.mk (nG hg BK138.out); clear BK138; clear HB; have BK138 := n0_; have HB := n1_; have BK148 := n2_; have GW148 := n3_; have GE148 := n4_; have NB138_148 := n5_; have NB148_138 := n6_; clear n0_ n1_ n2_ n3_ n4_ n5_ n6_; clear hb hbox hg; have hnb39 := NB148_138.out; have hnc39 := NB138_148.out; obtain ⟨hcz40_0, hcz40_1, hcz40_2, hcz40_3, hfz40_0, hfz40_1, hfz40_2, hfz40_3⟩ := bf4 BK148.out)); go_upto_region 8 with (first | ((with_reducible refine gate_dst (N := 5) rfl ?_); (try (refine gate_guard (by rfl) ?_; dsimp only)); refine box_event ?hg (N := 5) ?hd (cs := #[.int .i64 0, .int .i64 0, .int .i64 0, .int .i64 0]) (t := 66) ?hr ?_; (case hd => rfl); (case hg => rfl); (case hr => first | (go_simp; done) | (go_simp; rfl)); intro gb148 hg w38 hbox hb; have n0_ := Aside0.mk (kB BK138.out hb); have n1_ := Aside0.mk (below_step (zS HB.out GE138.out) hb); have n2_ := Aside0.mk (hbox); have n3_ := Aside0.mk (gS hg HB.out GE138.out); have n4_ := Aside0.mk (gS hg HB.out GE138.out); have n5_ := Aside0.mk (nL hg BK138.out); have n6_ := Aside0.mk (nG hg BK138.out); clear BK138; clear HB; have BK138 := n0_; have HB := n1_; have BK148 := n2_; have GW148 := n3_; have GE148 := n4_; have NB138_148 := n5_; have NB148_138 := n6_; clear n0_ n1_ n2_ n3_ n4_ n5_ n6_; clear hb hbox hg; have hnb39 := NB148_138.out; have hnc39 := NB138_148.out; obtain ⟨hcz40_0, hcz40_1, hcz40_2, hcz40_3, hfz40_0, hfz40_1, hfz40_2, hfz40_3⟩ := bf4 BK148.out)))
        (try simp only [Act.put, List.setIfInBounds_toArray, List.set_cons_zero, List.set_cons_succ])
        go_cut [81] (fun v81 wc => ∃ (kq : Nat) (x81_35 : Bool), v81 = .bool x81_35 ∧ Aside0 (spec_FrameOk.j2 kq x3_2 x4_2 x81_35 a0_0 a0_1 a0_2 a0_3 l0_4 ((rd_T66 l0_4 x4_2).f0) ((rd_T66 l0_4 x4_2).f1) ((rd_T66 l0_4 x4_2).f2) ((rd_T66 l0_4 x4_2).f3) = some r) ∧ Aside0 (kq ≤ k2) ∧ Aside0 (wc.heap[gb138]? = some (.cells #[.int .i64 a0_0, .int .i64 a0_1, .int .i64 a0_2, .int .i64 a0_3, (.slice (some ad147) l0_4.length c0_4)] 29 (0, 0))) ∧ Aside0 (wc.heap[gb148]? = some (.cells #[.int .i64 ((rd_T66 l0_4 x4_2).f0), .int .i64 ((rd_T66 l0_4 x4_2).f1), .int .i64 ((rd_T66 l0_4 x4_2).f2), .int .i64 ((rd_T66 l0_4 x4_2).f3)] 66 (0, 0))) ∧ Aside0 (Below w.heap.size w wc))
        case first =>
         have H := HC36.out
         clear HC36
         replace H := Option.bind_eq_some_iff.mp H
         obtain ⟨t149, A410, H⟩ := H
         (try dsimp only at H)
         have A41 := Aside0.mk A410
         clear A410
         by_cases c42 : t149 = true
         ·subst c42
          have H1 : ((spec_l01Between.f ((rd_T66 l0_4 x4_2).f1) 1 4).bind fun t150 => (if t150 = true then ((spec_l01Between.f ((rd_T66 l0_4 x4_2).f2) 1 4).bind fun t151 => (if t151 = true then ((spec_l01Between.f ((rd_T66 l0_4 x4_2).f3) 0 3).bind fun t152 => (spec_FrameOk.j2 k2 x3_2 x4_2 (!t152) a0_0 a0_1 a0_2 a0_3 l0_4 ((rd_T66 l0_4 x4_2).f0) ((rd_T66 l0_4 x4_2).f1) ((rd_T66 l0_4 x4_2).f2) ((rd_T66 l0_4 x4_2).f3))) else (spec_FrameOk.j2 k2 x3_2 x4_2 true a0_0 a0_1 a0_2 a0_3 l0_4 ((rd_T66 l0_4 x4_2).f0) ((rd_T66 l0_4 x4_2).f1) ((rd_T66 l0_4 x4_2).f2) ((rd_T66 l0_4 x4_2).f3)))) else (spec_FrameOk.j2 k2 x3_2 x4_2 true a0_0 a0_1 a0_2 a0_3 l0_4 ((rd_T66 l0_4 x4_2).f0) ((rd_T66 l0_4 x4_2).f1) ((rd_T66 l0_4 x4_2).f2) ((rd_T66 l0_4 x4_2).f3)))) = some r := by rw [if_pos rfl] at H; exact H
          clear H
          have H := H1
          clear H1
          replace H := Option.bind_eq_some_iff.mp H
          obtain ⟨t150, A430, H⟩ := H
          (try dsimp only at H)
          have A43 := Aside0.mk A430
          clear A430
          by_cases c44 : t150 = true
          ·subst c44
           have H1 : ((spec_l01Between.f ((rd_T66 l0_4 x4_2).f2) 1 4).bind fun t151 => (if t151 = true then ((spec_l01Between.f ((rd_T66 l0_4 x4_2).f3) 0 3).bind fun t152 => (spec_FrameOk.j2 k2 x3_2 x4_2 (!t152) a0_0 a0_1 a0_2 a0_3 l0_4 ((rd_T66 l0_4 x4_2).f0) ((rd_T66 l0_4 x4_2).f1) ((rd_T66 l0_4 x4_2).f2) ((rd_T66 l0_4 x4_2).f3))) else (spec_FrameOk.j2 k2 x3_2 x4_2 true a0_0 a0_1 a0_2 a0_3 l0_4 ((rd_T66 l0_4 x4_2).f0) ((rd_T66 l0_4 x4_2).f1) ((rd_T66 l0_4 x4_2).f2) ((rd_T66 l0_4 x4_2).f3)))) = some r := by rw [if_pos rfl] at H; exact H
           clear H
           have H := H1
           clear H1
           replace H := Option.bind_eq_some_iff.mp H
           obtain ⟨t151, A450, H⟩ := H
           (try dsimp only at H)
           have A45 := Aside0.mk A450
           clear A450
           by_cases c46 : t151 = true
           ·subst c46
            have H1 : ((spec_l01Between.f ((rd_T66 l0_4 x4_2).f3) 0 3).bind fun t152 => (spec_FrameOk.j2 k2 x3_2 x4_2 (!t152) a0_0 a0_1 a0_2 a0_3 l0_4 ((rd_T66 l0_4 x4_2).f0) ((rd_T66 l0_4 x4_2).f1) ((rd_T66 l0_4 x4_2).f2) ((rd_T66 l0_4 x4_2).f3))) = some r := by rw [if_pos rfl] at H; exact H
            clear H
            have H := H1
            clear H1
            replace H := Option.bind_eq_some_iff.mp H
            obtain ⟨t152, A470, H⟩ := H
            replace H : (spec_FrameOk.j2 k2 x3_2 x4_2 (!t152) a0_0 a0_1 a0_2 a0_3 l0_4 ((rd_T66 l0_4 x4_2).f0) ((rd_T66 l0_4 x4_2).f1) ((rd_T66 l0_4 x4_2).f2) ((rd_T66 l0_4 x4_2).f3)) = some r := H
            have A47 := Aside0.mk A470
            clear A470
            have H' := Aside0.mk H
            clear H
            have hnb48 := NB148_138.out
            have hnc48 := NB138_148.out
            obtain ⟨hcz49_0, hcz49_1, hcz49_2, hcz49_3, hfz49_0, hfz49_1, hfz49_2, hfz49_3⟩ := bf4 BK148.out
            go_wp2_with (first | (go_at_call 51; (with_reducible refine (spec_l01Between.calls ((rd_T66 l0_4 x4_2).f0) 0 255 true _ A41.out).mono ?_); rintro e w' ⟨rfl, ⟨nd, rfl⟩⟩; (try exact zD)) | (go_at_call 51; (with_reducible refine (spec_l01Between.calls ((rd_T66 l0_4 x4_2).f1) 1 4 true _ A43.out).mono ?_); rintro e w' ⟨rfl, ⟨nd, rfl⟩⟩; (try exact zD)) | (go_at_call 51; (with_reducible refine (spec_l01Between.calls ((rd_T66 l0_4 x4_2).f2) 1 4 true _ A45.out).mono ?_); rintro e w' ⟨rfl, ⟨nd, rfl⟩⟩; (try exact zD)) | (go_at_call 51; (with_reducible refine (spec_l01Between.calls ((rd_T66 l0_4 x4_2).f3) 0 3 t152 _ A47.out).mono ?_); rintro e w' ⟨rfl, ⟨nd, rfl⟩⟩; (try exact zD)))
            repeat (go_quiet (first | (go_at_call 51; (with_reducible refine (spec_l01Between.calls ((rd_T66 l0_4 x4_2).f0) 0 255 true _ A41.out).mono ?_); rintro e w' ⟨rfl, ⟨nd, rfl⟩⟩; (try exact zD)) | (go_at_call 51; (with_reducible refine (spec_l01Between.calls ((rd_T66 l0_4 x4_2).f1) 1 4 true _ A43.out).mono ?_); rintro e w' ⟨rfl, ⟨nd, rfl⟩⟩; (try exact zD)) | (go_at_call 51; (with_reducible refine (spec_l01Between.calls ((rd_T66 l0_4 x4_2).f2) 1 4 true _ A45.out).mono ?_); rintro e w' ⟨rfl, ⟨nd, rfl⟩⟩; (try exact zD)) | (go_at_call 51; (with_reducible refine (spec_l01Between.calls ((rd_T66 l0_4 x4_2).f3) 0 3 t152 _ A47.out).mono ?_); rintro e w' ⟨rfl, ⟨nd, rfl⟩⟩; (try exact zD))); try go_wp2_with (first | (go_at_call 51; (with_reducible refine (spec_l01Between.calls ((rd_T66 l0_4 x4_2).f0) 0 255 true _ A41.out).mono ?_); rintro e w' ⟨rfl, ⟨nd, rfl⟩⟩; (try exact zD)) | (go_at_call 51; (with_reducible refine (spec_l01Between.calls ((rd_T66 l0_4 x4_2).f1) 1 4 true _ A43.out).mono ?_); rintro e w' ⟨rfl, ⟨nd, rfl⟩⟩; (try exact zD)) | (go_at_call 51; (with_reducible refine (spec_l01Between.calls ((rd_T66 l0_4 x4_2).f2) 1 4 true _ A45.out).mono ?_); rintro e w' ⟨rfl, ⟨nd, rfl⟩⟩; (try exact zD)) | (go_at_call 51; (with_reducible refine (spec_l01Between.calls ((rd_T66 l0_4 x4_2).f3) 0 3 t152 _ A47.out).mono ?_); rintro e w' ⟨rfl, ⟨nd, rfl⟩⟩; (try exact zD))))
            go_meet
            case rel => exact ⟨_, (!t152), (by first | rfl | (simp; done) | (simp [*]; done)), H', ⟨by have := HJ1.out; have := HK2.out; first | omega | exact Nat.le_refl _⟩, ⟨zF BK138.out NB138_148.out⟩, ⟨zP BK148.out⟩, ⟨zT HB.out GE138.out GE148.out⟩⟩
           ·replace c46 := Bool.eq_false_iff.mpr c46
            subst c46
            have H1 : (spec_FrameOk.j2 k2 x3_2 x4_2 true a0_0 a0_1 a0_2 a0_3 l0_4 ((rd_T66 l0_4 x4_2).f0) ((rd_T66 l0_4 x4_2).f1) ((rd_T66 l0_4 x4_2).f2) ((rd_T66 l0_4 x4_2).f3)) = some r := by rw [if_neg (show ¬ (false = true) by decide)] at H; exact H
            clear H
            have H := H1
            clear H1
            have H' := Aside0.mk H
            clear H
            have hnb50 := NB148_138.out
            have hnc50 := NB138_148.out
            obtain ⟨hcz51_0, hcz51_1, hcz51_2, hcz51_3, hfz51_0, hfz51_1, hfz51_2, hfz51_3⟩ := bf4 BK148.out
            go_wp2_with (first | (go_at_call 51; (with_reducible refine (spec_l01Between.calls ((rd_T66 l0_4 x4_2).f0) 0 255 true _ A41.out).mono ?_); rintro e w' ⟨rfl, ⟨nd, rfl⟩⟩; (try exact zD)) | (go_at_call 51; (with_reducible refine (spec_l01Between.calls ((rd_T66 l0_4 x4_2).f1) 1 4 true _ A43.out).mono ?_); rintro e w' ⟨rfl, ⟨nd, rfl⟩⟩; (try exact zD)) | (go_at_call 51; (with_reducible refine (spec_l01Between.calls ((rd_T66 l0_4 x4_2).f2) 1 4 false _ A45.out).mono ?_); rintro e w' ⟨rfl, ⟨nd, rfl⟩⟩; (try exact zD)))
            repeat (go_quiet (first | (go_at_call 51; (with_reducible refine (spec_l01Between.calls ((rd_T66 l0_4 x4_2).f0) 0 255 true _ A41.out).mono ?_); rintro e w' ⟨rfl, ⟨nd, rfl⟩⟩; (try exact zD)) | (go_at_call 51; (with_reducible refine (spec_l01Between.calls ((rd_T66 l0_4 x4_2).f1) 1 4 true _ A43.out).mono ?_); rintro e w' ⟨rfl, ⟨nd, rfl⟩⟩; (try exact zD)) | (go_at_call 51; (with_reducible refine (spec_l01Between.calls ((rd_T66 l0_4 x4_2).f2) 1 4 false _ A45.out).mono ?_); rintro e w' ⟨rfl, ⟨nd, rfl⟩⟩; (try exact zD))); try go_wp2_with (first | (go_at_call 51; (with_reducible refine (spec_l01Between.calls ((rd_T66 l0_4 x4_2).f0) 0 255 true _ A41.out).mono ?_); rintro e w' ⟨rfl, ⟨nd, rfl⟩⟩; (try exact zD)) | (go_at_call 51; (with_reducible refine (spec_l01Between.calls ((rd_T66 l0_4 x4_2).f1) 1 4 true _ A43.out).mono ?_); rintro e w' ⟨rfl, ⟨nd, rfl⟩⟩; (try exact zD)) | (go_at_call 51; (with_reducible refine (spec_l01Between.calls ((rd_T66 l0_4 x4_2).f2) 1 4 false _ A45.out).mono ?_); rintro e w' ⟨rfl, ⟨nd, rfl⟩⟩; (try exact zD))))
            go_meet
            case rel => exact ⟨_, (true), (by first | rfl | (simp; done) | (simp [*]; done)), H', ⟨by have := HJ1.out; have := HK2.out; first | omega | exact Nat.le_refl _⟩, ⟨zF BK138.out NB138_148.out⟩, ⟨zP BK148.out⟩, ⟨zT HB.out GE138.out GE148.out⟩⟩
          ·replace c44 := Bool.eq_false_iff.mpr c44
           subst c44
           have H1 : (spec_FrameOk.j2 k2 x3_2 x4_2 true a0_0 a0_1 a0_2 a0_3 l0_4 ((rd_T66 l0_4 x4_2).f0) ((rd_T66 l0_4 x4_2).f1) ((rd_T66 l0_4 x4_2).f2) ((rd_T66 l0_4 x4_2).f3)) = some r := by rw [if_neg (show ¬ (false = true) by decide)] at H; exact H
           clear H
           have H := H1
           clear H1
           have H' := Aside0.mk H
           clear H
           have hnb52 := NB148_138.out
           have hnc52 := NB138_148.out
           obtain ⟨hcz53_0, hcz53_1, hcz53_2, hcz53_3, hfz53_0, hfz53_1, hfz53_2, hfz53_3⟩ := bf4 BK148.out
           go_wp2_with (first | (go_at_call 51; (with_reducible refine (spec_l01Between.calls ((rd_T66 l0_4 x4_2).f0) 0 255 true _ A41.out).mono ?_); rintro e w' ⟨rfl, ⟨nd, rfl⟩⟩; (try exact zD)) | (go_at_call 51; (with_reducible refine (spec_l01Between.calls ((rd_T66 l0_4 x4_2).f1) 1 4 false _ A43.out).mono ?_); rintro e w' ⟨rfl, ⟨nd, rfl⟩⟩; (try exact zD)))
           repeat (go_quiet (first | (go_at_call 51; (with_reducible refine (spec_l01Between.calls ((rd_T66 l0_4 x4_2).f0) 0 255 true _ A41.out).mono ?_); rintro e w' ⟨rfl, ⟨nd, rfl⟩⟩; (try exact zD)) | (go_at_call 51; (with_reducible refine (spec_l01Between.calls ((rd_T66 l0_4 x4_2).f1) 1 4 false _ A43.out).mono ?_); rintro e w' ⟨rfl, ⟨nd, rfl⟩⟩; (try exact zD))); try go_wp2_with (first | (go_at_call 51; (with_reducible refine (spec_l01Between.calls ((rd_T66 l0_4 x4_2).f0) 0 255 true _ A41.out).mono ?_); rintro e w' ⟨rfl, ⟨nd, rfl⟩⟩; (try exact zD)) | (go_at_call 51; (with_reducible refine (spec_l01Between.calls ((rd_T66 l0_4 x4_2).f1) 1 4 false _ A43.out).mono ?_); rintro e w' ⟨rfl, ⟨nd, rfl⟩⟩; (try exact zD))))
           go_meet
           case rel => exact ⟨_, (true), (by first | rfl | (simp; done) | (simp [*]; done)), H', ⟨by have := HJ1.out; have := HK2.out; first | omega | exact Nat.le_refl _⟩, ⟨zF BK138.out NB138_148.out⟩, ⟨zP BK148.out⟩, ⟨zT HB.out GE138.out GE148.out⟩⟩
         ·replace c42 := Bool.eq_false_iff.mpr c42
          subst c42
          have H1 : (spec_FrameOk.j2 k2 x3_2 x4_2 true a0_0 a0_1 a0_2 a0_3 l0_4 ((rd_T66 l0_4 x4_2).f0) ((rd_T66 l0_4 x4_2).f1) ((rd_T66 l0_4 x4_2).f2) ((rd_T66 l0_4 x4_2).f3)) = some r := by rw [if_neg (show ¬ (false = true) by decide)] at H; exact H
          clear H
          have H := H1
          clear H1
          have H' := Aside0.mk H
          clear H
          have hnb54 := NB148_138.out
          have hnc54 := NB138_148.out
          obtain ⟨hcz55_0, hcz55_1, hcz55_2, hcz55_3, hfz55_0, hfz55_1, hfz55_2, hfz55_3⟩ := bf4 BK148.out
          go_wp2_with (first | (go_at_call 51; (with_reducible refine (spec_l01Between.calls ((rd_T66 l0_4 x4_2).f0) 0 255 false _ A41.out).mono ?_); rintro e w' ⟨rfl, ⟨nd, rfl⟩⟩; (try exact zD)))
          repeat (go_quiet (first | (go_at_call 51; (with_reducible refine (spec_l01Between.calls ((rd_T66 l0_4 x4_2).f0) 0 255 false _ A41.out).mono ?_); rintro e w' ⟨rfl, ⟨nd, rfl⟩⟩; (try exact zD))); try go_wp2_with (first | (go_at_call 51; (with_reducible refine (spec_l01Between.calls ((rd_T66 l0_4 x4_2).f0) 0 255 false _ A41.out).mono ?_); rintro e w' ⟨rfl, ⟨nd, rfl⟩⟩; (try exact zD))))
          go_meet
          case rel => exact ⟨_, (true), (by first | rfl | (simp; done) | (simp [*]; done)), H', ⟨by have := HJ1.out; have := HK2.out; first | omega | exact Nat.le_refl _⟩, ⟨zF BK138.out NB138_148.out⟩, ⟨zP BK148.out⟩, ⟨zT HB.out GE138.out GE148.out⟩⟩
        case rest =>
         clear HC36
         obtain ⟨kq, x81_35, rfl, HA, HJ35, BK138, BK148, HB⟩ := hcut
         cases kq with
         | zero => exact absurd HA.out (by simp [spec_FrameOk.j2])
         | succ kj35 =>
          have H := HA.out
          clear HA
          simp only [spec_FrameOk.j2] at H
          by_cases c56 : x81_35 = true
          ·subst c56
           have H1 : (some false) = some r := by rw [if_pos rfl] at H; exact H
           clear H
           have H := H1
           clear H1
           obtain rfl := Option.some.inj H
           go_wp2
           repeat (go_quiet (fail); try go_wp2)
           go_ret
           exact ⟨by first | rfl | (simp [errW_none, errW_some] <;> rfl) | (simp [*, errW_none, errW_some] <;> rfl), zT HB.out GE138.out GE148.out⟩
          ·replace c56 := Bool.eq_false_iff.mpr c56
           subst c56
           have H1 : (spec_FrameOk.l1 kj35 x3_2 x4_2 0 a0_0 a0_1 a0_2 a0_3 l0_4 ((rd_T66 l0_4 x4_2).f0) ((rd_T66 l0_4 x4_2).f1) ((rd_T66 l0_4 x4_2).f2) ((rd_T66 l0_4 x4_2).f3)) = some r := by rw [if_neg (show ¬ (false = true) by decide)] at H; exact H
           clear H
           have H := H1
           clear H1
           have H' := Aside0.mk H
           clear H
           go_wp2
           repeat (go_quiet (fail); try go_wp2)
           go_loopg [6] kj35 (fun kq v6 w' => ∃ (x6_4 : Int), v6 = .int .i64 x6_4 ∧ Aside0 (spec_FrameOk.l1 kq x3_2 x4_2 x6_4 a0_0 a0_1 a0_2 a0_3 l0_4 ((rd_T66 l0_4 x4_2).f0) ((rd_T66 l0_4 x4_2).f1) ((rd_T66 l0_4 x4_2).f2) ((rd_T66 l0_4 x4_2).f3) = some r) ∧ Aside0 (kq ≤ kj35) ∧ Aside0 (w'.heap[gb138]? = some (.cells #[.int .i64 a0_0, .int .i64 a0_1, .int .i64 a0_2, .int .i64 a0_3, (.slice (some ad147) l0_4.length c0_4)] 29 (0, 0))) ∧ Aside0 (w'.heap[gb148]? = some (.cells #[.int .i64 ((rd_T66 l0_4 x4_2).f0), .int .i64 ((rd_T66 l0_4 x4_2).f1), .int .i64 ((rd_T66 l0_4 x4_2).f2), .int .i64 ((rd_T66 l0_4 x4_2).f3)] 66 (0, 0))) ∧ Aside0 (Below w.heap.size w w'))
           case atStart => exact ⟨(0), (by first | rfl | (simp; done) | (simp [*]; done)), H', ⟨Nat.le_refl _⟩, ⟨zK BK138.out⟩, ⟨zK BK148.out⟩, ⟨zT HB.out GE138.out GE148.out⟩⟩
           case round =>
            clear H'
            obtain ⟨x6_4, rfl, HA, HK4, BK138, BK148, HB⟩ := hrel
            cases gk with
            | zero => exact absurd HA.out (by simp [spec_FrameOk.l1])
            | succ k4 =>
             have H := HA.out
             clear HA
             simp only [spec_FrameOk.l1] at H
             by_cases c57 : x6_4 < x4_2
             ·rw [if_pos c57] at H
              have c57b0 : decide (x6_4 < x4_2) = true := decide_eq_true c57
              clear c57
              by_cases c58 : 0 ≤ x6_4
              ·rw [if_pos c58] at H
               have c58b0 : decide (0 ≤ x6_4) = true := decide_eq_true c58
               clear c58
               by_cases c59 : x6_4 < (l0_4.length : Int)
               ·rw [if_pos c59] at H
                have c59b0 : decide (x6_4 < (l0_4.length : Int)) = true := decide_eq_true c59
                clear c59
                by_cases c60 : ((rd_T66 l0_4 x6_4).f0) = ((rd_T66 l0_4 x4_2).f0)
                ·rw [if_pos c60] at H
                 have c60b0 : (((rd_T66 l0_4 x6_4).f0) == ((rd_T66 l0_4 x4_2).f0)) = true := beq_iff_eq.mpr c60
                 have c60b1 : (((rd_T66 l0_4 x6_4).f0) != ((rd_T66 l0_4 x4_2).f0)) = false := bne_eq_false_iff_eq.mpr c60
                 clear c60
                 obtain rfl := Option.some.inj H
                 have hnb61 := NB138_148.out
                 have hnc61 := NB148_138.out
                 obtain ⟨hcz62_0, hcz62_1, hcz62_2, hcz62_3, hcz62_4, hfz62_0, hfz62_1, hfz62_2, hfz62_3, hfz62_4⟩ := bf5 BK138.out
                 have p153 : 0 ≤ (x6_4 : Int) := dT
                 have q153 : x6_4 < (l0_4.length : Int) := dT
                 obtain ⟨ad153, e153, hx153_0, hx153_1, hx153_2, hx153_3⟩ := at_T66 HR0_4.out x6_4 p153 q153
                 obtain rfl : ad147 = ad153 := (by injection e153)
                 replace hx153_0 := cB HB.out hx153_0
                 replace hx153_1 := cB HB.out hx153_1
                 replace hx153_2 := cB HB.out hx153_2
                 replace hx153_3 := cB HB.out hx153_3
                 replace p153 := eq_true p153
                 replace q153 := eq_true q153
                 obtain ⟨hcz63_0, hcz63_1, hcz63_2, hcz63_3, hfz63_0, hfz63_1, hfz63_2, hfz63_3⟩ := bf4 BK148.out
                 go_wp2
                 repeat (go_quiet (fail); try go_wp2)
                 go_ret
                 exact ⟨by first | rfl | (simp [errW_none, errW_some] <;> rfl) | (simp [*, errW_none, errW_some] <;> rfl), zT HB.out GE138.out GE148.out⟩
                ·rw [if_neg c60] at H
                 have c60b0 : (((rd_T66 l0_4 x6_4).f0) == ((rd_T66 l0_4 x4_2).f0)) = false := beq_eq_false_iff_ne.mpr c60
                 have c60b1 : (((rd_T66 l0_4 x6_4).f0) != ((rd_T66 l0_4 x4_2).f0)) = true := bne_iff_ne.mpr c60
                 have H' := Aside0.mk H
                 clear H
                 have hnb64 := NB138_148.out
                 have hnc64 := NB148_138.out
                 obtain ⟨hcz65_0, hcz65_1, hcz65_2, hcz65_3, hcz65_4, hfz65_0, hfz65_1, hfz65_2, hfz65_3, hfz65_4⟩ := bf5 BK138.out
                 have p153 : 0 ≤ (x6_4 : Int) := dT
                 have q153 : x6_4 < (l0_4.length : Int) := dT
                 obtain ⟨ad153, e153, hx153_0, hx153_1, hx153_2, hx153_3⟩ := at_T66 HR0_4.out x6_4 p153 q153
                 obtain rfl : ad147 = ad153 := (by injection e153)
                 replace hx153_0 := cB HB.out hx153_0
                 replace hx153_1 := cB HB.out hx153_1
                 replace hx153_2 := cB HB.out hx153_2
                 replace hx153_3 := cB HB.out hx153_3
                 replace p153 := eq_true p153
                 replace q153 := eq_true q153
                 obtain ⟨hcz66_0, hcz66_1, hcz66_2, hcz66_3, hfz66_0, hfz66_1, hfz66_2, hfz66_3⟩ := bf4 BK148.out
                 go_wp2
                 repeat (go_quiet (fail); try go_wp2)
                 go_roundg k4
                 case measure => have := HJ1.out; have := HK2.out; have := HJ35.out; have := HK4.out; omega
                 case rel => exact ⟨(wrap64 (x6_4 + 1)), (by first | rfl | (simp; done) | (simp [*]; done)), H', ⟨by have := HJ1.out; have := HK2.out; have := HJ35.out; have := HK4.out; omega⟩, ⟨zK BK138.out⟩, ⟨zK BK148.out⟩, ⟨zT HB.out GE138.out GE148.out⟩⟩
               ·rw [if_neg c59] at H
                exact absurd H (by simp)
              ·rw [if_neg c58] at H
               exact absurd H (by simp)
             ·rw [if_neg c57] at H
              have c57b0 : decide (x6_4 < x4_2) = false := decide_eq_false c57
              clear c57
              have H' := Aside0.mk H
              clear H
              have hnb67 := NB148_138.out
              have hnc67 := NB138_148.out
              obtain ⟨hcz68_0, hcz68_1, hcz68_2, hcz68_3, hfz68_0, hfz68_1, hfz68_2, hfz68_3⟩ := bf4 BK148.out
              go_wp2
              repeat (go_quiet (fail); try go_wp2)
              go_roundg k4
              case measure => have := HJ1.out; have := HK2.out; have := HJ35.out; have := HK4.out; omega
              case rel => exact ⟨(wrap64 (x3_2 + (wrap64 (((rd_T66 l0_4 x4_2).f1) * ((rd_T66 l0_4 x4_2).f2))))), (wrap64 (x4_2 + 1)), (by first | rfl | (simp; done) | (simp [*]; done)), (by first | rfl | (simp; done) | (simp [*]; done)), H', ⟨by have := HJ1.out; have := HK2.out; have := HJ35.out; have := HK4.out; omega⟩, ⟨zK BK138.out⟩, ⟨zT HB.out GE138.out GE148.out⟩⟩
       ·rw [if_neg c35] at H
        exact absurd H (by simp)
      ·rw [if_neg c34] at H
       have c34b0 : decide (x4_2 < (l0_4.length : Int)) = false := decide_eq_false c34
       clear c34
       obtain rfl := Option.some.inj H
       obtain ⟨hcz69_0, hcz69_1, hcz69_2, hcz69_3, hcz69_4, hfz69_0, hfz69_1, hfz69_2, hfz69_3, hfz69_4⟩ := bf5 BK138.out
       go_wp2
       repeat (go_quiet (fail); try go_wp2)
       go_ret
       exact ⟨by first | rfl | (simp [errW_none, errW_some] <;> rfl) | (simp [*, errW_none, errW_some] <;> rfl), zS HB.out GE138.out⟩

end Go.Proofs.Ytbhfimbikooccaa.PFnPlaces
