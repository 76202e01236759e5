-- Written by a program of this session.
import Derived.Test.YtbhfimbikooccaaPFnExactOrderOfx0
import Derived.Test.YtbhfimbikooccaaPFnExactOrderOfx4
namespace Go.Proofs.Ytbhfimbikooccaa.PFnExactOrderOf
open Go.RowKit Go.Proofs.YtbhfimbikooccaaW.PrintWords Go.Proofs.YtbhfimbikooccaaW.PrintLast Go.Proofs.YtbhfimbikooccaaW.PrintMore
attribute [local go_sem] max2_int min2_int max_two min_two max_three min_three max_four min_four   -- for this text's walks alone
set_option linter.unusedVariables false
set_option linter.unusedSimpArgs false

/-! ### spec_l04Order: function 66 -/
mutual
def spec_l04Order.l0 : Nat → List Int → List (List (S60)) → Int → Int → Int → Option ((List (List (S60))))
 | 0, _, _, _, _, _ => none
 | k + 1, x1, x5, x6, x7, x8 => (spec_l04Up.f x7 8).bind fun t190 => (if x8 < t190 then (spec_l04Order.l1 k x1 x5 x6 x7 x8 0) else (some x5))
def spec_l04Order.l1 : Nat → List Int → List (List (S60)) → Int → Int → Int → Int → Option ((List (List (S60))))
 | 0, _, _, _, _, _, _ => none
 | k + 1, x1, x5, x6, x7, x8, x9 => (spec_l04Up.f x6 8).bind fun t191 => (if x9 < t191 then (if 0 < (x1.length : Int) then (if x5.length < 5864062014805 then (spec_l04Order.l1 k x1 (x5 ++ [(([(⟨rd x1 0, x8, x9⟩ : S60)] : List (S60)))]) x6 x7 x8 (wrap64 (x9 + 1))) else (none)) else (none)) else (spec_l04Order.l0 k x1 x5 x6 x7 (wrap64 (x8 + 1))))
def spec_l04Order.l2 : Nat → List Int → List (List (S60)) → Int → Int → Int → Int → Int → Int → Int → List (S66) → Option ((List (List (S60))))
 | 0, _, _, _, _, _, _, _, _, _, _ => none
 | k + 1, x1, x5, x10, x11, x12, x184000, x184001, x184002, x184003, x184004 => if x12 < x11 then (spec_l04Order.l3 k x1 x5 x10 x11 x12 0 x184000 x184001 x184002 x184003 x184004) else (some x5)
def spec_l04Order.l3 : Nat → List Int → List (List (S60)) → Int → Int → Int → Int → Int → Int → Int → Int → List (S66) → Option ((List (List (S60))))
 | 0, _, _, _, _, _, _, _, _, _, _, _ => none
 | k + 1, x1, x5, x10, x11, x12, x13, x184000, x184001, x184002, x184003, x184004 => if x13 < x10 then (spec_l04Order.l4 k x1 x5 x10 x11 x12 x13 (([] : List (S60))) 0 x184000 x184001 x184002 x184003 x184004) else (spec_l04Order.l2 k x1 x5 x10 x11 (wrap64 (x12 + 1)) x184000 x184001 x184002 x184003 x184004)
def spec_l04Order.l4 : Nat → List Int → List (List (S60)) → Int → Int → Int → Int → List (S60) → Int → Int → Int → Int → Int → List (S66) → Option ((List (List (S60))))
 | 0, _, _, _, _, _, _, _, _, _, _, _, _, _ => none
 | k + 1, x1, x5, x10, x11, x12, x13, x14, x15, x184000, x184001, x184002, x184003, x184004 => if x15 < (x1.length : Int) then (if 0 ≤ x15 then (if 0 ≤ (rd x1 x15) then (if (rd x1 x15) < (x184004.length : Int) then (spec_l04Order.l5 k x1 x5 x10 x11 x12 x13 x14 x15 0 x184000 x184001 x184002 x184003 x184004 ((rd_T66 x184004 (rd x1 x15)).f0) ((rd_T66 x184004 (rd x1 x15)).f1) ((rd_T66 x184004 (rd x1 x15)).f2) ((rd_T66 x184004 (rd x1 x15)).f3)) else (none)) else (none)) else (none)) else (if x5.length < 5864062014805 then (spec_l04Order.l3 k x1 (x5 ++ [x14]) x10 x11 x12 (wrap64 (x13 + 1)) x184000 x184001 x184002 x184003 x184004) else (none))
def spec_l04Order.l5 : Nat → List Int → List (List (S60)) → Int → Int → Int → Int → List (S60) → Int → Int → Int → Int → Int → Int → List (S66) → Int → Int → Int → Int → Option ((List (List (S60))))
 | 0, _, _, _, _, _, _, _, _, _, _, _, _, _, _, _, _, _, _ => none
 | k + 1, x1, x5, x10, x11, x12, x13, x14, x15, x17, x184000, x184001, x184002, x184003, x184004, x210000, x210001, x210002, x210003 => if x17 < x210002 then (spec_l04Order.l6 k x1 x5 x10 x11 x12 x13 x14 x15 x17 0 x184000 x184001 x184002 x184003 x184004 x210000 x210001 x210002 x210003) else (spec_l04Order.l4 k x1 x5 x10 x11 x12 x13 x14 (wrap64 (x15 + 1)) x184000 x184001 x184002 x184003 x184004)
def spec_l04Order.l6 : Nat → List Int → List (List (S60)) → Int → Int → Int → Int → List (S60) → Int → Int → Int → Int → Int → Int → Int → List (S66) → Int → Int → Int → Int → Option ((List (List (S60))))
 | 0, _, _, _, _, _, _, _, _, _, _, _, _, _, _, _, _, _, _, _ => none
 | k + 1, x1, x5, x10, x11, x12, x13, x14, x15, x17, x18, x184000, x184001, x184002, x184003, x184004, x210000, x210001, x210002, x210003 => if x18 < x210001 then (if 0 ≤ x15 then (if x15 < (x1.length : Int) then (if x14.length < 5864062014805 then (spec_l04Order.l6 k x1 x5 x10 x11 x12 x13 (x14 ++ [(⟨rd x1 x15, wrap64 ((wrap64 (x12 * x210002)) + x17), wrap64 ((wrap64 (x13 * x210001)) + x18)⟩ : S60)]) x15 x17 (wrap64 (x18 + 1)) x184000 x184001 x184002 x184003 x184004 x210000 x210001 x210002 x210003) else (none)) else (none)) else (none)) else (spec_l04Order.l5 k x1 x5 x10 x11 x12 x13 x14 x15 (wrap64 (x17 + 1)) x184000 x184001 x184002 x184003 x184004 x210000 x210001 x210002 x210003)
end
def spec_l04Order.f (k : Nat) (a0_0 : Int) (a0_1 : Int) (a0_2 : Int) (a0_3 : Int) (l0_4 : List (S66)) (l1 : List Int) : Option ((List (List (S60)))) := (some (([] : List (List (S60))) : List (List (S60)))).bind fun y184 => (if (l1.length : Int) = 1 then (if 0 < (l1.length : Int) then ((spec_l04Size.f k a0_0 a0_1 a0_2 a0_3 l0_4 (rd l1 0)).bind fun bt188 => (spec_l04Order.l0 k l1 y184 bt188.1 bt188.2 0)) else (none)) else ((spec_l04Units.f k a0_0 a0_1 a0_2 a0_3 l0_4).bind fun bt199 => (spec_l04Order.l2 k l1 y184 bt199.1 bt199.2 0 a0_0 a0_1 a0_2 a0_3 l0_4)))
theorem spec_l04Order.mono_l : ∀ k, (∀ y0 y1 y2 y3 y4, LeO (spec_l04Order.l0 k y0 y1 y2 y3 y4) (spec_l04Order.l0 (k + 1) y0 y1 y2 y3 y4)) ∧ (∀ y0 y1 y2 y3 y4 y5, LeO (spec_l04Order.l1 k y0 y1 y2 y3 y4 y5) (spec_l04Order.l1 (k + 1) y0 y1 y2 y3 y4 y5)) ∧ (∀ y0 y1 y2 y3 y4 y5 y6 y7 y8 y9, LeO (spec_l04Order.l2 k y0 y1 y2 y3 y4 y5 y6 y7 y8 y9) (spec_l04Order.l2 (k + 1) y0 y1 y2 y3 y4 y5 y6 y7 y8 y9)) ∧ (∀ y0 y1 y2 y3 y4 y5 y6 y7 y8 y9 y10, LeO (spec_l04Order.l3 k y0 y1 y2 y3 y4 y5 y6 y7 y8 y9 y10) (spec_l04Order.l3 (k + 1) y0 y1 y2 y3 y4 y5 y6 y7 y8 y9 y10)) ∧ (∀ y0 y1 y2 y3 y4 y5 y6 y7 y8 y9 y10 y11 y12, LeO (spec_l04Order.l4 k y0 y1 y2 y3 y4 y5 y6 y7 y8 y9 y10 y11 y12) (spec_l04Order.l4 (k + 1) y0 y1 y2 y3 y4 y5 y6 y7 y8 y9 y10 y11 y12)) ∧ (∀ y0 y1 y2 y3 y4 y5 y6 y7 y8 y9 y10 y11 y12 y13 y14 y15 y16 y17, LeO (spec_l04Order.l5 k y0 y1 y2 y3 y4 y5 y6 y7 y8 y9 y10 y11 y12 y13 y14 y15 y16 y17) (spec_l04Order.l5 (k + 1) y0 y1 y2 y3 y4 y5 y6 y7 y8 y9 y10 y11 y12 y13 y14 y15 y16 y17)) ∧ (∀ y0 y1 y2 y3 y4 y5 y6 y7 y8 y9 y10 y11 y12 y13 y14 y15 y16 y17 y18, LeO (spec_l04Order.l6 k y0 y1 y2 y3 y4 y5 y6 y7 y8 y9 y10 y11 y12 y13 y14 y15 y16 y17 y18) (spec_l04Order.l6 (k + 1) y0 y1 y2 y3 y4 y5 y6 y7 y8 y9 y10 y11 y12 y13 y14 y15 y16 y17 y18))
 | 0 => ⟨fun _ _ _ _ _ r h => by simp [spec_l04Order.l0] at h, fun _ _ _ _ _ _ r h => by simp [spec_l04Order.l1] at h, fun _ _ _ _ _ _ _ _ _ _ r h => by simp [spec_l04Order.l2] at h, fun _ _ _ _ _ _ _ _ _ _ _ r h => by simp [spec_l04Order.l3] at h, fun _ _ _ _ _ _ _ _ _ _ _ _ _ r h => by simp [spec_l04Order.l4] at h, fun _ _ _ _ _ _ _ _ _ _ _ _ _ _ _ _ _ _ r h => by simp [spec_l04Order.l5] at h, fun _ _ _ _ _ _ _ _ _ _ _ _ _ _ _ _ _ _ _ r h => by simp [spec_l04Order.l6] at h⟩
 | k + 1 => by
  obtain ⟨ih0, ih1, ih2, ih3, ih4, ih5, ih6⟩ := spec_l04Order.mono_l k
  refine ⟨?_, ?_, ?_, ?_, ?_, ?_, ?_⟩
  ·intro y0 y1 y2 y3 y4
   unfold spec_l04Order.l0
   repeat' first
   | (with_reducible exact ih0 _ _ _ _ _)
   | (with_reducible exact ih1 _ _ _ _ _ _)
   | (with_reducible exact ih2 _ _ _ _ _ _ _ _ _ _)
   | (with_reducible exact ih3 _ _ _ _ _ _ _ _ _ _ _)
   | (with_reducible exact ih4 _ _ _ _ _ _ _ _ _ _ _ _ _)
   | (with_reducible exact ih5 _ _ _ _ _ _ _ _ _ _ _ _ _ _ _ _ _ _)
   | (with_reducible exact ih6 _ _ _ _ _ _ _ _ _ _ _ _ _ _ _ _ _ _ _)
   | (with_reducible exact spec_l04Size.mono _ _ _ _ _ _ _)
   | (with_reducible exact spec_l04Units.mono _ _ _ _ _ _)
   | (with_reducible exact LeO.refl _)
   | (with_reducible exact LeO.none _)
   | (with_reducible refine LeO.ite ?_ ?_)
   | (with_reducible refine LeO.bind ?_ (fun _ => ?_))
   | exact ih0 _ _ _ _ _
   | exact ih1 _ _ _ _ _ _
   | exact ih2 _ _ _ _ _ _ _ _ _ _
   | exact ih3 _ _ _ _ _ _ _ _ _ _ _
   | exact ih4 _ _ _ _ _ _ _ _ _ _ _ _ _
   | exact ih5 _ _ _ _ _ _ _ _ _ _ _ _ _ _ _ _ _ _
   | exact ih6 _ _ _ _ _ _ _ _ _ _ _ _ _ _ _ _ _ _ _
   | exact spec_l04Size.mono _ _ _ _ _ _ _
   | exact spec_l04Units.mono _ _ _ _ _ _
   | exact LeO.none _
   | refine LeO.ite ?_ ?_
   | refine LeO.bind ?_ (fun _ => ?_)
  ·intro y0 y1 y2 y3 y4 y5
   unfold spec_l04Order.l1
   repeat' first
   | (with_reducible exact ih0 _ _ _ _ _)
   | (with_reducible exact ih1 _ _ _ _ _ _)
   | (with_reducible exact ih2 _ _ _ _ _ _ _ _ _ _)
   | (with_reducible exact ih3 _ _ _ _ _ _ _ _ _ _ _)
   | (with_reducible exact ih4 _ _ _ _ _ _ _ _ _ _ _ _ _)
   | (with_reducible exact ih5 _ _ _ _ _ _ _ _ _ _ _ _ _ _ _ _ _ _)
   | (with_reducible exact ih6 _ _ _ _ _ _ _ _ _ _ _ _ _ _ _ _ _ _ _)
   | (with_reducible exact spec_l04Size.mono _ _ _ _ _ _ _)
   | (with_reducible exact spec_l04Units.mono _ _ _ _ _ _)
   | (with_reducible exact LeO.refl _)
   | (with_reducible exact LeO.none _)
   | (with_reducible refine LeO.ite ?_ ?_)
   | (with_reducible refine LeO.bind ?_ (fun _ => ?_))
   | exact ih0 _ _ _ _ _
   | exact ih1 _ _ _ _ _ _
   | exact ih2 _ _ _ _ _ _ _ _ _ _
   | exact ih3 _ _ _ _ _ _ _ _ _ _ _
   | exact ih4 _ _ _ _ _ _ _ _ _ _ _ _ _
   | exact ih5 _ _ _ _ _ _ _ _ _ _ _ _ _ _ _ _ _ _
   | exact ih6 _ _ _ _ _ _ _ _ _ _ _ _ _ _ _ _ _ _ _
   | exact spec_l04Size.mono _ _ _ _ _ _ _
   | exact spec_l04Units.mono _ _ _ _ _ _
   | exact LeO.none _
   | refine LeO.ite ?_ ?_
   | refine LeO.bind ?_ (fun _ => ?_)
  ·intro y0 y1 y2 y3 y4 y5 y6 y7 y8 y9
   unfold spec_l04Order.l2
   repeat' first
   | (with_reducible exact ih0 _ _ _ _ _)
   | (with_reducible exact ih1 _ _ _ _ _ _)
   | (with_reducible exact ih2 _ _ _ _ _ _ _ _ _ _)
   | (with_reducible exact ih3 _ _ _ _ _ _ _ _ _ _ _)
   | (with_reducible exact ih4 _ _ _ _ _ _ _ _ _ _ _ _ _)
   | (with_reducible exact ih5 _ _ _ _ _ _ _ _ _ _ _ _ _ _ _ _ _ _)
   | (with_reducible exact ih6 _ _ _ _ _ _ _ _ _ _ _ _ _ _ _ _ _ _ _)
   | (with_reducible exact spec_l04Size.mono _ _ _ _ _ _ _)
   | (with_reducible exact spec_l04Units.mono _ _ _ _ _ _)
   | (with_reducible exact LeO.refl _)
   | (with_reducible exact LeO.none _)
   | (with_reducible refine LeO.ite ?_ ?_)
   | (with_reducible refine LeO.bind ?_ (fun _ => ?_))
   | exact ih0 _ _ _ _ _
   | exact ih1 _ _ _ _ _ _
   | exact ih2 _ _ _ _ _ _ _ _ _ _
   | exact ih3 _ _ _ _ _ _ _ _ _ _ _
   | exact ih4 _ _ _ _ _ _ _ _ _ _ _ _ _
   | exact ih5 _ _ _ _ _ _ _ _ _ _ _ _ _ _ _ _ _ _
   | exact ih6 _ _ _ _ _ _ _ _ _ _ _ _ _ _ _ _ _ _ _
   | exact spec_l04Size.mono _ _ _ _ _ _ _
   | exact spec_l04Units.mono _ _ _ _ _ _
   | exact LeO.none _
   | refine LeO.ite ?_ ?_
   | refine LeO.bind ?_ (fun _ => ?_)
  ·intro y0 y1 y2 y3 y4 y5 y6 y7 y8 y9 y10
   unfold spec_l04Order.l3
   repeat' first
   | (with_reducible exact ih0 _ _ _ _ _)
   | (with_reducible exact ih1 _ _ _ _ _ _)
   | (with_reducible exact ih2 _ _ _ _ _ _ _ _ _ _)
   | (with_reducible exact ih3 _ _ _ _ _ _ _ _ _ _ _)
   | (with_reducible exact ih4 _ _ _ _ _ _ _ _ _ _ _ _ _)
   | (with_reducible exact ih5 _ _ _ _ _ _ _ _ _ _ _ _ _ _ _ _ _ _)
   | (with_reducible exact ih6 _ _ _ _ _ _ _ _ _ _ _ _ _ _ _ _ _ _ _)
   | (with_reducible exact spec_l04Size.mono _ _ _ _ _ _ _)
   | (with_reducible exact spec_l04Units.mono _ _ _ _ _ _)
   | (with_reducible exact LeO.refl _)
   | (with_reducible exact LeO.none _)
   | (with_reducible refine LeO.ite ?_ ?_)
   | (with_reducible refine LeO.bind ?_ (fun _ => ?_))
   | exact ih0 _ _ _ _ _
   | exact ih1 _ _ _ _ _ _
   | exact ih2 _ _ _ _ _ _ _ _ _ _
   | exact ih3 _ _ _ _ _ _ _ _ _ _ _
   | exact ih4 _ _ _ _ _ _ _ _ _ _ _ _ _
   | exact ih5 _ _ _ _ _ _ _ _ _ _ _ _ _ _ _ _ _ _
   | exact ih6 _ _ _ _ _ _ _ _ _ _ _ _ _ _ _ _ _ _ _
   | exact spec_l04Size.mono _ _ _ _ _ _ _
   | exact spec_l04Units.mono _ _ _ _ _ _
   | exact LeO.none _
   | refine LeO.ite ?_ ?_
   | refine LeO.bind ?_ (fun _ => ?_)
  ·intro y0 y1 y2 y3 y4 y5 y6 y7 y8 y9 y10 y11 y12
   unfold spec_l04Order.l4
   repeat' first
   | (with_reducible exact ih0 _ _ _ _ _)
   | (with_reducible exact ih1 _ _ _ _ _ _)
   | (with_reducible exact ih2 _ _ _ _ _ _ _ _ _ _)
   | (with_reducible exact ih3 _ _ _ _ _ _ _ _ _ _ _)
   | (with_reducible exact ih4 _ _ _ _ _ _ _ _ _ _ _ _ _)
   | (with_reducible exact ih5 _ _ _ _ _ _ _ _ _ _ _ _ _ _ _ _ _ _)
   | (with_reducible exact ih6 _ _ _ _ _ _ _ _ _ _ _ _ _ _ _ _ _ _ _)
   | (with_reducible exact spec_l04Size.mono _ _ _ _ _ _ _)
   | (with_reducible exact spec_l04Units.mono _ _ _ _ _ _)
   | (with_reducible exact LeO.refl _)
   | (with_reducible exact LeO.none _)
   | (with_reducible refine LeO.ite ?_ ?_)
   | (with_reducible refine LeO.bind ?_ (fun _ => ?_))
   | exact ih0 _ _ _ _ _
   | exact ih1 _ _ _ _ _ _
   | exact ih2 _ _ _ _ _ _ _ _ _ _
   | exact ih3 _ _ _ _ _ _ _ _ _ _ _
   | exact ih4 _ _ _ _ _ _ _ _ _ _ _ _ _
   | exact ih5 _ _ _ _ _ _ _ _ _ _ _ _ _ _ _ _ _ _
   | exact ih6 _ _ _ _ _ _ _ _ _ _ _ _ _ _ _ _ _ _ _
   | exact spec_l04Size.mono _ _ _ _ _ _ _
   | exact spec_l04Units.mono _ _ _ _ _ _
   | exact LeO.none _
   | refine LeO.ite ?_ ?_
   | refine LeO.bind ?_ (fun _ => ?_)
  ·intro y0 y1 y2 y3 y4 y5 y6 y7 y8 y9 y10 y11 y12 y13 y14 y15 y16 y17
   unfold spec_l04Order.l5
   repeat' first
   | (with_reducible exact ih0 _ _ _ _ _)
   | (with_reducible exact ih1 _ _ _ _ _ _)
   | (with_reducible exact ih2 _ _ _ _ _ _ _ _ _ _)
   | (with_reducible exact ih3 _ _ _ _ _ _ _ _ _ _ _)
   | (with_reducible exact ih4 _ _ _ _ _ _ _ _ _ _ _ _ _)
   | (with_reducible exact ih5 _ _ _ _ _ _ _ _ _ _ _ _ _ _ _ _ _ _)
   | (with_reducible exact ih6 _ _ _ _ _ _ _ _ _ _ _ _ _ _ _ _ _ _ _)
   | (with_reducible exact spec_l04Size.mono _ _ _ _ _ _ _)
   | (with_reducible exact spec_l04Units.mono _ _ _ _ _ _)
   | (with_reducible exact LeO.refl _)
   | (with_reducible exact LeO.none _)
   | (with_reducible refine LeO.ite ?_ ?_)
   | (with_reducible refine LeO.bind ?_ (fun _ => ?_))
   | exact ih0 _ _ _ _ _
   | exact ih1 _ _ _ _ _ _
   | exact ih2 _ _ _ _ _ _ _ _ _ _
   | exact ih3 _ _ _ _ _ _ _ _ _ _ _
   | exact ih4 _ _ _ _ _ _ _ _ _ _ _ _ _
   | exact ih5 _ _ _ _ _ _ _ _ _ _ _ _ _ _ _ _ _ _
   | exact ih6 _ _ _ _ _ _ _ _ _ _ _ _ _ _ _ _ _ _ _
   | exact spec_l04Size.mono _ _ _ _ _ _ _
   | exact spec_l04Units.mono _ _ _ _ _ _
   | exact LeO.none _
   | refine LeO.ite ?_ ?_
   | refine LeO.bind ?_ (fun _ => ?_)
  ·intro y0 y1 y2 y3 y4 y5 y6 y7 y8 y9 y10 y11 y12 y13 y14 y15 y16 y17 y18
   unfold spec_l04Order.l6
   repeat' first
   | (with_reducible exact ih0 _ _ _ _ _)
   | (with_reducible exact ih1 _ _ _ _ _ _)
   | (with_reducible exact ih2 _ _ _ _ _ _ _ _ _ _)
   | (with_reducible exact ih3 _ _ _ _ _ _ _ _ _ _ _)
   | (with_reducible exact ih4 _ _ _ _ _ _ _ _ _ _ _ _ _)
   | (with_reducible exact ih5 _ _ _ _ _ _ _ _ _ _ _ _ _ _ _ _ _ _)
   | (with_reducible exact ih6 _ _ _ _ _ _ _ _ _ _ _ _ _ _ _ _ _ _ _)
   | (with_reducible exact spec_l04Size.mono _ _ _ _ _ _ _)
   | (with_reducible exact spec_l04Units.mono _ _ _ _ _ _)
   | (with_reducible exact LeO.refl _)
   | (with_reducible exact LeO.none _)
   | (with_reducible refine LeO.ite ?_ ?_)
   | (with_reducible refine LeO.bind ?_ (fun _ => ?_))
   | exact ih0 _ _ _ _ _
   | exact ih1 _ _ _ _ _ _
   | exact ih2 _ _ _ _ _ _ _ _ _ _
   | exact ih3 _ _ _ _ _ _ _ _ _ _ _
   | exact ih4 _ _ _ _ _ _ _ _ _ _ _ _ _
   | exact ih5 _ _ _ _ _ _ _ _ _ _ _ _ _ _ _ _ _ _
   | exact ih6 _ _ _ _ _ _ _ _ _ _ _ _ _ _ _ _ _ _ _
   | exact spec_l04Size.mono _ _ _ _ _ _ _
   | exact spec_l04Units.mono _ _ _ _ _ _
   | exact LeO.none _
   | refine LeO.ite ?_ ?_
   | refine LeO.bind ?_ (fun _ => ?_)
theorem spec_l04Order.mono : ∀ a0 a1 a2 a3 a4 a5 k, LeO (spec_l04Order.f k a0 a1 a2 a3 a4 a5) (spec_l04Order.f (k + 1) a0 a1 a2 a3 a4 a5) := by
 intro a0 a1 a2 a3 a4 a5 k
 obtain ⟨ih0, ih1, ih2, ih3, ih4, ih5, ih6⟩ := spec_l04Order.mono_l k
 unfold spec_l04Order.f
 repeat' first
   | (with_reducible exact ih0 _ _ _ _ _)
   | (with_reducible exact ih1 _ _ _ _ _ _)
   | (with_reducible exact ih2 _ _ _ _ _ _ _ _ _ _)
   | (with_reducible exact ih3 _ _ _ _ _ _ _ _ _ _ _)
   | (with_reducible exact ih4 _ _ _ _ _ _ _ _ _ _ _ _ _)
   | (with_reducible exact ih5 _ _ _ _ _ _ _ _ _ _ _ _ _ _ _ _ _ _)
   | (with_reducible exact ih6 _ _ _ _ _ _ _ _ _ _ _ _ _ _ _ _ _ _ _)
   | (with_reducible exact spec_l04Size.mono _ _ _ _ _ _ _)
   | (with_reducible exact spec_l04Units.mono _ _ _ _ _ _)
   | (with_reducible exact LeO.refl _)
   | (with_reducible exact LeO.none _)
   | (with_reducible refine LeO.ite ?_ ?_)
   | (with_reducible refine LeO.bind ?_ (fun _ => ?_))
   | exact ih0 _ _ _ _ _
   | exact ih1 _ _ _ _ _ _
   | exact ih2 _ _ _ _ _ _ _ _ _ _
   | exact ih3 _ _ _ _ _ _ _ _ _ _ _
   | exact ih4 _ _ _ _ _ _ _ _ _ _ _ _ _
   | exact ih5 _ _ _ _ _ _ _ _ _ _ _ _ _ _ _ _ _ _
   | exact ih6 _ _ _ _ _ _ _ _ _ _ _ _ _ _ _ _ _ _ _
   | exact spec_l04Size.mono _ _ _ _ _ _ _
   | exact spec_l04Units.mono _ _ _ _ _ _
   | exact LeO.none _
   | refine LeO.ite ?_ ?_
   | refine LeO.bind ?_ (fun _ => ?_)
def spec_l04Order.T3 : Bool × List (List Nat × List Nat) := (true, [([], []), ([], []), ([1], [1]), ([2], [2]), ([0, 3], [0, 3]), ([4], [4]), ([5], [5]), ([5], [5]), ([6, 4, 0, 1, 2, 3, 4, 5, 6], [6]), ([7, 8, 0, 1, 2, 3, 4, 5, 6, 7, 8], [7])])
def spec_l04Order.B3 : List Nat := [0, 0, 2, 6, 15, 31, 63, 63, 127, 511]
theorem spec_l04Order.tab3 : rtab .any (opsOf Try.f66 3) = spec_l04Order.T3 := by kernel_rfl
theorem spec_l04Order.bits3 : waitsOk spec_l04Order.T3.2 spec_l04Order.B3 = true := by kernel_rfl
def spec_l04Order.T23 : Bool × List (List Nat × List Nat) := (true, [([], []), ([0], [0]), ([], []), ([], []), ([2, 3], [2, 3]), ([4], [4]), ([1, 5], [1, 5]), ([6], [6]), ([], []), ([8, 7, 0, 1, 2, 3, 4, 5, 6, 7, 8], [7, 8])])
def spec_l04Order.B23 : List Nat := [0, 1, 0, 0, 12, 28, 63, 127, 0, 511]
theorem spec_l04Order.tab23 : rtab .any (opsOf Try.f66 23) = spec_l04Order.T23 := by kernel_rfl
theorem spec_l04Order.bits23 : waitsOk spec_l04Order.T23.2 spec_l04Order.B23 = true := by kernel_rfl
def spec_l04Order.T30 : Bool × List (List Nat × List Nat) := (true, [([], []), ([], []), ([], []), ([1, 2], [1, 2]), ([3], [3]), ([], []), ([], []), ([6], [6]), ([5, 7], [5, 7]), ([], []), ([8, 9], [8, 9]), ([], []), ([], []), ([12], [12]), ([11, 13], [11, 13]), ([], []), ([14, 15], [14, 15]), ([4, 10, 16], [4, 10, 16]), ([17], [17]), ([0, 18], [0, 18]), ([19, 19, 0, 1, 2, 3, 4, 5, 6, 7, 8, 9, 10, 11, 12, 13, 14, 15, 16, 17, 18, 19], [0, 19])])
def spec_l04Order.B30 : List Nat := [0, 0, 0, 6, 14, 0, 0, 64, 224, 0, 992, 0, 0, 4096, 14336, 0, 63488, 131070, 262142, 524287, 1048575]
theorem spec_l04Order.tab30 : rtab .any (opsOf Try.f66 30) = spec_l04Order.T30 := by kernel_rfl
theorem spec_l04Order.bits30 : waitsOk spec_l04Order.T30.2 spec_l04Order.B30 = true := by kernel_rfl
set_option maxHeartbeats 8000000 in
set_option maxRecDepth 100000 in
theorem spec_l04Order.calls (k : Nat) (a0_0 : Int) (a0_1 : Int) (a0_2 : Int) (a0_3 : Int) (A0_4 : Option Addr) (c0_4 : Nat) (l0_4 : List (S66)) (A1 : Option Addr) (c1 : Nat) (l1 : List Int) (r : List (List (S60))) (w : World) (hr0_4 : Kd.C k66 w A0_4 l0_4.length l0_4) (hc0_4 : l0_4.length ≤ c0_4) (hr1 : Kd.C (Kd.int .i64) w A1 l1.length l1) (hc1 : l1.length ≤ c1) (h : spec_l04Order.f k a0_0 a0_1 a0_2 a0_3 l0_4 l1 = some r) :
  Calls Try.prog 66 #[.agg #[.int .i64 a0_0, .int .i64 a0_1, .int .i64 a0_2, .int .i64 a0_3, .slice A0_4 l0_4.length c0_4], .slice A1 l1.length c1] w fun e w' => ∃ v0_ : Value, e = .returned (v0_) ∧ Kd.S (Kd.slice 60 k60) 50 w' w.heap.size (fun _ => True) v0_ r ∧ Below w.heap.size w w' := by
 have hu29 := Try.underlying29
 have hu60 := Try.underlying60
 have hu66 := Try.underlying66
 have HR0_4 := Aside0.mk hr0_4
 have HC0_4 := Aside0.mk hc0_4
 clear hr0_4 hc0_4
 have HR1 := Aside0.mk hr1
 have HC1 := Aside0.mk hc1
 clear hr1 hc1
 have HB := Aside0.mk (Below.refl w.heap.size w)
 have H : ((some (([] : List (List (S60))) : List (List (S60)))).bind fun y184 => (if (l1.length : Int) = 1 then (if 0 < (l1.length : Int) then ((spec_l04Size.f k a0_0 a0_1 a0_2 a0_3 l0_4 (rd l1 0)).bind fun bt188 => (spec_l04Order.l0 k l1 y184 bt188.1 bt188.2 0)) else (none)) else ((spec_l04Units.f k a0_0 a0_1 a0_2 a0_3 l0_4).bind fun bt199 => (spec_l04Order.l2 k l1 y184 bt199.1 bt199.2 0 a0_0 a0_1 a0_2 a0_3 l0_4)))) = some r := h
 clear h
 obtain ⟨y184, hy184⟩ : ∃ y_ : List (List (S60)), y_ = (([] : List (List (S60)))) := ⟨_, rfl⟩
 replace H : (if (l1.length : Int) = 1 then (if 0 < (l1.length : Int) then ((spec_l04Size.f k a0_0 a0_1 a0_2 a0_3 l0_4 (rd l1 0)).bind fun bt188 => (spec_l04Order.l0 k l1 y184 bt188.1 bt188.2 0)) else (none)) else ((spec_l04Units.f k a0_0 a0_1 a0_2 a0_3 l0_4).bind fun bt199 => (spec_l04Order.l2 k l1 y184 bt199.1 bt199.2 0 a0_0 a0_1 a0_2 a0_3 l0_4))) = some r := by first | (rw [hy184]; with_reducible exact H) | (have H2_ := (Option.bind_some _ _).symm.trans H; rw [hy184]; with_reducible exact H2_) | (have H2_ := (Option.bind_some _ _).symm.trans H; with_reducible exact H2_) | with_reducible exact H | (rw [hy184]; exact H) | exact H
 have Ny184 := Aside0.mk hy184
 clear hy184
 by_cases c3 : (l1.length : Int) = 1
 ·rw [if_pos c3] at H
  have c3b0 : ((l1.length : Int) == 1) = true := beq_iff_eq.mpr c3
  have c3b1 : ((l1.length : Int) != 1) = false := bne_eq_false_iff_eq.mpr c3
  clear c3
  by_cases c4 : 0 < (l1.length : Int)
  ·rw [if_pos c4] at H
   have c4b0 : decide (0 < (l1.length : Int)) = true := decide_eq_true c4
   have c4b1 : decide (0 < l1.length) = true := decide_eq_true (by omega)
   clear c4
   replace H := Option.bind_eq_some_iff.mp H
   obtain ⟨⟨t188, t189⟩, A50, H⟩ := H
   replace H : (spec_l04Order.l0 k l1 y184 t188 t189 0) = some r := H
   have A5 := Aside0.mk A50
   clear A50
   have H' := Aside0.mk H
   clear H
   go_enter Try.func66, Try.ntmps66
   try go_wp2_with (first | ((with_reducible refine gate_dst (N := 2) rfl ?_); refine box_event ?hg (N := 2) ?hd (cs := #[.int .i64 a0_0, .int .i64 a0_1, .int .i64 a0_2, .int .i64 a0_3, .slice A0_4 l0_4.length c0_4]) (t := 29) ?hr ?_; (case hd => rfl); (case hg => rfl); (case hr => first | (go_simp; done) | (go_simp; rfl)); intro gb183 hg w6 hbox hb; have n0_ := Aside0.mk (below_step (zB HB.out) hb); have n1_ := Aside0.mk (hbox); have n2_ := Aside0.mk ((by rw [hg]; exact (below_size (zB HB.out)) : w.heap.size ≤ gb183)); have n3_ := Aside0.mk ((by rw [hg]; exact (below_size (zB HB.out)) : w.heap.size ≤ gb183)); clear HB; have HB := n0_; have BK183 := n1_; have GW183 := n2_; have GE183 := n3_; clear n0_ n1_ n2_ n3_; clear hb hbox hg) | ((with_reducible refine gate_dst (N := 19) rfl ?_); refine Kd.S_lit (Kd.slice 60 k60) _ 50 ?hg (N := 19) ?hd (xs := ([] : List (List (S60)))) (inner := []) (ok := fun _ => True) (okp := fun _ => True) ?hr ?hp (fun _ hk => hk) trivial (Below.refl _ _) (Nat.le_refl _) (by simp) ?_; (case hd => rfl); (case hg => rfl); (case hr => first | (go_simp; done) | (go_simp; rfl)); (case hp => exact (Reps.none _ _)); intro v185 w7 ho8 hb hg_ hnew_; clear hg_ hnew_; (first | rw [← Ny184.out] at ho8 | (simp only [Int.reduceToNat] at ho8; rw [← Ny184.out] at ho8)); have n0_ := Aside0.mk (Kd.S_lower ho8 (below_size (zS HB.out GE183.out))); have n1_ := Aside0.mk (blk_below (g := gb183) (o := .cells #[.int .i64 a0_0, .int .i64 a0_1, .int .i64 a0_2, .int .i64 a0_3, .slice A0_4 l0_4.length c0_4] 29 (0, 0)) (zK BK183.out) hb); have n2_ := Aside0.mk (below_step (zS HB.out GE183.out) hb); clear BK183; clear HB; have HO186 := n0_; have BK183 := n1_; have HB := n2_; clear n0_ n1_ n2_; clear hb ho8))
   have n0_ := Aside0.mk (Kd.S_drew HO186.out)
   have n1_ := Aside0.mk (blk_drew BK183.out)
   have n2_ := Aside0.mk (below_drew1 HB.out)
   clear HO186
   clear BK183
   clear HB
   have HO186 := n0_
   have BK183 := n1_
   have HB := n2_
   clear n0_ n1_ n2_
   have p187 : 0 ≤ (0 : Int) := (by omega)
   have q187 : 0 < (l1.length : Int) := of_decide_eq_true (by first | (with_reducible assumption) | assumption)
   obtain ⟨ad187, e187, hx187_0⟩ := Kd.at_int HR1.out 0 p187 q187
   have hw187_0 := hx187_0
   (try rw [show ((0 : Int)).toNat = 0 from rfl] at hw187_0)
   (try rw [show 0 * 1 = 0 from rfl] at hw187_0)
   (try rw [Addr.add_zero'] at hw187_0)
   cases e187
   have qi187 : (0 < l1.length) = True := eq_true (by omega)
   (try rw [show ((0 : Int)).toNat = 0 from rfl] at hx187_0)
   (try rw [Addr.add_zero'] at hx187_0)
   replace hx187_0 := (HB.out.cell (World.block_lt_of_cell? w _ hx187_0)).trans hx187_0
   replace p187 := eq_true p187
   replace q187 := eq_true q187
   refine start_ (n := 10) (S := fun w' => w'.cell? ⟨gb183, 0, none⟩ = some (.int .i64 a0_0) ∧ w'.cell? ⟨gb183, 1, none⟩ = some (.int .i64 a0_1) ∧ w'.cell? ⟨gb183, 2, none⟩ = some (.int .i64 a0_2) ∧ w'.cell? ⟨gb183, 3, none⟩ = some (.int .i64 a0_3) ∧ w'.cell? ⟨gb183, 4, none⟩ = some (.slice A0_4 l0_4.length c0_4) ∧ w'.cell? ad187 = some (.int .i64 (rd l1 0))) (ds := []) #[false, false, false, false, false, false, false, false, false, false] (by kernel_rfl) rfl rfl ⟨(blk_cell BK183.out 0).trans rfl, (blk_cell BK183.out 1).trans rfl, (blk_cell BK183.out 2).trans rfl, (blk_cell BK183.out 3).trans rfl, (blk_cell BK183.out 4).trans rfl, ((HB.out.cell (World.block_lt_of_cell? w _ hw187_0)).trans hw187_0)⟩ (fun hHeld => ?_); refine with_tabW spec_l04Order.tab3 spec_l04Order.bits3 (fun HT_ HW_ => ?_)
   generalize w7.drew = w9 at HO186 BK183 HB hx187_0 hHeld ⊢
   refine pure_ (i := 1) (N := some 25) (v := ?_) (a' := ?_) #[false, true, false, false, false, false, false, false, false, false] rfl rfl (any_of HT_.out (by kernel_rfl)) (fun _ _ _ h => h) (Or.inl ⟨by rfl, ?_⟩) ?_ ?_
   rotate_left
   ·intro w'
    go_simp
    with_reducible rfl
   rotate_left
   ·simp only [Act.put, List.setIfInBounds_toArray, List.set_cons_zero, List.set_cons_succ, i64_w, i32_w]
    rfl
   refine pure_ (i := 2) (N := some 26) (v := ?_) (a' := ?_) #[false, true, true, false, false, false, false, false, false, false] rfl rfl (any_of HT_.out (by kernel_rfl)) (fun _ _ _ h => h) (Or.inl ⟨by rfl, ?_⟩) ?_ ?_
   rotate_left
   ·intro w'
    go_simp
    with_reducible rfl
   rotate_left
   ·simp only [Act.put, List.setIfInBounds_toArray, List.set_cons_zero, List.set_cons_succ, i64_w, i32_w]
    rfl
   refine take_ (i := 0) (N := some 24) (v := ?_) (a' := ?_) #[true, true, true, false, false, false, false, false, false, false] rfl rfl (take_ofW HT_.out HW_.out (by kernel_rfl)) (fun _ _ _ h => h) (Or.inl ⟨by rfl, ?_⟩) hHeld ?_ ?_
   rotate_left
   ·rintro w' ⟨s0, s1, s2, s3, s4, s5⟩
    go_simp
    with_reducible rfl
   rotate_left
   ·simp only [Act.put, List.setIfInBounds_toArray, List.set_cons_zero, List.set_cons_succ, i64_w, i32_w]
    rfl
   refine take_ (i := 3) (N := some 27) (v := ?_) (a' := ?_) #[true, true, true, true, false, false, false, false, false, false] rfl rfl (take_ofW HT_.out HW_.out (by kernel_rfl)) (fun _ _ _ h => h) (Or.inl ⟨by rfl, ?_⟩) hHeld ?_ ?_
   rotate_left
   ·rintro w' ⟨s0, s1, s2, s3, s4, s5⟩
    go_simp
    with_reducible rfl
   rotate_left
   ·simp only [Act.put, List.setIfInBounds_toArray, List.set_cons_zero, List.set_cons_succ, i64_w, i32_w]
    rfl
   refine one_ (i := 4) (N := some 28) #[true, true, true, true, true, false, false, false, false, false] rfl rfl (one_of HT_.out (by kernel_rfl)) (by decide) (fun K hK => ?_)
   refine goes_ Try.func58 (by kernel_rfl) rfl #[.agg #[.int .i64 a0_0, .int .i64 a0_1, .int .i64 a0_2, .int .i64 a0_3, .slice A0_4 l0_4.length c0_4], .int .i64 (rd l1 0)] (by rfl) rfl rfl zM ?_
   with_reducible refine (spec_l04Size.calls k a0_0 a0_1 a0_2 a0_3 _ _ l0_4 (rd l1 0) t188 t189 _ ?side1 ?side2 A5.out).mono ?_
   (case side1 => repeat (first | exact (Kd.C_below HR0_4.out HB.out) | (with_reducible refine Kd.C_alloc ?_ _) | (with_reducible refine Kd.C_drewN ?_ _) | (with_reducible refine Kd.C_drew ?_)))
   (case side2 => exact HC0_4.out)
   rintro e w10 ⟨rfl, hb⟩
   refine ⟨_, rfl, ?_⟩
   have n0_ := Aside0.mk (Kd.S_below (by (with_reducible repeat (first | apply Kd.S_alloc | apply Kd.S_drewN | apply Kd.S_drew)); exact HO186.out) hb)
   have n1_ := Aside0.mk (blk_below (g := gb183) (o := .cells #[.int .i64 a0_0, .int .i64 a0_1, .int .i64 a0_2, .int .i64 a0_3, .slice A0_4 l0_4.length c0_4] 29 (0, 0)) (zK BK183.out) hb)
   have n2_ := Aside0.mk (below_step (zS HB.out GE183.out) hb)
   clear HO186
   clear BK183
   clear HB
   have HO186 := n0_
   have BK183 := n1_
   have HB := n2_
   clear n0_ n1_ n2_
   (try clear hb)
   (try clear hb2)
   (try clear hk)
   (try clear hi)
   refine hK.out _ _ ⟨(blk_cell BK183.out 0).trans rfl, (blk_cell BK183.out 1).trans rfl, (blk_cell BK183.out 2).trans rfl, (blk_cell BK183.out 3).trans rfl, (blk_cell BK183.out 4).trans rfl, ((HB.out.cell (World.block_lt_of_cell? w _ hw187_0)).trans hw187_0)⟩ (fun hHeld => ?_)
   clear hK K
   refine norm_ (a' := ?_) ?_ ?_
   rotate_left
   ·show Act.put _ (some 28) _ = _
    simp only [Act.put, List.setIfInBounds_toArray, List.set_cons_zero, List.set_cons_succ, i64_w, i32_w]
    rfl
   refine pure_ (i := 5) (N := some 23) (v := ?_) (a' := ?_) #[true, true, true, true, true, true, false, false, false, false] rfl rfl (any_of HT_.out (by kernel_rfl)) (fun _ _ _ h => h) (Or.inl ⟨by rfl, ?_⟩) ?_ ?_
   rotate_left
   ·intro w'
    go_simp
    with_reducible rfl
   rotate_left
   ·simp only [Act.put, List.setIfInBounds_toArray, List.set_cons_zero, List.set_cons_succ, i64_w, i32_w]
    rfl
   refine pure_ (i := 6) (N := some 29) (v := ?_) (a' := ?_) #[true, true, true, true, true, true, true, false, false, false] rfl rfl (any_of HT_.out (by kernel_rfl)) (fun _ _ _ h => h) (Or.inl ⟨by rfl, ?_⟩) ?_ ?_
   rotate_left
   ·intro w'
    go_simp
    with_reducible rfl
   rotate_left
   ·simp only [Act.put, List.setIfInBounds_toArray, List.set_cons_zero, List.set_cons_succ, i64_w, i32_w]
    rfl
   refine pure_ (i := 7) (N := some 30) (v := ?_) (a' := ?_) #[true, true, true, true, true, true, true, true, false, false] rfl rfl (any_of HT_.out (by kernel_rfl)) (fun _ _ _ h => h) (Or.inl ⟨by rfl, ?_⟩) ?_ ?_
   rotate_left
   ·intro w'
    go_simp
    with_reducible rfl
   rotate_left
   ·simp only [Act.put, List.setIfInBounds_toArray, List.set_cons_zero, List.set_cons_succ, i64_w, i32_w]
    rfl
   refine pure_ (i := 8) (N := some 6) (v := ?_) (a' := ?_) #[true, true, true, true, true, true, true, true, true, false] rfl rfl (any_of HT_.out (by kernel_rfl)) (fun _ _ _ h => h) (Or.inl ⟨by rfl, ?_⟩) ?_ ?_
   rotate_left
   ·intro w'
    go_simp
    with_reducible rfl
   rotate_left
   ·simp only [Act.put, List.setIfInBounds_toArray, List.set_cons_zero, List.set_cons_succ, i64_w, i32_w]
    rfl
   refine pure_ (i := 9) (N := some 7) (v := ?_) (a' := ?_) #[true, true, true, true, true, true, true, true, true, true] rfl rfl (any_of HT_.out (by kernel_rfl)) (fun _ _ _ h => h) (Or.inl ⟨by rfl, ?_⟩) ?_ ?_
   rotate_left
   ·intro w'
    go_simp
    with_reducible rfl
   rotate_left
   ·simp only [Act.put, List.setIfInBounds_toArray, List.set_cons_zero, List.set_cons_succ, i64_w, i32_w]
    rfl
   refine done_ (done_of HT_.out (by kernel_rfl)) ?_
   try go_wp2
   go_loopg [5, 8] k (fun kq v5 v8 w' => ∃ (x5_1 : List (List (S60))) (x8_1 : Int), v8 = .int .i64 x8_1 ∧ Aside0 (spec_l04Order.l0 kq l1 x5_1 t188 t189 x8_1 = some r) ∧ Aside0 (kq ≤ k) ∧ Aside0 (Kd.S (Kd.slice 60 k60) 50 w' w.heap.size (fun _ => True) v5 x5_1) ∧ Aside0 (w'.heap[gb183]? = some (.cells #[.int .i64 a0_0, .int .i64 a0_1, .int .i64 a0_2, .int .i64 a0_3, (.slice A0_4 l0_4.length c0_4)] 29 (0, 0))) ∧ Aside0 (Below w.heap.size w w'))
   case atStart => exact ⟨(y184), (0), (by first | rfl | (simp; done) | (simp [*]; done)), H', ⟨Nat.le_refl _⟩, ⟨by (with_reducible repeat (first | apply Kd.S_alloc | apply Kd.S_drewN | apply Kd.S_drew)); exact HO186.out⟩, ⟨by (with_reducible repeat (first | refine blk_drewN ?_ _ | refine blk_drew ?_ | refine blk_alloc ?_ _)); exact BK183.out⟩, ⟨zS HB.out GE183.out⟩⟩
   case round =>
    clear H'
    try clear c1
    try clear p1
    try clear q1
    try clear hx1
    try clear qi1
    try clear p2
    try clear c3
    try clear c3b0
    try clear c3b1
    try clear c4
    try clear c4b0
    try clear c4b1
    try clear c5
    try clear c6
    try clear hx187_0
    try clear p187
    try clear q187
    obtain ⟨x5_1, x8_1, rfl, HA, HK1, HO_5, BK183, HB⟩ := hrel
    cases gk with
    | zero => exact absurd HA.out (by simp [spec_l04Order.l0])
    | succ k1 =>
     have H := HA.out
     clear HA
     simp only [spec_l04Order.l0] at H
     replace H := Option.bind_eq_some_iff.mp H
     obtain ⟨t190, A110, H⟩ := H
     replace H : (if x8_1 < t190 then (spec_l04Order.l1 k1 l1 x5_1 t188 t189 x8_1 0) else (some x5_1)) = some r := H
     have A11 := Aside0.mk A110
     clear A110
     by_cases c12 : x8_1 < t190
     ·rw [if_pos c12] at H
      have c12b0 : decide (x8_1 < t190) = true := decide_eq_true c12
      clear c12
      have H' := Aside0.mk H
      clear H
      go_wp2_with (first | ((with_reducible refine gate_callee (f := 85) rfl ?_); refine goesL_ (some 33) rfl rfl Try.func85 (by kernel_rfl) rfl #[.int .i64 t189, .int .i64 8] rfl zM ?_; (with_reducible refine (spec_l04Up.calls t189 8 t190 _ A11.out).mono ?_); rintro e w' ⟨rfl, ⟨nd, rfl⟩⟩; refine ⟨_, rfl, ?_⟩))
      go_loopg [5, 9] k1 (fun kq v5 v9 w' => ∃ (x5_2 : List (List (S60))) (x9_2 : Int), v9 = .int .i64 x9_2 ∧ Aside0 (spec_l04Order.l1 kq l1 x5_2 t188 t189 x8_1 x9_2 = some r) ∧ Aside0 (kq ≤ k1) ∧ Aside0 (Kd.S (Kd.slice 60 k60) 50 w' w.heap.size (fun _ => True) v5 x5_2) ∧ Aside0 (w'.heap[gb183]? = some (.cells #[.int .i64 a0_0, .int .i64 a0_1, .int .i64 a0_2, .int .i64 a0_3, (.slice A0_4 l0_4.length c0_4)] 29 (0, 0))) ∧ Aside0 (Below w.heap.size w w'))
      case atStart => exact ⟨(x5_1), (0), (by first | rfl | (simp; done) | (simp [*]; done)), H', ⟨Nat.le_refl _⟩, ⟨by (with_reducible repeat (first | apply Kd.S_alloc | apply Kd.S_drewN | apply Kd.S_drew)); exact HO_5.out⟩, ⟨by (with_reducible repeat (first | refine blk_drewN ?_ _ | refine blk_drew ?_ | refine blk_alloc ?_ _)); exact BK183.out⟩, ⟨zS HB.out GE183.out⟩⟩
      case round =>
       clear H'
       try clear c1
       try clear p1
       try clear q1
       try clear hx1
       try clear qi1
       try clear p2
       try clear c3
       try clear c3b0
       try clear c3b1
       try clear c4
       try clear c4b0
       try clear c4b1
       try clear c5
       try clear c6
       try clear c8
       try clear c12
       try clear c12b0
       try clear hx187_0
       try clear p1
       try clear p187
       try clear p2
       try clear q1
       try clear q187
       obtain ⟨x5_2, x9_2, rfl, HA, HK2, HO_5, BK183, HB⟩ := hrel
       cases gk with
       | zero => exact absurd HA.out (by simp [spec_l04Order.l1])
       | succ k2 =>
        have H := HA.out
        clear HA
        simp only [spec_l04Order.l1] at H
        replace H := Option.bind_eq_some_iff.mp H
        obtain ⟨t191, A130, H⟩ := H
        replace H : (if x9_2 < t191 then (if 0 < (l1.length : Int) then (if x5_2.length < 5864062014805 then (spec_l04Order.l1 k2 l1 (x5_2 ++ [(([(⟨rd l1 0, x8_1, x9_2⟩ : S60)] : List (S60)))]) t188 t189 x8_1 (wrap64 (x9_2 + 1))) else (none)) else (none)) else (spec_l04Order.l0 k2 l1 x5_2 t188 t189 (wrap64 (x8_1 + 1)))) = some r := H
        have A13 := Aside0.mk A130
        clear A130
        by_cases c14 : x9_2 < t191
        ·rw [if_pos c14] at H
         have c14b0 : decide (x9_2 < t191) = true := decide_eq_true c14
         clear c14
         by_cases c15 : 0 < (l1.length : Int)
         ·rw [if_pos c15] at H
          have c15b0 : decide (0 < (l1.length : Int)) = true := decide_eq_true c15
          have c15b1 : decide (0 < l1.length) = true := decide_eq_true (by omega)
          clear c15
          obtain ⟨y193, hy193⟩ : ∃ y_ : List (S60), y_ = (([(⟨rd l1 0, x8_1, x9_2⟩ : S60)] : List (S60))) := ⟨_, rfl⟩
          replace H : (if x5_2.length < 5864062014805 then (spec_l04Order.l1 k2 l1 (x5_2 ++ [y193]) t188 t189 x8_1 (wrap64 (x9_2 + 1))) else (none)) = some r := by first | (rw [hy193]; with_reducible exact H) | (have H2_ := (Option.bind_some _ _).symm.trans H; rw [hy193]; with_reducible exact H2_) | (have H2_ := (Option.bind_some _ _).symm.trans H; with_reducible exact H2_) | with_reducible exact H | (rw [hy193]; exact H) | exact H
          have Ny193 := Aside0.mk hy193
          clear hy193
          by_cases c16 : x5_2.length < 5864062014805
          ·rw [if_pos c16] at H
           have LMc16 := Aside0.mk c16
           clear c16
           obtain ⟨y196, hy196⟩ : ∃ y_ : List (List (S60)), y_ = (x5_2 ++ [y193]) := ⟨_, rfl⟩
           replace H : (spec_l04Order.l1 k2 l1 y196 t188 t189 x8_1 (wrap64 (x9_2 + 1))) = some r := by first | (rw [hy196]; with_reducible exact H) | (have H2_ := (Option.bind_some _ _).symm.trans H; rw [hy196]; with_reducible exact H2_) | (have H2_ := (Option.bind_some _ _).symm.trans H; with_reducible exact H2_) | with_reducible exact H | (rw [hy196]; exact H) | exact H
           have Ny196 := Aside0.mk hy196
           clear hy196
           have H' := Aside0.mk H
           clear H
           go_wp2_with (first | ((with_reducible refine gate_callee (f := 85) rfl ?_); refine goesL_ (some 39) rfl rfl Try.func85 (by kernel_rfl) rfl #[.int .i64 t188, .int .i64 8] rfl zM ?_; (with_reducible refine (spec_l04Up.calls t188 8 t191 _ A13.out).mono ?_); rintro e w' ⟨rfl, ⟨nd, rfl⟩⟩; refine ⟨_, rfl, ?_⟩; have p192 : 0 ≤ (0 : Int) := (by omega); have q192 : 0 < (l1.length : Int) := of_decide_eq_true (by first | (with_reducible assumption) | assumption); obtain ⟨ad192, e192, hx192_0⟩ := Kd.at_int HR1.out 0 p192 q192; obtain rfl : ad187 = ad192 := (by injection e192); have qi192 : (0 < l1.length) = True := eq_true (by omega); (try rw [show ((0 : Int)).toNat = 0 from rfl] at hx192_0); (try rw [Addr.add_zero'] at hx192_0); replace hx192_0 := (HB.out.cell (World.block_lt_of_cell? w _ hx192_0)).trans hx192_0; replace p192 := eq_true p192; replace q192 := eq_true q192) | ((with_reducible refine gate_dst (N := 50) rfl ?_); refine Kd.R_lit k60 _ 60 ?hg (N := 50) ?hd (xs := ([(⟨rd l1 0, x8_1, x9_2⟩ : S60)] : List (S60))) (inner := [.int .i64 (rd l1 0), .int .i64 x8_1, .int .i64 x9_2]) (ok := fun _ => True) (okp := fun _ => True) ?hr ?hp (fun _ hk => hk) trivial (Below.refl _ _) (Nat.le_refl _) (by simp) ?_; (case hd => rfl); (case hg => rfl); (case hr => first | (go_simp; done) | (go_simp; rfl)); (case hp => exact (Reps.c3 (show Kd.M k60 _ _ _ (⟨rd l1 0, x8_1, x9_2⟩ : S60) [.int .i64 (rd l1 0), .int .i64 x8_1, .int .i64 x9_2] from (k60_mkM _ _ _ (⟨rd l1 0, x8_1, x9_2⟩ : S60) )) (Reps.none _ _))); intro v194 w17 ho18 hb hg_ hnew_; clear hg_ hnew_; (first | rw [← Ny193.out] at ho18 | (simp only [Int.reduceToNat] at ho18; rw [← Ny193.out] at ho18)); have n0_ := Aside0.mk (Kd.S_elder' (by (with_reducible repeat (first | apply Kd.S_alloc | apply Kd.S_drewN | apply Kd.S_drew)); exact HO_5.out) (Kd.R_base ho18) hb); have n1_ := Aside0.mk (Kd.R_lower ho18 (below_size (zS HB.out GE183.out))); have n2_ := Aside0.mk (blk_below (g := gb183) (o := .cells #[.int .i64 a0_0, .int .i64 a0_1, .int .i64 a0_2, .int .i64 a0_3, .slice A0_4 l0_4.length c0_4] 29 (0, 0)) (zK BK183.out) hb); have n3_ := Aside0.mk (below_step (zS HB.out GE183.out) hb); clear HO_5; clear BK183; clear HB; have HO_5 := n0_; have HO195 := n1_; have BK183 := n2_; have HB := n3_; clear n0_ n1_ n2_ n3_; clear hb ho18; obtain ⟨Ao20, co20, eo20⟩ := Kd.R_slice HO195.out; subst eo20) | ((with_reducible refine gate_builtin (b := .append) (xs := #[.tmp 43, .tmp 51]) rfl ?_); at_builtin; refine Kd.S_append (Kd.slice 60 k60) (w0 := w) w.heap.size rfl (.tmp 43) (.tmp 51) 76 50 (.slice none 0 0) 24 rfl Try.underlying76 info50 rfl (by decide) (by omega) u5 x5_2 y193 [.slice Ao20 y193.length co20] (fun _ => True) (fun k_ => some k_ = (.slice Ao20 y193.length co20 : Value).ownBlock) rfl rfl ?aP (fun k_ hk_ => ((Kd.R_mono (ok' := fun k_ => ((fun _ => True)) k_ ∧ some k_ ≠ (u5 : Value).ownBlock) (Kd.R_apart' (HO195.out) (Kd.S_typed HO_5.out) (by decide)) (fun k_ hk => ⟨trivial, hk.2⟩))).1 k_ hk_.symm) ?aF ?aO ?aB ?aS ?aL ?_; (case aP => exact Kd.M_row (Kd.R_mono (Kd.R_tight rfl (Kd.R_mono (ok' := fun k_ => ((fun _ => True)) k_ ∧ some k_ ≠ (u5 : Value).ownBlock) (Kd.R_apart' (HO195.out) (Kd.S_typed HO_5.out) (by decide)) (fun k_ hk => ⟨trivial, hk.2⟩))) (fun _ h_ => h_))); (case aB => exact (zS HB.out GE183.out)); (case aF => exact (fun _ _ => trivial)); (case aO => exact (by (with_reducible repeat (first | apply Kd.S_alloc | apply Kd.S_drewN | apply Kd.S_drew)); exact Kd.S_mono HO_5.out (fun k_ hk => ⟨trivial, fun e_ => hk.2 e_⟩))); (case aS => exact (below_size (zS HB.out GE183.out))); (case aL => have := LMc16.out; omega); intro v197 w19 ho hb hg hat; rw [← Ny196.out] at ho; have n0_ := Aside0.mk (blk_grown (g := gb183) (o := .cells #[.int .i64 a0_0, .int .i64 a0_1, .int .i64 a0_2, .int .i64 a0_3, .slice A0_4 l0_4.length c0_4] 29 (0, 0)) (zK BK183.out) hg (Kd.S_ne HO_5.out BK183.out (by decide))); have n1_ := Aside0.mk (hb); have n2_ := Aside0.mk (ho); clear BK183; clear HB; clear HO_5; clear HO195; have BK183 := n0_; have HB := n1_; have HO198 := n2_; clear n0_ n1_ n2_; clear ho hb hg hat))
           go_roundg k2
           case measure => have := HK1.out; have := HK2.out; omega
           case rel => exact ⟨(y196), (wrap64 (x9_2 + 1)), (by first | rfl | (simp; done) | (simp [*]; done)), H', ⟨by have := HK1.out; have := HK2.out; omega⟩, ⟨by (with_reducible repeat (first | apply Kd.S_alloc | apply Kd.S_drewN | apply Kd.S_drew)); exact HO198.out⟩, ⟨by (with_reducible repeat (first | refine blk_drewN ?_ _ | refine blk_drew ?_ | refine blk_alloc ?_ _)); exact BK183.out⟩, ⟨zS HB.out GE183.out⟩⟩
          ·rw [if_neg c16] at H
           exact absurd H (by simp)
         ·rw [if_neg c15] at H
          exact absurd H (by simp)
        ·rw [if_neg c14] at H
         have c14b0 : decide (x9_2 < t191) = false := decide_eq_false c14
         clear c14
         have H' := Aside0.mk H
         clear H
         go_wp2_with (first | ((with_reducible refine gate_callee (f := 85) rfl ?_); refine goesL_ (some 39) rfl rfl Try.func85 (by kernel_rfl) rfl #[.int .i64 t188, .int .i64 8] rfl zM ?_; (with_reducible refine (spec_l04Up.calls t188 8 t191 _ A13.out).mono ?_); rintro e w' ⟨rfl, ⟨nd, rfl⟩⟩; refine ⟨_, rfl, ?_⟩))
         go_roundg k2
         case measure => have := HK1.out; have := HK2.out; omega
         case rel => exact ⟨(x5_2), (wrap64 (x8_1 + 1)), (by first | rfl | (simp; done) | (simp [*]; done)), H', ⟨by have := HK1.out; have := HK2.out; omega⟩, ⟨by (with_reducible repeat (first | apply Kd.S_alloc | apply Kd.S_drewN | apply Kd.S_drew)); exact HO_5.out⟩, ⟨by (with_reducible repeat (first | refine blk_drewN ?_ _ | refine blk_drew ?_ | refine blk_alloc ?_ _)); exact BK183.out⟩, ⟨zS HB.out GE183.out⟩⟩
     ·rw [if_neg c12] at H
      have c12b0 : decide (x8_1 < t190) = false := decide_eq_false c12
      clear c12
      obtain rfl := Option.some.inj H
      go_wp2_with (first | ((with_reducible refine gate_callee (f := 85) rfl ?_); refine goesL_ (some 33) rfl rfl Try.func85 (by kernel_rfl) rfl #[.int .i64 t189, .int .i64 8] rfl zM ?_; (with_reducible refine (spec_l04Up.calls t189 8 t190 _ A11.out).mono ?_); rintro e w' ⟨rfl, ⟨nd, rfl⟩⟩; refine ⟨_, rfl, ?_⟩))
      go_ret
      exact ⟨_, by first | rfl | (simp [errW_none, errW_some] <;> rfl) | (simp [*, errW_none, errW_some] <;> rfl), by (with_reducible repeat (first | apply Kd.S_alloc | apply Kd.S_drewN | apply Kd.S_drew)); exact HO_5.out, zS HB.out GE183.out⟩
  ·rw [if_neg c4] at H
   exact absurd H (by simp)
 ·rw [if_neg c3] at H
  have c3b0 : ((l1.length : Int) == 1) = false := beq_eq_false_iff_ne.mpr c3
  have c3b1 : ((l1.length : Int) != 1) = true := bne_iff_ne.mpr c3
  replace H := Option.bind_eq_some_iff.mp H
  obtain ⟨⟨t199, t200⟩, A210, H⟩ := H
  replace H : (spec_l04Order.l2 k l1 y184 t199 t200 0 a0_0 a0_1 a0_2 a0_3 l0_4) = some r := H
  have A21 := Aside0.mk A210
  clear A210
  have H' := Aside0.mk H
  clear H
  go_enter Try.func66, Try.ntmps66
  go_wp2_with (first | ((with_reducible refine gate_dst (N := 2) rfl ?_); refine box_event ?hg (N := 2) ?hd (cs := #[.int .i64 a0_0, .int .i64 a0_1, .int .i64 a0_2, .int .i64 a0_3, .slice A0_4 l0_4.length c0_4]) (t := 29) ?hr ?_; (case hd => rfl); (case hg => rfl); (case hr => first | (go_simp; done) | (go_simp; rfl)); intro gb183 hg w22 hbox hb; have n0_ := Aside0.mk (below_step (zB HB.out) hb); have n1_ := Aside0.mk (hbox); have n2_ := Aside0.mk ((by rw [hg]; exact (below_size (zB HB.out)) : w.heap.size ≤ gb183)); have n3_ := Aside0.mk ((by rw [hg]; exact (below_size (zB HB.out)) : w.heap.size ≤ gb183)); clear HB; have HB := n0_; have BK183 := n1_; have GW183 := n2_; have GE183 := n3_; clear n0_ n1_ n2_ n3_; clear hb hbox hg) | ((with_reducible refine gate_dst (N := 19) rfl ?_); refine Kd.S_lit (Kd.slice 60 k60) _ 50 ?hg (N := 19) ?hd (xs := ([] : List (List (S60)))) (inner := []) (ok := fun _ => True) (okp := fun _ => True) ?hr ?hp (fun _ hk => hk) trivial (Below.refl _ _) (Nat.le_refl _) (by simp) ?_; (case hd => rfl); (case hg => rfl); (case hr => first | (go_simp; done) | (go_simp; rfl)); (case hp => exact (Reps.none _ _)); intro v185 w23 ho24 hb hg_ hnew_; clear hg_ hnew_; (first | rw [← Ny184.out] at ho24 | (simp only [Int.reduceToNat] at ho24; rw [← Ny184.out] at ho24)); have n0_ := Aside0.mk (Kd.S_lower ho24 (below_size (zS HB.out GE183.out))); have n1_ := Aside0.mk (blk_below (g := gb183) (o := .cells #[.int .i64 a0_0, .int .i64 a0_1, .int .i64 a0_2, .int .i64 a0_3, .slice A0_4 l0_4.length c0_4] 29 (0, 0)) (zK BK183.out) hb); have n2_ := Aside0.mk (below_step (zS HB.out GE183.out) hb); clear BK183; clear HB; have HO186 := n0_; have BK183 := n1_; have HB := n2_; clear n0_ n1_ n2_; clear hb ho24; have hcz25_0 : w23.cell? ⟨gb183, 0, none⟩ = some (.int .i64 a0_0) := (blk_cell BK183.out 0).trans rfl; have hcz25_1 : w23.cell? ⟨gb183, 1, none⟩ = some (.int .i64 a0_1) := (blk_cell BK183.out 1).trans rfl; have hcz25_2 : w23.cell? ⟨gb183, 2, none⟩ = some (.int .i64 a0_2) := (blk_cell BK183.out 2).trans rfl; have hcz25_3 : w23.cell? ⟨gb183, 3, none⟩ = some (.int .i64 a0_3) := (blk_cell BK183.out 3).trans rfl; have hcz25_4 : w23.cell? ⟨gb183, 4, none⟩ = some (.slice A0_4 l0_4.length c0_4) := (blk_cell BK183.out 4).trans rfl; have hfz25_0 := blk_frozen BK183.out 0; have hfz25_1 := blk_frozen BK183.out 1; have hfz25_2 := blk_frozen BK183.out 2; have hfz25_3 := blk_frozen BK183.out 3; have hfz25_4 := blk_frozen BK183.out 4) | ((with_reducible refine gate_callee (f := 88) rfl ?_); refine goesL_ (some 56) rfl rfl Try.func88 (by kernel_rfl) rfl #[.agg #[.int .i64 a0_0, .int .i64 a0_1, .int .i64 a0_2, .int .i64 a0_3, .slice A0_4 l0_4.length c0_4]] rfl zM ?_; (with_reducible refine (spec_l04Units.calls k a0_0 a0_1 a0_2 a0_3 _ _ l0_4 t199 t200 _ ?side1 ?side2 A21.out).mono ?_); (case side1 => repeat (first | exact (Kd.C_below HR0_4.out HB.out) | (with_reducible refine Kd.C_alloc ?_ _) | (with_reducible refine Kd.C_drewN ?_ _) | (with_reducible refine Kd.C_drew ?_))); (case side2 => exact HC0_4.out); rintro e w26 ⟨rfl, hb⟩; refine ⟨_, rfl, ?_⟩; have n0_ := Aside0.mk (Kd.S_below (by (with_reducible repeat (first | apply Kd.S_alloc | apply Kd.S_drewN | apply Kd.S_drew)); exact HO186.out) hb); have n1_ := Aside0.mk (blk_below (g := gb183) (o := .cells #[.int .i64 a0_0, .int .i64 a0_1, .int .i64 a0_2, .int .i64 a0_3, .slice A0_4 l0_4.length c0_4] 29 (0, 0)) (zK BK183.out) hb); have n2_ := Aside0.mk (below_step (zS HB.out GE183.out) hb); clear HO186; clear BK183; clear HB; have HO186 := n0_; have BK183 := n1_; have HB := n2_; clear n0_ n1_ n2_; try clear hb))
  go_loopg [5, 12] k (fun kq v5 v12 w' => ∃ (x5_1 : List (List (S60))) (x12_1 : Int), v12 = .int .i64 x12_1 ∧ Aside0 (spec_l04Order.l2 kq l1 x5_1 t199 t200 x12_1 a0_0 a0_1 a0_2 a0_3 l0_4 = some r) ∧ Aside0 (kq ≤ k) ∧ Aside0 (Kd.S (Kd.slice 60 k60) 50 w' w.heap.size (fun _ => True) v5 x5_1) ∧ Aside0 (w'.heap[gb183]? = some (.cells #[.int .i64 a0_0, .int .i64 a0_1, .int .i64 a0_2, .int .i64 a0_3, (.slice A0_4 l0_4.length c0_4)] 29 (0, 0))) ∧ Aside0 (Below w.heap.size w w'))
  case atStart => exact ⟨(y184), (0), (by first | rfl | (simp; done) | (simp [*]; done)), H', ⟨Nat.le_refl _⟩, ⟨by (with_reducible repeat (first | apply Kd.S_alloc | apply Kd.S_drewN | apply Kd.S_drew)); exact HO186.out⟩, ⟨by (with_reducible repeat (first | refine blk_drewN ?_ _ | refine blk_drew ?_ | refine blk_alloc ?_ _)); exact BK183.out⟩, ⟨zS HB.out GE183.out⟩⟩
  case round =>
   clear H'
   try clear c1
   try clear p1
   try clear q1
   try clear hx1
   try clear qi1
   try clear p2
   try clear c3
   try clear c3b0
   try clear c3b1
   try clear c4
   try clear c4b0
   try clear c4b1
   try clear c5
   try clear c6
   try clear p6
   try clear c8
   try clear c12
   try clear c12b0
   try clear c14
   try clear c14b0
   try clear c15
   try clear c15b0
   try clear c15b1
   try clear c16
   try clear p18
   try clear q18
   try clear hx18
   try clear qi18
   try clear p19
   try clear q19
   try clear hx19
   try clear qi19
   try clear hcz25_0
   try clear hcz25_1
   try clear hcz25_2
   try clear hcz25_3
   try clear hcz25_4
   try clear hfz25_0
   try clear hfz25_1
   try clear hfz25_2
   try clear hfz25_3
   try clear hfz25_4
   try clear hx187_0
   try clear hx192_0
   try clear p1
   try clear p187
   try clear p192
   try clear p2
   try clear q1
   try clear q187
   try clear q192
   obtain ⟨x5_1, x12_1, rfl, HA, HK1, HO_5, BK183, HB⟩ := hrel
   cases gk with
   | zero => exact absurd HA.out (by simp [spec_l04Order.l2])
   | succ k1 =>
    have H := HA.out
    clear HA
    simp only [spec_l04Order.l2] at H
    by_cases c27 : x12_1 < t200
    ·rw [if_pos c27] at H
     have c27b0 : decide (x12_1 < t200) = true := decide_eq_true c27
     clear c27
     have H' := Aside0.mk H
     clear H
     go_wp2
     go_loopg [5, 13] k1 (fun kq v5 v13 w' => ∃ (x5_2 : List (List (S60))) (x13_2 : Int), v13 = .int .i64 x13_2 ∧ Aside0 (spec_l04Order.l3 kq l1 x5_2 t199 t200 x12_1 x13_2 a0_0 a0_1 a0_2 a0_3 l0_4 = some r) ∧ Aside0 (kq ≤ k1) ∧ Aside0 (Kd.S (Kd.slice 60 k60) 50 w' w.heap.size (fun _ => True) v5 x5_2) ∧ Aside0 (w'.heap[gb183]? = some (.cells #[.int .i64 a0_0, .int .i64 a0_1, .int .i64 a0_2, .int .i64 a0_3, (.slice A0_4 l0_4.length c0_4)] 29 (0, 0))) ∧ Aside0 (Below w.heap.size w w'))
     case atStart => exact ⟨(x5_1), (0), (by first | rfl | (simp; done) | (simp [*]; done)), H', ⟨Nat.le_refl _⟩, ⟨by (with_reducible repeat (first | apply Kd.S_alloc | apply Kd.S_drewN | apply Kd.S_drew)); exact HO_5.out⟩, ⟨by (with_reducible repeat (first | refine blk_drewN ?_ _ | refine blk_drew ?_ | refine blk_alloc ?_ _)); exact BK183.out⟩, ⟨zS HB.out GE183.out⟩⟩
     case round =>
      clear H'
      try clear c1
      try clear p1
      try clear q1
      try clear hx1
      try clear qi1
      try clear c2
      try clear p2
      try clear c3
      try clear c3b0
      try clear c3b1
      try clear c4
      try clear c4b0
      try clear c4b1
      try clear c5
      try clear c6
      try clear p6
      try clear c8
      try clear c12
      try clear c12b0
      try clear c14
      try clear c14b0
      try clear c15
      try clear c15b0
      try clear c15b1
      try clear c16
      try clear p18
      try clear q18
      try clear hx18
      try clear qi18
      try clear p19
      try clear q19
      try clear hx19
      try clear qi19
      try clear c27
      try clear c27b0
      try clear hcz25_0
      try clear hcz25_1
      try clear hcz25_2
      try clear hcz25_3
      try clear hcz25_4
      try clear hfz25_0
      try clear hfz25_1
      try clear hfz25_2
      try clear hfz25_3
      try clear hfz25_4
      try clear hx187_0
      try clear hx192_0
      try clear p1
      try clear p18
      try clear p187
      try clear p19
      try clear p192
      try clear p2
      try clear p6
      try clear q1
      try clear q18
      try clear q187
      try clear q19
      try clear q192
      obtain ⟨x5_2, x13_2, rfl, HA, HK2, HO_5, BK183, HB⟩ := hrel
      cases gk with
      | zero => exact absurd HA.out (by simp [spec_l04Order.l3])
      | succ k2 =>
       have H := HA.out
       clear HA
       simp only [spec_l04Order.l3] at H
       by_cases c28 : x13_2 < t199
       ·rw [if_pos c28] at H
        have c28b0 : decide (x13_2 < t199) = true := decide_eq_true c28
        clear c28
        obtain ⟨y201, hy201⟩ : ∃ y_ : List (S60), y_ = (([] : List (S60))) := ⟨_, rfl⟩
        replace H : (spec_l04Order.l4 k2 l1 x5_2 t199 t200 x12_1 x13_2 y201 0 a0_0 a0_1 a0_2 a0_3 l0_4) = some r := by first | (rw [hy201]; with_reducible exact H) | (have H2_ := (Option.bind_some _ _).symm.trans H; rw [hy201]; with_reducible exact H2_) | (have H2_ := (Option.bind_some _ _).symm.trans H; with_reducible exact H2_) | with_reducible exact H | (rw [hy201]; exact H) | exact H
        have Ny201 := Aside0.mk hy201
        clear hy201
        have H' := Aside0.mk H
        clear H
        go_wp2_with (first | ((with_reducible refine gate_dst (N := 69) rfl ?_); refine Kd.R_lit k60 _ 60 ?hg (N := 69) ?hd (xs := ([] : List (S60))) (inner := []) (ok := fun _ => True) (okp := fun _ => True) ?hr ?hp (fun _ hk => hk) trivial (Below.refl _ _) (Nat.le_refl _) (by simp) ?_; (case hd => rfl); (case hg => rfl); (case hr => first | (go_simp; done) | (go_simp; rfl)); (case hp => exact (Reps.none _ _)); intro v202 w29 ho30 hb hg_ hnew_; clear hg_ hnew_; (first | rw [← Ny201.out] at ho30 | (simp only [Int.reduceToNat] at ho30; rw [← Ny201.out] at ho30)); have n0_ := Aside0.mk (Kd.S_elder' (by (with_reducible repeat (first | apply Kd.S_alloc | apply Kd.S_drewN | apply Kd.S_drew)); exact HO_5.out) (Kd.R_base ho30) hb); have n1_ := Aside0.mk (Kd.R_lower ho30 (below_size (zS HB.out GE183.out))); have n2_ := Aside0.mk (blk_below (g := gb183) (o := .cells #[.int .i64 a0_0, .int .i64 a0_1, .int .i64 a0_2, .int .i64 a0_3, .slice A0_4 l0_4.length c0_4] 29 (0, 0)) (zK BK183.out) hb); have n3_ := Aside0.mk (below_step (zS HB.out GE183.out) hb); clear HO_5; clear BK183; clear HB; have HO_5 := n0_; have HO203 := n1_; have BK183 := n2_; have HB := n3_; clear n0_ n1_ n2_ n3_; clear hb ho30))
        go_loopg [14, 15] k2 (fun kq v14 v15 w' => ∃ (x14_3 : List (S60)) (x15_3 : Int), v15 = .int .i64 x15_3 ∧ Aside0 (spec_l04Order.l4 kq l1 x5_2 t199 t200 x12_1 x13_2 x14_3 x15_3 a0_0 a0_1 a0_2 a0_3 l0_4 = some r) ∧ Aside0 (kq ≤ k2) ∧ Aside0 (Kd.S (Kd.slice 60 k60) 50 w' w.heap.size (fun k_ => some k_ ≠ (v14 : Value).ownBlock) u5 x5_2) ∧ Aside0 (Kd.R k60 60 w' w.heap.size (fun _ => True) v14 x14_3) ∧ Aside0 (w'.heap[gb183]? = some (.cells #[.int .i64 a0_0, .int .i64 a0_1, .int .i64 a0_2, .int .i64 a0_3, (.slice A0_4 l0_4.length c0_4)] 29 (0, 0))) ∧ Aside0 (Below w.heap.size w w'))
        case atStart => exact ⟨(y201), (0), (by first | rfl | (simp; done) | (simp [*]; done)), H', ⟨Nat.le_refl _⟩, ⟨by (with_reducible repeat (first | apply Kd.S_alloc | apply Kd.S_drewN | apply Kd.S_drew)); exact Kd.S_mono HO_5.out (fun _ hk => hk.2)⟩, ⟨by (with_reducible repeat (first | apply Kd.R_alloc | apply Kd.R_drewN | apply Kd.R_drew)); exact HO203.out⟩, ⟨by (with_reducible repeat (first | refine blk_drewN ?_ _ | refine blk_drew ?_ | refine blk_alloc ?_ _)); exact BK183.out⟩, ⟨zS HB.out GE183.out⟩⟩
        case round =>
         clear H'
         try clear c1
         try clear p1
         try clear q1
         try clear hx1
         try clear qi1
         try clear c2
         try clear p2
         try clear c3
         try clear c3b0
         try clear c3b1
         try clear c4
         try clear c4b0
         try clear c4b1
         try clear c5
         try clear c6
         try clear p6
         try clear c8
         try clear c12
         try clear c12b0
         try clear c14
         try clear c14b0
         try clear c15
         try clear c15b0
         try clear c15b1
         try clear c16
         try clear p18
         try clear q18
         try clear hx18
         try clear qi18
         try clear p19
         try clear q19
         try clear hx19
         try clear qi19
         try clear c27
         try clear c27b0
         try clear c28
         try clear c28b0
         try clear hcz25_0
         try clear hcz25_1
         try clear hcz25_2
         try clear hcz25_3
         try clear hcz25_4
         try clear hfz25_0
         try clear hfz25_1
         try clear hfz25_2
         try clear hfz25_3
         try clear hfz25_4
         try clear hx187_0
         try clear hx192_0
         try clear p1
         try clear p18
         try clear p187
         try clear p19
         try clear p192
         try clear p2
         try clear p6
         try clear q1
         try clear q18
         try clear q187
         try clear q19
         try clear q192
         obtain ⟨x14_3, x15_3, rfl, HA, HK3, HO_5, HO_14, BK183, HB⟩ := hrel
         cases gk with
         | zero => exact absurd HA.out (by simp [spec_l04Order.l4])
         | succ k3 =>
          have H := HA.out
          clear HA
          simp only [spec_l04Order.l4] at H
          by_cases c31 : x15_3 < (l1.length : Int)
          ·rw [if_pos c31] at H
           have c31b0 : decide (x15_3 < (l1.length : Int)) = true := decide_eq_true c31
           clear c31
           by_cases c32 : 0 ≤ x15_3
           ·rw [if_pos c32] at H
            have c32b0 : decide (0 ≤ x15_3) = true := decide_eq_true c32
            clear c32
            by_cases c33 : 0 ≤ (rd l1 x15_3)
            ·rw [if_pos c33] at H
             have c33b0 : decide (0 ≤ (rd l1 x15_3)) = true := decide_eq_true c33
             clear c33
             by_cases c34 : (rd l1 x15_3) < (l0_4.length : Int)
             ·rw [if_pos c34] at H
              have c34b0 : decide ((rd l1 x15_3) < (l0_4.length : Int)) = true := decide_eq_true c34
              clear c34
              have H' := Aside0.mk H
              clear H
              try go_wp2
              have n0_ := Aside0.mk (Kd.S_drew HO_5.out)
              have n1_ := Aside0.mk (Kd.R_drew HO_14.out)
              have n2_ := Aside0.mk (blk_drew BK183.out)
              have n3_ := Aside0.mk (below_drew1 HB.out)
              clear HO_5
              clear HO_14
              clear BK183
              clear HB
              have HO_5 := n0_
              have HO_14 := n1_
              have BK183 := n2_
              have HB := n3_
              clear n0_ n1_ n2_ n3_
              have p207 : 0 ≤ (x15_3 : Int) := of_decide_eq_true (by first | (with_reducible assumption) | assumption)
              have q207 : x15_3 < (l1.length : Int) := of_decide_eq_true (by first | (with_reducible assumption) | assumption)
              obtain ⟨ad207, e207, hx207_0⟩ := Kd.at_int HR1.out x15_3 p207 q207
              have hw207_0 := hx207_0
              cases e207
              replace hx207_0 := (HB.out.cell (World.block_lt_of_cell? w _ hx207_0)).trans hx207_0
              replace p207 := eq_true p207
              replace q207 := eq_true q207
              have p208 : 0 ≤ ((rd l1 x15_3) : Int) := of_decide_eq_true (by first | (with_reducible assumption) | assumption)
              have q208 : (rd l1 x15_3) < (l0_4.length : Int) := of_decide_eq_true (by first | (with_reducible assumption) | assumption)
              obtain ⟨ad208, e208, hx208_0, hx208_1, hx208_2, hx208_3⟩ := at_T66 HR0_4.out (rd l1 x15_3) p208 q208
              have hw208_3 := hx208_3
              have hw208_2 := hx208_2
              have hw208_1 := hx208_1
              have hw208_0 := hx208_0
              cases e208
              replace hx208_0 := (HB.out.cell (World.block_lt_of_cell? w _ hx208_0)).trans hx208_0
              replace hx208_1 := (HB.out.cell (World.block_lt_of_cell? w _ hx208_1)).trans hx208_1
              replace hx208_2 := (HB.out.cell (World.block_lt_of_cell? w _ hx208_2)).trans hx208_2
              replace hx208_3 := (HB.out.cell (World.block_lt_of_cell? w _ hx208_3)).trans hx208_3
              replace p208 := eq_true p208
              replace q208 := eq_true q208
              refine start_ (n := 10) (S := fun w' => w'.cell? ⟨gb183, 0, none⟩ = some (.int .i64 a0_0) ∧ w'.cell? ⟨gb183, 1, none⟩ = some (.int .i64 a0_1) ∧ w'.cell? ⟨gb183, 2, none⟩ = some (.int .i64 a0_2) ∧ w'.cell? ⟨gb183, 3, none⟩ = some (.int .i64 a0_3) ∧ w'.cell? ⟨gb183, 4, none⟩ = some (.slice (some ad208) l0_4.length c0_4) ∧ w'.cell? (ad207.add (x15_3).toNat) = some (.int .i64 (rd l1 x15_3)) ∧ w'.cell? (ad208.add (((rd l1 x15_3)).toNat * 4)) = some (.int .i64 ((rd_T66 l0_4 (rd l1 x15_3)).f0)) ∧ w'.cell? ⟨(ad208.add (((rd l1 x15_3)).toNat * 4)).block, (ad208.add (((rd l1 x15_3)).toNat * 4)).off + 1, none⟩ = some (.int .i64 ((rd_T66 l0_4 (rd l1 x15_3)).f1)) ∧ w'.cell? ⟨(ad208.add (((rd l1 x15_3)).toNat * 4)).block, (ad208.add (((rd l1 x15_3)).toNat * 4)).off + 2, none⟩ = some (.int .i64 ((rd_T66 l0_4 (rd l1 x15_3)).f2)) ∧ w'.cell? ⟨(ad208.add (((rd l1 x15_3)).toNat * 4)).block, (ad208.add (((rd l1 x15_3)).toNat * 4)).off + 3, none⟩ = some (.int .i64 ((rd_T66 l0_4 (rd l1 x15_3)).f3))) (ds := []) #[false, false, false, false, false, false, false, false, false, false] (by kernel_rfl) rfl rfl ⟨(blk_cell BK183.out 0).trans rfl, (blk_cell BK183.out 1).trans rfl, (blk_cell BK183.out 2).trans rfl, (blk_cell BK183.out 3).trans rfl, (blk_cell BK183.out 4).trans rfl, ((HB.out.cell (World.block_lt_of_cell? w _ hw207_0)).trans hw207_0), ((HB.out.cell (World.block_lt_of_cell? w _ hw208_0)).trans hw208_0), ((HB.out.cell (World.block_lt_of_cell? w _ hw208_1)).trans hw208_1), ((HB.out.cell (World.block_lt_of_cell? w _ hw208_2)).trans hw208_2), ((HB.out.cell (World.block_lt_of_cell? w _ hw208_3)).trans hw208_3)⟩ (fun hHeld => ?_); refine with_tabW spec_l04Order.tab23 spec_l04Order.bits23 (fun HT_ HW_ => ?_)
              generalize wr.drew = w35 at HO_5 HO_14 BK183 HB hx207_0 hx208_0 hx208_1 hx208_2 hx208_3 hHeld ⊢
              refine pure_ (i := 0) (N := some 76) (v := ?_) (a' := ?_) #[true, false, false, false, false, false, false, false, false, false] rfl rfl (any_of HT_.out (by kernel_rfl)) (fun _ _ _ h => h) (Or.inl ⟨by rfl, ?_⟩) ?_ ?_
              rotate_left
              ·intro w'
               go_simp
               with_reducible rfl
              rotate_left
              ·simp only [Act.put, List.setIfInBounds_toArray, List.set_cons_zero, List.set_cons_succ, i64_w, i32_w]
               rfl
              refine pure_ (i := 2) (N := some 78) (v := ?_) (a' := ?_) #[true, false, true, false, false, false, false, false, false, false] rfl rfl (any_of HT_.out (by kernel_rfl)) (fun _ _ _ h => h) (Or.inl ⟨by rfl, ?_⟩) ?_ ?_
              rotate_left
              ·intro w'
               go_simp
               with_reducible rfl
              rotate_left
              ·simp only [Act.put, List.setIfInBounds_toArray, List.set_cons_zero, List.set_cons_succ, i64_w, i32_w]
               rfl
              refine pure_ (i := 3) (N := some 79) (v := ?_) (a' := ?_) #[true, false, true, true, false, false, false, false, false, false] rfl rfl (any_of HT_.out (by kernel_rfl)) (fun _ _ _ h => h) (Or.inl ⟨by rfl, ?_⟩) ?_ ?_
              rotate_left
              ·intro w'
               go_simp
               with_reducible rfl
              rotate_left
              ·simp only [Act.put, List.setIfInBounds_toArray, List.set_cons_zero, List.set_cons_succ, i64_w, i32_w]
               rfl
              refine pure_ (i := 4) (N := some 80) (v := ?_) (a' := ?_) #[true, false, true, true, true, false, false, false, false, false] rfl rfl (any_of HT_.out (by kernel_rfl)) (fun _ _ _ h => h) (Or.inl ⟨by rfl, ?_⟩) ?_ ?_
              rotate_left
              ·intro w'
               go_simp
               with_reducible rfl
              rotate_left
              ·simp only [Act.put, List.setIfInBounds_toArray, List.set_cons_zero, List.set_cons_succ, i64_w, i32_w]
               rfl
              refine take_ (i := 1) (N := some 77) (v := ?_) (a' := ?_) #[true, true, true, true, true, false, false, false, false, false] rfl rfl (take_ofW HT_.out HW_.out (by kernel_rfl)) (fun _ _ _ h => h) (Or.inl ⟨by rfl, ?_⟩) hHeld ?_ ?_
              rotate_left
              ·rintro w' ⟨s0, s1, s2, s3, s4, s5, s6, s7, s8, s9⟩
               go_simp
               with_reducible rfl
              rotate_left
              ·simp only [Act.put, List.setIfInBounds_toArray, List.set_cons_zero, List.set_cons_succ, i64_w, i32_w]
               rfl
              refine take_ (i := 5) (N := some 81) (v := ?_) (a' := ?_) #[true, true, true, true, true, true, false, false, false, false] rfl rfl (take_ofW HT_.out HW_.out (by kernel_rfl)) (fun _ _ _ h => h) (Or.inl ⟨by rfl, ?_⟩) hHeld ?_ ?_
              rotate_left
              ·rintro w' ⟨s0, s1, s2, s3, s4, s5, s6, s7, s8, s9⟩
               go_simp
               with_reducible rfl
              rotate_left
              ·simp only [Act.put, List.setIfInBounds_toArray, List.set_cons_zero, List.set_cons_succ, i64_w, i32_w]
               rfl
              refine pure_ (i := 6) (N := some 82) (v := ?_) (a' := ?_) #[true, true, true, true, true, true, true, false, false, false] rfl rfl (any_of HT_.out (by kernel_rfl)) (fun _ _ _ h => h) (Or.inl ⟨by rfl, ?_⟩) ?_ ?_
              rotate_left
              ·intro w'
               go_simp
               with_reducible rfl
              rotate_left
              ·simp only [Act.put, List.setIfInBounds_toArray, List.set_cons_zero, List.set_cons_succ, i64_w, i32_w]
               rfl
              refine take_ (i := 7) (N := some 83) (v := ?_) (a' := ?_) #[true, true, true, true, true, true, true, true, false, false] rfl rfl (take_ofW HT_.out HW_.out (by kernel_rfl)) (fun _ _ _ h => h) (Or.inl ⟨by rfl, ?_⟩) hHeld ?_ ?_
              rotate_left
              ·rintro w' ⟨s0, s1, s2, s3, s4, s5, s6, s7, s8, s9⟩
               go_simp
               with_reducible rfl
              rotate_left
              ·simp only [Act.put, List.setIfInBounds_toArray, List.set_cons_zero, List.set_cons_succ, i64_w, i32_w]
               rfl
              refine one_ (i := 8) (N := some 16) #[true, true, true, true, true, true, true, true, true, false] rfl rfl (one_of HT_.out (by kernel_rfl)) (by decide) (fun K hK => ?_)
              refine box_step ?hg (N := 16) ?hd (cs := #[.int .i64 0, .int .i64 0, .int .i64 0, .int .i64 0]) (t := 66) ?hr ?_; (case hd => rfl); (case hg => rfl); (case hr => first | (go_simp; done) | (go_simp; rfl))
              intro gb209 hg w36 hbox hb
              have n0_ := Aside0.mk (Kd.S_below (by (with_reducible repeat (first | apply Kd.S_alloc | apply Kd.S_drewN | apply Kd.S_drew)); exact HO_5.out) hb)
              have n1_ := Aside0.mk (Kd.R_below (zR HO_14.out) hb)
              have n2_ := Aside0.mk (blk_below (g := gb183) (o := .cells #[.int .i64 a0_0, .int .i64 a0_1, .int .i64 a0_2, .int .i64 a0_3, .slice (some ad208) l0_4.length c0_4] 29 (0, 0)) (zK BK183.out) hb)
              have n3_ := Aside0.mk (below_step (zS HB.out GE183.out) hb)
              have n4_ := Aside0.mk (hbox)
              have n5_ := Aside0.mk ((by rw [hg]; exact (below_size (zS HB.out GE183.out)) : w.heap.size ≤ gb209))
              have n6_ := Aside0.mk ((by rw [hg]; exact (below_size (zS HB.out GE183.out)) : w.heap.size ≤ gb209))
              have n7_ := Aside0.mk ((by rw [hg]; exact Nat.ne_of_lt (blk_lt (g := gb183) (o := .cells #[.int .i64 a0_0, .int .i64 a0_1, .int .i64 a0_2, .int .i64 a0_3, .slice (some ad208) l0_4.length c0_4] 29 (0, 0)) (zK BK183.out)) : gb183 ≠ gb209))
              have n8_ := Aside0.mk ((by rw [hg]; exact Nat.ne_of_gt (blk_lt (g := gb183) (o := .cells #[.int .i64 a0_0, .int .i64 a0_1, .int .i64 a0_2, .int .i64 a0_3, .slice (some ad208) l0_4.length c0_4] 29 (0, 0)) (zK BK183.out)) : gb209 ≠ gb183))
              clear HO_5
              clear HO_14
              clear BK183
              clear HB
              have HO_5 := n0_
              have HO_14 := n1_
              have BK183 := n2_
              have HB := n3_
              have BK209 := n4_
              have GW209 := n5_
              have GE209 := n6_
              have NB183_209 := n7_
              have NB209_183 := n8_
              clear n0_ n1_ n2_ n3_ n4_ n5_ n6_ n7_ n8_
              clear hb hbox hg
              refine hK.out _ _ ⟨(blk_cell BK183.out 0).trans rfl, (blk_cell BK183.out 1).trans rfl, (blk_cell BK183.out 2).trans rfl, (blk_cell BK183.out 3).trans rfl, (blk_cell BK183.out 4).trans rfl, ((HB.out.cell (World.block_lt_of_cell? w _ hw207_0)).trans hw207_0), ((HB.out.cell (World.block_lt_of_cell? w _ hw208_0)).trans hw208_0), ((HB.out.cell (World.block_lt_of_cell? w _ hw208_1)).trans hw208_1), ((HB.out.cell (World.block_lt_of_cell? w _ hw208_2)).trans hw208_2), ((HB.out.cell (World.block_lt_of_cell? w _ hw208_3)).trans hw208_3)⟩ (fun hHeld => ?_)
              clear hK K
              refine norm_ (a' := ?_) ?_ ?_
              rotate_left
              ·show Act.put _ (some 16) _ = _
               simp only [Act.put, List.setIfInBounds_toArray, List.set_cons_zero, List.set_cons_succ, i64_w, i32_w]
               rfl
              refine one_ (i := 9) (N := none) #[true, true, true, true, true, true, true, true, true, true] rfl rfl (one_of HT_.out (by kernel_rfl)) (by decide) (fun K hK => ?_)
              have hs37 : w36.cell? ⟨gb209, 0, none⟩ = some (.int .i64 0) := (blk_cell BK209.out 0).trans rfl
              have hfs37 := blk_frozen BK209.out 0
              have hns37_0 := NB183_209.out
              have hms37_0 := NB209_183.out
              have hs38 : w36.cell? ⟨gb209, 1, none⟩ = some (.int .i64 0) := (blk_cell BK209.out 1).trans rfl
              have hfs38 := blk_frozen BK209.out 1
              have hns38_0 := NB183_209.out
              have hms38_0 := NB209_183.out
              have hs39 : w36.cell? ⟨gb209, 2, none⟩ = some (.int .i64 0) := (blk_cell BK209.out 2).trans rfl
              have hfs39 := blk_frozen BK209.out 2
              have hns39_0 := NB183_209.out
              have hms39_0 := NB209_183.out
              have hs40 : w36.cell? ⟨gb209, 3, none⟩ = some (.int .i64 0) := (blk_cell BK209.out 3).trans rfl
              have hfs40 := blk_frozen BK209.out 3
              have hns40_0 := NB183_209.out
              have hms40_0 := NB209_183.out
              refine skip_ (w1 := ?_) (by rfl) rfl ?_ ?_
              rotate_left
              ·go_simp
               rfl
              refine hK.out _ _ ⟨((cell_far (p := ⟨gb209, _, none⟩) NB183_209.out _).trans (((cell_far (p := ⟨gb209, _, none⟩) NB183_209.out _).trans (((cell_far (p := ⟨gb209, _, none⟩) NB183_209.out _).trans (((cell_far (p := ⟨gb209, _, none⟩) NB183_209.out _).trans (hHeld.1)))))))), ((cell_far (p := ⟨gb209, _, none⟩) NB183_209.out _).trans (((cell_far (p := ⟨gb209, _, none⟩) NB183_209.out _).trans (((cell_far (p := ⟨gb209, _, none⟩) NB183_209.out _).trans (((cell_far (p := ⟨gb209, _, none⟩) NB183_209.out _).trans (hHeld.2.1)))))))), ((cell_far (p := ⟨gb209, _, none⟩) NB183_209.out _).trans (((cell_far (p := ⟨gb209, _, none⟩) NB183_209.out _).trans (((cell_far (p := ⟨gb209, _, none⟩) NB183_209.out _).trans (((cell_far (p := ⟨gb209, _, none⟩) NB183_209.out _).trans (hHeld.2.2.1)))))))), ((cell_far (p := ⟨gb209, _, none⟩) NB183_209.out _).trans (((cell_far (p := ⟨gb209, _, none⟩) NB183_209.out _).trans (((cell_far (p := ⟨gb209, _, none⟩) NB183_209.out _).trans (((cell_far (p := ⟨gb209, _, none⟩) NB183_209.out _).trans (hHeld.2.2.2.1)))))))), ((cell_far (p := ⟨gb209, _, none⟩) NB183_209.out _).trans (((cell_far (p := ⟨gb209, _, none⟩) NB183_209.out _).trans (((cell_far (p := ⟨gb209, _, none⟩) NB183_209.out _).trans (((cell_far (p := ⟨gb209, _, none⟩) NB183_209.out _).trans (hHeld.2.2.2.2.1)))))))), ((cell_far (p := ⟨gb209, _, none⟩) (by first | exact Nat.ne_of_lt (Nat.lt_of_lt_of_le (by have := World.block_lt_of_cell? _ _ hw207_0; first | rwa [add_block] at this | exact this) GW209.out) | (rw [add_block]; exact Nat.ne_of_lt (Nat.lt_of_lt_of_le (by have := World.block_lt_of_cell? _ _ hw207_0; first | rwa [add_block] at this | exact this) GW209.out)) | (show (Addr.add _ _).block ≠ _; rw [add_block]; exact Nat.ne_of_lt (Nat.lt_of_lt_of_le (by have := World.block_lt_of_cell? _ _ hw207_0; first | rwa [add_block] at this | exact this) GW209.out)) | (dsimp only; exact Nat.ne_of_lt (Nat.lt_of_lt_of_le (by have := World.block_lt_of_cell? _ _ hw207_0; first | rwa [add_block] at this | exact this) GW209.out))) _).trans (((cell_far (p := ⟨gb209, _, none⟩) (by first | exact Nat.ne_of_lt (Nat.lt_of_lt_of_le (by have := World.block_lt_of_cell? _ _ hw207_0; first | rwa [add_block] at this | exact this) GW209.out) | (rw [add_block]; exact Nat.ne_of_lt (Nat.lt_of_lt_of_le (by have := World.block_lt_of_cell? _ _ hw207_0; first | rwa [add_block] at this | exact this) GW209.out)) | (show (Addr.add _ _).block ≠ _; rw [add_block]; exact Nat.ne_of_lt (Nat.lt_of_lt_of_le (by have := World.block_lt_of_cell? _ _ hw207_0; first | rwa [add_block] at this | exact this) GW209.out)) | (dsimp only; exact Nat.ne_of_lt (Nat.lt_of_lt_of_le (by have := World.block_lt_of_cell? _ _ hw207_0; first | rwa [add_block] at this | exact this) GW209.out))) _).trans (((cell_far (p := ⟨gb209, _, none⟩) (by first | exact Nat.ne_of_lt (Nat.lt_of_lt_of_le (by have := World.block_lt_of_cell? _ _ hw207_0; first | rwa [add_block] at this | exact this) GW209.out) | (rw [add_block]; exact Nat.ne_of_lt (Nat.lt_of_lt_of_le (by have := World.block_lt_of_cell? _ _ hw207_0; first | rwa [add_block] at this | exact this) GW209.out)) | (show (Addr.add _ _).block ≠ _; rw [add_block]; exact Nat.ne_of_lt (Nat.lt_of_lt_of_le (by have := World.block_lt_of_cell? _ _ hw207_0; first | rwa [add_block] at this | exact this) GW209.out)) | (dsimp only; exact Nat.ne_of_lt (Nat.lt_of_lt_of_le (by have := World.block_lt_of_cell? _ _ hw207_0; first | rwa [add_block] at this | exact this) GW209.out))) _).trans (((cell_far (p := ⟨gb209, _, none⟩) (by first | exact Nat.ne_of_lt (Nat.lt_of_lt_of_le (by have := World.block_lt_of_cell? _ _ hw207_0; first | rwa [add_block] at this | exact this) GW209.out) | (rw [add_block]; exact Nat.ne_of_lt (Nat.lt_of_lt_of_le (by have := World.block_lt_of_cell? _ _ hw207_0; first | rwa [add_block] at this | exact this) GW209.out)) | (show (Addr.add _ _).block ≠ _; rw [add_block]; exact Nat.ne_of_lt (Nat.lt_of_lt_of_le (by have := World.block_lt_of_cell? _ _ hw207_0; first | rwa [add_block] at this | exact this) GW209.out)) | (dsimp only; exact Nat.ne_of_lt (Nat.lt_of_lt_of_le (by have := World.block_lt_of_cell? _ _ hw207_0; first | rwa [add_block] at this | exact this) GW209.out))) _).trans (hHeld.2.2.2.2.2.1)))))))), ((cell_far (p := ⟨gb209, _, none⟩) (by first | exact Nat.ne_of_lt (Nat.lt_of_lt_of_le (by have := World.block_lt_of_cell? _ _ hw208_0; first | rwa [add_block] at this | exact this) GW209.out) | (rw [add_block]; exact Nat.ne_of_lt (Nat.lt_of_lt_of_le (by have := World.block_lt_of_cell? _ _ hw208_0; first | rwa [add_block] at this | exact this) GW209.out)) | (show (Addr.add _ _).block ≠ _; rw [add_block]; exact Nat.ne_of_lt (Nat.lt_of_lt_of_le (by have := World.block_lt_of_cell? _ _ hw208_0; first | rwa [add_block] at this | exact this) GW209.out)) | (dsimp only; exact Nat.ne_of_lt (Nat.lt_of_lt_of_le (by have := World.block_lt_of_cell? _ _ hw208_0; first | rwa [add_block] at this | exact this) GW209.out))) _).trans (((cell_far (p := ⟨gb209, _, none⟩) (by first | exact Nat.ne_of_lt (Nat.lt_of_lt_of_le (by have := World.block_lt_of_cell? _ _ hw208_0; first | rwa [add_block] at this | exact this) GW209.out) | (rw [add_block]; exact Nat.ne_of_lt (Nat.lt_of_lt_of_le (by have := World.block_lt_of_cell? _ _ hw208_0; first | rwa [add_block] at this | exact this) GW209.out)) | (show (Addr.add _ _).block ≠ _; rw [add_block]; exact Nat.ne_of_lt (Nat.lt_of_lt_of_le (by have := World.block_lt_of_cell? _ _ hw208_0; first | rwa [add_block] at this | exact this) GW209.out)) | (dsimp only; exact Nat.ne_of_lt (Nat.lt_of_lt_of_le (by have := World.block_lt_of_cell? _ _ hw208_0; first | rwa [add_block] at this | exact this) GW209.out))) _).trans (((cell_far (p := ⟨gb209, _, none⟩) (by first | exact Nat.ne_of_lt (Nat.lt_of_lt_of_le (by have := World.block_lt_of_cell? _ _ hw208_0; first | rwa [add_block] at this | exact this) GW209.out) | (rw [add_block]; exact Nat.ne_of_lt (Nat.lt_of_lt_of_le (by have := World.block_lt_of_cell? _ _ hw208_0; first | rwa [add_block] at this | exact this) GW209.out)) | (show (Addr.add _ _).block ≠ _; rw [add_block]; exact Nat.ne_of_lt (Nat.lt_of_lt_of_le (by have := World.block_lt_of_cell? _ _ hw208_0; first | rwa [add_block] at this | exact this) GW209.out)) | (dsimp only; exact Nat.ne_of_lt (Nat.lt_of_lt_of_le (by have := World.block_lt_of_cell? _ _ hw208_0; first | rwa [add_block] at this | exact this) GW209.out))) _).trans (((cell_far (p := ⟨gb209, _, none⟩) (by first | exact Nat.ne_of_lt (Nat.lt_of_lt_of_le (by have := World.block_lt_of_cell? _ _ hw208_0; first | rwa [add_block] at this | exact this) GW209.out) | (rw [add_block]; exact Nat.ne_of_lt (Nat.lt_of_lt_of_le (by have := World.block_lt_of_cell? _ _ hw208_0; first | rwa [add_block] at this | exact this) GW209.out)) | (show (Addr.add _ _).block ≠ _; rw [add_block]; exact Nat.ne_of_lt (Nat.lt_of_lt_of_le (by have := World.block_lt_of_cell? _ _ hw208_0; first | rwa [add_block] at this | exact this) GW209.out)) | (dsimp only; exact Nat.ne_of_lt (Nat.lt_of_lt_of_le (by have := World.block_lt_of_cell? _ _ hw208_0; first | rwa [add_block] at this | exact this) GW209.out))) _).trans (hHeld.2.2.2.2.2.2.1)))))))), ((cell_far (p := ⟨gb209, _, none⟩) (by first | exact Nat.ne_of_lt (Nat.lt_of_lt_of_le (by have := World.block_lt_of_cell? _ _ hw208_1; first | rwa [add_block] at this | exact this) GW209.out) | (rw [add_block]; exact Nat.ne_of_lt (Nat.lt_of_lt_of_le (by have := World.block_lt_of_cell? _ _ hw208_1; first | rwa [add_block] at this | exact this) GW209.out)) | (show (Addr.add _ _).block ≠ _; rw [add_block]; exact Nat.ne_of_lt (Nat.lt_of_lt_of_le (by have := World.block_lt_of_cell? _ _ hw208_1; first | rwa [add_block] at this | exact this) GW209.out)) | (dsimp only; exact Nat.ne_of_lt (Nat.lt_of_lt_of_le (by have := World.block_lt_of_cell? _ _ hw208_1; first | rwa [add_block] at this | exact this) GW209.out))) _).trans (((cell_far (p := ⟨gb209, _, none⟩) (by first | exact Nat.ne_of_lt (Nat.lt_of_lt_of_le (by have := World.block_lt_of_cell? _ _ hw208_1; first | rwa [add_block] at this | exact this) GW209.out) | (rw [add_block]; exact Nat.ne_of_lt (Nat.lt_of_lt_of_le (by have := World.block_lt_of_cell? _ _ hw208_1; first | rwa [add_block] at this | exact this) GW209.out)) | (show (Addr.add _ _).block ≠ _; rw [add_block]; exact Nat.ne_of_lt (Nat.lt_of_lt_of_le (by have := World.block_lt_of_cell? _ _ hw208_1; first | rwa [add_block] at this | exact this) GW209.out)) | (dsimp only; exact Nat.ne_of_lt (Nat.lt_of_lt_of_le (by have := World.block_lt_of_cell? _ _ hw208_1; first | rwa [add_block] at this | exact this) GW209.out))) _).trans (((cell_far (p := ⟨gb209, _, none⟩) (by first | exact Nat.ne_of_lt (Nat.lt_of_lt_of_le (by have := World.block_lt_of_cell? _ _ hw208_1; first | rwa [add_block] at this | exact this) GW209.out) | (rw [add_block]; exact Nat.ne_of_lt (Nat.lt_of_lt_of_le (by have := World.block_lt_of_cell? _ _ hw208_1; first | rwa [add_block] at this | exact this) GW209.out)) | (show (Addr.add _ _).block ≠ _; rw [add_block]; exact Nat.ne_of_lt (Nat.lt_of_lt_of_le (by have := World.block_lt_of_cell? _ _ hw208_1; first | rwa [add_block] at this | exact this) GW209.out)) | (dsimp only; exact Nat.ne_of_lt (Nat.lt_of_lt_of_le (by have := World.block_lt_of_cell? _ _ hw208_1; first | rwa [add_block] at this | exact this) GW209.out))) _).trans (((cell_far (p := ⟨gb209, _, none⟩) (by first | exact Nat.ne_of_lt (Nat.lt_of_lt_of_le (by have := World.block_lt_of_cell? _ _ hw208_1; first | rwa [add_block] at this | exact this) GW209.out) | (rw [add_block]; exact Nat.ne_of_lt (Nat.lt_of_lt_of_le (by have := World.block_lt_of_cell? _ _ hw208_1; first | rwa [add_block] at this | exact this) GW209.out)) | (show (Addr.add _ _).block ≠ _; rw [add_block]; exact Nat.ne_of_lt (Nat.lt_of_lt_of_le (by have := World.block_lt_of_cell? _ _ hw208_1; first | rwa [add_block] at this | exact this) GW209.out)) | (dsimp only; exact Nat.ne_of_lt (Nat.lt_of_lt_of_le (by have := World.block_lt_of_cell? _ _ hw208_1; first | rwa [add_block] at this | exact this) GW209.out))) _).trans (hHeld.2.2.2.2.2.2.2.1)))))))), ((cell_far (p := ⟨gb209, _, none⟩) (by first | exact Nat.ne_of_lt (Nat.lt_of_lt_of_le (by have := World.block_lt_of_cell? _ _ hw208_2; first | rwa [add_block] at this | exact this) GW209.out) | (rw [add_block]; exact Nat.ne_of_lt (Nat.lt_of_lt_of_le (by have := World.block_lt_of_cell? _ _ hw208_2; first | rwa [add_block] at this | exact this) GW209.out)) | (show (Addr.add _ _).block ≠ _; rw [add_block]; exact Nat.ne_of_lt (Nat.lt_of_lt_of_le (by have := World.block_lt_of_cell? _ _ hw208_2; first | rwa [add_block] at this | exact this) GW209.out)) | (dsimp only; exact Nat.ne_of_lt (Nat.lt_of_lt_of_le (by have := World.block_lt_of_cell? _ _ hw208_2; first | rwa [add_block] at this | exact this) GW209.out))) _).trans (((cell_far (p := ⟨gb209, _, none⟩) (by first | exact Nat.ne_of_lt (Nat.lt_of_lt_of_le (by have := World.block_lt_of_cell? _ _ hw208_2; first | rwa [add_block] at this | exact this) GW209.out) | (rw [add_block]; exact Nat.ne_of_lt (Nat.lt_of_lt_of_le (by have := World.block_lt_of_cell? _ _ hw208_2; first | rwa [add_block] at this | exact this) GW209.out)) | (show (Addr.add _ _).block ≠ _; rw [add_block]; exact Nat.ne_of_lt (Nat.lt_of_lt_of_le (by have := World.block_lt_of_cell? _ _ hw208_2; first | rwa [add_block] at this | exact this) GW209.out)) | (dsimp only; exact Nat.ne_of_lt (Nat.lt_of_lt_of_le (by have := World.block_lt_of_cell? _ _ hw208_2; first | rwa [add_block] at this | exact this) GW209.out))) _).trans (((cell_far (p := ⟨gb209, _, none⟩) (by first | exact Nat.ne_of_lt (Nat.lt_of_lt_of_le (by have := World.block_lt_of_cell? _ _ hw208_2; first | rwa [add_block] at this | exact this) GW209.out) | (rw [add_block]; exact Nat.ne_of_lt (Nat.lt_of_lt_of_le (by have := World.block_lt_of_cell? _ _ hw208_2; first | rwa [add_block] at this | exact this) GW209.out)) | (show (Addr.add _ _).block ≠ _; rw [add_block]; exact Nat.ne_of_lt (Nat.lt_of_lt_of_le (by have := World.block_lt_of_cell? _ _ hw208_2; first | rwa [add_block] at this | exact this) GW209.out)) | (dsimp only; exact Nat.ne_of_lt (Nat.lt_of_lt_of_le (by have := World.block_lt_of_cell? _ _ hw208_2; first | rwa [add_block] at this | exact this) GW209.out))) _).trans (((cell_far (p := ⟨gb209, _, none⟩) (by first | exact Nat.ne_of_lt (Nat.lt_of_lt_of_le (by have := World.block_lt_of_cell? _ _ hw208_2; first | rwa [add_block] at this | exact this) GW209.out) | (rw [add_block]; exact Nat.ne_of_lt (Nat.lt_of_lt_of_le (by have := World.block_lt_of_cell? _ _ hw208_2; first | rwa [add_block] at this | exact this) GW209.out)) | (show (Addr.add _ _).block ≠ _; rw [add_block]; exact Nat.ne_of_lt (Nat.lt_of_lt_of_le (by have := World.block_lt_of_cell? _ _ hw208_2; first | rwa [add_block] at this | exact this) GW209.out)) | (dsimp only; exact Nat.ne_of_lt (Nat.lt_of_lt_of_le (by have := World.block_lt_of_cell? _ _ hw208_2; first | rwa [add_block] at this | exact this) GW209.out))) _).trans (hHeld.2.2.2.2.2.2.2.2.1)))))))), ((cell_far (p := ⟨gb209, _, none⟩) (by first | exact Nat.ne_of_lt (Nat.lt_of_lt_of_le (by have := World.block_lt_of_cell? _ _ hw208_3; first | rwa [add_block] at this | exact this) GW209.out) | (rw [add_block]; exact Nat.ne_of_lt (Nat.lt_of_lt_of_le (by have := World.block_lt_of_cell? _ _ hw208_3; first | rwa [add_block] at this | exact this) GW209.out)) | (show (Addr.add _ _).block ≠ _; rw [add_block]; exact Nat.ne_of_lt (Nat.lt_of_lt_of_le (by have := World.block_lt_of_cell? _ _ hw208_3; first | rwa [add_block] at this | exact this) GW209.out)) | (dsimp only; exact Nat.ne_of_lt (Nat.lt_of_lt_of_le (by have := World.block_lt_of_cell? _ _ hw208_3; first | rwa [add_block] at this | exact this) GW209.out))) _).trans (((cell_far (p := ⟨gb209, _, none⟩) (by first | exact Nat.ne_of_lt (Nat.lt_of_lt_of_le (by have := World.block_lt_of_cell? _ _ hw208_3; first | rwa [add_block] at this | exact this) GW209.out) | (rw [add_block]; exact Nat.ne_of_lt (Nat.lt_of_lt_of_le (by have := World.block_lt_of_cell? _ _ hw208_3; first | rwa [add_block] at this | exact this) GW209.out)) | (show (Addr.add _ _).block ≠ _; rw [add_block]; exact Nat.ne_of_lt (Nat.lt_of_lt_of_le (by have := World.block_lt_of_cell? _ _ hw208_3; first | rwa [add_block] at this | exact this) GW209.out)) | (dsimp only; exact Nat.ne_of_lt (Nat.lt_of_lt_of_le (by have := World.block_lt_of_cell? _ _ hw208_3; first | rwa [add_block] at this | exact this) GW209.out))) _).trans (((cell_far (p := ⟨gb209, _, none⟩) (by first | exact Nat.ne_of_lt (Nat.lt_of_lt_of_le (by have := World.block_lt_of_cell? _ _ hw208_3; first | rwa [add_block] at this | exact this) GW209.out) | (rw [add_block]; exact Nat.ne_of_lt (Nat.lt_of_lt_of_le (by have := World.block_lt_of_cell? _ _ hw208_3; first | rwa [add_block] at this | exact this) GW209.out)) | (show (Addr.add _ _).block ≠ _; rw [add_block]; exact Nat.ne_of_lt (Nat.lt_of_lt_of_le (by have := World.block_lt_of_cell? _ _ hw208_3; first | rwa [add_block] at this | exact this) GW209.out)) | (dsimp only; exact Nat.ne_of_lt (Nat.lt_of_lt_of_le (by have := World.block_lt_of_cell? _ _ hw208_3; first | rwa [add_block] at this | exact this) GW209.out))) _).trans (((cell_far (p := ⟨gb209, _, none⟩) (by first | exact Nat.ne_of_lt (Nat.lt_of_lt_of_le (by have := World.block_lt_of_cell? _ _ hw208_3; first | rwa [add_block] at this | exact this) GW209.out) | (rw [add_block]; exact Nat.ne_of_lt (Nat.lt_of_lt_of_le (by have := World.block_lt_of_cell? _ _ hw208_3; first | rwa [add_block] at this | exact this) GW209.out)) | (show (Addr.add _ _).block ≠ _; rw [add_block]; exact Nat.ne_of_lt (Nat.lt_of_lt_of_le (by have := World.block_lt_of_cell? _ _ hw208_3; first | rwa [add_block] at this | exact this) GW209.out)) | (dsimp only; exact Nat.ne_of_lt (Nat.lt_of_lt_of_le (by have := World.block_lt_of_cell? _ _ hw208_3; first | rwa [add_block] at this | exact this) GW209.out))) _).trans (hHeld.2.2.2.2.2.2.2.2.2))))))))⟩ (fun hHeld => ?_)
              clear hK K
              refine done_ (done_of HT_.out (by kernel_rfl)) ?_
              try go_wp2
              go_loopg [14, 17] k3 (fun kq v14 v17 w' => ∃ (x14_4 : List (S60)) (x17_4 : Int), v17 = .int .i64 x17_4 ∧ Aside0 (spec_l04Order.l5 kq l1 x5_2 t199 t200 x12_1 x13_2 x14_4 x15_3 x17_4 a0_0 a0_1 a0_2 a0_3 l0_4 ((rd_T66 l0_4 (rd l1 x15_3)).f0) ((rd_T66 l0_4 (rd l1 x15_3)).f1) ((rd_T66 l0_4 (rd l1 x15_3)).f2) ((rd_T66 l0_4 (rd l1 x15_3)).f3) = some r) ∧ Aside0 (kq ≤ k3) ∧ Aside0 (Kd.S (Kd.slice 60 k60) 50 w' w.heap.size (fun k_ => some k_ ≠ (v14 : Value).ownBlock) u5 x5_2) ∧ Aside0 (Kd.R k60 60 w' w.heap.size (fun _ => True) v14 x14_4) ∧ Aside0 (w'.heap[gb183]? = some (.cells #[.int .i64 a0_0, .int .i64 a0_1, .int .i64 a0_2, .int .i64 a0_3, (.slice (some ad208) l0_4.length c0_4)] 29 (0, 0))) ∧ Aside0 (w'.heap[gb209]? = some (.cells #[.int .i64 ((rd_T66 l0_4 (rd l1 x15_3)).f0), .int .i64 ((rd_T66 l0_4 (rd l1 x15_3)).f1), .int .i64 ((rd_T66 l0_4 (rd l1 x15_3)).f2), .int .i64 ((rd_T66 l0_4 (rd l1 x15_3)).f3)] 66 (0, 0))) ∧ Aside0 (Below w.heap.size w w'))
              case atStart => exact ⟨(x14_3), (0), (by first | rfl | (simp; done) | (simp [*]; done)), H', ⟨Nat.le_refl _⟩, ⟨by (with_reducible repeat (first | apply Kd.S_alloc | apply Kd.S_drewN | apply Kd.S_drew)); exact Kd.S_mono (Kd.S_far (p := ⟨gb209, 3, none⟩) (Kd.S_far (p := ⟨gb209, 2, none⟩) (Kd.S_far (p := ⟨gb209, 1, none⟩) (Kd.S_far (p := ⟨gb209, 0, none⟩) (Kd.S_types HO_5.out BK209.out (by decide)) (fun _ hk => hk.2) (.int .i64 ((rd_T66 l0_4 (rd l1 x15_3)).f0))) (fun _ hk => hk.2) (.int .i64 ((rd_T66 l0_4 (rd l1 x15_3)).f1))) (fun _ hk => hk.2) (.int .i64 ((rd_T66 l0_4 (rd l1 x15_3)).f2))) (fun _ hk => hk.2) (.int .i64 ((rd_T66 l0_4 (rd l1 x15_3)).f3))) (fun _ hk => hk.1)⟩, ⟨by (with_reducible repeat (first | apply Kd.R_alloc | apply Kd.R_drewN | apply Kd.R_drew)); exact Kd.R_mono (Kd.R_far (p := ⟨gb209, 3, none⟩) (Kd.R_far (p := ⟨gb209, 2, none⟩) (Kd.R_far (p := ⟨gb209, 1, none⟩) (Kd.R_far (p := ⟨gb209, 0, none⟩) (Kd.R_types HO_14.out BK209.out (by decide)) (fun _ hk => hk.2) (.int .i64 ((rd_T66 l0_4 (rd l1 x15_3)).f0))) (fun _ hk => hk.2) (.int .i64 ((rd_T66 l0_4 (rd l1 x15_3)).f1))) (fun _ hk => hk.2) (.int .i64 ((rd_T66 l0_4 (rd l1 x15_3)).f2))) (fun _ hk => hk.2) (.int .i64 ((rd_T66 l0_4 (rd l1 x15_3)).f3))) (fun _ hk => trivial)⟩, ⟨by (with_reducible repeat (first | refine blk_drewN ?_ _ | refine blk_drew ?_ | refine blk_alloc ?_ _)); refine blk_far ?_ NB183_209.out _; (with_reducible repeat (first | refine blk_drewN ?_ _ | refine blk_drew ?_ | refine blk_alloc ?_ _)); refine blk_far ?_ NB183_209.out _; (with_reducible repeat (first | refine blk_drewN ?_ _ | refine blk_drew ?_ | refine blk_alloc ?_ _)); refine blk_far ?_ NB183_209.out _; (with_reducible repeat (first | refine blk_drewN ?_ _ | refine blk_drew ?_ | refine blk_alloc ?_ _)); refine blk_far ?_ NB183_209.out _; (with_reducible repeat (first | refine blk_drewN ?_ _ | refine blk_drew ?_ | refine blk_alloc ?_ _)); exact BK183.out⟩, ⟨by (with_reducible repeat (first | refine blk_drewN ?_ _ | refine blk_drew ?_ | refine blk_alloc ?_ _)); refine blk_put (cs := #[.int .i64 ((rd_T66 l0_4 (rd l1 x15_3)).f0), .int .i64 ((rd_T66 l0_4 (rd l1 x15_3)).f1), .int .i64 ((rd_T66 l0_4 (rd l1 x15_3)).f2), .int .i64 0]) ?_ 3 _ rfl; (with_reducible repeat (first | refine blk_drewN ?_ _ | refine blk_drew ?_ | refine blk_alloc ?_ _)); refine blk_put (cs := #[.int .i64 ((rd_T66 l0_4 (rd l1 x15_3)).f0), .int .i64 ((rd_T66 l0_4 (rd l1 x15_3)).f1), .int .i64 0, .int .i64 0]) ?_ 2 _ rfl; (with_reducible repeat (first | refine blk_drewN ?_ _ | refine blk_drew ?_ | refine blk_alloc ?_ _)); refine blk_put (cs := #[.int .i64 ((rd_T66 l0_4 (rd l1 x15_3)).f0), .int .i64 0, .int .i64 0, .int .i64 0]) ?_ 1 _ rfl; (with_reducible repeat (first | refine blk_drewN ?_ _ | refine blk_drew ?_ | refine blk_alloc ?_ _)); refine blk_put (cs := #[.int .i64 0, .int .i64 0, .int .i64 0, .int .i64 0]) ?_ 0 _ rfl; (with_reducible repeat (first | refine blk_drewN ?_ _ | refine blk_drew ?_ | refine blk_alloc ?_ _)); exact BK209.out⟩, ⟨zT HB.out GE183.out GE209.out⟩⟩
              case round =>
               clear H'
               try clear c1
               try clear p1
               try clear q1
               try clear hx1
               try clear qi1
               try clear c2
               try clear p2
               try clear q2
               try clear hx2
               try clear c3
               try clear c3b0
               try clear c3b1
               try clear c4
               try clear c4b0
               try clear c4b1
               try clear c5
               try clear c6
               try clear p6
               try clear c8
               try clear c12
               try clear c12b0
               try clear c14
               try clear c14b0
               try clear c15
               try clear c15b0
               try clear c15b1
               try clear c16
               try clear p18
               try clear q18
               try clear hx18
               try clear qi18
               try clear p19
               try clear q19
               try clear hx19
               try clear qi19
               try clear p20
               try clear q20
               try clear hx20
               try clear c27
               try clear c27b0
               try clear c28
               try clear c28b0
               try clear c31
               try clear c31b0
               try clear c32
               try clear c32b0
               try clear c33
               try clear c33b0
               try clear c34
               try clear c34b0
               try clear hcz25_0
               try clear hcz25_1
               try clear hcz25_2
               try clear hcz25_3
               try clear hcz25_4
               try clear hfz25_0
               try clear hfz25_1
               try clear hfz25_2
               try clear hfz25_3
               try clear hfz25_4
               try clear hx187_0
               try clear hx192_0
               try clear hx207_0
               try clear hx208_0
               try clear hx208_1
               try clear hx208_2
               try clear hx208_3
               try clear p1
               try clear p18
               try clear p187
               try clear p19
               try clear p192
               try clear p2
               try clear p207
               try clear p208
               try clear p6
               try clear q1
               try clear q18
               try clear q187
               try clear q19
               try clear q192
               try clear q207
               try clear q208
               obtain ⟨x14_4, x17_4, rfl, HA, HK4, HO_5, HO_14, BK183, BK209, HB⟩ := hrel
               cases gk with
               | zero => exact absurd HA.out (by simp [spec_l04Order.l5])
               | succ k4 =>
                have H := HA.out
                clear HA
                simp only [spec_l04Order.l5] at H
                by_cases c41 : x17_4 < ((rd_T66 l0_4 (rd l1 x15_3)).f2)
                ·rw [if_pos c41] at H
                 have c41b0 : decide (x17_4 < ((rd_T66 l0_4 (rd l1 x15_3)).f2)) = true := decide_eq_true c41
                 clear c41
                 have H' := Aside0.mk H
                 clear H
                 have hnb42 := NB209_183.out
                 have hnc42 := NB183_209.out
                 have hcz43_0 : wr.cell? ⟨gb209, 0, none⟩ = some (.int .i64 ((rd_T66 l0_4 (rd l1 x15_3)).f0)) := (blk_cell BK209.out 0).trans rfl
                 have hcz43_1 : wr.cell? ⟨gb209, 1, none⟩ = some (.int .i64 ((rd_T66 l0_4 (rd l1 x15_3)).f1)) := (blk_cell BK209.out 1).trans rfl
                 have hcz43_2 : wr.cell? ⟨gb209, 2, none⟩ = some (.int .i64 ((rd_T66 l0_4 (rd l1 x15_3)).f2)) := (blk_cell BK209.out 2).trans rfl
                 have hcz43_3 : wr.cell? ⟨gb209, 3, none⟩ = some (.int .i64 ((rd_T66 l0_4 (rd l1 x15_3)).f3)) := (blk_cell BK209.out 3).trans rfl
                 have hfz43_0 := blk_frozen BK209.out 0
                 have hfz43_1 := blk_frozen BK209.out 1
                 have hfz43_2 := blk_frozen BK209.out 2
                 have hfz43_3 := blk_frozen BK209.out 3
                 go_wp2
                 go_loopg [14, 18] k4 (fun kq v14 v18 w' => ∃ (x14_5 : List (S60)) (x18_5 : Int), v18 = .int .i64 x18_5 ∧ Aside0 (spec_l04Order.l6 kq l1 x5_2 t199 t200 x12_1 x13_2 x14_5 x15_3 x17_4 x18_5 a0_0 a0_1 a0_2 a0_3 l0_4 ((rd_T66 l0_4 (rd l1 x15_3)).f0) ((rd_T66 l0_4 (rd l1 x15_3)).f1) ((rd_T66 l0_4 (rd l1 x15_3)).f2) ((rd_T66 l0_4 (rd l1 x15_3)).f3) = some r) ∧ Aside0 (kq ≤ k4) ∧ Aside0 (Kd.S (Kd.slice 60 k60) 50 w' w.heap.size (fun k_ => some k_ ≠ (v14 : Value).ownBlock) u5 x5_2) ∧ Aside0 (Kd.R k60 60 w' w.heap.size (fun _ => True) v14 x14_5) ∧ Aside0 (w'.heap[gb183]? = some (.cells #[.int .i64 a0_0, .int .i64 a0_1, .int .i64 a0_2, .int .i64 a0_3, (.slice (some ad208) l0_4.length c0_4)] 29 (0, 0))) ∧ Aside0 (w'.heap[gb209]? = some (.cells #[.int .i64 ((rd_T66 l0_4 (rd l1 x15_3)).f0), .int .i64 ((rd_T66 l0_4 (rd l1 x15_3)).f1), .int .i64 ((rd_T66 l0_4 (rd l1 x15_3)).f2), .int .i64 ((rd_T66 l0_4 (rd l1 x15_3)).f3)] 66 (0, 0))) ∧ Aside0 (Below w.heap.size w w'))
                 case atStart => exact ⟨(x14_4), (0), (by first | rfl | (simp; done) | (simp [*]; done)), H', ⟨Nat.le_refl _⟩, ⟨by (with_reducible repeat (first | apply Kd.S_alloc | apply Kd.S_drewN | apply Kd.S_drew)); exact HO_5.out⟩, ⟨by (with_reducible repeat (first | apply Kd.R_alloc | apply Kd.R_drewN | apply Kd.R_drew)); exact HO_14.out⟩, ⟨by (with_reducible repeat (first | refine blk_drewN ?_ _ | refine blk_drew ?_ | refine blk_alloc ?_ _)); exact BK183.out⟩, ⟨by (with_reducible repeat (first | refine blk_drewN ?_ _ | refine blk_drew ?_ | refine blk_alloc ?_ _)); exact BK209.out⟩, ⟨zT HB.out GE183.out GE209.out⟩⟩
                 case round =>
                  clear H'
                  try clear c1
                  try clear p1
                  try clear q1
                  try clear hx1
                  try clear qi1
                  try clear c2
                  try clear p2
                  try clear q2
                  try clear hx2
                  try clear c3
                  try clear c3b0
                  try clear c3b1
                  try clear c4
                  try clear c4b0
                  try clear c4b1
                  try clear c5
                  try clear c6
                  try clear p6
                  try clear c8
                  try clear c12
                  try clear c12b0
                  try clear c14
                  try clear c14b0
                  try clear c15
                  try clear c15b0
                  try clear c15b1
                  try clear c16
                  try clear p18
                  try clear q18
                  try clear hx18
                  try clear qi18
                  try clear p19
                  try clear q19
                  try clear hx19
                  try clear qi19
                  try clear p20
                  try clear q20
                  try clear hx20
                  try clear c27
                  try clear c27b0
                  try clear c28
                  try clear c28b0
                  try clear c31
                  try clear c31b0
                  try clear c32
                  try clear c32b0
                  try clear c33
                  try clear c33b0
                  try clear c34
                  try clear c34b0
                  try clear c41
                  try clear c41b0
                  try clear c42
                  try clear hcz25_0
                  try clear hcz25_1
                  try clear hcz25_2
                  try clear hcz25_3
                  try clear hcz25_4
                  try clear hcz43_0
                  try clear hcz43_1
                  try clear hcz43_2
                  try clear hcz43_3
                  try clear hfz25_0
                  try clear hfz25_1
                  try clear hfz25_2
                  try clear hfz25_3
                  try clear hfz25_4
                  try clear hfz43_0
                  try clear hfz43_1
                  try clear hfz43_2
                  try clear hfz43_3
                  try clear hx187_0
                  try clear hx192_0
                  try clear hx207_0
                  try clear hx208_0
                  try clear hx208_1
                  try clear hx208_2
                  try clear hx208_3
                  try clear p1
                  try clear p18
                  try clear p187
                  try clear p19
                  try clear p192
                  try clear p2
                  try clear p20
                  try clear p207
                  try clear p208
                  try clear p6
                  try clear q1
                  try clear q18
                  try clear q187
                  try clear q19
                  try clear q192
                  try clear q2
                  try clear q20
                  try clear q207
                  try clear q208
                  obtain ⟨x14_5, x18_5, rfl, HA, HK5, HO_5, HO_14, BK183, BK209, HB⟩ := hrel
                  cases gk with
                  | zero => exact absurd HA.out (by simp [spec_l04Order.l6])
                  | succ k5 =>
                   have H := HA.out
                   clear HA
                   simp only [spec_l04Order.l6] at H
                   by_cases c44 : x18_5 < ((rd_T66 l0_4 (rd l1 x15_3)).f1)
                   ·rw [if_pos c44] at H
                    have c44b0 : decide (x18_5 < ((rd_T66 l0_4 (rd l1 x15_3)).f1)) = true := decide_eq_true c44
                    clear c44
                    by_cases c45 : 0 ≤ x15_3
                    ·rw [if_pos c45] at H
                     have c45b0 : decide (0 ≤ x15_3) = true := decide_eq_true c45
                     clear c45
                     by_cases c46 : x15_3 < (l1.length : Int)
                     ·rw [if_pos c46] at H
                      have c46b0 : decide (x15_3 < (l1.length : Int)) = true := decide_eq_true c46
                      clear c46
                      by_cases c47 : x14_5.length < 5864062014805
                      ·rw [if_pos c47] at H
                       have LMc47 := Aside0.mk c47
                       clear c47
                       obtain ⟨y211, hy211⟩ : ∃ y_ : List (S60), y_ = (x14_5 ++ [(⟨rd l1 x15_3, wrap64 ((wrap64 (x12_1 * ((rd_T66 l0_4 (rd l1 x15_3)).f2))) + x17_4), wrap64 ((wrap64 (x13_2 * ((rd_T66 l0_4 (rd l1 x15_3)).f1))) + x18_5)⟩ : S60)]) := ⟨_, rfl⟩
                       replace H : (spec_l04Order.l6 k5 l1 x5_2 t199 t200 x12_1 x13_2 y211 x15_3 x17_4 (wrap64 (x18_5 + 1)) a0_0 a0_1 a0_2 a0_3 l0_4 ((rd_T66 l0_4 (rd l1 x15_3)).f0) ((rd_T66 l0_4 (rd l1 x15_3)).f1) ((rd_T66 l0_4 (rd l1 x15_3)).f2) ((rd_T66 l0_4 (rd l1 x15_3)).f3)) = some r := by first | (rw [hy211]; with_reducible exact H) | (have H2_ := (Option.bind_some _ _).symm.trans H; rw [hy211]; with_reducible exact H2_) | (have H2_ := (Option.bind_some _ _).symm.trans H; with_reducible exact H2_) | with_reducible exact H | (rw [hy211]; exact H) | exact H
                       have Ny211 := Aside0.mk hy211
                       clear hy211
                       have H' := Aside0.mk H
                       clear H
                       have hnb48 := NB209_183.out
                       have hnc48 := NB183_209.out
                       have hcz49_0 : wr.cell? ⟨gb209, 0, none⟩ = some (.int .i64 ((rd_T66 l0_4 (rd l1 x15_3)).f0)) := (blk_cell BK209.out 0).trans rfl
                       have hcz49_1 : wr.cell? ⟨gb209, 1, none⟩ = some (.int .i64 ((rd_T66 l0_4 (rd l1 x15_3)).f1)) := (blk_cell BK209.out 1).trans rfl
                       have hcz49_2 : wr.cell? ⟨gb209, 2, none⟩ = some (.int .i64 ((rd_T66 l0_4 (rd l1 x15_3)).f2)) := (blk_cell BK209.out 2).trans rfl
                       have hcz49_3 : wr.cell? ⟨gb209, 3, none⟩ = some (.int .i64 ((rd_T66 l0_4 (rd l1 x15_3)).f3)) := (blk_cell BK209.out 3).trans rfl
                       have hfz49_0 := blk_frozen BK209.out 0
                       have hfz49_1 := blk_frozen BK209.out 1
                       have hfz49_2 := blk_frozen BK209.out 2
                       have hfz49_3 := blk_frozen BK209.out 3
                       try go_wp2
                       have n0_ := Aside0.mk (Kd.S_drew HO_5.out)
                       have n1_ := Aside0.mk (Kd.R_drew HO_14.out)
                       have n2_ := Aside0.mk (blk_drew BK183.out)
                       have n3_ := Aside0.mk (blk_drew BK209.out)
                       have n4_ := Aside0.mk (below_drew1 HB.out)
                       clear HO_5
                       clear HO_14
                       clear BK183
                       clear BK209
                       clear HB
                       have HO_5 := n0_
                       have HO_14 := n1_
                       have BK183 := n2_
                       have BK209 := n3_
                       have HB := n4_
                       clear n0_ n1_ n2_ n3_ n4_
                       have p210 : 0 ≤ (x15_3 : Int) := of_decide_eq_true (by first | (with_reducible assumption) | assumption)
                       have q210 : x15_3 < (l1.length : Int) := of_decide_eq_true (by first | (with_reducible assumption) | assumption)
                       obtain ⟨ad210, e210, hx210_0⟩ := Kd.at_int HR1.out x15_3 p210 q210
                       have hw210_0 := hx210_0
                       obtain rfl : ad207 = ad210 := (by injection e210)
                       replace hx210_0 := (HB.out.cell (World.block_lt_of_cell? w _ hx210_0)).trans hx210_0
                       replace p210 := eq_true p210
                       replace q210 := eq_true q210
                       refine start_ (n := 21) (S := fun w' => w'.cell? ⟨gb209, 0, none⟩ = some (.int .i64 ((rd_T66 l0_4 (rd l1 x15_3)).f0)) ∧ w'.cell? ⟨gb209, 1, none⟩ = some (.int .i64 ((rd_T66 l0_4 (rd l1 x15_3)).f1)) ∧ w'.cell? ⟨gb209, 2, none⟩ = some (.int .i64 ((rd_T66 l0_4 (rd l1 x15_3)).f2)) ∧ w'.cell? ⟨gb209, 3, none⟩ = some (.int .i64 ((rd_T66 l0_4 (rd l1 x15_3)).f3)) ∧ w'.cell? (ad207.add (x15_3).toNat) = some (.int .i64 (rd l1 x15_3))) (ds := []) #[false, false, false, false, false, false, false, false, false, false, false, false, false, false, false, false, false, false, false, false, false] (by kernel_rfl) rfl rfl ⟨(blk_cell BK209.out 0).trans rfl, (blk_cell BK209.out 1).trans rfl, (blk_cell BK209.out 2).trans rfl, (blk_cell BK209.out 3).trans rfl, ((HB.out.cell (World.block_lt_of_cell? w _ hw210_0)).trans hw210_0)⟩ (fun hHeld => ?_); refine with_tabW spec_l04Order.tab30 spec_l04Order.bits30 (fun HT_ HW_ => ?_)
                       generalize wr.drew = w50 at HO_5 HO_14 BK183 BK209 HB hx210_0 hHeld ⊢
                       refine pure_ (i := 0) (N := some 96) (v := ?_) (a' := ?_) #[true, false, false, false, false, false, false, false, false, false, false, false, false, false, false, false, false, false, false, false, false] rfl rfl (any_of HT_.out (by kernel_rfl)) (fun _ _ _ h => h) (Or.inl ⟨by rfl, ?_⟩) ?_ ?_
                       rotate_left
                       ·intro w'
                        go_simp
                        with_reducible rfl
                       rotate_left
                       ·simp only [Act.put, List.setIfInBounds_toArray, List.set_cons_zero, List.set_cons_succ, i64_w, i32_w]
                        rfl
                       refine pure_ (i := 1) (N := some 97) (v := ?_) (a' := ?_) #[true, true, false, false, false, false, false, false, false, false, false, false, false, false, false, false, false, false, false, false, false] rfl rfl (any_of HT_.out (by kernel_rfl)) (fun _ _ _ h => h) (Or.inl ⟨by rfl, ?_⟩) ?_ ?_
                       rotate_left
                       ·intro w'
                        go_simp
                        with_reducible rfl
                       rotate_left
                       ·simp only [Act.put, List.setIfInBounds_toArray, List.set_cons_zero, List.set_cons_succ, i64_w, i32_w]
                        rfl
                       refine pure_ (i := 2) (N := some 98) (v := ?_) (a' := ?_) #[true, true, true, false, false, false, false, false, false, false, false, false, false, false, false, false, false, false, false, false, false] rfl rfl (any_of HT_.out (by kernel_rfl)) (fun _ _ _ h => h) (Or.inl ⟨by rfl, ?_⟩) ?_ ?_
                       rotate_left
                       ·intro w'
                        go_simp
                        with_reducible rfl
                       rotate_left
                       ·simp only [Act.put, List.setIfInBounds_toArray, List.set_cons_zero, List.set_cons_succ, i64_w, i32_w]
                        rfl
                       refine pure_ (i := 3) (N := some 99) (v := ?_) (a' := ?_) #[true, true, true, true, false, false, false, false, false, false, false, false, false, false, false, false, false, false, false, false, false] rfl rfl (any_of HT_.out (by kernel_rfl)) (fun _ _ _ h => h) (Or.inl ⟨by rfl, ?_⟩) ?_ ?_
                       rotate_left
                       ·intro w'
                        go_simp
                        with_reducible rfl
                       rotate_left
                       ·simp only [Act.put, List.setIfInBounds_toArray, List.set_cons_zero, List.set_cons_succ, i64_w, i32_w]
                        rfl
                       refine pure_ (i := 5) (N := some 101) (v := ?_) (a' := ?_) #[true, true, true, true, false, true, false, false, false, false, false, false, false, false, false, false, false, false, false, false, false] rfl rfl (any_of HT_.out (by kernel_rfl)) (fun _ _ _ h => h) (Or.inl ⟨by rfl, ?_⟩) ?_ ?_
                       rotate_left
                       ·intro w'
                        go_simp
                        with_reducible rfl
                       rotate_left
                       ·simp only [Act.put, List.setIfInBounds_toArray, List.set_cons_zero, List.set_cons_succ, i64_w, i32_w]
                        rfl
                       refine pure_ (i := 6) (N := some 102) (v := ?_) (a' := ?_) #[true, true, true, true, false, true, true, false, false, false, false, false, false, false, false, false, false, false, false, false, false] rfl rfl (any_of HT_.out (by kernel_rfl)) (fun _ _ _ h => h) (Or.inl ⟨by rfl, ?_⟩) ?_ ?_
                       rotate_left
                       ·intro w'
                        go_simp
                        with_reducible rfl
                       rotate_left
                       ·simp only [Act.put, List.setIfInBounds_toArray, List.set_cons_zero, List.set_cons_succ, i64_w, i32_w]
                        rfl
                       refine pure_ (i := 9) (N := some 105) (v := ?_) (a' := ?_) #[true, true, true, true, false, true, true, false, false, true, false, false, false, false, false, false, false, false, false, false, false] rfl rfl (any_of HT_.out (by kernel_rfl)) (fun _ _ _ h => h) (Or.inl ⟨by rfl, ?_⟩) ?_ ?_
                       rotate_left
                       ·intro w'
                        go_simp
                        with_reducible rfl
                       rotate_left
                       ·simp only [Act.put, List.setIfInBounds_toArray, List.set_cons_zero, List.set_cons_succ, i64_w, i32_w]
                        rfl
                       refine pure_ (i := 11) (N := some 107) (v := ?_) (a' := ?_) #[true, true, true, true, false, true, true, false, false, true, false, true, false, false, false, false, false, false, false, false, false] rfl rfl (any_of HT_.out (by kernel_rfl)) (fun _ _ _ h => h) (Or.inl ⟨by rfl, ?_⟩) ?_ ?_
                       rotate_left
                       ·intro w'
                        go_simp
                        with_reducible rfl
                       rotate_left
                       ·simp only [Act.put, List.setIfInBounds_toArray, List.set_cons_zero, List.set_cons_succ, i64_w, i32_w]
                        rfl
                       refine pure_ (i := 12) (N := some 108) (v := ?_) (a' := ?_) #[true, true, true, true, false, true, true, false, false, true, false, true, true, false, false, false, false, false, false, false, false] rfl rfl (any_of HT_.out (by kernel_rfl)) (fun _ _ _ h => h) (Or.inl ⟨by rfl, ?_⟩) ?_ ?_
                       rotate_left
                       ·intro w'
                        go_simp
                        with_reducible rfl
                       rotate_left
                       ·simp only [Act.put, List.setIfInBounds_toArray, List.set_cons_zero, List.set_cons_succ, i64_w, i32_w]
                        rfl
                       refine pure_ (i := 15) (N := some 111) (v := ?_) (a' := ?_) #[true, true, true, true, false, true, true, false, false, true, false, true, true, false, false, true, false, false, false, false, false] rfl rfl (any_of HT_.out (by kernel_rfl)) (fun _ _ _ h => h) (Or.inl ⟨by rfl, ?_⟩) ?_ ?_
                       rotate_left
                       ·intro w'
                        go_simp
                        with_reducible rfl
                       rotate_left
                       ·simp only [Act.put, List.setIfInBounds_toArray, List.set_cons_zero, List.set_cons_succ, i64_w, i32_w]
                        rfl
                       refine take_ (i := 4) (N := some 100) (v := ?_) (a' := ?_) #[true, true, true, true, true, true, true, false, false, true, false, true, true, false, false, true, false, false, false, false, false] rfl rfl (take_ofW HT_.out HW_.out (by kernel_rfl)) (fun _ _ _ h => h) (Or.inl ⟨by rfl, ?_⟩) hHeld ?_ ?_
                       rotate_left
                       ·rintro w' ⟨s0, s1, s2, s3, s4⟩
                        go_simp
                        with_reducible rfl
                       rotate_left
                       ·simp only [Act.put, List.setIfInBounds_toArray, List.set_cons_zero, List.set_cons_succ, i64_w, i32_w]
                        rfl
                       refine take_ (i := 7) (N := some 103) (v := ?_) (a' := ?_) #[true, true, true, true, true, true, true, true, false, true, false, true, true, false, false, true, false, false, false, false, false] rfl rfl (take_ofW HT_.out HW_.out (by kernel_rfl)) (fun _ _ _ h => h) (Or.inl ⟨by rfl, ?_⟩) hHeld ?_ ?_
                       rotate_left
                       ·rintro w' ⟨s0, s1, s2, s3, s4⟩
                        go_simp
                        with_reducible rfl
                       rotate_left
                       ·simp only [Act.put, List.setIfInBounds_toArray, List.set_cons_zero, List.set_cons_succ, i64_w, i32_w]
                        rfl
                       refine pure_ (i := 8) (N := some 104) (v := ?_) (a' := ?_) #[true, true, true, true, true, true, true, true, true, true, false, true, true, false, false, true, false, false, false, false, false] rfl rfl (any_of HT_.out (by kernel_rfl)) (fun _ _ _ h => h) (Or.inl ⟨by rfl, ?_⟩) ?_ ?_
                       rotate_left
                       ·intro w'
                        go_simp
                        with_reducible rfl
                       rotate_left
                       ·simp only [Act.put, List.setIfInBounds_toArray, List.set_cons_zero, List.set_cons_succ, i64_w, i32_w]
                        rfl
                       refine pure_ (i := 10) (N := some 106) (v := ?_) (a' := ?_) #[true, true, true, true, true, true, true, true, true, true, true, true, true, false, false, true, false, false, false, false, false] rfl rfl (any_of HT_.out (by kernel_rfl)) (fun _ _ _ h => h) (Or.inl ⟨by rfl, ?_⟩) ?_ ?_
                       rotate_left
                       ·intro w'
                        go_simp
                        with_reducible rfl
                       rotate_left
                       ·simp only [Act.put, List.setIfInBounds_toArray, List.set_cons_zero, List.set_cons_succ, i64_w, i32_w]
                        rfl
                       refine take_ (i := 13) (N := some 109) (v := ?_) (a' := ?_) #[true, true, true, true, true, true, true, true, true, true, true, true, true, true, false, true, false, false, false, false, false] rfl rfl (take_ofW HT_.out HW_.out (by kernel_rfl)) (fun _ _ _ h => h) (Or.inl ⟨by rfl, ?_⟩) hHeld ?_ ?_
                       rotate_left
                       ·rintro w' ⟨s0, s1, s2, s3, s4⟩
                        go_simp
                        with_reducible rfl
                       rotate_left
                       ·simp only [Act.put, List.setIfInBounds_toArray, List.set_cons_zero, List.set_cons_succ, i64_w, i32_w]
                        rfl
                       refine pure_ (i := 14) (N := some 110) (v := ?_) (a' := ?_) #[true, true, true, true, true, true, true, true, true, true, true, true, true, true, true, true, false, false, false, false, false] rfl rfl (any_of HT_.out (by kernel_rfl)) (fun _ _ _ h => h) (Or.inl ⟨by rfl, ?_⟩) ?_ ?_
                       rotate_left
                       ·intro w'
                        go_simp
                        with_reducible rfl
                       rotate_left
                       ·simp only [Act.put, List.setIfInBounds_toArray, List.set_cons_zero, List.set_cons_succ, i64_w, i32_w]
                        rfl
                       refine pure_ (i := 16) (N := some 112) (v := ?_) (a' := ?_) #[true, true, true, true, true, true, true, true, true, true, true, true, true, true, true, true, true, false, false, false, false] rfl rfl (any_of HT_.out (by kernel_rfl)) (fun _ _ _ h => h) (Or.inl ⟨by rfl, ?_⟩) ?_ ?_
                       rotate_left
                       ·intro w'
                        go_simp
                        with_reducible rfl
                       rotate_left
                       ·simp only [Act.put, List.setIfInBounds_toArray, List.set_cons_zero, List.set_cons_succ, i64_w, i32_w]
                        rfl
                       refine pure_ (i := 17) (N := some 113) (v := ?_) (a' := ?_) #[true, true, true, true, true, true, true, true, true, true, true, true, true, true, true, true, true, true, false, false, false] rfl rfl (any_of HT_.out (by kernel_rfl)) (fun _ _ _ h => h) (Or.inl ⟨by rfl, ?_⟩) ?_ ?_
                       rotate_left
                       ·intro w'
                        go_simp
                        with_reducible rfl
                       rotate_left
                       ·simp only [Act.put, List.setIfInBounds_toArray, List.set_cons_zero, List.set_cons_succ, i64_w, i32_w]
                        rfl
                       refine one_ (i := 18) (N := some 114) #[true, true, true, true, true, true, true, true, true, true, true, true, true, true, true, true, true, true, true, false, false] rfl rfl (one_of HT_.out (by kernel_rfl)) (by decide) (fun K hK => ?_)
                       refine value_ (w1 := ?_) (v := ?_) (by rfl) rfl ?_ ?_
                       rotate_left 2
                       ·go_simp
                        constructor
                        ·rfl
                        ·rfl
                       refine hK.out _ _ ⟨(blk_cell (blk_alloc BK209.out _) 0).trans rfl, (blk_cell (blk_alloc BK209.out _) 1).trans rfl, (blk_cell (blk_alloc BK209.out _) 2).trans rfl, (blk_cell (blk_alloc BK209.out _) 3).trans rfl, (World.cell?_alloc_lt _ _ _ (World.block_lt_of_cell? _ _ (((HB.out.cell (World.block_lt_of_cell? w _ hw210_0)).trans hw210_0)))).trans (((HB.out.cell (World.block_lt_of_cell? w _ hw210_0)).trans hw210_0))⟩ (fun hHeld => ?_)
                       clear hK K
                       refine norm_ (a' := ?_) ?_ ?_
                       rotate_left
                       ·show Act.put _ (some 114) _ = _
                        simp only [Act.put, List.setIfInBounds_toArray, List.set_cons_zero, List.set_cons_succ, i64_w, i32_w]
                        rfl
                       refine one_ (i := 19) (N := some 115) #[true, true, true, true, true, true, true, true, true, true, true, true, true, true, true, true, true, true, true, true, false] rfl rfl (one_of HT_.out (by kernel_rfl)) (by decide) (fun K hK => ?_)
                       refine Kd.R_append_step k60 (w0 := w) w.heap.size (by rfl) (.tmp 96) (.tmp 114) 50 60 (.agg #[(.int .i64 0), (.int .i64 0), (.int .i64 0)]) 24 rfl Try.underlying50 info60 rfl (by decide) (by omega) u14 x14_5 (⟨rd l1 x15_3, wrap64 ((wrap64 (x12_1 * ((rd_T66 l0_4 (rd l1 x15_3)).f2))) + x17_4), wrap64 ((wrap64 (x13_2 * ((rd_T66 l0_4 (rd l1 x15_3)).f1))) + x18_5)⟩ : S60) [.int .i64 (rd l1 x15_3), .int .i64 (wrap64 ((wrap64 (x12_1 * ((rd_T66 l0_4 (rd l1 x15_3)).f2))) + x17_4)), .int .i64 (wrap64 ((wrap64 (x13_2 * ((rd_T66 l0_4 (rd l1 x15_3)).f1))) + x18_5))] (fun _ => True) (fun _ => False) rfl rfl ?aP (fun _ hk => hk.elim) ?aF ?aO ?aB ?aS ?aL ?_
                       (case aP => exact k60_mkM _ _ _ (⟨rd l1 x15_3, wrap64 ((wrap64 (x12_1 * ((rd_T66 l0_4 (rd l1 x15_3)).f2))) + x17_4), wrap64 ((wrap64 (x13_2 * ((rd_T66 l0_4 (rd l1 x15_3)).f1))) + x18_5)⟩ : S60))
                       (case aB => exact (zT HB.out GE183.out GE209.out))
                       (case aF => exact (fun _ _ => trivial))
                       (case aO => exact (zR HO_14.out))
                       (case aS => exact (below_size (zT HB.out GE183.out GE209.out)))
                       (case aL => have := LMc47.out; omega)
                       intro v212 w51 ho hb hg hat
                       rw [← Ny211.out] at ho
                       have n0_ := Aside0.mk (Kd.S_after (ok := (fun _ => True)) (by (with_reducible repeat (first | apply Kd.S_alloc | apply Kd.S_drewN | apply Kd.S_drew)); exact Kd.S_mono HO_5.out (fun _ hk => ⟨trivial, hk⟩)) hg hat)
                       have n1_ := Aside0.mk (blk_grown (g := gb183) (o := .cells #[.int .i64 a0_0, .int .i64 a0_1, .int .i64 a0_2, .int .i64 a0_3, .slice (some ad208) l0_4.length c0_4] 29 (0, 0)) (zK BK183.out) hg (Kd.R_ne HO_14.out BK183.out (by decide)))
                       have n2_ := Aside0.mk (blk_grown (g := gb209) (o := .cells #[.int .i64 ((rd_T66 l0_4 (rd l1 x15_3)).f0), .int .i64 ((rd_T66 l0_4 (rd l1 x15_3)).f1), .int .i64 ((rd_T66 l0_4 (rd l1 x15_3)).f2), .int .i64 ((rd_T66 l0_4 (rd l1 x15_3)).f3)] 66 (0, 0)) (zK BK209.out) hg (Kd.R_ne HO_14.out BK209.out (by decide)))
                       have n3_ := Aside0.mk (hb)
                       have n4_ := Aside0.mk (ho)
                       clear HO_5
                       clear BK183
                       clear BK209
                       clear HB
                       clear HO_14
                       have HO_5 := n0_
                       have BK183 := n1_
                       have BK209 := n2_
                       have HB := n3_
                       have HO213 := n4_
                       clear n0_ n1_ n2_ n3_ n4_
                       clear ho hb hg hat
                       refine hK.out _ _ ⟨(blk_cell BK209.out 0).trans rfl, (blk_cell BK209.out 1).trans rfl, (blk_cell BK209.out 2).trans rfl, (blk_cell BK209.out 3).trans rfl, ((HB.out.cell (World.block_lt_of_cell? w _ hw210_0)).trans hw210_0)⟩ (fun hHeld => ?_)
                       clear hK K
                       refine norm_ (a' := ?_) ?_ ?_
                       rotate_left
                       ·show Act.put _ (some 115) _ = _
                        simp only [Act.put, List.setIfInBounds_toArray, List.set_cons_zero, List.set_cons_succ, i64_w, i32_w]
                        rfl
                       refine pure_ (i := 20) (N := some 14) (v := ?_) (a' := ?_) #[true, true, true, true, true, true, true, true, true, true, true, true, true, true, true, true, true, true, true, true, true] rfl rfl (any_of HT_.out (by kernel_rfl)) (fun _ _ _ h => h) (Or.inl ⟨by rfl, ?_⟩) ?_ ?_
                       rotate_left
                       ·intro w'
                        go_simp
                        with_reducible rfl
                       rotate_left
                       ·simp only [Act.put, List.setIfInBounds_toArray, List.set_cons_zero, List.set_cons_succ, i64_w, i32_w]
                        rfl
                       refine done_ (done_of HT_.out (by kernel_rfl)) ?_
                       try go_wp2
                       go_roundg k5
                       case measure => have := HK1.out; have := HK2.out; have := HK3.out; have := HK4.out; have := HK5.out; omega
                       case rel => exact ⟨(y211), (wrap64 (x18_5 + 1)), (by first | rfl | (simp; done) | (simp [*]; done)), H', ⟨by have := HK1.out; have := HK2.out; have := HK3.out; have := HK4.out; have := HK5.out; omega⟩, ⟨by (with_reducible repeat (first | apply Kd.S_alloc | apply Kd.S_drewN | apply Kd.S_drew)); exact Kd.S_mono HO_5.out (fun _ hk => hk.2)⟩, ⟨by (with_reducible repeat (first | apply Kd.R_alloc | apply Kd.R_drewN | apply Kd.R_drew)); exact HO213.out⟩, ⟨by (with_reducible repeat (first | refine blk_drewN ?_ _ | refine blk_drew ?_ | refine blk_alloc ?_ _)); exact BK183.out⟩, ⟨by (with_reducible repeat (first | refine blk_drewN ?_ _ | refine blk_drew ?_ | refine blk_alloc ?_ _)); exact BK209.out⟩, ⟨zT HB.out GE183.out GE209.out⟩⟩
                      ·rw [if_neg c47] at H
                       exact absurd H (by simp)
                     ·rw [if_neg c46] at H
                      exact absurd H (by simp)
                    ·rw [if_neg c45] at H
                     exact absurd H (by simp)
                   ·rw [if_neg c44] at H
                    have c44b0 : decide (x18_5 < ((rd_T66 l0_4 (rd l1 x15_3)).f1)) = false := decide_eq_false c44
                    clear c44
                    have H' := Aside0.mk H
                    clear H
                    have hnb52 := NB209_183.out
                    have hnc52 := NB183_209.out
                    have hcz53_0 : wr.cell? ⟨gb209, 0, none⟩ = some (.int .i64 ((rd_T66 l0_4 (rd l1 x15_3)).f0)) := (blk_cell BK209.out 0).trans rfl
                    have hcz53_1 : wr.cell? ⟨gb209, 1, none⟩ = some (.int .i64 ((rd_T66 l0_4 (rd l1 x15_3)).f1)) := (blk_cell BK209.out 1).trans rfl
                    have hcz53_2 : wr.cell? ⟨gb209, 2, none⟩ = some (.int .i64 ((rd_T66 l0_4 (rd l1 x15_3)).f2)) := (blk_cell BK209.out 2).trans rfl
                    have hcz53_3 : wr.cell? ⟨gb209, 3, none⟩ = some (.int .i64 ((rd_T66 l0_4 (rd l1 x15_3)).f3)) := (blk_cell BK209.out 3).trans rfl
                    have hfz53_0 := blk_frozen BK209.out 0
                    have hfz53_1 := blk_frozen BK209.out 1
                    have hfz53_2 := blk_frozen BK209.out 2
                    have hfz53_3 := blk_frozen BK209.out 3
                    go_wp2
                    go_roundg k5
                    case measure => have := HK1.out; have := HK2.out; have := HK3.out; have := HK4.out; have := HK5.out; omega
                    case rel => exact ⟨(x14_5), (wrap64 (x17_4 + 1)), (by first | rfl | (simp; done) | (simp [*]; done)), H', ⟨by have := HK1.out; have := HK2.out; have := HK3.out; have := HK4.out; have := HK5.out; omega⟩, ⟨by (with_reducible repeat (first | apply Kd.S_alloc | apply Kd.S_drewN | apply Kd.S_drew)); exact HO_5.out⟩, ⟨by (with_reducible repeat (first | apply Kd.R_alloc | apply Kd.R_drewN | apply Kd.R_drew)); exact HO_14.out⟩, ⟨by (with_reducible repeat (first | refine blk_drewN ?_ _ | refine blk_drew ?_ | refine blk_alloc ?_ _)); exact BK183.out⟩, ⟨by (with_reducible repeat (first | refine blk_drewN ?_ _ | refine blk_drew ?_ | refine blk_alloc ?_ _)); exact BK209.out⟩, ⟨zT HB.out GE183.out GE209.out⟩⟩
                ·rw [if_neg c41] at H
                 have c41b0 : decide (x17_4 < ((rd_T66 l0_4 (rd l1 x15_3)).f2)) = false := decide_eq_false c41
                 clear c41
                 have H' := Aside0.mk H
                 clear H
                 have hnb54 := NB209_183.out
                 have hnc54 := NB183_209.out
                 have hcz55_0 : wr.cell? ⟨gb209, 0, none⟩ = some (.int .i64 ((rd_T66 l0_4 (rd l1 x15_3)).f0)) := (blk_cell BK209.out 0).trans rfl
                 have hcz55_1 : wr.cell? ⟨gb209, 1, none⟩ = some (.int .i64 ((rd_T66 l0_4 (rd l1 x15_3)).f1)) := (blk_cell BK209.out 1).trans rfl
                 have hcz55_2 : wr.cell? ⟨gb209, 2, none⟩ = some (.int .i64 ((rd_T66 l0_4 (rd l1 x15_3)).f2)) := (blk_cell BK209.out 2).trans rfl
                 have hcz55_3 : wr.cell? ⟨gb209, 3, none⟩ = some (.int .i64 ((rd_T66 l0_4 (rd l1 x15_3)).f3)) := (blk_cell BK209.out 3).trans rfl
                 have hfz55_0 := blk_frozen BK209.out 0
                 have hfz55_1 := blk_frozen BK209.out 1
                 have hfz55_2 := blk_frozen BK209.out 2
                 have hfz55_3 := blk_frozen BK209.out 3
                 go_wp2
                 go_roundg k4
                 case measure => have := HK1.out; have := HK2.out; have := HK3.out; have := HK4.out; omega
                 case rel => exact ⟨(x14_4), (wrap64 (x15_3 + 1)), (by first | rfl | (simp; done) | (simp [*]; done)), H', ⟨by have := HK1.out; have := HK2.out; have := HK3.out; have := HK4.out; omega⟩, ⟨by (with_reducible repeat (first | apply Kd.S_alloc | apply Kd.S_drewN | apply Kd.S_drew)); exact HO_5.out⟩, ⟨by (with_reducible repeat (first | apply Kd.R_alloc | apply Kd.R_drewN | apply Kd.R_drew)); exact HO_14.out⟩, ⟨by (with_reducible repeat (first | refine blk_drewN ?_ _ | refine blk_drew ?_ | refine blk_alloc ?_ _)); exact BK183.out⟩, ⟨zT HB.out GE183.out GE209.out⟩⟩
             ·rw [if_neg c34] at H
              exact absurd H (by simp)
            ·rw [if_neg c33] at H
             exact absurd H (by simp)
           ·rw [if_neg c32] at H
            exact absurd H (by simp)
          ·rw [if_neg c31] at H
           have c31b0 : decide (x15_3 < (l1.length : Int)) = false := decide_eq_false c31
           clear c31
           by_cases c56 : x5_2.length < 5864062014805
           ·rw [if_pos c56] at H
            have LMc56 := Aside0.mk c56
            clear c56
            obtain ⟨y204, hy204⟩ : ∃ y_ : List (List (S60)), y_ = (x5_2 ++ [x14_3]) := ⟨_, rfl⟩
            replace H : (spec_l04Order.l3 k3 l1 y204 t199 t200 x12_1 (wrap64 (x13_2 + 1)) a0_0 a0_1 a0_2 a0_3 l0_4) = some r := by first | (rw [hy204]; with_reducible exact H) | (have H2_ := (Option.bind_some _ _).symm.trans H; rw [hy204]; with_reducible exact H2_) | (have H2_ := (Option.bind_some _ _).symm.trans H; with_reducible exact H2_) | with_reducible exact H | (rw [hy204]; exact H) | exact H
            have Ny204 := Aside0.mk hy204
            clear hy204
            have H' := Aside0.mk H
            clear H
            obtain ⟨Ao58, co58, eo58⟩ := Kd.R_slice HO_14.out
            subst eo58
            go_wp2_with (first | ((with_reducible refine gate_builtin (b := .append) (xs := #[.tmp 116, .tmp 118]) rfl ?_); at_builtin; refine Kd.S_append (Kd.slice 60 k60) (w0 := w) w.heap.size rfl (.tmp 116) (.tmp 118) 76 50 (.slice none 0 0) 24 rfl Try.underlying76 info50 rfl (by decide) (by omega) u5 x5_2 x14_3 [.slice Ao58 x14_3.length co58] (fun _ => True) (fun k_ => some k_ = (.slice Ao58 x14_3.length co58 : Value).ownBlock) rfl rfl ?aP (fun k_ hk_ => ((Kd.R_mono (ok' := fun k_ => ((fun _ => True)) k_ ∧ some k_ ≠ (u5 : Value).ownBlock) (Kd.R_apart' (HO_14.out) (Kd.S_typed HO_5.out) (by decide)) (fun k_ hk => ⟨trivial, hk.2⟩))).1 k_ hk_.symm) ?aF ?aO ?aB ?aS ?aL ?_; (case aP => exact Kd.M_row (Kd.R_mono (Kd.R_tight rfl (Kd.R_mono (ok' := fun k_ => ((fun _ => True)) k_ ∧ some k_ ≠ (u5 : Value).ownBlock) (Kd.R_apart' (HO_14.out) (Kd.S_typed HO_5.out) (by decide)) (fun k_ hk => ⟨trivial, hk.2⟩))) (fun _ h_ => h_))); (case aB => exact (zS HB.out GE183.out)); (case aF => exact (fun _ _ => trivial)); (case aO => exact (by (with_reducible repeat (first | apply Kd.S_alloc | apply Kd.S_drewN | apply Kd.S_drew)); exact Kd.S_mono HO_5.out (fun k_ hk => ⟨trivial, fun e_ => hk e_⟩))); (case aS => exact (below_size (zS HB.out GE183.out))); (case aL => have := LMc56.out; omega); intro v205 w57 ho hb hg hat; rw [← Ny204.out] at ho; have n0_ := Aside0.mk (blk_grown (g := gb183) (o := .cells #[.int .i64 a0_0, .int .i64 a0_1, .int .i64 a0_2, .int .i64 a0_3, .slice A0_4 l0_4.length c0_4] 29 (0, 0)) (zK BK183.out) hg (Kd.S_ne HO_5.out BK183.out (by decide))); have n1_ := Aside0.mk (hb); have n2_ := Aside0.mk (ho); clear BK183; clear HB; clear HO_5; clear HO_14; have BK183 := n0_; have HB := n1_; have HO206 := n2_; clear n0_ n1_ n2_; clear ho hb hg hat))
            go_roundg k3
            case measure => have := HK1.out; have := HK2.out; have := HK3.out; omega
            case rel => exact ⟨(y204), (wrap64 (x13_2 + 1)), (by first | rfl | (simp; done) | (simp [*]; done)), H', ⟨by have := HK1.out; have := HK2.out; have := HK3.out; omega⟩, ⟨by (with_reducible repeat (first | apply Kd.S_alloc | apply Kd.S_drewN | apply Kd.S_drew)); exact HO206.out⟩, ⟨by (with_reducible repeat (first | refine blk_drewN ?_ _ | refine blk_drew ?_ | refine blk_alloc ?_ _)); exact BK183.out⟩, ⟨zS HB.out GE183.out⟩⟩
           ·rw [if_neg c56] at H
            exact absurd H (by simp)
       ·rw [if_neg c28] at H
        have c28b0 : decide (x13_2 < t199) = false := decide_eq_false c28
        clear c28
        have H' := Aside0.mk H
        clear H
        go_wp2
        go_roundg k2
        case measure => have := HK1.out; have := HK2.out; omega
        case rel => exact ⟨(x5_2), (wrap64 (x12_1 + 1)), (by first | rfl | (simp; done) | (simp [*]; done)), H', ⟨by have := HK1.out; have := HK2.out; omega⟩, ⟨by (with_reducible repeat (first | apply Kd.S_alloc | apply Kd.S_drewN | apply Kd.S_drew)); exact HO_5.out⟩, ⟨by (with_reducible repeat (first | refine blk_drewN ?_ _ | refine blk_drew ?_ | refine blk_alloc ?_ _)); exact BK183.out⟩, ⟨zS HB.out GE183.out⟩⟩
    ·rw [if_neg c27] at H
     have c27b0 : decide (x12_1 < t200) = false := decide_eq_false c27
     clear c27
     obtain rfl := Option.some.inj H
     go_wp2
     go_ret
     exact ⟨_, by first | rfl | (simp [errW_none, errW_some] <;> rfl) | (simp [*, errW_none, errW_some] <;> rfl), by (with_reducible repeat (first | apply Kd.S_alloc | apply Kd.S_drewN | apply Kd.S_drew)); exact HO_5.out, zS HB.out GE183.out⟩

end Go.Proofs.Ytbhfimbikooccaa.PFnExactOrderOf
