-- Written by a program of this session.
import Derived.Test.YtbhfimbikooccaaPFnPlacesx0
import Derived.Test.YtbhfimbikooccaaPFnPlacesx1
import Derived.Test.YtbhfimbikooccaaPFnPlacesx4
import Derived.Test.YtbhfimbikooccaaPFnPlacesx6
import Derived.Test.YtbhfimbikooccaaPFnPlacesx9
import Derived.Test.YtbhfimbikooccaaPFnPlacesx10
import Derived.Test.YtbhfimbikooccaaPFnPlacesx12
import Derived.Test.YtbhfimbikooccaaPFnPlacesx15
namespace Go.Proofs.Ytbhfimbikooccaa.PFnPlaces
open Go.RowKit Go.Proofs.YtbhfimbikooccaaW.PrintWords Go.Proofs.YtbhfimbikooccaaW.PrintLast Go.Proofs.YtbhfimbikooccaaW.PrintMore
attribute [local go_sem] max2_int min2_int max_two min_two max_three min_three max_four min_four   -- for this text's walks alone
set_option linter.unusedVariables false
set_option linter.unusedSimpArgs false

attribute [local go_sem high] eqA60
/-! ### laws_FnPlaces: function 10 -/
mutual
def laws_FnPlaces.j0 : Nat → List Int → List (S60) → List (S60) → Bool → Int → Int → Int → Int → List (S66) → Option (Bool)
 | 0, _, _, _, _, _, _, _, _, _ => none
 | k + 1, x4, x5, x6, x50, x562000, x562001, x562002, x562003, x562004 => if x50 = true then (some false) else (if (x6.length : Int) = 0 then (some true) else (laws_FnPlaces.l0 k x4 x5 x6 (([] : List (List Bool))) 0 x562000 x562001 x562002 x562003 x562004))
def laws_FnPlaces.l0 : Nat → List Int → List (S60) → List (S60) → List (List Bool) → Int → Int → Int → Int → Int → List (S66) → Option (Bool)
 | 0, _, _, _, _, _, _, _, _, _, _ => none
 | k + 1, x4, x5, x6, x7, x8, x562000, x562001, x562002, x562003, x562004 => if x8 < (x562004.length : Int) then ((impl_BlocksOf.f k x562000 x562001 x562002 x562003 x562004 x8).bind fun bt573 => ((spec_BlocksOf.f k x562000 x562001 x562002 x562003 x562004 x8).bind fun bt575 => (if bt573.1 = bt575.1 then (if bt573.2 = bt575.2 then (if 0 ≤ (wrap64 (bt573.1 * bt573.2)) then (if (wrap64 (bt573.1 * bt573.2) : Int).toNat ≤ 281474976710656 then (if x7.length < 5864062014805 then (laws_FnPlaces.l0 k x4 x5 x6 (x7 ++ [(List.replicate (wrap64 (bt573.1 * bt573.2) : Int).toNat false)]) (wrap64 (x8 + 1)) x562000 x562001 x562002 x562003 x562004) else (none)) else (none)) else (none)) else (some false)) else (some false)))) else (laws_FnPlaces.l1 k x4 x5 x6 x7 0 x562000 x562001 x562002 x562003 x562004)
def laws_FnPlaces.l1 : Nat → List Int → List (S60) → List (S60) → List (List Bool) → Int → Int → Int → Int → Int → List (S66) → Option (Bool)
 | 0, _, _, _, _, _, _, _, _, _, _ => none
 | k + 1, x4, x5, x6, x7, x13, x562000, x562001, x562002, x562003, x562004 => if x13 < (x5.length : Int) then (if 0 ≤ x13 then (if x13 < (x6.length : Int) then (if (!(((rd_T60 x5 x13).f0) == ((rd_T60 x6 x13).f0)) || (!(((rd_T60 x5 x13).f1) == ((rd_T60 x6 x13).f1)) || (!(((rd_T60 x5 x13).f2) == ((rd_T60 x6 x13).f2))))) = true then (some false) else ((spec_BlocksOf.f k x562000 x562001 x562002 x562003 x562004 ((rd_T60 x5 x13).f0)).bind fun bt586 => (if ((rd_T60 x5 x13).f1) < 0 then (some false) else (if ((rd_T60 x5 x13).f1) ≥ bt586.2 then (some false) else (if ((rd_T60 x5 x13).f2) < 0 then (some false) else (if ((rd_T60 x5 x13).f2) ≥ bt586.1 then (some false) else (if 0 ≤ ((rd_T60 x5 x13).f0) then (if ((rd_T60 x5 x13).f0) < (x7.length : Int) then (if 0 ≤ (wrap64 ((wrap64 (((rd_T60 x5 x13).f1) * bt586.1)) + ((rd_T60 x5 x13).f2))) then (if (wrap64 ((wrap64 (((rd_T60 x5 x13).f1) * bt586.1)) + ((rd_T60 x5 x13).f2))) < ((rd_L6 x7 ((rd_T60 x5 x13).f0)).length : Int) then (if rdOf false (rd_L6 x7 ((rd_T60 x5 x13).f0)) (wrap64 ((wrap64 (((rd_T60 x5 x13).f1) * bt586.1)) + ((rd_T60 x5 x13).f2))) = true then (some false) else (laws_FnPlaces.l1 k x4 x5 x6 (x7.set (((rd_T60 x5 x13).f0) : Int).toNat ((rd_L6 x7 ((rd_T60 x5 x13).f0)).set ((wrap64 ((wrap64 (((rd_T60 x5 x13).f1) * bt586.1)) + ((rd_T60 x5 x13).f2))) : Int).toNat true)) (wrap64 (x13 + 1)) x562000 x562001 x562002 x562003 x562004)) else (none)) else (none)) else (none)) else (none)))))))) else (none)) else (none)) else (laws_FnPlaces.l2 k x4 x7 0 x562000 x562001 x562002 x562003 x562004)
def laws_FnPlaces.l2 : Nat → List Int → List (List Bool) → Int → Int → Int → Int → Int → List (S66) → Option (Bool)
 | 0, _, _, _, _, _, _, _, _ => none
 | k + 1, x4, x7, x17, x562000, x562001, x562002, x562003, x562004 => if x17 < (x4.length : Int) then (if 0 ≤ x17 then ((impl_SizeOf.f k x562000 x562001 x562002 x562003 x562004 (rd x4 x17)).bind fun bt595 => ((spec_BlocksOf.f k x562000 x562001 x562002 x562003 x562004 (rd x4 x17)).bind fun bt598 => (laws_FnPlaces.l3 k x4 x7 x17 bt595.1 bt595.2 bt598.1 0 x562000 x562001 x562002 x562003 x562004))) else (none)) else (some true)
def laws_FnPlaces.l3 : Nat → List Int → List (List Bool) → Int → Int → Int → Int → Int → Int → Int → Int → Int → List (S66) → Option (Bool)
 | 0, _, _, _, _, _, _, _, _, _, _, _, _ => none
 | k + 1, x4, x7, x17, x18, x19, x20, x22, x562000, x562001, x562002, x562003, x562004 => if x22 < x19 then (laws_FnPlaces.l4 k x4 x7 x17 x18 x19 x20 x22 0 x562000 x562001 x562002 x562003 x562004) else (laws_FnPlaces.l2 k x4 x7 (wrap64 (x17 + 1)) x562000 x562001 x562002 x562003 x562004)
def laws_FnPlaces.l4 : Nat → List Int → List (List Bool) → Int → Int → Int → Int → Int → Int → Int → Int → Int → Int → List (S66) → Option (Bool)
 | 0, _, _, _, _, _, _, _, _, _, _, _, _, _ => none
 | k + 1, x4, x7, x17, x18, x19, x20, x22, x23, x562000, x562001, x562002, x562003, x562004 => if x23 < x18 then (if 0 ≤ x17 then (if x17 < (x4.length : Int) then (if 0 ≤ (rd x4 x17) then (if (rd x4 x17) < (x7.length : Int) then (if 0 ≤ (wrap64 ((wrap64 ((wrap64 (Int.tdiv x22 8)) * x20)) + (wrap64 (Int.tdiv x23 8)))) then (if (wrap64 ((wrap64 ((wrap64 (Int.tdiv x22 8)) * x20)) + (wrap64 (Int.tdiv x23 8)))) < ((rd_L6 x7 (rd x4 x17)).length : Int) then (if (rdOf false (rd_L6 x7 (rd x4 x17)) (wrap64 ((wrap64 ((wrap64 (Int.tdiv x22 8)) * x20)) + (wrap64 (Int.tdiv x23 8)))) = true) then (laws_FnPlaces.l4 k x4 x7 x17 x18 x19 x20 x22 (wrap64 (x23 + 8)) x562000 x562001 x562002 x562003 x562004) else (some false)) else (none)) else (none)) else (none)) else (none)) else (none)) else (none)) else (laws_FnPlaces.l3 k x4 x7 x17 x18 x19 x20 (wrap64 (x22 + 8)) x562000 x562001 x562002 x562003 x562004)
end
def laws_FnPlaces.f (k : Nat) (l0 : List Int) : Option (Bool) := (laws_big.f l0).bind fun t550 => (if t550 = true then (some true) else ((spec_DrawOrderOf.f k l0).bind fun bt551 => ((impl_OrderOf.f k bt551.1 bt551.2.1 bt551.2.2.1 bt551.2.2.2.1 bt551.2.2.2.2.1 bt551.2.2.2.2.2).bind fun t562 => ((spec_OrderOf.f k bt551.1 bt551.2.1 bt551.2.2.1 bt551.2.2.2.1 bt551.2.2.2.2.1 bt551.2.2.2.2.2).bind fun t565 => (if (t562.length : Int) = (t565.length : Int) then ((impl_UnitsOf.f k bt551.1 bt551.2.1 bt551.2.2.1 bt551.2.2.2.1 bt551.2.2.2.2.1 bt551.2.2.2.2.2).bind fun t568 => ((spec_UnitsOf.f k bt551.1 bt551.2.1 bt551.2.2.1 bt551.2.2.2.1 bt551.2.2.2.2.1 bt551.2.2.2.2.2).bind fun t569 => (laws_FnPlaces.j0 k bt551.2.2.2.2.2 t562 t565 (t568 != t569) bt551.1 bt551.2.1 bt551.2.2.1 bt551.2.2.2.1 bt551.2.2.2.2.1))) else (laws_FnPlaces.j0 k bt551.2.2.2.2.2 t562 t565 true bt551.1 bt551.2.1 bt551.2.2.1 bt551.2.2.2.1 bt551.2.2.2.2.1))))))
def laws_FnPlaces.T6 : Bool × List (List Nat × List Nat) := (true, [([], []), ([0], [0]), ([], []), ([2], [2]), ([1, 3], [1, 3]), ([4], [4]), ([5], [5]), ([5], [5]), ([6, 7, 5, 5], [5, 6, 7]), ([5], [5]), ([5], [5]), ([9, 10, 8, 5], [5, 9, 10]), ([8, 11, 5], [5, 8, 11]), ([5, 12], [5, 12])])
def laws_FnPlaces.B6 : List Nat := [0, 1, 0, 4, 15, 31, 63, 63, 255, 63, 63, 2047, 4095, 8191]
theorem laws_FnPlaces.tab6 : rtab .any (opsOf Try.f10 6) = laws_FnPlaces.T6 := by kernel_rfl
theorem laws_FnPlaces.bits6 : waitsOk laws_FnPlaces.T6.2 laws_FnPlaces.B6 = true := by kernel_rfl
def laws_FnPlaces.T26 : Bool × List (List Nat × List Nat) := (true, [([], []), ([0], [0]), ([1], [1]), ([2], [2]), ([3], [3]), ([4, 3], [3, 4]), ([3], [3]), ([5, 6, 3], [3, 5, 6]), ([3, 7], [3, 7]), ([8, 3], [8]), ([9], [9]), ([10, 9], [9, 10]), ([11, 9], [9, 11]), ([9, 12], [9, 12]), ([13, 9], [13]), ([14], [14]), ([15, 14], [14, 15]), ([14], [14]), ([16, 17, 14], [14, 16, 17]), ([14, 18], [14, 18]), ([19, 14], [19]), ([20], [20]), ([20], [20]), ([22, 20], [20, 22]), ([21, 23, 20], [20, 21, 23]), ([24, 20], [20, 24]), ([20], [20]), ([26, 20], [20, 26]), ([20], [20]), ([27, 28, 20], [20, 27, 28]), ([20], [20]), ([30, 20], [20, 30]), ([29, 31, 20], [20, 29, 31]), ([25, 32, 20], [20, 25, 32]), ([33, 20], [20, 33]), ([20, 34], [20, 34])])
def laws_FnPlaces.B26 : List Nat := [0, 1, 3, 7, 15, 31, 15, 127, 255, 511, 1023, 2047, 4095, 8191, 16383, 32767, 65535, 32767, 262143, 524287, 1048575, 2097151, 2097151, 6291455, 16777215, 33554431, 2097151, 69206015, 2097151, 471859199, 2097151, 1075838975, 4229955583, 8589934591, 17179869183, 34359738367]
theorem laws_FnPlaces.tab26 : rtab .any (opsOf Try.f10 26) = laws_FnPlaces.T26 := by kernel_rfl
theorem laws_FnPlaces.bits26 : waitsOk laws_FnPlaces.T26.2 laws_FnPlaces.B26 = true := by kernel_rfl
def laws_FnPlaces.T28 : Bool × List (List Nat × List Nat) := (true, [([], []), ([], []), ([1], [1]), ([0, 2], [0, 2]), ([3], [3]), ([], []), ([5], [5]), ([], []), ([6, 7], [6, 7]), ([], []), ([9], [9]), ([8, 10], [8, 10]), ([4, 11, 0, 1, 2, 3, 4, 5, 6, 7, 8, 9, 10, 11], [4, 11]), ([12, 0, 1, 2, 3, 4, 5, 6, 7, 8, 9, 10, 11], [12])])
def laws_FnPlaces.B28 : List Nat := [0, 0, 2, 7, 15, 0, 32, 0, 224, 0, 512, 2016, 4095, 8191]
theorem laws_FnPlaces.tab28 : rtab .any (opsOf Try.f10 28) = laws_FnPlaces.T28 := by kernel_rfl
theorem laws_FnPlaces.bits28 : waitsOk laws_FnPlaces.T28.2 laws_FnPlaces.B28 = true := by kernel_rfl
def laws_FnPlaces.T32 : Bool × List (List Nat × List Nat) := (true, [([], []), ([], []), ([], []), ([1, 2], [1, 2]), ([3], [3]), ([0, 4], [0, 4]), ([5], [5]), ([6], [6]), ([6], [6]), ([7, 5, 0, 1, 2, 3, 4, 5, 6, 7], [7]), ([8, 9, 0, 1, 2, 3, 4, 5, 6, 7, 8, 9], [8])])
def laws_FnPlaces.B32 : List Nat := [0, 0, 0, 6, 14, 31, 63, 127, 127, 255, 1023]
theorem laws_FnPlaces.tab32 : rtab .any (opsOf Try.f10 32) = laws_FnPlaces.T32 := by kernel_rfl
theorem laws_FnPlaces.bits32 : waitsOk laws_FnPlaces.T32.2 laws_FnPlaces.B32 = true := by kernel_rfl
def laws_FnPlaces.T33 : Bool × List (List Nat × List Nat) := (true, [([], []), ([], []), ([], []), ([1, 2], [1, 2]), ([3], [3]), ([0, 4], [0, 4]), ([5], [5]), ([6], [6]), ([6], [6]), ([7, 5, 0, 1, 2, 3, 4, 5, 6, 7], [7]), ([8, 9, 0, 1, 2, 3, 4, 5, 6, 7, 8, 9], [8])])
def laws_FnPlaces.B33 : List Nat := [0, 0, 0, 6, 14, 31, 63, 127, 127, 255, 1023]
theorem laws_FnPlaces.tab33 : rtab .any (opsOf Try.f10 33) = laws_FnPlaces.T33 := by kernel_rfl
theorem laws_FnPlaces.bits33 : waitsOk laws_FnPlaces.T33.2 laws_FnPlaces.B33 = true := by kernel_rfl
set_option maxHeartbeats 8000000 in
set_option maxRecDepth 100000 in
theorem laws_FnPlaces.calls (k : Nat) (A0 : Option Addr) (c0 : Nat) (l0 : List Int) (r : Bool) (w : World) (hr0 : Kd.C (Kd.int .u8) w A0 l0.length l0) (hc0 : l0.length ≤ c0) (h : laws_FnPlaces.f k l0 = some r) :
  Calls Try.prog 10 #[.slice A0 l0.length c0] w fun e w' => e = .returned (.bool r) ∧ Below w.heap.size w w' := by
 have hu29 := Try.underlying29
 have hu60 := Try.underlying60
 have HR0 := Aside0.mk hr0
 have HC0 := Aside0.mk hc0
 clear hr0 hc0
 have HB := Aside0.mk (Below.refl w.heap.size w)
 have H : ((laws_big.f l0).bind fun t550 => (if t550 = true then (some true) else ((spec_DrawOrderOf.f k l0).bind fun bt551 => ((impl_OrderOf.f k bt551.1 bt551.2.1 bt551.2.2.1 bt551.2.2.2.1 bt551.2.2.2.2.1 bt551.2.2.2.2.2).bind fun t562 => ((spec_OrderOf.f k bt551.1 bt551.2.1 bt551.2.2.1 bt551.2.2.2.1 bt551.2.2.2.2.1 bt551.2.2.2.2.2).bind fun t565 => (if (t562.length : Int) = (t565.length : Int) then ((impl_UnitsOf.f k bt551.1 bt551.2.1 bt551.2.2.1 bt551.2.2.2.1 bt551.2.2.2.2.1 bt551.2.2.2.2.2).bind fun t568 => ((spec_UnitsOf.f k bt551.1 bt551.2.1 bt551.2.2.1 bt551.2.2.2.1 bt551.2.2.2.2.1 bt551.2.2.2.2.2).bind fun t569 => (laws_FnPlaces.j0 k bt551.2.2.2.2.2 t562 t565 (t568 != t569) bt551.1 bt551.2.1 bt551.2.2.1 bt551.2.2.2.1 bt551.2.2.2.2.1))) else (laws_FnPlaces.j0 k bt551.2.2.2.2.2 t562 t565 true bt551.1 bt551.2.1 bt551.2.2.1 bt551.2.2.2.1 bt551.2.2.2.2.1))))))) = some r := h
 clear h
 replace H := Option.bind_eq_some_iff.mp H
 obtain ⟨t550, A20, H⟩ := H
 (try dsimp only at H)
 have A2 := Aside0.mk A20
 clear A20
 by_cases c3 : t550 = true
 ·subst c3
  have H1 : (some true) = some r := by rw [if_pos rfl] at H; exact H
  clear H
  have H := H1
  clear H1
  obtain rfl := Option.some.inj H
  go_enter Try.func10, Try.ntmps10
  go_wp2_with (first | ((with_reducible refine gate_callee (f := 42) rfl ?_); refine goesL_ (some 25) rfl rfl Try.func42 (by kernel_rfl) rfl #[.slice A0 l0.length c0] rfl zM ?_; (with_reducible refine (laws_big.calls _ _ l0 true _ ?side1 ?side2 A2.out).mono ?_); (case side1 => repeat (first | exact HR0.out | (with_reducible refine Kd.C_alloc ?_ _) | (with_reducible refine Kd.C_drewN ?_ _) | (with_reducible refine Kd.C_drew ?_))); (case side2 => exact HC0.out); rintro e w' ⟨rfl, ⟨nd, rfl⟩⟩; refine ⟨_, rfl, ?_⟩))
  go_ret
  exact ⟨by first | rfl | (simp [errW_none, errW_some] <;> rfl) | (simp [*, errW_none, errW_some] <;> rfl), zB HB.out⟩
 ·replace c3 := Bool.eq_false_iff.mpr c3
  subst c3
  have H1 : ((spec_DrawOrderOf.f k l0).bind fun bt551 => ((impl_OrderOf.f k bt551.1 bt551.2.1 bt551.2.2.1 bt551.2.2.2.1 bt551.2.2.2.2.1 bt551.2.2.2.2.2).bind fun t562 => ((spec_OrderOf.f k bt551.1 bt551.2.1 bt551.2.2.1 bt551.2.2.2.1 bt551.2.2.2.2.1 bt551.2.2.2.2.2).bind fun t565 => (if (t562.length : Int) = (t565.length : Int) then ((impl_UnitsOf.f k bt551.1 bt551.2.1 bt551.2.2.1 bt551.2.2.2.1 bt551.2.2.2.2.1 bt551.2.2.2.2.2).bind fun t568 => ((spec_UnitsOf.f k bt551.1 bt551.2.1 bt551.2.2.1 bt551.2.2.2.1 bt551.2.2.2.2.1 bt551.2.2.2.2.2).bind fun t569 => (laws_FnPlaces.j0 k bt551.2.2.2.2.2 t562 t565 (t568 != t569) bt551.1 bt551.2.1 bt551.2.2.1 bt551.2.2.2.1 bt551.2.2.2.2.1))) else (laws_FnPlaces.j0 k bt551.2.2.2.2.2 t562 t565 true bt551.1 bt551.2.1 bt551.2.2.1 bt551.2.2.2.1 bt551.2.2.2.2.1))))) = some r := by rw [if_neg (show ¬ (false = true) by decide)] at H; exact H
  clear H
  have H := H1
  clear H1
  replace H := Option.bind_eq_some_iff.mp H
  obtain ⟨⟨t551, t552, t553, t554, t555, t558⟩, A40, H⟩ := H
  (try dsimp only at H)
  have A4 := Aside0.mk A40
  clear A40
  replace H := Option.bind_eq_some_iff.mp H
  obtain ⟨t562, A50, H⟩ := H
  (try dsimp only at H)
  have A5 := Aside0.mk A50
  clear A50
  replace H := Option.bind_eq_some_iff.mp H
  obtain ⟨t565, A60, H⟩ := H
  (try dsimp only at H)
  have A6 := Aside0.mk A60
  clear A60
  have HC7 := Aside0.mk H
  clear H
  go_enter Try.func10, Try.ntmps10
  go_upto_region 6 with (first | ((with_reducible refine gate_callee (f := 42) rfl ?_); refine goesL_ (some 25) rfl rfl Try.func42 (by kernel_rfl) rfl #[.slice A0 l0.length c0] rfl zM ?_; (with_reducible refine (laws_big.calls _ _ l0 false _ ?side1 ?side2 A2.out).mono ?_); (case side1 => repeat (first | exact HR0.out | (with_reducible refine Kd.C_alloc ?_ _) | (with_reducible refine Kd.C_drewN ?_ _) | (with_reducible refine Kd.C_drew ?_))); (case side2 => exact HC0.out); rintro e w' ⟨rfl, ⟨nd, rfl⟩⟩; refine ⟨_, rfl, ?_⟩) | ((with_reducible refine gate_callee (f := 43) rfl ?_); refine goesL_ (some 28) rfl rfl Try.func43 (by kernel_rfl) rfl #[.slice A0 l0.length c0] rfl zM ?_; (with_reducible refine (spec_DrawOrderOf.calls k _ _ l0 t551 t552 t553 t554 t555 t558 _ ?side1 ?side2 A4.out).mono ?_); (case side1 => repeat (first | exact HR0.out | (with_reducible refine Kd.C_alloc ?_ _) | (with_reducible refine Kd.C_drewN ?_ _) | (with_reducible refine Kd.C_drew ?_))); (case side2 => exact HC0.out); rintro e w8 ⟨v556, v559, rfl, ho0, ho1, hb⟩; refine ⟨_, rfl, ?_⟩; have n0_ := Aside0.mk (Kd.R_lower ho0 (below_size (zB HB.out))); have n1_ := Aside0.mk (Kd.R_lower ho1 (below_size (zB HB.out))); have n2_ := Aside0.mk (below_step (zB HB.out) hb); clear HB; have HO557 := n0_; have HO560 := n1_; have HB := n2_; clear n0_ n1_ n2_; try clear hb; (try clear ho0); (try clear ho1)) | ((with_reducible refine gate_dst (N := 3) rfl ?_); refine box_event ?hg (N := 3) ?hd (cs := #[.int .i64 0, .int .i64 0, .int .i64 0, .int .i64 0, .slice none 0 0]) (t := 29) ?hr ?_; (case hd => rfl); (case hg => rfl); (case hr => first | (go_simp; done) | (go_simp; rfl)); intro gb561 hg w9 hbox hb; have n0_ := Aside0.mk (Kd.R_below (zR HO557.out) hb); have n1_ := Aside0.mk (Kd.R_below (zR HO560.out) hb); have n2_ := Aside0.mk (below_step (zB HB.out) hb); have n3_ := Aside0.mk (hbox); have n4_ := Aside0.mk (gE hg HB.out); have n5_ := Aside0.mk (gE hg HB.out); clear HO557; clear HO560; clear HB; have HO557 := n0_; have HO560 := n1_; have HB := n2_; have BK561 := n3_; have GW561 := n4_; have GE561 := n5_; clear n0_ n1_ n2_ n3_ n4_ n5_; clear hb hbox hg; obtain ⟨hcz10_0, hcz10_1, hcz10_2, hcz10_3, hcz10_4, hfz10_0, hfz10_1, hfz10_2, hfz10_3, hfz10_4⟩ := bf5 BK561.out; obtain ⟨Ao11, co11, eo11⟩ := Kd.R_slice HO557.out; subst eo11; obtain ⟨Ao12, co12, eo12⟩ := Kd.R_slice HO560.out; subst eo12) | ((with_reducible refine gate_callee (f := 37) rfl ?_); refine goesL_ (some 33) rfl rfl Try.func37 (by kernel_rfl) rfl #[.agg #[.int .i64 t551, .int .i64 t552, .int .i64 t553, .int .i64 t554, .slice Ao11 t555.length co11], .slice Ao12 t558.length co12] rfl zM ?_; (with_reducible refine (impl_OrderOf.calls k t551 t552 t553 t554 _ _ t555 _ _ t558 t562 _ ?side1 ?side2 ?side3 ?side4 A5.out).mono ?_); (case side1 => refine (Kd.R_reads' (e := 66) (base := w.heap.size) (ok := fun k_ => True) (n := t555.length) (c := co11) ?_).2.2; exact (by (with_reducible repeat (first | apply Kd.R_alloc | apply Kd.R_drewN | apply Kd.R_drew)); exact (Kd.R_mono (Kd.R_far (p := ⟨gb561, 4, none⟩) (Kd.R_far (p := ⟨gb561, 3, none⟩) (Kd.R_far (p := ⟨gb561, 2, none⟩) (Kd.R_far (p := ⟨gb561, 1, none⟩) (Kd.R_far (p := ⟨gb561, 0, none⟩) (Kd.R_types HO557.out BK561.out (by decide)) (fun _ hk => hk.2) (.int .i64 t551)) (fun _ hk => hk.2) (.int .i64 t552)) (fun _ hk => hk.2) (.int .i64 t553)) (fun _ hk => hk.2) (.int .i64 t554)) (fun _ hk => hk.2) (.slice Ao11 t555.length co11)) (fun _ h_ => h_.1)))); (case side2 => exact (Kd.R_reads' HO557.out).2.1); (case side3 => refine (Kd.R_reads' (e := 3) (base := w.heap.size) (ok := fun k_ => True) (n := t558.length) (c := co12) ?_).2.2; exact (by (with_reducible repeat (first | apply Kd.R_alloc | apply Kd.R_drewN | apply Kd.R_drew)); exact (Kd.R_mono (Kd.R_far (p := ⟨gb561, 4, none⟩) (Kd.R_far (p := ⟨gb561, 3, none⟩) (Kd.R_far (p := ⟨gb561, 2, none⟩) (Kd.R_far (p := ⟨gb561, 1, none⟩) (Kd.R_far (p := ⟨gb561, 0, none⟩) (Kd.R_types HO560.out BK561.out (by decide)) (fun _ hk => hk.2) (.int .i64 t551)) (fun _ hk => hk.2) (.int .i64 t552)) (fun _ hk => hk.2) (.int .i64 t553)) (fun _ hk => hk.2) (.int .i64 t554)) (fun _ hk => hk.2) (.slice Ao11 t555.length co11)) (fun _ h_ => h_.1)))); (case side4 => exact (Kd.R_reads' HO560.out).2.1); rintro e w13 ⟨v563, rfl, ho0, hb⟩; refine ⟨_, rfl, ?_⟩; have n0_ := Aside0.mk (Kd.R_below (by (with_reducible repeat (first | apply Kd.R_alloc | apply Kd.R_drewN | apply Kd.R_drew)); exact (Kd.R_mono (Kd.R_far (p := ⟨gb561, 4, none⟩) (Kd.R_far (p := ⟨gb561, 3, none⟩) (Kd.R_far (p := ⟨gb561, 2, none⟩) (Kd.R_far (p := ⟨gb561, 1, none⟩) (Kd.R_far (p := ⟨gb561, 0, none⟩) (Kd.R_types HO557.out BK561.out (by decide)) (fun _ hk => hk.2) (.int .i64 t551)) (fun _ hk => hk.2) (.int .i64 t552)) (fun _ hk => hk.2) (.int .i64 t553)) (fun _ hk => hk.2) (.int .i64 t554)) (fun _ hk => hk.2) (.slice Ao11 t555.length co11)) (fun _ h_ => h_.1))) hb); have n1_ := Aside0.mk (Kd.R_below (by (with_reducible repeat (first | apply Kd.R_alloc | apply Kd.R_drewN | apply Kd.R_drew)); exact (Kd.R_mono (Kd.R_far (p := ⟨gb561, 4, none⟩) (Kd.R_far (p := ⟨gb561, 3, none⟩) (Kd.R_far (p := ⟨gb561, 2, none⟩) (Kd.R_far (p := ⟨gb561, 1, none⟩) (Kd.R_far (p := ⟨gb561, 0, none⟩) (Kd.R_types HO560.out BK561.out (by decide)) (fun _ hk => hk.2) (.int .i64 t551)) (fun _ hk => hk.2) (.int .i64 t552)) (fun _ hk => hk.2) (.int .i64 t553)) (fun _ hk => hk.2) (.int .i64 t554)) (fun _ hk => hk.2) (.slice Ao11 t555.length co11)) (fun _ h_ => h_.1))) hb); have n2_ := Aside0.mk (Kd.R_lower ho0 (below_size (zS HB.out GE561.out))); have n3_ := Aside0.mk (blk_below (g := gb561) (o := .cells #[.int .i64 t551, .int .i64 t552, .int .i64 t553, .int .i64 t554, .slice Ao11 t555.length co11] 29 (0, 0)) (zP BK561.out) hb); have n4_ := Aside0.mk (below_step (zS HB.out GE561.out) hb); clear HO557; clear HO560; clear BK561; clear HB; have HO557 := n0_; have HO560 := n1_; have HO564 := n2_; have BK561 := n3_; have HB := n4_; clear n0_ n1_ n2_ n3_ n4_; try clear hb; (try clear ho0); obtain ⟨hcz14_0, hcz14_1, hcz14_2, hcz14_3, hcz14_4, hfz14_0, hfz14_1, hfz14_2, hfz14_3, hfz14_4⟩ := bf5 BK561.out) | ((with_reducible refine gate_callee (f := 36) rfl ?_); refine goesL_ (some 36) rfl rfl Try.func36 (by kernel_rfl) rfl #[.agg #[.int .i64 t551, .int .i64 t552, .int .i64 t553, .int .i64 t554, .slice Ao11 t555.length co11], .slice Ao12 t558.length co12] rfl zM ?_; (with_reducible refine (spec_OrderOf.calls k t551 t552 t553 t554 _ _ t555 _ _ t558 t565 _ ?side1 ?side2 ?side3 ?side4 A6.out).mono ?_); (case side1 => repeat (first | exact (Kd.R_reads' HO557.out).2.2 | (with_reducible refine Kd.C_alloc ?_ _) | (with_reducible refine Kd.C_drewN ?_ _) | (with_reducible refine Kd.C_drew ?_))); (case side2 => exact (Kd.R_reads' HO557.out).2.1); (case side3 => repeat (first | exact (Kd.R_reads' HO560.out).2.2 | (with_reducible refine Kd.C_alloc ?_ _) | (with_reducible refine Kd.C_drewN ?_ _) | (with_reducible refine Kd.C_drew ?_))); (case side4 => exact (Kd.R_reads' HO560.out).2.1); rintro e w15 ⟨v566, rfl, ho0, hb⟩; refine ⟨_, rfl, ?_⟩; have n0_ := Aside0.mk (Kd.R_below (zR HO557.out) hb); have n1_ := Aside0.mk (Kd.R_below (zR HO560.out) hb); have n2_ := Aside0.mk (Kd.R_elder' (zR HO564.out) (Kd.R_base ho0) hb); have n3_ := Aside0.mk (Kd.R_lower (Kd.R_new' ho0 (Kd.R_lt (zR HO564.out))) (below_size (zS HB.out GE561.out))); have n4_ := Aside0.mk (kB BK561.out hb); have n5_ := Aside0.mk (below_step (zS HB.out GE561.out) hb); clear HO557; clear HO560; clear HO564; clear BK561; clear HB; have HO557 := n0_; have HO560 := n1_; have HO564 := n2_; have HO567 := n3_; have BK561 := n4_; have HB := n5_; clear n0_ n1_ n2_ n3_ n4_ n5_; try clear hb; (try clear ho0)))
  (try simp only [Act.put, List.setIfInBounds_toArray, List.set_cons_zero, List.set_cons_succ])
  go_cut [50] (fun v50 wc => ∃ (kq : Nat) (x50_6 : Bool), v50 = .bool x50_6 ∧ Aside0 (laws_FnPlaces.j0 kq t558 t562 t565 x50_6 t551 t552 t553 t554 t555 = some r) ∧ Aside0 (kq ≤ k) ∧ Aside0 (Kd.R (Kd.int .i64) 3 wc w.heap.size (fun _ => True) (.slice Ao12 t558.length co12) t558) ∧ Aside0 (Kd.R k60 60 wc w.heap.size (fun k_ => some k_ ≠ (v566 : Value).ownBlock) v563 t562) ∧ Aside0 (Kd.R k60 60 wc w.heap.size (fun k_ => some k_ ≠ (v563 : Value).ownBlock) v566 t565) ∧ Aside0 (Kd.R k66 66 wc w.heap.size (fun _ => True) (.slice Ao11 t555.length co11) t555) ∧ Aside0 (wc.heap[gb561]? = some (.cells #[.int .i64 t551, .int .i64 t552, .int .i64 t553, .int .i64 t554, (.slice Ao11 t555.length co11)] 29 (0, 0))) ∧ Aside0 (Below w.heap.size w wc))
  case first =>
   have H := HC7.out
   clear HC7
   by_cases c16 : (t562.length : Int) = (t565.length : Int)
   ·as_aux_lemma =>
     rw [if_pos c16] at H
     have c16b0 : ((t562.length : Int) == (t565.length : Int)) = true := beq_iff_eq.mpr c16
     have c16b1 : ((t562.length : Int) != (t565.length : Int)) = false := bne_eq_false_iff_eq.mpr c16
     have c16b2 : (t562.length == t565.length) = true := by first | simpa using c16 | (simp at c16 ⊢; omega)
     clear c16
     (first | rw [c16b0] | (simp only [i64_w, i32_w]; rw [c16b0]) | skip)
     replace H := Option.bind_eq_some_iff.mp H
     obtain ⟨t568, A170, H⟩ := H
     replace H : ((spec_UnitsOf.f k t551 t552 t553 t554 t555 t558).bind fun t569 => (laws_FnPlaces.j0 k t558 t562 t565 (t568 != t569) t551 t552 t553 t554 t555)) = some r := H
     have A17 := Aside0.mk A170
     clear A170
     replace H := Option.bind_eq_some_iff.mp H
     obtain ⟨t569, A180, H⟩ := H
     replace H : (laws_FnPlaces.j0 k t558 t562 t565 (t568 != t569) t551 t552 t553 t554 t555) = some r := H
     have A18 := Aside0.mk A180
     clear A180
     have H' := Aside0.mk H
     clear H
     try go_wp2
     have n0_ := Aside0.mk (Kd.R_drew HO557.out)
     have n1_ := Aside0.mk (Kd.R_drew HO560.out)
     have n2_ := Aside0.mk (Kd.R_drew HO564.out)
     have n3_ := Aside0.mk (Kd.R_drew HO567.out)
     have n4_ := Aside0.mk (blk_drew BK561.out)
     have n5_ := Aside0.mk (below_drew1 HB.out)
     clear HO557
     clear HO560
     clear HO564
     clear HO567
     clear BK561
     clear HB
     have HO557 := n0_
     have HO560 := n1_
     have HO564 := n2_
     have HO567 := n3_
     have BK561 := n4_
     have HB := n5_
     clear n0_ n1_ n2_ n3_ n4_ n5_
     obtain ⟨Ao20, co20, eo20⟩ := Kd.R_slice HO564.out
     (first | subst eo20 | (injection eo20 with f1_ f2_ f3_; have f4_ := f1_.symm; have f5_ := f3_.symm; clear f1_ f2_ f3_; subst f4_; subst f5_))
     obtain ⟨Ao21, co21, eo21⟩ := Kd.R_slice HO567.out
     (first | subst eo21 | (injection eo21 with f1_ f2_ f3_; have f4_ := f1_.symm; have f5_ := f3_.symm; clear f1_ f2_ f3_; subst f4_; subst f5_))
     refine start_ (n := 14) (S := fun w' => w'.cell? ⟨gb561, 0, none⟩ = some (.int .i64 t551) ∧ w'.cell? ⟨gb561, 1, none⟩ = some (.int .i64 t552) ∧ w'.cell? ⟨gb561, 2, none⟩ = some (.int .i64 t553) ∧ w'.cell? ⟨gb561, 3, none⟩ = some (.int .i64 t554) ∧ w'.cell? ⟨gb561, 4, none⟩ = some (.slice Ao11 t555.length co11)) (ds := []) (Array.replicate 14 false) (by kernel_rfl) rfl rfl ⟨(blk_cell BK561.out 0).trans rfl, (blk_cell BK561.out 1).trans rfl, (blk_cell BK561.out 2).trans rfl, (blk_cell BK561.out 3).trans rfl, (blk_cell BK561.out 4).trans rfl⟩ (fun hHeld => ?_); refine with_tabW laws_FnPlaces.tab6 laws_FnPlaces.bits6 (fun HT_ HW_ => ?_)
     generalize w15.drew = w19 at HO557 HO560 HO564 HO567 BK561 HB hHeld ⊢
     refine sV 0 37 (lbn 14 1) HT_.out ?_
     refine sV 1 38 (lbn 14 3) HT_.out ?_
     refine sV 2 39 (lbn 14 7) HT_.out ?_
     refine sV 3 40 (lbn 14 15) HT_.out ?_
     refine sV 4 41 (lbn 14 31) HT_.out ?_
     refine sV 5 42 (lbn 14 63) HT_.out ?_
     refine sV 7 44 (lbn 14 191) HT_.out ?_
     refine sV 10 47 (lbn 14 1215) HT_.out ?_
     refine sT 6 43 (lbn 14 1279) HT_.out HW_.out hHeld ?_
     refine sT 9 46 (lbn 14 1791) HT_.out HW_.out hHeld ?_
     refine one_ (i := 8) (N := some 45) #[true, true, true, true, true, true, true, true, true, true, true, false, false, false] rfl rfl (one_of HT_.out (by kernel_rfl)) (by decide) (fun K hK => ?_)
     refine goes_ Try.func34 (by kernel_rfl) rfl #[.agg #[.int .i64 t551, .int .i64 t552, .int .i64 t553, .int .i64 t554, .slice Ao11 t555.length co11], .slice Ao12 t558.length co12] (by rfl) rfl rfl zM ?_
     with_reducible refine (impl_UnitsOf.calls k t551 t552 t553 t554 _ _ t555 _ _ t558 t568 _ ?side1 ?side2 ?side3 ?side4 A17.out).mono ?_
     (case side1 => repeat (first | exact (Kd.R_reads' HO557.out).2.2 | (with_reducible refine Kd.C_alloc ?_ _) | (with_reducible refine Kd.C_drewN ?_ _) | (with_reducible refine Kd.C_drew ?_)))
     (case side2 => exact (Kd.R_reads' HO557.out).2.1)
     (case side3 => repeat (first | exact (Kd.R_reads' HO560.out).2.2 | (with_reducible refine Kd.C_alloc ?_ _) | (with_reducible refine Kd.C_drewN ?_ _) | (with_reducible refine Kd.C_drew ?_)))
     (case side4 => exact (Kd.R_reads' HO560.out).2.1)
     rintro e w22 ⟨rfl, hb⟩
     refine ⟨_, rfl, ?_⟩
     have n0_ := Aside0.mk (Kd.R_below (zR HO557.out) hb)
     have n1_ := Aside0.mk (Kd.R_below (zR HO560.out) hb)
     have n2_ := Aside0.mk (Kd.R_below (zR HO564.out) hb)
     have n3_ := Aside0.mk (Kd.R_below (zR HO567.out) hb)
     have n4_ := Aside0.mk (kB BK561.out hb)
     have n5_ := Aside0.mk (below_step (zS HB.out GE561.out) hb)
     clear HO557
     clear HO560
     clear HO564
     clear HO567
     clear BK561
     clear HB
     have HO557 := n0_
     have HO560 := n1_
     have HO564 := n2_
     have HO567 := n3_
     have BK561 := n4_
     have HB := n5_
     clear n0_ n1_ n2_ n3_ n4_ n5_
     refine hK.out _ _ ⟨(blk_cell BK561.out 0).trans rfl, (blk_cell BK561.out 1).trans rfl, (blk_cell BK561.out 2).trans rfl, (blk_cell BK561.out 3).trans rfl, (blk_cell BK561.out 4).trans rfl⟩ (fun hHeld => ?_)
     clear hK K
     refine norm_ (a' := ?_) ?_ ?_
     rotate_left
     ·show Act.put _ (some 45) _ = _
      simp only [Act.put, List.setIfInBounds_toArray, List.set_cons_zero, List.set_cons_succ, i64_w, i32_w]
      rfl
     refine one_ (i := 11) (N := some 48) #[true, true, true, true, true, true, true, true, true, true, true, true, false, false] rfl rfl (one_of HT_.out (by kernel_rfl)) (by decide) (fun K hK => ?_)
     refine goes_ Try.func32 (by kernel_rfl) rfl #[.agg #[.int .i64 t551, .int .i64 t552, .int .i64 t553, .int .i64 t554, .slice Ao11 t555.length co11], .slice Ao12 t558.length co12] (by rfl) rfl rfl zM ?_
     with_reducible refine (spec_UnitsOf.calls k t551 t552 t553 t554 _ _ t555 _ _ t558 t569 _ ?side1 ?side2 ?side3 ?side4 A18.out).mono ?_
     (case side1 => repeat (first | exact (Kd.R_reads' HO557.out).2.2 | (with_reducible refine Kd.C_alloc ?_ _) | (with_reducible refine Kd.C_drewN ?_ _) | (with_reducible refine Kd.C_drew ?_)))
     (case side2 => exact (Kd.R_reads' HO557.out).2.1)
     (case side3 => repeat (first | exact (Kd.R_reads' HO560.out).2.2 | (with_reducible refine Kd.C_alloc ?_ _) | (with_reducible refine Kd.C_drewN ?_ _) | (with_reducible refine Kd.C_drew ?_)))
     (case side4 => exact (Kd.R_reads' HO560.out).2.1)
     rintro e w23 ⟨rfl, hb⟩
     refine ⟨_, rfl, ?_⟩
     have n0_ := Aside0.mk (Kd.R_below (zR HO557.out) hb)
     have n1_ := Aside0.mk (Kd.R_below (zR HO560.out) hb)
     have n2_ := Aside0.mk (Kd.R_below (zR HO564.out) hb)
     have n3_ := Aside0.mk (Kd.R_below (zR HO567.out) hb)
     have n4_ := Aside0.mk (kB BK561.out hb)
     have n5_ := Aside0.mk (below_step (zS HB.out GE561.out) hb)
     clear HO557
     clear HO560
     clear HO564
     clear HO567
     clear BK561
     clear HB
     have HO557 := n0_
     have HO560 := n1_
     have HO564 := n2_
     have HO567 := n3_
     have BK561 := n4_
     have HB := n5_
     clear n0_ n1_ n2_ n3_ n4_ n5_
     refine hK.out _ _ ⟨(blk_cell BK561.out 0).trans rfl, (blk_cell BK561.out 1).trans rfl, (blk_cell BK561.out 2).trans rfl, (blk_cell BK561.out 3).trans rfl, (blk_cell BK561.out 4).trans rfl⟩ (fun hHeld => ?_)
     clear hK K
     refine norm_ (a' := ?_) ?_ ?_
     rotate_left
     ·show Act.put _ (some 48) _ = _
      simp only [Act.put, List.setIfInBounds_toArray, List.set_cons_zero, List.set_cons_succ, i64_w, i32_w]
      rfl
     refine sV 12 49 (lbn 14 8191) HT_.out ?_
     refine sV 13 50 (lbn 14 16383) HT_.out ?_
     refine done_ (done_of HT_.out (by kernel_rfl)) ?_
     try go_wp2
     go_meet
     case rel => exact ⟨_, ((t568 != t569)), (by first | rfl | (simp; done) | (simp [*]; done)), H', ⟨by first | omega | exact Nat.le_refl _⟩, ⟨zR HO560.out⟩, ⟨by (with_reducible repeat (first | apply Kd.R_alloc | apply Kd.R_drewN | apply Kd.R_drew)); exact Kd.R_mono HO564.out (fun _ hk => hk.2)⟩, ⟨by (with_reducible repeat (first | apply Kd.R_alloc | apply Kd.R_drewN | apply Kd.R_drew)); exact Kd.R_mono HO567.out (fun _ hk => hk.2)⟩, ⟨zR HO557.out⟩, ⟨zK BK561.out⟩, ⟨zS HB.out GE561.out⟩⟩
   ·rw [if_neg c16] at H
    have c16b0 : ((t562.length : Int) == (t565.length : Int)) = false := beq_eq_false_iff_ne.mpr c16
    have c16b1 : ((t562.length : Int) != (t565.length : Int)) = true := bne_iff_ne.mpr c16
    have c16b2 : (t562.length == t565.length) = false := by first | simpa using c16 | (simp at c16 ⊢; omega)
    (first | rw [c16b0] | (simp only [i64_w, i32_w]; rw [c16b0]) | skip)
    have H' := Aside0.mk H
    clear H
    try go_wp2
    have n0_ := Aside0.mk (Kd.R_drew HO557.out)
    have n1_ := Aside0.mk (Kd.R_drew HO560.out)
    have n2_ := Aside0.mk (Kd.R_drew HO564.out)
    have n3_ := Aside0.mk (Kd.R_drew HO567.out)
    have n4_ := Aside0.mk (blk_drew BK561.out)
    have n5_ := Aside0.mk (below_drew1 HB.out)
    clear HO557
    clear HO560
    clear HO564
    clear HO567
    clear BK561
    clear HB
    have HO557 := n0_
    have HO560 := n1_
    have HO564 := n2_
    have HO567 := n3_
    have BK561 := n4_
    have HB := n5_
    clear n0_ n1_ n2_ n3_ n4_ n5_
    obtain ⟨Ao25, co25, eo25⟩ := Kd.R_slice HO564.out
    (first | subst eo25 | (injection eo25 with f1_ f2_ f3_; have f4_ := f1_.symm; have f5_ := f3_.symm; clear f1_ f2_ f3_; subst f4_; subst f5_))
    obtain ⟨Ao26, co26, eo26⟩ := Kd.R_slice HO567.out
    (first | subst eo26 | (injection eo26 with f1_ f2_ f3_; have f4_ := f1_.symm; have f5_ := f3_.symm; clear f1_ f2_ f3_; subst f4_; subst f5_))
    refine start_ (n := 14) (S := fun w' => True) (ds := []) (Array.replicate 14 false) (by kernel_rfl) rfl rfl trivial (fun hHeld => ?_); refine with_tabW laws_FnPlaces.tab6 laws_FnPlaces.bits6 (fun HT_ HW_ => ?_)
    generalize w15.drew = w24 at HO557 HO560 HO564 HO567 BK561 HB hHeld ⊢
    refine sV 0 37 (lbn 14 1) HT_.out ?_
    refine sV 1 38 (lbn 14 3) HT_.out ?_
    refine sV 2 39 (lbn 14 7) HT_.out ?_
    refine sV 3 40 (lbn 14 15) HT_.out ?_
    refine sV 4 41 (lbn 14 31) HT_.out ?_
    refine sV 5 42 (lbn 14 63) HT_.out ?_
    refine sU 6 43 (lbn 14 127) HT_.out ?_
    refine sU 7 44 (lbn 14 255) HT_.out ?_
    refine sU 8 45 (lbn 14 511) HT_.out ?_
    refine sU 9 46 (lbn 14 1023) HT_.out ?_
    refine sU 10 47 (lbn 14 2047) HT_.out ?_
    refine sU 11 48 (lbn 14 4095) HT_.out ?_
    refine sU 12 49 (lbn 14 8191) HT_.out ?_
    refine sV 13 50 (lbn 14 16383) HT_.out ?_
    refine done_ (done_of HT_.out (by kernel_rfl)) ?_
    try go_wp2
    go_meet
    case rel => exact ⟨_, (true), (by first | rfl | (simp; done) | (simp [*]; done)), H', ⟨by first | omega | exact Nat.le_refl _⟩, ⟨zR HO560.out⟩, ⟨by (with_reducible repeat (first | apply Kd.R_alloc | apply Kd.R_drewN | apply Kd.R_drew)); exact Kd.R_mono HO564.out (fun _ hk => hk.2)⟩, ⟨by (with_reducible repeat (first | apply Kd.R_alloc | apply Kd.R_drewN | apply Kd.R_drew)); exact Kd.R_mono HO567.out (fun _ hk => hk.2)⟩, ⟨zR HO557.out⟩, ⟨zK BK561.out⟩, ⟨zS HB.out GE561.out⟩⟩
  case rest =>
   clear HC7
   obtain ⟨kq, x50_6, rfl, HA, HJ6, HO_4, HO_5, HO_6, HO_562004, BK561, HB⟩ := hcut
   cases kq with
   | zero => exact absurd HA.out (by simp [laws_FnPlaces.j0])
   | succ kj6 =>
    have H := HA.out
    clear HA
    simp only [laws_FnPlaces.j0] at H
    by_cases c27 : x50_6 = true
    ·subst c27
     have H1 : (some false) = some r := by rw [if_pos rfl] at H; exact H
     clear H
     have H := H1
     clear H1
     obtain rfl := Option.some.inj H
     go_wp2
     go_ret
     exact ⟨by first | rfl | (simp [errW_none, errW_some] <;> rfl) | (simp [*, errW_none, errW_some] <;> rfl), zS HB.out GE561.out⟩
    ·replace c27 := Bool.eq_false_iff.mpr c27
     subst c27
     have H1 : (if (t565.length : Int) = 0 then (some true) else (laws_FnPlaces.l0 kj6 t558 t562 t565 (([] : List (List Bool))) 0 t551 t552 t553 t554 t555)) = some r := by rw [if_neg (show ¬ (false = true) by decide)] at H; exact H
     clear H
     have H := H1
     clear H1
     by_cases c28 : (t565.length : Int) = 0
     ·rw [if_pos c28] at H
      have c28b0 : ((t565.length : Int) == 0) = true := beq_iff_eq.mpr c28
      have c28b1 : ((t565.length : Int) != 0) = false := bne_eq_false_iff_eq.mpr c28
      clear c28
      obtain rfl := Option.some.inj H
      obtain ⟨Ao29, co29, eo29⟩ := Kd.R_slice HO_6.out
      subst eo29
      go_wp2
      go_ret
      exact ⟨by first | rfl | (simp [errW_none, errW_some] <;> rfl) | (simp [*, errW_none, errW_some] <;> rfl), zS HB.out GE561.out⟩
     ·rw [if_neg c28] at H
      have c28b0 : ((t565.length : Int) == 0) = false := beq_eq_false_iff_ne.mpr c28
      have c28b1 : ((t565.length : Int) != 0) = true := bne_iff_ne.mpr c28
      have c28b2 : ¬ (t565 = []) := fun h_ => c28 (by rw [h_]; rfl)
      obtain ⟨y570, hy570⟩ : ∃ y_ : List (List Bool), y_ = (([] : List (List Bool))) := ⟨_, rfl⟩
      replace H : (laws_FnPlaces.l0 kj6 t558 t562 t565 y570 0 t551 t552 t553 t554 t555) = some r := by first | (rw [hy570]; with_reducible exact H) | (have H2_ := (Option.bind_some _ _).symm.trans H; rw [hy570]; with_reducible exact H2_) | (have H2_ := (Option.bind_some _ _).symm.trans H; with_reducible exact H2_) | with_reducible exact H | (rw [hy570]; exact H) | exact H
      have Ny570 := Aside0.mk hy570
      clear hy570
      have H' := Aside0.mk H
      clear H
      obtain ⟨Ao30, co30, eo30⟩ := Kd.R_slice HO_6.out
      subst eo30
      go_wp2_with (first | ((with_reducible refine gate_dst (N := 54) rfl ?_); refine Kd.S_lit (Kd.slice 4 Kd.bool) _ 58 ?hg (N := 54) ?hd (xs := ([] : List (List Bool))) (inner := []) (ok := fun _ => True) (okp := fun _ => True) ?hr ?hp (fun _ hk => hk) trivial (Below.refl _ _) (Nat.le_refl _) (by simp) ?_; (case hd => rfl); (case hg => rfl); (case hr => first | (go_simp; done) | (go_simp; rfl)); (case hp => exact (Reps.none _ _)); intro v571 w31 ho32 hb hg_ hnew_; clear hg_ hnew_; (first | rw [← Ny570.out] at ho32 | (simp only [Int.reduceToNat] at ho32; rw [← Ny570.out] at ho32)); have n0_ := Aside0.mk (Kd.R_below (zR HO_4.out) hb); have n1_ := Aside0.mk (Kd.R_below (zR HO_5.out) hb); have n2_ := Aside0.mk (Kd.R_below (zR HO_6.out) hb); have n3_ := Aside0.mk (Kd.R_below (zR HO_562004.out) hb); have n4_ := Aside0.mk (Kd.S_lower ho32 (below_size (zS HB.out GE561.out))); have n5_ := Aside0.mk (kB BK561.out hb); have n6_ := Aside0.mk (below_step (zS HB.out GE561.out) hb); clear HO_4; clear HO_5; clear HO_6; clear HO_562004; clear BK561; clear HB; have HO_4 := n0_; have HO_5 := n1_; have HO_6 := n2_; have HO_562004 := n3_; have HO572 := n4_; have BK561 := n5_; have HB := n6_; clear n0_ n1_ n2_ n3_ n4_ n5_ n6_; clear hb ho32))
      go_loopg [7, 8] kj6 (fun kq v7 v8 w' => ∃ (x7_2 : List (List Bool)) (x8_2 : Int), v8 = .int .i64 x8_2 ∧ Aside0 (laws_FnPlaces.l0 kq t558 t562 t565 x7_2 x8_2 t551 t552 t553 t554 t555 = some r) ∧ Aside0 (kq ≤ kj6) ∧ Aside0 (Kd.R (Kd.int .i64) 3 w' w.heap.size (fun _ => True) (.slice Ao12 t558.length co12) t558) ∧ Aside0 (Kd.R k60 60 w' w.heap.size (fun k_ => some k_ ≠ ((.slice Ao30 t565.length co30) : Value).ownBlock) v563 t562) ∧ Aside0 (Kd.R k60 60 w' w.heap.size (fun k_ => some k_ ≠ (v563 : Value).ownBlock) (.slice Ao30 t565.length co30) t565) ∧ Aside0 (Kd.S (Kd.slice 4 Kd.bool) 58 w' w.heap.size (fun _ => True) v7 x7_2) ∧ Aside0 (Kd.R k66 66 w' w.heap.size (fun _ => True) (.slice Ao11 t555.length co11) t555) ∧ Aside0 (w'.heap[gb561]? = some (.cells #[.int .i64 t551, .int .i64 t552, .int .i64 t553, .int .i64 t554, (.slice Ao11 t555.length co11)] 29 (0, 0))) ∧ Aside0 (Below w.heap.size w w'))
      case atStart => exact ⟨(y570), (0), (by first | rfl | (simp; done) | (simp [*]; done)), H', ⟨Nat.le_refl _⟩, ⟨zR HO_4.out⟩, ⟨zR HO_5.out⟩, ⟨zR HO_6.out⟩, ⟨zQ HO572.out⟩, ⟨zR HO_562004.out⟩, ⟨zK BK561.out⟩, ⟨zS HB.out GE561.out⟩⟩
      case round =>
       as_aux_lemma =>
        clear H'
        obtain ⟨x7_2, x8_2, rfl, HA, HK2, HO_4, HO_5, HO_6, HO_7, HO_562004, BK561, HB⟩ := hrel
        cases gk with
        | zero => exact absurd HA.out (by simp [laws_FnPlaces.l0])
        | succ k2 =>
         have H := HA.out
         clear HA
         simp only [laws_FnPlaces.l0] at H
         by_cases c33 : x8_2 < (t555.length : Int)
         ·rw [if_pos c33] at H
          have c33b0 : decide (x8_2 < (t555.length : Int)) = true := decide_eq_true c33
          clear c33
          replace H := Option.bind_eq_some_iff.mp H
          obtain ⟨⟨t573, t574⟩, A340, H⟩ := H
          (try dsimp only at H)
          have A34 := Aside0.mk A340
          clear A340
          replace H := Option.bind_eq_some_iff.mp H
          obtain ⟨⟨t575, t576⟩, A350, H⟩ := H
          (try dsimp only at H)
          have A35 := Aside0.mk A350
          clear A350
          by_cases c36 : t573 = t575
          ·rw [if_pos c36] at H
           have c36b0 : (t573 == t575) = true := beq_iff_eq.mpr c36
           have c36b1 : (t573 != t575) = false := bne_eq_false_iff_eq.mpr c36
           clear c36
           by_cases c37 : t574 = t576
           ·rw [if_pos c37] at H
            have c37b0 : (t574 == t576) = true := beq_iff_eq.mpr c37
            have c37b1 : (t574 != t576) = false := bne_eq_false_iff_eq.mpr c37
            clear c37
            obtain ⟨ji38, hji38⟩ : ∃ j_ : Int, (wrap64 (t573 * t574)) = j_ := ⟨_, rfl⟩
            replace H : (if 0 ≤ (ji38) then (if (ji38 : Int).toNat ≤ 281474976710656 then (if x7_2.length < 5864062014805 then (laws_FnPlaces.l0 k2 t558 t562 t565 (x7_2 ++ [(List.replicate (ji38 : Int).toNat false)]) (wrap64 (x8_2 + 1)) t551 t552 t553 t554 t555) else (none)) else (none)) else (none)) = some r := by first | (rw [hji38] at H; exact H) | (simp only [hji38] at H ⊢; exact H)
            (try rw [hji38] at A34)
            (try rw [hji38] at A35)
            have hji38w : (IntKind.i64.wrap (t573 * t574)) = ji38 := (i64_w _).trans hji38
            by_cases c39 : 0 ≤ (ji38)
            ·rw [if_pos c39] at H
             have c39b0 := eq_true c39
             have c39b1 : decide (0 ≤ (ji38)) = true := decide_eq_true c39
             clear c39
             by_cases c40 : (ji38 : Int).toNat ≤ 281474976710656
             ·rw [if_pos c40] at H
              have c40b0 := eq_true c40
              have c40b1 : decide ((ji38 : Int).toNat ≤ 281474976710656) = true := decide_eq_true c40
              clear c40
              obtain ⟨y577, hy577⟩ : ∃ y_ : List Bool, y_ = (List.replicate (ji38 : Int).toNat false) := ⟨_, rfl⟩
              replace H : (if x7_2.length < 5864062014805 then (laws_FnPlaces.l0 k2 t558 t562 t565 (x7_2 ++ [y577]) (wrap64 (x8_2 + 1)) t551 t552 t553 t554 t555) else (none)) = some r := by first | (rw [hy577]; with_reducible exact H) | (have H2_ := (Option.bind_some _ _).symm.trans H; rw [hy577]; with_reducible exact H2_) | (have H2_ := (Option.bind_some _ _).symm.trans H; with_reducible exact H2_) | with_reducible exact H | (rw [hy577]; exact H) | exact H
              have Ny577 := Aside0.mk hy577
              clear hy577
              by_cases c41 : x7_2.length < 5864062014805
              ·rw [if_pos c41] at H
               have LMc41 := Aside0.mk c41
               clear c41
               obtain ⟨y580, hy580⟩ : ∃ y_ : List (List Bool), y_ = (x7_2 ++ [y577]) := ⟨_, rfl⟩
               replace H : (laws_FnPlaces.l0 k2 t558 t562 t565 y580 (wrap64 (x8_2 + 1)) t551 t552 t553 t554 t555) = some r := by first | (rw [hy580]; with_reducible exact H) | (have H2_ := (Option.bind_some _ _).symm.trans H; rw [hy580]; with_reducible exact H2_) | (have H2_ := (Option.bind_some _ _).symm.trans H; with_reducible exact H2_) | with_reducible exact H | (rw [hy580]; exact H) | exact H
               have Ny580 := Aside0.mk hy580
               clear hy580
               have H' := Aside0.mk H
               clear H
               obtain ⟨hcz42_0, hcz42_1, hcz42_2, hcz42_3, hcz42_4, hfz42_0, hfz42_1, hfz42_2, hfz42_3, hfz42_4⟩ := bf5 BK561.out
               go_wp2_with (first | ((with_reducible refine gate_callee (f := 21) rfl ?_); refine goesL_ (some 65) rfl rfl Try.func21 (by kernel_rfl) rfl #[.agg #[.int .i64 t551, .int .i64 t552, .int .i64 t553, .int .i64 t554, .slice Ao11 t555.length co11], .int .i64 x8_2] rfl zM ?_; (with_reducible refine (impl_BlocksOf.calls k2 t551 t552 t553 t554 _ _ t555 x8_2 t573 t574 _ ?side1 ?side2 A34.out).mono ?_); (case side1 => repeat (first | exact (Kd.R_reads' HO_562004.out).2.2 | (with_reducible refine Kd.C_alloc ?_ _) | (with_reducible refine Kd.C_drewN ?_ _) | (with_reducible refine Kd.C_drew ?_))); (case side2 => exact (Kd.R_reads' HO_562004.out).2.1); rintro e w43 ⟨rfl, hb⟩; refine ⟨_, rfl, ?_⟩; have n0_ := Aside0.mk (Kd.R_below (zR HO_4.out) hb); have n1_ := Aside0.mk (Kd.R_below (zR HO_5.out) hb); have n2_ := Aside0.mk (Kd.R_below (zR HO_6.out) hb); have n3_ := Aside0.mk (Kd.S_below (zQ HO_7.out) hb); have n4_ := Aside0.mk (Kd.R_below (zR HO_562004.out) hb); have n5_ := Aside0.mk (kB BK561.out hb); have n6_ := Aside0.mk (below_step (zS HB.out GE561.out) hb); clear HO_4; clear HO_5; clear HO_6; clear HO_7; clear HO_562004; clear BK561; clear HB; have HO_4 := n0_; have HO_5 := n1_; have HO_6 := n2_; have HO_7 := n3_; have HO_562004 := n4_; have BK561 := n5_; have HB := n6_; clear n0_ n1_ n2_ n3_ n4_ n5_ n6_; try clear hb; obtain ⟨hcz44_0, hcz44_1, hcz44_2, hcz44_3, hcz44_4, hfz44_0, hfz44_1, hfz44_2, hfz44_3, hfz44_4⟩ := bf5 BK561.out) | ((with_reducible refine gate_callee (f := 20) rfl ?_); refine goesL_ (some 71) rfl rfl Try.func20 (by kernel_rfl) rfl #[.agg #[.int .i64 t551, .int .i64 t552, .int .i64 t553, .int .i64 t554, .slice Ao11 t555.length co11], .int .i64 x8_2] rfl zM ?_; (with_reducible refine (spec_BlocksOf.calls k2 t551 t552 t553 t554 _ _ t555 x8_2 t575 t576 _ ?side1 ?side2 A35.out).mono ?_); (case side1 => repeat (first | exact (Kd.R_reads' HO_562004.out).2.2 | (with_reducible refine Kd.C_alloc ?_ _) | (with_reducible refine Kd.C_drewN ?_ _) | (with_reducible refine Kd.C_drew ?_))); (case side2 => exact (Kd.R_reads' HO_562004.out).2.1); rintro e w45 ⟨rfl, hb⟩; refine ⟨_, rfl, ?_⟩; have n0_ := Aside0.mk (Kd.R_below (zR HO_4.out) hb); have n1_ := Aside0.mk (Kd.R_below (zR HO_5.out) hb); have n2_ := Aside0.mk (Kd.R_below (zR HO_6.out) hb); have n3_ := Aside0.mk (Kd.S_below (zQ HO_7.out) hb); have n4_ := Aside0.mk (Kd.R_below (zR HO_562004.out) hb); have n5_ := Aside0.mk (kB BK561.out hb); have n6_ := Aside0.mk (below_step (zS HB.out GE561.out) hb); clear HO_4; clear HO_5; clear HO_6; clear HO_7; clear HO_562004; clear BK561; clear HB; have HO_4 := n0_; have HO_5 := n1_; have HO_6 := n2_; have HO_7 := n3_; have HO_562004 := n4_; have BK561 := n5_; have HB := n6_; clear n0_ n1_ n2_ n3_ n4_ n5_ n6_; try clear hb) | ((with_reducible refine gate_dst (N := 86) rfl ?_); refine Kd.R_make Kd.bool _ 4 rfl (N := 86) rfl 58 _ _ rfl ji38 rfl rfl Try.underlying58 (.bool false) 1 info4 rfl (by decide) (by omega) false (ok := fun _ => True) (okp := fun _ => True) rfl (fun _ hk => hk) trivial (dT) (Nat.le_trans (Nat.mul_le_mul_right _ (dT : ji38.toNat ≤ 281474976710656)) (by omega)) (Below.refl _ _) (Nat.le_refl _) ?_; intro v578 w46 ho47 hb hg_ hnew_; clear hg_ hnew_; (first | rw [← Ny577.out] at ho47 | (simp only [Int.reduceToNat] at ho47; rw [← Ny577.out] at ho47)); have n0_ := Aside0.mk (Kd.R_below (zR HO_4.out) hb); have n1_ := Aside0.mk (Kd.R_below (zR HO_5.out) hb); have n2_ := Aside0.mk (Kd.R_below (zR HO_6.out) hb); have n3_ := Aside0.mk (Kd.S_elder' (zQ HO_7.out) (Kd.R_base ho47) hb); have n4_ := Aside0.mk (Kd.R_below (zR HO_562004.out) hb); have n5_ := Aside0.mk (Kd.R_lower ho47 (below_size (zS HB.out GE561.out))); have n6_ := Aside0.mk (kB BK561.out hb); have n7_ := Aside0.mk (below_step (zS HB.out GE561.out) hb); clear HO_4; clear HO_5; clear HO_6; clear HO_7; clear HO_562004; clear BK561; clear HB; have HO_4 := n0_; have HO_5 := n1_; have HO_6 := n2_; have HO_7 := n3_; have HO_562004 := n4_; have HO579 := n5_; have BK561 := n6_; have HB := n7_; clear n0_ n1_ n2_ n3_ n4_ n5_ n6_ n7_; clear hb ho47; obtain ⟨Ao49, co49, eo49⟩ := Kd.R_slice HO579.out; subst eo49) | ((with_reducible refine gate_builtin (b := .append) (xs := #[.tmp 82, .tmp 87]) rfl ?_); at_builtin; refine Kd.S_append (Kd.slice 4 Kd.bool) (w0 := w) w.heap.size rfl (.tmp 82) (.tmp 87) 57 58 (.slice none 0 0) 24 rfl Try.underlying57 info58 rfl (by decide) (by omega) u7 x7_2 y577 [.slice Ao49 y577.length co49] (fun _ => True) (fun k_ => some k_ = (.slice Ao49 y577.length co49 : Value).ownBlock) rfl rfl ?aP (fun k_ hk_ => ((Kd.R_mono (ok' := fun k_ => ((fun _ => True)) k_ ∧ some k_ ≠ (u7 : Value).ownBlock) (Kd.R_apart' (HO579.out) (Kd.S_typed HO_7.out) (by decide)) (fun k_ hk => ⟨trivial, hk.2⟩))).1 k_ hk_.symm) ?aF ?aO ?aB ?aS ?aL ?_; (case aP => exact Kd.M_row (Kd.R_mono (Kd.R_tight rfl (Kd.R_mono (ok' := fun k_ => ((fun _ => True)) k_ ∧ some k_ ≠ (u7 : Value).ownBlock) (Kd.R_apart' (HO579.out) (Kd.S_typed HO_7.out) (by decide)) (fun k_ hk => ⟨trivial, hk.2⟩))) (fun _ h_ => h_))); (case aB => exact (zS HB.out GE561.out)); (case aF => exact (fun _ _ => trivial)); (case aO => exact (by (with_reducible repeat (first | apply Kd.S_alloc | apply Kd.S_drewN | apply Kd.S_drew)); exact Kd.S_mono HO_7.out (fun k_ hk => ⟨trivial, fun e_ => hk.2 e_⟩))); (case aS => exact (below_size (zS HB.out GE561.out))); (case aL => have := LMc41.out; omega); intro v581 w48 ho hb hg hat; rw [← Ny580.out] at ho; have n0_ := Aside0.mk (Kd.R_over' (zR HO_4.out) (Kd.S_typed (zQ HO_7.out)) (by decide) hg); have n1_ := Aside0.mk (Kd.R_over' (zR HO_5.out) (Kd.S_typed (zQ HO_7.out)) (by decide) hg); have n2_ := Aside0.mk (Kd.R_over' (zR HO_6.out) (Kd.S_typed (zQ HO_7.out)) (by decide) hg); have n3_ := Aside0.mk (Kd.R_over' (zR HO_562004.out) (Kd.S_typed (zQ HO_7.out)) (by decide) hg); have n4_ := Aside0.mk (kG BK561.out hg (Kd.S_ne HO_7.out BK561.out (by decide))); have n5_ := Aside0.mk (hb); have n6_ := Aside0.mk (ho); clear HO_4; clear HO_5; clear HO_6; clear HO_562004; clear BK561; clear HB; clear HO_7; clear HO579; have HO_4 := n0_; have HO_5 := n1_; have HO_6 := n2_; have HO_562004 := n3_; have BK561 := n4_; have HB := n5_; have HO582 := n6_; clear n0_ n1_ n2_ n3_ n4_ n5_ n6_; clear ho hb hg hat))
               go_roundg k2
               case measure => have := HJ6.out; have := HK2.out; omega
               case rel => exact ⟨(y580), (wrap64 (x8_2 + 1)), (by first | rfl | (simp; done) | (simp [*]; done)), H', ⟨by have := HJ6.out; have := HK2.out; omega⟩, ⟨zR HO_4.out⟩, ⟨zR HO_5.out⟩, ⟨zR HO_6.out⟩, ⟨zQ HO582.out⟩, ⟨zR HO_562004.out⟩, ⟨zK BK561.out⟩, ⟨zS HB.out GE561.out⟩⟩
              ·rw [if_neg c41] at H
               exact absurd H (by simp)
             ·rw [if_neg c40] at H
              exact absurd H (by simp)
            ·rw [if_neg c39] at H
             exact absurd H (by simp)
           ·rw [if_neg c37] at H
            have c37b0 : (t574 == t576) = false := beq_eq_false_iff_ne.mpr c37
            have c37b1 : (t574 != t576) = true := bne_iff_ne.mpr c37
            obtain rfl := Option.some.inj H
            obtain ⟨hcz50_0, hcz50_1, hcz50_2, hcz50_3, hcz50_4, hfz50_0, hfz50_1, hfz50_2, hfz50_3, hfz50_4⟩ := bf5 BK561.out
            go_wp2_with (first | ((with_reducible refine gate_callee (f := 21) rfl ?_); refine goesL_ (some 65) rfl rfl Try.func21 (by kernel_rfl) rfl #[.agg #[.int .i64 t551, .int .i64 t552, .int .i64 t553, .int .i64 t554, .slice Ao11 t555.length co11], .int .i64 x8_2] rfl zM ?_; (with_reducible refine (impl_BlocksOf.calls k2 t551 t552 t553 t554 _ _ t555 x8_2 t573 t574 _ ?side1 ?side2 A34.out).mono ?_); (case side1 => repeat (first | exact (Kd.R_reads' HO_562004.out).2.2 | (with_reducible refine Kd.C_alloc ?_ _) | (with_reducible refine Kd.C_drewN ?_ _) | (with_reducible refine Kd.C_drew ?_))); (case side2 => exact (Kd.R_reads' HO_562004.out).2.1); rintro e w51 ⟨rfl, hb⟩; refine ⟨_, rfl, ?_⟩; have n0_ := Aside0.mk (Kd.R_below (zR HO_4.out) hb); have n1_ := Aside0.mk (Kd.R_below (zR HO_5.out) hb); have n2_ := Aside0.mk (Kd.R_below (zR HO_6.out) hb); have n3_ := Aside0.mk (Kd.S_below (zQ HO_7.out) hb); have n4_ := Aside0.mk (Kd.R_below (zR HO_562004.out) hb); have n5_ := Aside0.mk (kB BK561.out hb); have n6_ := Aside0.mk (below_step (zS HB.out GE561.out) hb); clear HO_4; clear HO_5; clear HO_6; clear HO_7; clear HO_562004; clear BK561; clear HB; have HO_4 := n0_; have HO_5 := n1_; have HO_6 := n2_; have HO_7 := n3_; have HO_562004 := n4_; have BK561 := n5_; have HB := n6_; clear n0_ n1_ n2_ n3_ n4_ n5_ n6_; try clear hb; obtain ⟨hcz52_0, hcz52_1, hcz52_2, hcz52_3, hcz52_4, hfz52_0, hfz52_1, hfz52_2, hfz52_3, hfz52_4⟩ := bf5 BK561.out) | ((with_reducible refine gate_callee (f := 20) rfl ?_); refine goesL_ (some 71) rfl rfl Try.func20 (by kernel_rfl) rfl #[.agg #[.int .i64 t551, .int .i64 t552, .int .i64 t553, .int .i64 t554, .slice Ao11 t555.length co11], .int .i64 x8_2] rfl zM ?_; (with_reducible refine (spec_BlocksOf.calls k2 t551 t552 t553 t554 _ _ t555 x8_2 t575 t576 _ ?side1 ?side2 A35.out).mono ?_); (case side1 => repeat (first | exact (Kd.R_reads' HO_562004.out).2.2 | (with_reducible refine Kd.C_alloc ?_ _) | (with_reducible refine Kd.C_drewN ?_ _) | (with_reducible refine Kd.C_drew ?_))); (case side2 => exact (Kd.R_reads' HO_562004.out).2.1); rintro e w53 ⟨rfl, hb⟩; refine ⟨_, rfl, ?_⟩; have n0_ := Aside0.mk (Kd.R_below (zR HO_4.out) hb); have n1_ := Aside0.mk (Kd.R_below (zR HO_5.out) hb); have n2_ := Aside0.mk (Kd.R_below (zR HO_6.out) hb); have n3_ := Aside0.mk (Kd.S_below (zQ HO_7.out) hb); have n4_ := Aside0.mk (Kd.R_below (zR HO_562004.out) hb); have n5_ := Aside0.mk (kB BK561.out hb); have n6_ := Aside0.mk (below_step (zS HB.out GE561.out) hb); clear HO_4; clear HO_5; clear HO_6; clear HO_7; clear HO_562004; clear BK561; clear HB; have HO_4 := n0_; have HO_5 := n1_; have HO_6 := n2_; have HO_7 := n3_; have HO_562004 := n4_; have BK561 := n5_; have HB := n6_; clear n0_ n1_ n2_ n3_ n4_ n5_ n6_; try clear hb))
            go_ret
            exact ⟨by first | rfl | (simp [errW_none, errW_some] <;> rfl) | (simp [*, errW_none, errW_some] <;> rfl), zS HB.out GE561.out⟩
          ·rw [if_neg c36] at H
           have c36b0 : (t573 == t575) = false := beq_eq_false_iff_ne.mpr c36
           have c36b1 : (t573 != t575) = true := bne_iff_ne.mpr c36
           obtain rfl := Option.some.inj H
           obtain ⟨hcz54_0, hcz54_1, hcz54_2, hcz54_3, hcz54_4, hfz54_0, hfz54_1, hfz54_2, hfz54_3, hfz54_4⟩ := bf5 BK561.out
           go_wp2_with (first | ((with_reducible refine gate_callee (f := 21) rfl ?_); refine goesL_ (some 65) rfl rfl Try.func21 (by kernel_rfl) rfl #[.agg #[.int .i64 t551, .int .i64 t552, .int .i64 t553, .int .i64 t554, .slice Ao11 t555.length co11], .int .i64 x8_2] rfl zM ?_; (with_reducible refine (impl_BlocksOf.calls k2 t551 t552 t553 t554 _ _ t555 x8_2 t573 t574 _ ?side1 ?side2 A34.out).mono ?_); (case side1 => repeat (first | exact (Kd.R_reads' HO_562004.out).2.2 | (with_reducible refine Kd.C_alloc ?_ _) | (with_reducible refine Kd.C_drewN ?_ _) | (with_reducible refine Kd.C_drew ?_))); (case side2 => exact (Kd.R_reads' HO_562004.out).2.1); rintro e w55 ⟨rfl, hb⟩; refine ⟨_, rfl, ?_⟩; have n0_ := Aside0.mk (Kd.R_below (zR HO_4.out) hb); have n1_ := Aside0.mk (Kd.R_below (zR HO_5.out) hb); have n2_ := Aside0.mk (Kd.R_below (zR HO_6.out) hb); have n3_ := Aside0.mk (Kd.S_below (zQ HO_7.out) hb); have n4_ := Aside0.mk (Kd.R_below (zR HO_562004.out) hb); have n5_ := Aside0.mk (kB BK561.out hb); have n6_ := Aside0.mk (below_step (zS HB.out GE561.out) hb); clear HO_4; clear HO_5; clear HO_6; clear HO_7; clear HO_562004; clear BK561; clear HB; have HO_4 := n0_; have HO_5 := n1_; have HO_6 := n2_; have HO_7 := n3_; have HO_562004 := n4_; have BK561 := n5_; have HB := n6_; clear n0_ n1_ n2_ n3_ n4_ n5_ n6_; try clear hb; obtain ⟨hcz56_0, hcz56_1, hcz56_2, hcz56_3, hcz56_4, hfz56_0, hfz56_1, hfz56_2, hfz56_3, hfz56_4⟩ := bf5 BK561.out) | ((with_reducible refine gate_callee (f := 20) rfl ?_); refine goesL_ (some 71) rfl rfl Try.func20 (by kernel_rfl) rfl #[.agg #[.int .i64 t551, .int .i64 t552, .int .i64 t553, .int .i64 t554, .slice Ao11 t555.length co11], .int .i64 x8_2] rfl zM ?_; (with_reducible refine (spec_BlocksOf.calls k2 t551 t552 t553 t554 _ _ t555 x8_2 t575 t576 _ ?side1 ?side2 A35.out).mono ?_); (case side1 => repeat (first | exact (Kd.R_reads' HO_562004.out).2.2 | (with_reducible refine Kd.C_alloc ?_ _) | (with_reducible refine Kd.C_drewN ?_ _) | (with_reducible refine Kd.C_drew ?_))); (case side2 => exact (Kd.R_reads' HO_562004.out).2.1); rintro e w57 ⟨rfl, hb⟩; refine ⟨_, rfl, ?_⟩; have n0_ := Aside0.mk (Kd.R_below (zR HO_4.out) hb); have n1_ := Aside0.mk (Kd.R_below (zR HO_5.out) hb); have n2_ := Aside0.mk (Kd.R_below (zR HO_6.out) hb); have n3_ := Aside0.mk (Kd.S_below (zQ HO_7.out) hb); have n4_ := Aside0.mk (Kd.R_below (zR HO_562004.out) hb); have n5_ := Aside0.mk (kB BK561.out hb); have n6_ := Aside0.mk (below_step (zS HB.out GE561.out) hb); clear HO_4; clear HO_5; clear HO_6; clear HO_7; clear HO_562004; clear BK561; clear HB; have HO_4 := n0_; have HO_5 := n1_; have HO_6 := n2_; have HO_7 := n3_; have HO_562004 := n4_; have BK561 := n5_; have HB := n6_; clear n0_ n1_ n2_ n3_ n4_ n5_ n6_; try clear hb))
           go_ret
           exact ⟨by first | rfl | (simp [errW_none, errW_some] <;> rfl) | (simp [*, errW_none, errW_some] <;> rfl), zS HB.out GE561.out⟩
         ·rw [if_neg c33] at H
          have c33b0 : decide (x8_2 < (t555.length : Int)) = false := decide_eq_false c33
          clear c33
          have H' := Aside0.mk H
          clear H
          obtain ⟨hcz58_0, hcz58_1, hcz58_2, hcz58_3, hcz58_4, hfz58_0, hfz58_1, hfz58_2, hfz58_3, hfz58_4⟩ := bf5 BK561.out
          go_wp2
          go_loopg [13] k2 (fun kq v13 w' => ∃ (x7_3 : List (List Bool)) (x13_3 : Int), v13 = .int .i64 x13_3 ∧ Aside0 (laws_FnPlaces.l1 kq t558 t562 t565 x7_3 x13_3 t551 t552 t553 t554 t555 = some r) ∧ Aside0 (kq ≤ k2) ∧ Aside0 (Kd.R (Kd.int .i64) 3 w' w.heap.size (fun _ => True) (.slice Ao12 t558.length co12) t558) ∧ Aside0 (Kd.R k60 60 w' w.heap.size (fun k_ => some k_ ≠ ((.slice Ao30 t565.length co30) : Value).ownBlock) v563 t562) ∧ Aside0 (Kd.R k60 60 w' w.heap.size (fun k_ => some k_ ≠ (v563 : Value).ownBlock) (.slice Ao30 t565.length co30) t565) ∧ Aside0 (Kd.S (Kd.slice 4 Kd.bool) 58 w' w.heap.size (fun _ => True) u7 x7_3) ∧ Aside0 (Kd.R k66 66 w' w.heap.size (fun _ => True) (.slice Ao11 t555.length co11) t555) ∧ Aside0 (w'.heap[gb561]? = some (.cells #[.int .i64 t551, .int .i64 t552, .int .i64 t553, .int .i64 t554, (.slice Ao11 t555.length co11)] 29 (0, 0))) ∧ Aside0 (Below w.heap.size w w'))
          case atStart => exact ⟨(x7_2), (0), (by first | rfl | (simp; done) | (simp [*]; done)), H', ⟨Nat.le_refl _⟩, ⟨zR HO_4.out⟩, ⟨zR HO_5.out⟩, ⟨zR HO_6.out⟩, ⟨zQ HO_7.out⟩, ⟨zR HO_562004.out⟩, ⟨zK BK561.out⟩, ⟨zS HB.out GE561.out⟩⟩
          case round =>
           as_aux_lemma =>
            clear H'
            obtain ⟨x7_3, x13_3, rfl, HA, HK3, HO_4, HO_5, HO_6, HO_7, HO_562004, BK561, HB⟩ := hrel
            cases gk with
            | zero => exact absurd HA.out (by simp [laws_FnPlaces.l1])
            | succ k3 =>
             have H := HA.out
             clear HA
             simp only [laws_FnPlaces.l1] at H
             by_cases c59 : x13_3 < (t562.length : Int)
             ·rw [if_pos c59] at H
              have c59b0 : decide (x13_3 < (t562.length : Int)) = true := decide_eq_true c59
              clear c59
              by_cases c60 : 0 ≤ x13_3
              ·rw [if_pos c60] at H
               have c60b0 : decide (0 ≤ x13_3) = true := decide_eq_true c60
               clear c60
               by_cases c61 : x13_3 < (t565.length : Int)
               ·rw [if_pos c61] at H
                have c61b0 : decide (x13_3 < (t565.length : Int)) = true := decide_eq_true c61
                clear c61
                by_cases c62 : (!(((rd_T60 t562 x13_3).f0) == ((rd_T60 t565 x13_3).f0)) || (!(((rd_T60 t562 x13_3).f1) == ((rd_T60 t565 x13_3).f1)) || (!(((rd_T60 t562 x13_3).f2) == ((rd_T60 t565 x13_3).f2))))) = true
                ·as_aux_lemma =>
                  rw [if_pos c62] at H
                  have c62b0 : (!(((rd_T60 t562 x13_3).f0) == ((rd_T60 t565 x13_3).f0)) || (!(((rd_T60 t562 x13_3).f1) == ((rd_T60 t565 x13_3).f1)) || (!(((rd_T60 t562 x13_3).f2) == ((rd_T60 t565 x13_3).f2))))) = true := c62
                  clear c62
                  obtain rfl := Option.some.inj H
                  obtain ⟨Ao63, co63, eo63⟩ := Kd.R_slice HO_5.out
                  subst eo63
                  have p583 : 0 ≤ (x13_3 : Int) := dT
                  have q583 : x13_3 < (t562.length : Int) := dT
                  obtain ⟨ad583, e583, hx583_0, hx583_1, hx583_2⟩ := at_T60 (Kd.R_reads' HO_5.out).2.2 x13_3 p583 q583
                  cases e583
                  replace p583 := eq_true p583
                  replace q583 := eq_true q583
                  try go_wp2_with (first | ((with_reducible refine gate_dst (N := 14) rfl ?_); refine box_event ?hg (N := 14) ?hd (cs := #[.int .i64 0, .int .i64 0, .int .i64 0]) (t := 60) ?hr ?_; (case hd => rfl); (case hg => rfl); (case hr => first | (go_simp; done) | (go_simp; rfl)); intro gb584 hg w64 hbox hb; have n0_ := Aside0.mk (Kd.R_below (zR HO_4.out) hb); have n1_ := Aside0.mk (Kd.R_below (Kd.R_elderB (zR HO_5.out) gb584 (Nat.le_of_eq hg.symm)) hb); have n2_ := Aside0.mk (Kd.R_below (Kd.R_elderB (zR HO_6.out) gb584 (Nat.le_of_eq hg.symm)) hb); have n3_ := Aside0.mk (Kd.S_below (zQ HO_7.out) hb); have n4_ := Aside0.mk (Kd.R_below (zR HO_562004.out) hb); have n5_ := Aside0.mk (kB BK561.out hb); have n6_ := Aside0.mk (below_step (zS HB.out GE561.out) hb); have n7_ := Aside0.mk (hbox); have n8_ := Aside0.mk (gS hg HB.out GE561.out); have n9_ := Aside0.mk (gS hg HB.out GE561.out); have n10_ := Aside0.mk (nL hg BK561.out); have n11_ := Aside0.mk (nG hg BK561.out); clear HO_4; clear HO_5; clear HO_6; clear HO_7; clear HO_562004; clear BK561; clear HB; have HO_4 := n0_; have HO_5 := n1_; have HO_6 := n2_; have HO_7 := n3_; have HO_562004 := n4_; have BK561 := n5_; have HB := n6_; have BK584 := n7_; have GW584 := n8_; have GE584 := n9_; have NB561_584 := n10_; have NB584_561 := n11_; clear n0_ n1_ n2_ n3_ n4_ n5_ n6_ n7_ n8_ n9_ n10_ n11_; clear hb hbox hg; have hnb65 := NB584_561.out; have hnc65 := NB561_584.out; obtain ⟨hcz66_0, hcz66_1, hcz66_2, hfz66_0, hfz66_1, hfz66_2⟩ := bf3 BK584.out))
                  have n0_ : Aside0 (Kd.R (Kd.int .i64) 3 (((w64.setCell ⟨gb584, 0, none⟩ (.int .i64 ((rd_T60 t562 x13_3).f0))).setCell ⟨gb584, 1, none⟩ (.int .i64 ((rd_T60 t562 x13_3).f1))).setCell ⟨gb584, 2, none⟩ (.int .i64 ((rd_T60 t562 x13_3).f2))) w.heap.size (fun _ => True) (.slice Ao12 t558.length co12) t558) := ⟨by (with_reducible repeat (first | apply Kd.R_alloc | apply Kd.R_drewN | apply Kd.R_drew)); exact Kd.R_mono (Kd.R_far (p := ⟨gb584, 2, none⟩) (Kd.R_far (p := ⟨gb584, 1, none⟩) (Kd.R_far (p := ⟨gb584, 0, none⟩) (Kd.R_types HO_4.out BK584.out (by decide)) (fun _ hk => hk.2) (.int .i64 ((rd_T60 t562 x13_3).f0))) (fun _ hk => hk.2) (.int .i64 ((rd_T60 t562 x13_3).f1))) (fun _ hk => hk.2) (.int .i64 ((rd_T60 t562 x13_3).f2))) (fun _ hk => trivial)⟩
                  have n1_ : Aside0 (Kd.R k60 60 (((w64.setCell ⟨gb584, 0, none⟩ (.int .i64 ((rd_T60 t562 x13_3).f0))).setCell ⟨gb584, 1, none⟩ (.int .i64 ((rd_T60 t562 x13_3).f1))).setCell ⟨gb584, 2, none⟩ (.int .i64 ((rd_T60 t562 x13_3).f2))) w.heap.size (fun k_ => some k_ ≠ (.slice Ao30 t565.length co30 : Value).ownBlock ∧ k_ ≠ gb584) (.slice (some ad583) t562.length co63) t562) := ⟨by (with_reducible repeat (first | apply Kd.R_alloc | apply Kd.R_drewN | apply Kd.R_drew)); exact Kd.R_mono (Kd.R_far (p := ⟨gb584, 2, none⟩) (Kd.R_far (p := ⟨gb584, 1, none⟩) (Kd.R_far (p := ⟨gb584, 0, none⟩) (Kd.R_mono HO_5.out (fun k_ hk => (⟨hk, hk.2⟩ : _ ∧ k_ ≠ gb584))) (fun _ hk => hk.2) (.int .i64 ((rd_T60 t562 x13_3).f0))) (fun _ hk => hk.2) (.int .i64 ((rd_T60 t562 x13_3).f1))) (fun _ hk => hk.2) (.int .i64 ((rd_T60 t562 x13_3).f2))) (fun _ hk => ⟨hk.1.1, hk.1.2⟩)⟩
                  have n2_ : Aside0 (Kd.R k60 60 (((w64.setCell ⟨gb584, 0, none⟩ (.int .i64 ((rd_T60 t562 x13_3).f0))).setCell ⟨gb584, 1, none⟩ (.int .i64 ((rd_T60 t562 x13_3).f1))).setCell ⟨gb584, 2, none⟩ (.int .i64 ((rd_T60 t562 x13_3).f2))) w.heap.size (fun k_ => some k_ ≠ (.slice (some ad583) t562.length co63 : Value).ownBlock ∧ k_ ≠ gb584) (.slice Ao30 t565.length co30) t565) := ⟨by (with_reducible repeat (first | apply Kd.R_alloc | apply Kd.R_drewN | apply Kd.R_drew)); exact Kd.R_mono (Kd.R_far (p := ⟨gb584, 2, none⟩) (Kd.R_far (p := ⟨gb584, 1, none⟩) (Kd.R_far (p := ⟨gb584, 0, none⟩) (Kd.R_mono HO_6.out (fun k_ hk => (⟨hk, hk.2⟩ : _ ∧ k_ ≠ gb584))) (fun _ hk => hk.2) (.int .i64 ((rd_T60 t562 x13_3).f0))) (fun _ hk => hk.2) (.int .i64 ((rd_T60 t562 x13_3).f1))) (fun _ hk => hk.2) (.int .i64 ((rd_T60 t562 x13_3).f2))) (fun _ hk => ⟨hk.1.1, hk.1.2⟩)⟩
                  have n3_ : Aside0 (Kd.S (Kd.slice 4 Kd.bool) 58 (((w64.setCell ⟨gb584, 0, none⟩ (.int .i64 ((rd_T60 t562 x13_3).f0))).setCell ⟨gb584, 1, none⟩ (.int .i64 ((rd_T60 t562 x13_3).f1))).setCell ⟨gb584, 2, none⟩ (.int .i64 ((rd_T60 t562 x13_3).f2))) w.heap.size (fun _ => True) u7 x7_3) := ⟨by (with_reducible repeat (first | apply Kd.S_alloc | apply Kd.S_drewN | apply Kd.S_drew)); exact Kd.S_mono (Kd.S_far (p := ⟨gb584, 2, none⟩) (Kd.S_far (p := ⟨gb584, 1, none⟩) (Kd.S_far (p := ⟨gb584, 0, none⟩) (Kd.S_types HO_7.out BK584.out (by decide)) (fun _ hk => hk.2) (.int .i64 ((rd_T60 t562 x13_3).f0))) (fun _ hk => hk.2) (.int .i64 ((rd_T60 t562 x13_3).f1))) (fun _ hk => hk.2) (.int .i64 ((rd_T60 t562 x13_3).f2))) (fun _ hk => trivial)⟩
                  have n4_ : Aside0 (Kd.R k66 66 (((w64.setCell ⟨gb584, 0, none⟩ (.int .i64 ((rd_T60 t562 x13_3).f0))).setCell ⟨gb584, 1, none⟩ (.int .i64 ((rd_T60 t562 x13_3).f1))).setCell ⟨gb584, 2, none⟩ (.int .i64 ((rd_T60 t562 x13_3).f2))) w.heap.size (fun _ => True) (.slice Ao11 t555.length co11) t555) := ⟨by (with_reducible repeat (first | apply Kd.R_alloc | apply Kd.R_drewN | apply Kd.R_drew)); exact Kd.R_mono (Kd.R_far (p := ⟨gb584, 2, none⟩) (Kd.R_far (p := ⟨gb584, 1, none⟩) (Kd.R_far (p := ⟨gb584, 0, none⟩) (Kd.R_types HO_562004.out BK584.out (by decide)) (fun _ hk => hk.2) (.int .i64 ((rd_T60 t562 x13_3).f0))) (fun _ hk => hk.2) (.int .i64 ((rd_T60 t562 x13_3).f1))) (fun _ hk => hk.2) (.int .i64 ((rd_T60 t562 x13_3).f2))) (fun _ hk => trivial)⟩
                  have n5_ : Aside0 ((((w64.setCell ⟨gb584, 0, none⟩ (.int .i64 ((rd_T60 t562 x13_3).f0))).setCell ⟨gb584, 1, none⟩ (.int .i64 ((rd_T60 t562 x13_3).f1))).setCell ⟨gb584, 2, none⟩ (.int .i64 ((rd_T60 t562 x13_3).f2))).heap[gb561]? = some (.cells #[.int .i64 t551, .int .i64 t552, .int .i64 t553, .int .i64 t554, .slice Ao11 t555.length co11] 29 (0, 0))) := ⟨zF BK561.out NB561_584.out⟩
                  have n6_ : Aside0 ((((w64.setCell ⟨gb584, 0, none⟩ (.int .i64 ((rd_T60 t562 x13_3).f0))).setCell ⟨gb584, 1, none⟩ (.int .i64 ((rd_T60 t562 x13_3).f1))).setCell ⟨gb584, 2, none⟩ (.int .i64 ((rd_T60 t562 x13_3).f2))).heap[gb584]? = some (.cells #[.int .i64 ((rd_T60 t562 x13_3).f0), .int .i64 ((rd_T60 t562 x13_3).f1), .int .i64 ((rd_T60 t562 x13_3).f2)] 60 (0, 0))) := ⟨zP BK584.out⟩
                  have n7_ : Aside0 (Below w.heap.size w (((w64.setCell ⟨gb584, 0, none⟩ (.int .i64 ((rd_T60 t562 x13_3).f0))).setCell ⟨gb584, 1, none⟩ (.int .i64 ((rd_T60 t562 x13_3).f1))).setCell ⟨gb584, 2, none⟩ (.int .i64 ((rd_T60 t562 x13_3).f2)))) := ⟨zT HB.out GE561.out GE584.out⟩
                  generalize (((w64.setCell ⟨gb584, 0, none⟩ (.int .i64 ((rd_T60 t562 x13_3).f0))).setCell ⟨gb584, 1, none⟩ (.int .i64 ((rd_T60 t562 x13_3).f1))).setCell ⟨gb584, 2, none⟩ (.int .i64 ((rd_T60 t562 x13_3).f2))) = w67 at n0_ n1_ n2_ n3_ n4_ n5_ n6_ n7_ ⊢
                  have HO_4 := n0_
                  have HO_5 := n1_
                  have HO_6 := n2_
                  have HO_7 := n3_
                  have HO_562004 := n4_
                  have BK561 := n5_
                  have BK584 := n6_
                  have HB := n7_
                  clear n0_ n1_ n2_ n3_ n4_ n5_ n6_ n7_
                  have n0_ := Aside0.mk (Kd.R_drew HO_4.out)
                  have n1_ := Aside0.mk (Kd.R_drew HO_5.out)
                  have n2_ := Aside0.mk (Kd.R_drew HO_6.out)
                  have n3_ := Aside0.mk (Kd.S_drew HO_7.out)
                  have n4_ := Aside0.mk (Kd.R_drew HO_562004.out)
                  have n5_ := Aside0.mk (blk_drew BK561.out)
                  have n6_ := Aside0.mk (blk_drew BK584.out)
                  have n7_ := Aside0.mk (below_drew1 HB.out)
                  clear HO_4
                  clear HO_5
                  clear HO_6
                  clear HO_7
                  clear HO_562004
                  clear BK561
                  clear BK584
                  clear HB
                  have HO_4 := n0_
                  have HO_5 := n1_
                  have HO_6 := n2_
                  have HO_7 := n3_
                  have HO_562004 := n4_
                  have BK561 := n5_
                  have BK584 := n6_
                  have HB := n7_
                  clear n0_ n1_ n2_ n3_ n4_ n5_ n6_ n7_
                  have p585 : 0 ≤ (x13_3 : Int) := dT
                  have q585 : x13_3 < (t565.length : Int) := dT
                  obtain ⟨ad585, e585, hx585_0, hx585_1, hx585_2⟩ := at_T60 (Kd.R_reads' HO_6.out).2.2 x13_3 p585 q585
                  cases e585
                  replace p585 := eq_true p585
                  replace q585 := eq_true q585
                  refine start_ (n := 6) (S := fun w' => w'.cell? ⟨gb584, 0, none⟩ = some (.int .i64 ((rd_T60 t562 x13_3).f0)) ∧ w'.cell? ⟨gb584, 1, none⟩ = some (.int .i64 ((rd_T60 t562 x13_3).f1)) ∧ w'.cell? ⟨gb584, 2, none⟩ = some (.int .i64 ((rd_T60 t562 x13_3).f2)) ∧ w'.cell? (ad585.add ((x13_3).toNat * 3)) = some (.int .i64 ((rd_T60 t565 x13_3).f0)) ∧ w'.cell? ⟨(ad585.add ((x13_3).toNat * 3)).block, (ad585.add ((x13_3).toNat * 3)).off + 1, none⟩ = some (.int .i64 ((rd_T60 t565 x13_3).f1)) ∧ w'.cell? ⟨(ad585.add ((x13_3).toNat * 3)).block, (ad585.add ((x13_3).toNat * 3)).off + 2, none⟩ = some (.int .i64 ((rd_T60 t565 x13_3).f2))) (ds := []) (Array.replicate 6 false) (by kernel_rfl) rfl rfl ⟨(blk_cell BK584.out 0).trans rfl, (blk_cell BK584.out 1).trans rfl, (blk_cell BK584.out 2).trans rfl, hx585_0, hx585_1, hx585_2⟩ (fun hHeld => ?_)
                  generalize w67.drew = w68 at HO_4 HO_5 HO_6 HO_7 HO_562004 BK561 BK584 HB hx585_0 hx585_1 hx585_2 hHeld ⊢
                  refine sv 1 100 (lbn 6 2) ?_
                  refine sv 2 101 (lbn 6 6) ?_
                  refine sv 3 102 (lbn 6 14) ?_
                  refine st 0 99 (lbn 6 15) hHeld ?_
                  refine st 4 103 (lbn 6 31) hHeld ?_
                  refine sv 5 104 (lbn 6 63) ?_
                  refine done_ (by kernel_rfl) ?_
                  try go_wp2
                  go_ret
                  exact ⟨by first | rfl | (simp [errW_none, errW_some] <;> rfl) | (simp [*, errW_none, errW_some] <;> rfl), zT HB.out GE561.out GE584.out⟩
                ·rw [if_neg c62] at H
                 have c62b0 : (!(((rd_T60 t562 x13_3).f0) == ((rd_T60 t565 x13_3).f0)) || (!(((rd_T60 t562 x13_3).f1) == ((rd_T60 t565 x13_3).f1)) || (!(((rd_T60 t562 x13_3).f2) == ((rd_T60 t565 x13_3).f2))))) = false := by simpa using c62
                 clear c62
                 replace H := Option.bind_eq_some_iff.mp H
                 obtain ⟨⟨t586, t587⟩, A690, H⟩ := H
                 (try dsimp only at H)
                 have A69 := Aside0.mk A690
                 clear A690
                 by_cases c70 : ((rd_T60 t562 x13_3).f1) < 0
                 ·as_aux_lemma =>
                   rw [if_pos c70] at H
                   have c70b0 : decide (((rd_T60 t562 x13_3).f1) < 0) = true := decide_eq_true c70
                   clear c70
                   obtain rfl := Option.some.inj H
                   obtain ⟨Ao71, co71, eo71⟩ := Kd.R_slice HO_5.out
                   subst eo71
                   have p583 : 0 ≤ (x13_3 : Int) := dT
                   have q583 : x13_3 < (t562.length : Int) := dT
                   obtain ⟨ad583, e583, hx583_0, hx583_1, hx583_2⟩ := at_T60 (Kd.R_reads' HO_5.out).2.2 x13_3 p583 q583
                   cases e583
                   replace p583 := eq_true p583
                   replace q583 := eq_true q583
                   try go_wp2_with (first | ((with_reducible refine gate_dst (N := 14) rfl ?_); refine box_event ?hg (N := 14) ?hd (cs := #[.int .i64 0, .int .i64 0, .int .i64 0]) (t := 60) ?hr ?_; (case hd => rfl); (case hg => rfl); (case hr => first | (go_simp; done) | (go_simp; rfl)); intro gb584 hg w72 hbox hb; have n0_ := Aside0.mk (Kd.R_below (zR HO_4.out) hb); have n1_ := Aside0.mk (Kd.R_below (Kd.R_elderB (zR HO_5.out) gb584 (Nat.le_of_eq hg.symm)) hb); have n2_ := Aside0.mk (Kd.R_below (Kd.R_elderB (zR HO_6.out) gb584 (Nat.le_of_eq hg.symm)) hb); have n3_ := Aside0.mk (Kd.S_below (zQ HO_7.out) hb); have n4_ := Aside0.mk (Kd.R_below (zR HO_562004.out) hb); have n5_ := Aside0.mk (kB BK561.out hb); have n6_ := Aside0.mk (below_step (zS HB.out GE561.out) hb); have n7_ := Aside0.mk (hbox); have n8_ := Aside0.mk (gS hg HB.out GE561.out); have n9_ := Aside0.mk (gS hg HB.out GE561.out); have n10_ := Aside0.mk (nL hg BK561.out); have n11_ := Aside0.mk (nG hg BK561.out); clear HO_4; clear HO_5; clear HO_6; clear HO_7; clear HO_562004; clear BK561; clear HB; have HO_4 := n0_; have HO_5 := n1_; have HO_6 := n2_; have HO_7 := n3_; have HO_562004 := n4_; have BK561 := n5_; have HB := n6_; have BK584 := n7_; have GW584 := n8_; have GE584 := n9_; have NB561_584 := n10_; have NB584_561 := n11_; clear n0_ n1_ n2_ n3_ n4_ n5_ n6_ n7_ n8_ n9_ n10_ n11_; clear hb hbox hg; have hnb73 := NB584_561.out; have hnc73 := NB561_584.out; obtain ⟨hcz74_0, hcz74_1, hcz74_2, hfz74_0, hfz74_1, hfz74_2⟩ := bf3 BK584.out))
                   have n0_ : Aside0 (Kd.R (Kd.int .i64) 3 (((w72.setCell ⟨gb584, 0, none⟩ (.int .i64 ((rd_T60 t562 x13_3).f0))).setCell ⟨gb584, 1, none⟩ (.int .i64 ((rd_T60 t562 x13_3).f1))).setCell ⟨gb584, 2, none⟩ (.int .i64 ((rd_T60 t562 x13_3).f2))) w.heap.size (fun _ => True) (.slice Ao12 t558.length co12) t558) := ⟨by (with_reducible repeat (first | apply Kd.R_alloc | apply Kd.R_drewN | apply Kd.R_drew)); exact Kd.R_mono (Kd.R_far (p := ⟨gb584, 2, none⟩) (Kd.R_far (p := ⟨gb584, 1, none⟩) (Kd.R_far (p := ⟨gb584, 0, none⟩) (Kd.R_types HO_4.out BK584.out (by decide)) (fun _ hk => hk.2) (.int .i64 ((rd_T60 t562 x13_3).f0))) (fun _ hk => hk.2) (.int .i64 ((rd_T60 t562 x13_3).f1))) (fun _ hk => hk.2) (.int .i64 ((rd_T60 t562 x13_3).f2))) (fun _ hk => trivial)⟩
                   have n1_ : Aside0 (Kd.R k60 60 (((w72.setCell ⟨gb584, 0, none⟩ (.int .i64 ((rd_T60 t562 x13_3).f0))).setCell ⟨gb584, 1, none⟩ (.int .i64 ((rd_T60 t562 x13_3).f1))).setCell ⟨gb584, 2, none⟩ (.int .i64 ((rd_T60 t562 x13_3).f2))) w.heap.size (fun k_ => some k_ ≠ (.slice Ao30 t565.length co30 : Value).ownBlock ∧ k_ ≠ gb584) (.slice (some ad583) t562.length co71) t562) := ⟨by (with_reducible repeat (first | apply Kd.R_alloc | apply Kd.R_drewN | apply Kd.R_drew)); exact Kd.R_mono (Kd.R_far (p := ⟨gb584, 2, none⟩) (Kd.R_far (p := ⟨gb584, 1, none⟩) (Kd.R_far (p := ⟨gb584, 0, none⟩) (Kd.R_mono HO_5.out (fun k_ hk => (⟨hk, hk.2⟩ : _ ∧ k_ ≠ gb584))) (fun _ hk => hk.2) (.int .i64 ((rd_T60 t562 x13_3).f0))) (fun _ hk => hk.2) (.int .i64 ((rd_T60 t562 x13_3).f1))) (fun _ hk => hk.2) (.int .i64 ((rd_T60 t562 x13_3).f2))) (fun _ hk => ⟨hk.1.1, hk.1.2⟩)⟩
                   have n2_ : Aside0 (Kd.R k60 60 (((w72.setCell ⟨gb584, 0, none⟩ (.int .i64 ((rd_T60 t562 x13_3).f0))).setCell ⟨gb584, 1, none⟩ (.int .i64 ((rd_T60 t562 x13_3).f1))).setCell ⟨gb584, 2, none⟩ (.int .i64 ((rd_T60 t562 x13_3).f2))) w.heap.size (fun k_ => some k_ ≠ (.slice (some ad583) t562.length co71 : Value).ownBlock ∧ k_ ≠ gb584) (.slice Ao30 t565.length co30) t565) := ⟨by (with_reducible repeat (first | apply Kd.R_alloc | apply Kd.R_drewN | apply Kd.R_drew)); exact Kd.R_mono (Kd.R_far (p := ⟨gb584, 2, none⟩) (Kd.R_far (p := ⟨gb584, 1, none⟩) (Kd.R_far (p := ⟨gb584, 0, none⟩) (Kd.R_mono HO_6.out (fun k_ hk => (⟨hk, hk.2⟩ : _ ∧ k_ ≠ gb584))) (fun _ hk => hk.2) (.int .i64 ((rd_T60 t562 x13_3).f0))) (fun _ hk => hk.2) (.int .i64 ((rd_T60 t562 x13_3).f1))) (fun _ hk => hk.2) (.int .i64 ((rd_T60 t562 x13_3).f2))) (fun _ hk => ⟨hk.1.1, hk.1.2⟩)⟩
                   have n3_ : Aside0 (Kd.S (Kd.slice 4 Kd.bool) 58 (((w72.setCell ⟨gb584, 0, none⟩ (.int .i64 ((rd_T60 t562 x13_3).f0))).setCell ⟨gb584, 1, none⟩ (.int .i64 ((rd_T60 t562 x13_3).f1))).setCell ⟨gb584, 2, none⟩ (.int .i64 ((rd_T60 t562 x13_3).f2))) w.heap.size (fun _ => True) u7 x7_3) := ⟨by (with_reducible repeat (first | apply Kd.S_alloc | apply Kd.S_drewN | apply Kd.S_drew)); exact Kd.S_mono (Kd.S_far (p := ⟨gb584, 2, none⟩) (Kd.S_far (p := ⟨gb584, 1, none⟩) (Kd.S_far (p := ⟨gb584, 0, none⟩) (Kd.S_types HO_7.out BK584.out (by decide)) (fun _ hk => hk.2) (.int .i64 ((rd_T60 t562 x13_3).f0))) (fun _ hk => hk.2) (.int .i64 ((rd_T60 t562 x13_3).f1))) (fun _ hk => hk.2) (.int .i64 ((rd_T60 t562 x13_3).f2))) (fun _ hk => trivial)⟩
                   have n4_ : Aside0 (Kd.R k66 66 (((w72.setCell ⟨gb584, 0, none⟩ (.int .i64 ((rd_T60 t562 x13_3).f0))).setCell ⟨gb584, 1, none⟩ (.int .i64 ((rd_T60 t562 x13_3).f1))).setCell ⟨gb584, 2, none⟩ (.int .i64 ((rd_T60 t562 x13_3).f2))) w.heap.size (fun _ => True) (.slice Ao11 t555.length co11) t555) := ⟨by (with_reducible repeat (first | apply Kd.R_alloc | apply Kd.R_drewN | apply Kd.R_drew)); exact Kd.R_mono (Kd.R_far (p := ⟨gb584, 2, none⟩) (Kd.R_far (p := ⟨gb584, 1, none⟩) (Kd.R_far (p := ⟨gb584, 0, none⟩) (Kd.R_types HO_562004.out BK584.out (by decide)) (fun _ hk => hk.2) (.int .i64 ((rd_T60 t562 x13_3).f0))) (fun _ hk => hk.2) (.int .i64 ((rd_T60 t562 x13_3).f1))) (fun _ hk => hk.2) (.int .i64 ((rd_T60 t562 x13_3).f2))) (fun _ hk => trivial)⟩
                   have n5_ : Aside0 ((((w72.setCell ⟨gb584, 0, none⟩ (.int .i64 ((rd_T60 t562 x13_3).f0))).setCell ⟨gb584, 1, none⟩ (.int .i64 ((rd_T60 t562 x13_3).f1))).setCell ⟨gb584, 2, none⟩ (.int .i64 ((rd_T60 t562 x13_3).f2))).heap[gb561]? = some (.cells #[.int .i64 t551, .int .i64 t552, .int .i64 t553, .int .i64 t554, .slice Ao11 t555.length co11] 29 (0, 0))) := ⟨zF BK561.out NB561_584.out⟩
                   have n6_ : Aside0 ((((w72.setCell ⟨gb584, 0, none⟩ (.int .i64 ((rd_T60 t562 x13_3).f0))).setCell ⟨gb584, 1, none⟩ (.int .i64 ((rd_T60 t562 x13_3).f1))).setCell ⟨gb584, 2, none⟩ (.int .i64 ((rd_T60 t562 x13_3).f2))).heap[gb584]? = some (.cells #[.int .i64 ((rd_T60 t562 x13_3).f0), .int .i64 ((rd_T60 t562 x13_3).f1), .int .i64 ((rd_T60 t562 x13_3).f2)] 60 (0, 0))) := ⟨zP BK584.out⟩
                   have n7_ : Aside0 (Below w.heap.size w (((w72.setCell ⟨gb584, 0, none⟩ (.int .i64 ((rd_T60 t562 x13_3).f0))).setCell ⟨gb584, 1, none⟩ (.int .i64 ((rd_T60 t562 x13_3).f1))).setCell ⟨gb584, 2, none⟩ (.int .i64 ((rd_T60 t562 x13_3).f2)))) := ⟨zT HB.out GE561.out GE584.out⟩
                   generalize (((w72.setCell ⟨gb584, 0, none⟩ (.int .i64 ((rd_T60 t562 x13_3).f0))).setCell ⟨gb584, 1, none⟩ (.int .i64 ((rd_T60 t562 x13_3).f1))).setCell ⟨gb584, 2, none⟩ (.int .i64 ((rd_T60 t562 x13_3).f2))) = w75 at n0_ n1_ n2_ n3_ n4_ n5_ n6_ n7_ ⊢
                   have HO_4 := n0_
                   have HO_5 := n1_
                   have HO_6 := n2_
                   have HO_7 := n3_
                   have HO_562004 := n4_
                   have BK561 := n5_
                   have BK584 := n6_
                   have HB := n7_
                   clear n0_ n1_ n2_ n3_ n4_ n5_ n6_ n7_
                   have n0_ := Aside0.mk (Kd.R_drew HO_4.out)
                   have n1_ := Aside0.mk (Kd.R_drew HO_5.out)
                   have n2_ := Aside0.mk (Kd.R_drew HO_6.out)
                   have n3_ := Aside0.mk (Kd.S_drew HO_7.out)
                   have n4_ := Aside0.mk (Kd.R_drew HO_562004.out)
                   have n5_ := Aside0.mk (blk_drew BK561.out)
                   have n6_ := Aside0.mk (blk_drew BK584.out)
                   have n7_ := Aside0.mk (below_drew1 HB.out)
                   clear HO_4
                   clear HO_5
                   clear HO_6
                   clear HO_7
                   clear HO_562004
                   clear BK561
                   clear BK584
                   clear HB
                   have HO_4 := n0_
                   have HO_5 := n1_
                   have HO_6 := n2_
                   have HO_7 := n3_
                   have HO_562004 := n4_
                   have BK561 := n5_
                   have BK584 := n6_
                   have HB := n7_
                   clear n0_ n1_ n2_ n3_ n4_ n5_ n6_ n7_
                   have p585 : 0 ≤ (x13_3 : Int) := dT
                   have q585 : x13_3 < (t565.length : Int) := dT
                   obtain ⟨ad585, e585, hx585_0, hx585_1, hx585_2⟩ := at_T60 (Kd.R_reads' HO_6.out).2.2 x13_3 p585 q585
                   cases e585
                   replace p585 := eq_true p585
                   replace q585 := eq_true q585
                   refine start_ (n := 6) (S := fun w' => w'.cell? ⟨gb584, 0, none⟩ = some (.int .i64 ((rd_T60 t562 x13_3).f0)) ∧ w'.cell? ⟨gb584, 1, none⟩ = some (.int .i64 ((rd_T60 t562 x13_3).f1)) ∧ w'.cell? ⟨gb584, 2, none⟩ = some (.int .i64 ((rd_T60 t562 x13_3).f2)) ∧ w'.cell? (ad585.add ((x13_3).toNat * 3)) = some (.int .i64 ((rd_T60 t565 x13_3).f0)) ∧ w'.cell? ⟨(ad585.add ((x13_3).toNat * 3)).block, (ad585.add ((x13_3).toNat * 3)).off + 1, none⟩ = some (.int .i64 ((rd_T60 t565 x13_3).f1)) ∧ w'.cell? ⟨(ad585.add ((x13_3).toNat * 3)).block, (ad585.add ((x13_3).toNat * 3)).off + 2, none⟩ = some (.int .i64 ((rd_T60 t565 x13_3).f2))) (ds := []) (Array.replicate 6 false) (by kernel_rfl) rfl rfl ⟨(blk_cell BK584.out 0).trans rfl, (blk_cell BK584.out 1).trans rfl, (blk_cell BK584.out 2).trans rfl, hx585_0, hx585_1, hx585_2⟩ (fun hHeld => ?_)
                   generalize w75.drew = w76 at HO_4 HO_5 HO_6 HO_7 HO_562004 BK561 BK584 HB hx585_0 hx585_1 hx585_2 hHeld ⊢
                   refine sv 1 100 (lbn 6 2) ?_
                   refine sv 2 101 (lbn 6 6) ?_
                   refine sv 3 102 (lbn 6 14) ?_
                   refine st 0 99 (lbn 6 15) hHeld ?_
                   refine st 4 103 (lbn 6 31) hHeld ?_
                   refine sv 5 104 (lbn 6 63) ?_
                   refine done_ (by kernel_rfl) ?_
                   obtain ⟨hcz77_0, hcz77_1, hcz77_2, hcz77_3, hcz77_4, hfz77_0, hfz77_1, hfz77_2, hfz77_3, hfz77_4⟩ := bf5 BK561.out
                   obtain ⟨hcz78_0, hcz78_1, hcz78_2, hfz78_0, hfz78_1, hfz78_2⟩ := bf3 BK584.out
                   try go_wp2_with (first | ((with_reducible refine gate_callee (f := 20) rfl ?_); refine goesL_ (some 109) rfl rfl Try.func20 (by kernel_rfl) rfl #[.agg #[.int .i64 t551, .int .i64 t552, .int .i64 t553, .int .i64 t554, .slice Ao11 t555.length co11], .int .i64 ((rd_T60 t562 x13_3).f0)] rfl zM ?_; (with_reducible refine (spec_BlocksOf.calls k3 t551 t552 t553 t554 _ _ t555 ((rd_T60 t562 x13_3).f0) t586 t587 _ ?side1 ?side2 A69.out).mono ?_); (case side1 => repeat (first | exact (Kd.R_reads' HO_562004.out).2.2 | (with_reducible refine Kd.C_alloc ?_ _) | (with_reducible refine Kd.C_drewN ?_ _) | (with_reducible refine Kd.C_drew ?_))); (case side2 => exact (Kd.R_reads' HO_562004.out).2.1); rintro e w79 ⟨rfl, hb⟩; refine ⟨_, rfl, ?_⟩; have n0_ := Aside0.mk (Kd.R_below (zR HO_4.out) hb); have n1_ := Aside0.mk (Kd.R_below (zR HO_5.out) hb); have n2_ := Aside0.mk (Kd.R_below (zR HO_6.out) hb); have n3_ := Aside0.mk (Kd.S_below (zQ HO_7.out) hb); have n4_ := Aside0.mk (Kd.R_below (zR HO_562004.out) hb); have n5_ := Aside0.mk (kB BK561.out hb); have n6_ := Aside0.mk (kB BK584.out hb); have n7_ := Aside0.mk (below_step (zT HB.out GE561.out GE584.out) hb); clear HO_4; clear HO_5; clear HO_6; clear HO_7; clear HO_562004; clear BK561; clear BK584; clear HB; have HO_4 := n0_; have HO_5 := n1_; have HO_6 := n2_; have HO_7 := n3_; have HO_562004 := n4_; have BK561 := n5_; have BK584 := n6_; have HB := n7_; clear n0_ n1_ n2_ n3_ n4_ n5_ n6_ n7_; try clear hb))
                   have n0_ := Aside0.mk (Kd.R_drew HO_4.out)
                   have n1_ := Aside0.mk (Kd.R_drew HO_5.out)
                   have n2_ := Aside0.mk (Kd.R_drew HO_6.out)
                   have n3_ := Aside0.mk (Kd.S_drew HO_7.out)
                   have n4_ := Aside0.mk (Kd.R_drew HO_562004.out)
                   have n5_ := Aside0.mk (blk_drew BK561.out)
                   have n6_ := Aside0.mk (blk_drew BK584.out)
                   have n7_ := Aside0.mk (below_drew1 HB.out)
                   clear HO_4
                   clear HO_5
                   clear HO_6
                   clear HO_7
                   clear HO_562004
                   clear BK561
                   clear BK584
                   clear HB
                   have HO_4 := n0_
                   have HO_5 := n1_
                   have HO_6 := n2_
                   have HO_7 := n3_
                   have HO_562004 := n4_
                   have BK561 := n5_
                   have BK584 := n6_
                   have HB := n7_
                   clear n0_ n1_ n2_ n3_ n4_ n5_ n6_ n7_
                   refine start_ (n := 36) (S := fun w' => w'.cell? ⟨gb584, 0, none⟩ = some (.int .i64 ((rd_T60 t562 x13_3).f0)) ∧ w'.cell? ⟨gb584, 1, none⟩ = some (.int .i64 ((rd_T60 t562 x13_3).f1)) ∧ w'.cell? ⟨gb584, 2, none⟩ = some (.int .i64 ((rd_T60 t562 x13_3).f2))) (ds := []) (Array.replicate 36 false) (by kernel_rfl) rfl rfl ⟨(blk_cell BK584.out 0).trans rfl, (blk_cell BK584.out 1).trans rfl, (blk_cell BK584.out 2).trans rfl⟩ (fun hHeld => ?_); refine with_tabW laws_FnPlaces.tab26 laws_FnPlaces.bits26 (fun HT_ HW_ => ?_)
                   generalize w79.drew = w80 at HO_4 HO_5 HO_6 HO_7 HO_562004 BK561 BK584 HB hHeld ⊢
                   refine sV 0 112 (lbn 36 1) HT_.out ?_
                   refine sT 1 113 (lbn 36 3) HT_.out HW_.out hHeld ?_
                   refine sV 2 114 (lbn 36 7) HT_.out ?_
                   refine sV 3 115 (lbn 36 15) HT_.out ?_
                   refine sU 4 116 (lbn 36 31) HT_.out ?_
                   refine sU 5 117 (lbn 36 63) HT_.out ?_
                   refine sU 6 118 (lbn 36 127) HT_.out ?_
                   refine sU 7 119 (lbn 36 255) HT_.out ?_
                   refine sV 8 120 (lbn 36 511) HT_.out ?_
                   refine sV 9 121 (lbn 36 1023) HT_.out ?_
                   refine sU 10 122 (lbn 36 2047) HT_.out ?_
                   refine sU 11 123 (lbn 36 4095) HT_.out ?_
                   refine sU 12 124 (lbn 36 8191) HT_.out ?_
                   refine sV 13 125 (lbn 36 16383) HT_.out ?_
                   refine sV 14 126 (lbn 36 32767) HT_.out ?_
                   refine sU 15 127 (lbn 36 65535) HT_.out ?_
                   refine sU 16 128 (lbn 36 131071) HT_.out ?_
                   refine sU 17 129 (lbn 36 262143) HT_.out ?_
                   refine sU 18 130 (lbn 36 524287) HT_.out ?_
                   refine sV 19 131 (lbn 36 1048575) HT_.out ?_
                   refine sV 20 132 (lbn 36 2097151) HT_.out ?_
                   refine sU 21 133 (lbn 36 4194303) HT_.out ?_
                   refine sU 22 134 (lbn 36 8388607) HT_.out ?_
                   refine sU 23 135 (lbn 36 16777215) HT_.out ?_
                   refine sU 24 136 (lbn 36 33554431) HT_.out ?_
                   refine sU 25 137 (lbn 36 67108863) HT_.out ?_
                   refine sU 26 138 (lbn 36 134217727) HT_.out ?_
                   refine sU 27 139 (lbn 36 268435455) HT_.out ?_
                   refine sU 28 140 (lbn 36 536870911) HT_.out ?_
                   refine sU 29 141 (lbn 36 1073741823) HT_.out ?_
                   refine sU 30 142 (lbn 36 2147483647) HT_.out ?_
                   refine sU 31 143 (lbn 36 4294967295) HT_.out ?_
                   refine sU 32 144 (lbn 36 8589934591) HT_.out ?_
                   refine sU 33 145 (lbn 36 17179869183) HT_.out ?_
                   refine sU 34 146 (lbn 36 34359738367) HT_.out ?_
                   refine sV 35 147 (lbn 36 68719476735) HT_.out ?_
                   refine done_ (done_of HT_.out (by kernel_rfl)) ?_
                   try go_wp2
                   go_ret
                   exact ⟨by first | rfl | (simp [errW_none, errW_some] <;> rfl) | (simp [*, errW_none, errW_some] <;> rfl), zT HB.out GE561.out GE584.out⟩
                 ·rw [if_neg c70] at H
                  have c70b0 : decide (((rd_T60 t562 x13_3).f1) < 0) = false := decide_eq_false c70
                  clear c70
                  by_cases c81 : ((rd_T60 t562 x13_3).f1) ≥ t587
                  ·as_aux_lemma =>
                    rw [if_pos c81] at H
                    have c81b0 : decide (t587 ≤ ((rd_T60 t562 x13_3).f1)) = true := decide_eq_true c81
                    clear c81
                    obtain rfl := Option.some.inj H
                    obtain ⟨Ao82, co82, eo82⟩ := Kd.R_slice HO_5.out
                    subst eo82
                    have p583 : 0 ≤ (x13_3 : Int) := dT
                    have q583 : x13_3 < (t562.length : Int) := dT
                    obtain ⟨ad583, e583, hx583_0, hx583_1, hx583_2⟩ := at_T60 (Kd.R_reads' HO_5.out).2.2 x13_3 p583 q583
                    cases e583
                    replace p583 := eq_true p583
                    replace q583 := eq_true q583
                    try go_wp2_with (first | ((with_reducible refine gate_dst (N := 14) rfl ?_); refine box_event ?hg (N := 14) ?hd (cs := #[.int .i64 0, .int .i64 0, .int .i64 0]) (t := 60) ?hr ?_; (case hd => rfl); (case hg => rfl); (case hr => first | (go_simp; done) | (go_simp; rfl)); intro gb584 hg w83 hbox hb; have n0_ := Aside0.mk (Kd.R_below (zR HO_4.out) hb); have n1_ := Aside0.mk (Kd.R_below (Kd.R_elderB (zR HO_5.out) gb584 (Nat.le_of_eq hg.symm)) hb); have n2_ := Aside0.mk (Kd.R_below (Kd.R_elderB (zR HO_6.out) gb584 (Nat.le_of_eq hg.symm)) hb); have n3_ := Aside0.mk (Kd.S_below (zQ HO_7.out) hb); have n4_ := Aside0.mk (Kd.R_below (zR HO_562004.out) hb); have n5_ := Aside0.mk (kB BK561.out hb); have n6_ := Aside0.mk (below_step (zS HB.out GE561.out) hb); have n7_ := Aside0.mk (hbox); have n8_ := Aside0.mk (gS hg HB.out GE561.out); have n9_ := Aside0.mk (gS hg HB.out GE561.out); have n10_ := Aside0.mk (nL hg BK561.out); have n11_ := Aside0.mk (nG hg BK561.out); clear HO_4; clear HO_5; clear HO_6; clear HO_7; clear HO_562004; clear BK561; clear HB; have HO_4 := n0_; have HO_5 := n1_; have HO_6 := n2_; have HO_7 := n3_; have HO_562004 := n4_; have BK561 := n5_; have HB := n6_; have BK584 := n7_; have GW584 := n8_; have GE584 := n9_; have NB561_584 := n10_; have NB584_561 := n11_; clear n0_ n1_ n2_ n3_ n4_ n5_ n6_ n7_ n8_ n9_ n10_ n11_; clear hb hbox hg; have hnb84 := NB584_561.out; have hnc84 := NB561_584.out; obtain ⟨hcz85_0, hcz85_1, hcz85_2, hfz85_0, hfz85_1, hfz85_2⟩ := bf3 BK584.out))
                    have n0_ : Aside0 (Kd.R (Kd.int .i64) 3 (((w83.setCell ⟨gb584, 0, none⟩ (.int .i64 ((rd_T60 t562 x13_3).f0))).setCell ⟨gb584, 1, none⟩ (.int .i64 ((rd_T60 t562 x13_3).f1))).setCell ⟨gb584, 2, none⟩ (.int .i64 ((rd_T60 t562 x13_3).f2))) w.heap.size (fun _ => True) (.slice Ao12 t558.length co12) t558) := ⟨by (with_reducible repeat (first | apply Kd.R_alloc | apply Kd.R_drewN | apply Kd.R_drew)); exact Kd.R_mono (Kd.R_far (p := ⟨gb584, 2, none⟩) (Kd.R_far (p := ⟨gb584, 1, none⟩) (Kd.R_far (p := ⟨gb584, 0, none⟩) (Kd.R_types HO_4.out BK584.out (by decide)) (fun _ hk => hk.2) (.int .i64 ((rd_T60 t562 x13_3).f0))) (fun _ hk => hk.2) (.int .i64 ((rd_T60 t562 x13_3).f1))) (fun _ hk => hk.2) (.int .i64 ((rd_T60 t562 x13_3).f2))) (fun _ hk => trivial)⟩
                    have n1_ : Aside0 (Kd.R k60 60 (((w83.setCell ⟨gb584, 0, none⟩ (.int .i64 ((rd_T60 t562 x13_3).f0))).setCell ⟨gb584, 1, none⟩ (.int .i64 ((rd_T60 t562 x13_3).f1))).setCell ⟨gb584, 2, none⟩ (.int .i64 ((rd_T60 t562 x13_3).f2))) w.heap.size (fun k_ => some k_ ≠ (.slice Ao30 t565.length co30 : Value).ownBlock ∧ k_ ≠ gb584) (.slice (some ad583) t562.length co82) t562) := ⟨by (with_reducible repeat (first | apply Kd.R_alloc | apply Kd.R_drewN | apply Kd.R_drew)); exact Kd.R_mono (Kd.R_far (p := ⟨gb584, 2, none⟩) (Kd.R_far (p := ⟨gb584, 1, none⟩) (Kd.R_far (p := ⟨gb584, 0, none⟩) (Kd.R_mono HO_5.out (fun k_ hk => (⟨hk, hk.2⟩ : _ ∧ k_ ≠ gb584))) (fun _ hk => hk.2) (.int .i64 ((rd_T60 t562 x13_3).f0))) (fun _ hk => hk.2) (.int .i64 ((rd_T60 t562 x13_3).f1))) (fun _ hk => hk.2) (.int .i64 ((rd_T60 t562 x13_3).f2))) (fun _ hk => ⟨hk.1.1, hk.1.2⟩)⟩
                    have n2_ : Aside0 (Kd.R k60 60 (((w83.setCell ⟨gb584, 0, none⟩ (.int .i64 ((rd_T60 t562 x13_3).f0))).setCell ⟨gb584, 1, none⟩ (.int .i64 ((rd_T60 t562 x13_3).f1))).setCell ⟨gb584, 2, none⟩ (.int .i64 ((rd_T60 t562 x13_3).f2))) w.heap.size (fun k_ => some k_ ≠ (.slice (some ad583) t562.length co82 : Value).ownBlock ∧ k_ ≠ gb584) (.slice Ao30 t565.length co30) t565) := ⟨by (with_reducible repeat (first | apply Kd.R_alloc | apply Kd.R_drewN | apply Kd.R_drew)); exact Kd.R_mono (Kd.R_far (p := ⟨gb584, 2, none⟩) (Kd.R_far (p := ⟨gb584, 1, none⟩) (Kd.R_far (p := ⟨gb584, 0, none⟩) (Kd.R_mono HO_6.out (fun k_ hk => (⟨hk, hk.2⟩ : _ ∧ k_ ≠ gb584))) (fun _ hk => hk.2) (.int .i64 ((rd_T60 t562 x13_3).f0))) (fun _ hk => hk.2) (.int .i64 ((rd_T60 t562 x13_3).f1))) (fun _ hk => hk.2) (.int .i64 ((rd_T60 t562 x13_3).f2))) (fun _ hk => ⟨hk.1.1, hk.1.2⟩)⟩
                    have n3_ : Aside0 (Kd.S (Kd.slice 4 Kd.bool) 58 (((w83.setCell ⟨gb584, 0, none⟩ (.int .i64 ((rd_T60 t562 x13_3).f0))).setCell ⟨gb584, 1, none⟩ (.int .i64 ((rd_T60 t562 x13_3).f1))).setCell ⟨gb584, 2, none⟩ (.int .i64 ((rd_T60 t562 x13_3).f2))) w.heap.size (fun _ => True) u7 x7_3) := ⟨by (with_reducible repeat (first | apply Kd.S_alloc | apply Kd.S_drewN | apply Kd.S_drew)); exact Kd.S_mono (Kd.S_far (p := ⟨gb584, 2, none⟩) (Kd.S_far (p := ⟨gb584, 1, none⟩) (Kd.S_far (p := ⟨gb584, 0, none⟩) (Kd.S_types HO_7.out BK584.out (by decide)) (fun _ hk => hk.2) (.int .i64 ((rd_T60 t562 x13_3).f0))) (fun _ hk => hk.2) (.int .i64 ((rd_T60 t562 x13_3).f1))) (fun _ hk => hk.2) (.int .i64 ((rd_T60 t562 x13_3).f2))) (fun _ hk => trivial)⟩
                    have n4_ : Aside0 (Kd.R k66 66 (((w83.setCell ⟨gb584, 0, none⟩ (.int .i64 ((rd_T60 t562 x13_3).f0))).setCell ⟨gb584, 1, none⟩ (.int .i64 ((rd_T60 t562 x13_3).f1))).setCell ⟨gb584, 2, none⟩ (.int .i64 ((rd_T60 t562 x13_3).f2))) w.heap.size (fun _ => True) (.slice Ao11 t555.length co11) t555) := ⟨by (with_reducible repeat (first | apply Kd.R_alloc | apply Kd.R_drewN | apply Kd.R_drew)); exact Kd.R_mono (Kd.R_far (p := ⟨gb584, 2, none⟩) (Kd.R_far (p := ⟨gb584, 1, none⟩) (Kd.R_far (p := ⟨gb584, 0, none⟩) (Kd.R_types HO_562004.out BK584.out (by decide)) (fun _ hk => hk.2) (.int .i64 ((rd_T60 t562 x13_3).f0))) (fun _ hk => hk.2) (.int .i64 ((rd_T60 t562 x13_3).f1))) (fun _ hk => hk.2) (.int .i64 ((rd_T60 t562 x13_3).f2))) (fun _ hk => trivial)⟩
                    have n5_ : Aside0 ((((w83.setCell ⟨gb584, 0, none⟩ (.int .i64 ((rd_T60 t562 x13_3).f0))).setCell ⟨gb584, 1, none⟩ (.int .i64 ((rd_T60 t562 x13_3).f1))).setCell ⟨gb584, 2, none⟩ (.int .i64 ((rd_T60 t562 x13_3).f2))).heap[gb561]? = some (.cells #[.int .i64 t551, .int .i64 t552, .int .i64 t553, .int .i64 t554, .slice Ao11 t555.length co11] 29 (0, 0))) := ⟨zF BK561.out NB561_584.out⟩
                    have n6_ : Aside0 ((((w83.setCell ⟨gb584, 0, none⟩ (.int .i64 ((rd_T60 t562 x13_3).f0))).setCell ⟨gb584, 1, none⟩ (.int .i64 ((rd_T60 t562 x13_3).f1))).setCell ⟨gb584, 2, none⟩ (.int .i64 ((rd_T60 t562 x13_3).f2))).heap[gb584]? = some (.cells #[.int .i64 ((rd_T60 t562 x13_3).f0), .int .i64 ((rd_T60 t562 x13_3).f1), .int .i64 ((rd_T60 t562 x13_3).f2)] 60 (0, 0))) := ⟨zP BK584.out⟩
                    have n7_ : Aside0 (Below w.heap.size w (((w83.setCell ⟨gb584, 0, none⟩ (.int .i64 ((rd_T60 t562 x13_3).f0))).setCell ⟨gb584, 1, none⟩ (.int .i64 ((rd_T60 t562 x13_3).f1))).setCell ⟨gb584, 2, none⟩ (.int .i64 ((rd_T60 t562 x13_3).f2)))) := ⟨zT HB.out GE561.out GE584.out⟩
                    generalize (((w83.setCell ⟨gb584, 0, none⟩ (.int .i64 ((rd_T60 t562 x13_3).f0))).setCell ⟨gb584, 1, none⟩ (.int .i64 ((rd_T60 t562 x13_3).f1))).setCell ⟨gb584, 2, none⟩ (.int .i64 ((rd_T60 t562 x13_3).f2))) = w86 at n0_ n1_ n2_ n3_ n4_ n5_ n6_ n7_ ⊢
                    have HO_4 := n0_
                    have HO_5 := n1_
                    have HO_6 := n2_
                    have HO_7 := n3_
                    have HO_562004 := n4_
                    have BK561 := n5_
                    have BK584 := n6_
                    have HB := n7_
                    clear n0_ n1_ n2_ n3_ n4_ n5_ n6_ n7_
                    have n0_ := Aside0.mk (Kd.R_drew HO_4.out)
                    have n1_ := Aside0.mk (Kd.R_drew HO_5.out)
                    have n2_ := Aside0.mk (Kd.R_drew HO_6.out)
                    have n3_ := Aside0.mk (Kd.S_drew HO_7.out)
                    have n4_ := Aside0.mk (Kd.R_drew HO_562004.out)
                    have n5_ := Aside0.mk (blk_drew BK561.out)
                    have n6_ := Aside0.mk (blk_drew BK584.out)
                    have n7_ := Aside0.mk (below_drew1 HB.out)
                    clear HO_4
                    clear HO_5
                    clear HO_6
                    clear HO_7
                    clear HO_562004
                    clear BK561
                    clear BK584
                    clear HB
                    have HO_4 := n0_
                    have HO_5 := n1_
                    have HO_6 := n2_
                    have HO_7 := n3_
                    have HO_562004 := n4_
                    have BK561 := n5_
                    have BK584 := n6_
                    have HB := n7_
                    clear n0_ n1_ n2_ n3_ n4_ n5_ n6_ n7_
                    have p585 : 0 ≤ (x13_3 : Int) := dT
                    have q585 : x13_3 < (t565.length : Int) := dT
                    obtain ⟨ad585, e585, hx585_0, hx585_1, hx585_2⟩ := at_T60 (Kd.R_reads' HO_6.out).2.2 x13_3 p585 q585
                    cases e585
                    replace p585 := eq_true p585
                    replace q585 := eq_true q585
                    refine start_ (n := 6) (S := fun w' => w'.cell? ⟨gb584, 0, none⟩ = some (.int .i64 ((rd_T60 t562 x13_3).f0)) ∧ w'.cell? ⟨gb584, 1, none⟩ = some (.int .i64 ((rd_T60 t562 x13_3).f1)) ∧ w'.cell? ⟨gb584, 2, none⟩ = some (.int .i64 ((rd_T60 t562 x13_3).f2)) ∧ w'.cell? (ad585.add ((x13_3).toNat * 3)) = some (.int .i64 ((rd_T60 t565 x13_3).f0)) ∧ w'.cell? ⟨(ad585.add ((x13_3).toNat * 3)).block, (ad585.add ((x13_3).toNat * 3)).off + 1, none⟩ = some (.int .i64 ((rd_T60 t565 x13_3).f1)) ∧ w'.cell? ⟨(ad585.add ((x13_3).toNat * 3)).block, (ad585.add ((x13_3).toNat * 3)).off + 2, none⟩ = some (.int .i64 ((rd_T60 t565 x13_3).f2))) (ds := []) (Array.replicate 6 false) (by kernel_rfl) rfl rfl ⟨(blk_cell BK584.out 0).trans rfl, (blk_cell BK584.out 1).trans rfl, (blk_cell BK584.out 2).trans rfl, hx585_0, hx585_1, hx585_2⟩ (fun hHeld => ?_)
                    generalize w86.drew = w87 at HO_4 HO_5 HO_6 HO_7 HO_562004 BK561 BK584 HB hx585_0 hx585_1 hx585_2 hHeld ⊢
                    refine sv 1 100 (lbn 6 2) ?_
                    refine sv 2 101 (lbn 6 6) ?_
                    refine sv 3 102 (lbn 6 14) ?_
                    refine st 0 99 (lbn 6 15) hHeld ?_
                    refine st 4 103 (lbn 6 31) hHeld ?_
                    refine sv 5 104 (lbn 6 63) ?_
                    refine done_ (by kernel_rfl) ?_
                    obtain ⟨hcz88_0, hcz88_1, hcz88_2, hcz88_3, hcz88_4, hfz88_0, hfz88_1, hfz88_2, hfz88_3, hfz88_4⟩ := bf5 BK561.out
                    obtain ⟨hcz89_0, hcz89_1, hcz89_2, hfz89_0, hfz89_1, hfz89_2⟩ := bf3 BK584.out
                    try go_wp2_with (first | ((with_reducible refine gate_callee (f := 20) rfl ?_); refine goesL_ (some 109) rfl rfl Try.func20 (by kernel_rfl) rfl #[.agg #[.int .i64 t551, .int .i64 t552, .int .i64 t553, .int .i64 t554, .slice Ao11 t555.length co11], .int .i64 ((rd_T60 t562 x13_3).f0)] rfl zM ?_; (with_reducible refine (spec_BlocksOf.calls k3 t551 t552 t553 t554 _ _ t555 ((rd_T60 t562 x13_3).f0) t586 t587 _ ?side1 ?side2 A69.out).mono ?_); (case side1 => repeat (first | exact (Kd.R_reads' HO_562004.out).2.2 | (with_reducible refine Kd.C_alloc ?_ _) | (with_reducible refine Kd.C_drewN ?_ _) | (with_reducible refine Kd.C_drew ?_))); (case side2 => exact (Kd.R_reads' HO_562004.out).2.1); rintro e w90 ⟨rfl, hb⟩; refine ⟨_, rfl, ?_⟩; have n0_ := Aside0.mk (Kd.R_below (zR HO_4.out) hb); have n1_ := Aside0.mk (Kd.R_below (zR HO_5.out) hb); have n2_ := Aside0.mk (Kd.R_below (zR HO_6.out) hb); have n3_ := Aside0.mk (Kd.S_below (zQ HO_7.out) hb); have n4_ := Aside0.mk (Kd.R_below (zR HO_562004.out) hb); have n5_ := Aside0.mk (kB BK561.out hb); have n6_ := Aside0.mk (kB BK584.out hb); have n7_ := Aside0.mk (below_step (zT HB.out GE561.out GE584.out) hb); clear HO_4; clear HO_5; clear HO_6; clear HO_7; clear HO_562004; clear BK561; clear BK584; clear HB; have HO_4 := n0_; have HO_5 := n1_; have HO_6 := n2_; have HO_7 := n3_; have HO_562004 := n4_; have BK561 := n5_; have BK584 := n6_; have HB := n7_; clear n0_ n1_ n2_ n3_ n4_ n5_ n6_ n7_; try clear hb))
                    have n0_ := Aside0.mk (Kd.R_drew HO_4.out)
                    have n1_ := Aside0.mk (Kd.R_drew HO_5.out)
                    have n2_ := Aside0.mk (Kd.R_drew HO_6.out)
                    have n3_ := Aside0.mk (Kd.S_drew HO_7.out)
                    have n4_ := Aside0.mk (Kd.R_drew HO_562004.out)
                    have n5_ := Aside0.mk (blk_drew BK561.out)
                    have n6_ := Aside0.mk (blk_drew BK584.out)
                    have n7_ := Aside0.mk (below_drew1 HB.out)
                    clear HO_4
                    clear HO_5
                    clear HO_6
                    clear HO_7
                    clear HO_562004
                    clear BK561
                    clear BK584
                    clear HB
                    have HO_4 := n0_
                    have HO_5 := n1_
                    have HO_6 := n2_
                    have HO_7 := n3_
                    have HO_562004 := n4_
                    have BK561 := n5_
                    have BK584 := n6_
                    have HB := n7_
                    clear n0_ n1_ n2_ n3_ n4_ n5_ n6_ n7_
                    refine start_ (n := 36) (S := fun w' => w'.cell? ⟨gb584, 0, none⟩ = some (.int .i64 ((rd_T60 t562 x13_3).f0)) ∧ w'.cell? ⟨gb584, 1, none⟩ = some (.int .i64 ((rd_T60 t562 x13_3).f1)) ∧ w'.cell? ⟨gb584, 2, none⟩ = some (.int .i64 ((rd_T60 t562 x13_3).f2))) (ds := []) (Array.replicate 36 false) (by kernel_rfl) rfl rfl ⟨(blk_cell BK584.out 0).trans rfl, (blk_cell BK584.out 1).trans rfl, (blk_cell BK584.out 2).trans rfl⟩ (fun hHeld => ?_); refine with_tabW laws_FnPlaces.tab26 laws_FnPlaces.bits26 (fun HT_ HW_ => ?_)
                    generalize w90.drew = w91 at HO_4 HO_5 HO_6 HO_7 HO_562004 BK561 BK584 HB hHeld ⊢
                    refine sV 0 112 (lbn 36 1) HT_.out ?_
                    refine sT 1 113 (lbn 36 3) HT_.out HW_.out hHeld ?_
                    refine sV 2 114 (lbn 36 7) HT_.out ?_
                    refine sV 3 115 (lbn 36 15) HT_.out ?_
                    refine sV 4 116 (lbn 36 31) HT_.out ?_
                    refine sV 6 118 (lbn 36 95) HT_.out ?_
                    refine sT 5 117 (lbn 36 127) HT_.out HW_.out hHeld ?_
                    refine sV 7 119 (lbn 36 255) HT_.out ?_
                    refine sV 8 120 (lbn 36 511) HT_.out ?_
                    refine sV 9 121 (lbn 36 1023) HT_.out ?_
                    refine sU 10 122 (lbn 36 2047) HT_.out ?_
                    refine sU 11 123 (lbn 36 4095) HT_.out ?_
                    refine sU 12 124 (lbn 36 8191) HT_.out ?_
                    refine sV 13 125 (lbn 36 16383) HT_.out ?_
                    refine sV 14 126 (lbn 36 32767) HT_.out ?_
                    refine sU 15 127 (lbn 36 65535) HT_.out ?_
                    refine sU 16 128 (lbn 36 131071) HT_.out ?_
                    refine sU 17 129 (lbn 36 262143) HT_.out ?_
                    refine sU 18 130 (lbn 36 524287) HT_.out ?_
                    refine sV 19 131 (lbn 36 1048575) HT_.out ?_
                    refine sV 20 132 (lbn 36 2097151) HT_.out ?_
                    refine sU 21 133 (lbn 36 4194303) HT_.out ?_
                    refine sU 22 134 (lbn 36 8388607) HT_.out ?_
                    refine sU 23 135 (lbn 36 16777215) HT_.out ?_
                    refine sU 24 136 (lbn 36 33554431) HT_.out ?_
                    refine sU 25 137 (lbn 36 67108863) HT_.out ?_
                    refine sU 26 138 (lbn 36 134217727) HT_.out ?_
                    refine sU 27 139 (lbn 36 268435455) HT_.out ?_
                    refine sU 28 140 (lbn 36 536870911) HT_.out ?_
                    refine sU 29 141 (lbn 36 1073741823) HT_.out ?_
                    refine sU 30 142 (lbn 36 2147483647) HT_.out ?_
                    refine sU 31 143 (lbn 36 4294967295) HT_.out ?_
                    refine sU 32 144 (lbn 36 8589934591) HT_.out ?_
                    refine sU 33 145 (lbn 36 17179869183) HT_.out ?_
                    refine sU 34 146 (lbn 36 34359738367) HT_.out ?_
                    refine sV 35 147 (lbn 36 68719476735) HT_.out ?_
                    refine done_ (done_of HT_.out (by kernel_rfl)) ?_
                    try go_wp2
                    go_ret
                    exact ⟨by first | rfl | (simp [errW_none, errW_some] <;> rfl) | (simp [*, errW_none, errW_some] <;> rfl), zT HB.out GE561.out GE584.out⟩
                  ·rw [if_neg c81] at H
                   have c81b0 : decide (t587 ≤ ((rd_T60 t562 x13_3).f1)) = false := decide_eq_false c81
                   clear c81
                   by_cases c92 : ((rd_T60 t562 x13_3).f2) < 0
                   ·as_aux_lemma =>
                     rw [if_pos c92] at H
                     have c92b0 : decide (((rd_T60 t562 x13_3).f2) < 0) = true := decide_eq_true c92
                     clear c92
                     obtain rfl := Option.some.inj H
                     obtain ⟨Ao93, co93, eo93⟩ := Kd.R_slice HO_5.out
                     subst eo93
                     have p583 : 0 ≤ (x13_3 : Int) := dT
                     have q583 : x13_3 < (t562.length : Int) := dT
                     obtain ⟨ad583, e583, hx583_0, hx583_1, hx583_2⟩ := at_T60 (Kd.R_reads' HO_5.out).2.2 x13_3 p583 q583
                     cases e583
                     replace p583 := eq_true p583
                     replace q583 := eq_true q583
                     try go_wp2_with (first | ((with_reducible refine gate_dst (N := 14) rfl ?_); refine box_event ?hg (N := 14) ?hd (cs := #[.int .i64 0, .int .i64 0, .int .i64 0]) (t := 60) ?hr ?_; (case hd => rfl); (case hg => rfl); (case hr => first | (go_simp; done) | (go_simp; rfl)); intro gb584 hg w94 hbox hb; have n0_ := Aside0.mk (Kd.R_below (zR HO_4.out) hb); have n1_ := Aside0.mk (Kd.R_below (Kd.R_elderB (zR HO_5.out) gb584 (Nat.le_of_eq hg.symm)) hb); have n2_ := Aside0.mk (Kd.R_below (Kd.R_elderB (zR HO_6.out) gb584 (Nat.le_of_eq hg.symm)) hb); have n3_ := Aside0.mk (Kd.S_below (zQ HO_7.out) hb); have n4_ := Aside0.mk (Kd.R_below (zR HO_562004.out) hb); have n5_ := Aside0.mk (kB BK561.out hb); have n6_ := Aside0.mk (below_step (zS HB.out GE561.out) hb); have n7_ := Aside0.mk (hbox); have n8_ := Aside0.mk (gS hg HB.out GE561.out); have n9_ := Aside0.mk (gS hg HB.out GE561.out); have n10_ := Aside0.mk (nL hg BK561.out); have n11_ := Aside0.mk (nG hg BK561.out); clear HO_4; clear HO_5; clear HO_6; clear HO_7; clear HO_562004; clear BK561; clear HB; have HO_4 := n0_; have HO_5 := n1_; have HO_6 := n2_; have HO_7 := n3_; have HO_562004 := n4_; have BK561 := n5_; have HB := n6_; have BK584 := n7_; have GW584 := n8_; have GE584 := n9_; have NB561_584 := n10_; have NB584_561 := n11_; clear n0_ n1_ n2_ n3_ n4_ n5_ n6_ n7_ n8_ n9_ n10_ n11_; clear hb hbox hg; have hnb95 := NB584_561.out; have hnc95 := NB561_584.out; obtain ⟨hcz96_0, hcz96_1, hcz96_2, hfz96_0, hfz96_1, hfz96_2⟩ := bf3 BK584.out))
                     have n0_ : Aside0 (Kd.R (Kd.int .i64) 3 (((w94.setCell ⟨gb584, 0, none⟩ (.int .i64 ((rd_T60 t562 x13_3).f0))).setCell ⟨gb584, 1, none⟩ (.int .i64 ((rd_T60 t562 x13_3).f1))).setCell ⟨gb584, 2, none⟩ (.int .i64 ((rd_T60 t562 x13_3).f2))) w.heap.size (fun _ => True) (.slice Ao12 t558.length co12) t558) := ⟨by (with_reducible repeat (first | apply Kd.R_alloc | apply Kd.R_drewN | apply Kd.R_drew)); exact Kd.R_mono (Kd.R_far (p := ⟨gb584, 2, none⟩) (Kd.R_far (p := ⟨gb584, 1, none⟩) (Kd.R_far (p := ⟨gb584, 0, none⟩) (Kd.R_types HO_4.out BK584.out (by decide)) (fun _ hk => hk.2) (.int .i64 ((rd_T60 t562 x13_3).f0))) (fun _ hk => hk.2) (.int .i64 ((rd_T60 t562 x13_3).f1))) (fun _ hk => hk.2) (.int .i64 ((rd_T60 t562 x13_3).f2))) (fun _ hk => trivial)⟩
                     have n1_ : Aside0 (Kd.R k60 60 (((w94.setCell ⟨gb584, 0, none⟩ (.int .i64 ((rd_T60 t562 x13_3).f0))).setCell ⟨gb584, 1, none⟩ (.int .i64 ((rd_T60 t562 x13_3).f1))).setCell ⟨gb584, 2, none⟩ (.int .i64 ((rd_T60 t562 x13_3).f2))) w.heap.size (fun k_ => some k_ ≠ (.slice Ao30 t565.length co30 : Value).ownBlock ∧ k_ ≠ gb584) (.slice (some ad583) t562.length co93) t562) := ⟨by (with_reducible repeat (first | apply Kd.R_alloc | apply Kd.R_drewN | apply Kd.R_drew)); exact Kd.R_mono (Kd.R_far (p := ⟨gb584, 2, none⟩) (Kd.R_far (p := ⟨gb584, 1, none⟩) (Kd.R_far (p := ⟨gb584, 0, none⟩) (Kd.R_mono HO_5.out (fun k_ hk => (⟨hk, hk.2⟩ : _ ∧ k_ ≠ gb584))) (fun _ hk => hk.2) (.int .i64 ((rd_T60 t562 x13_3).f0))) (fun _ hk => hk.2) (.int .i64 ((rd_T60 t562 x13_3).f1))) (fun _ hk => hk.2) (.int .i64 ((rd_T60 t562 x13_3).f2))) (fun _ hk => ⟨hk.1.1, hk.1.2⟩)⟩
                     have n2_ : Aside0 (Kd.R k60 60 (((w94.setCell ⟨gb584, 0, none⟩ (.int .i64 ((rd_T60 t562 x13_3).f0))).setCell ⟨gb584, 1, none⟩ (.int .i64 ((rd_T60 t562 x13_3).f1))).setCell ⟨gb584, 2, none⟩ (.int .i64 ((rd_T60 t562 x13_3).f2))) w.heap.size (fun k_ => some k_ ≠ (.slice (some ad583) t562.length co93 : Value).ownBlock ∧ k_ ≠ gb584) (.slice Ao30 t565.length co30) t565) := ⟨by (with_reducible repeat (first | apply Kd.R_alloc | apply Kd.R_drewN | apply Kd.R_drew)); exact Kd.R_mono (Kd.R_far (p := ⟨gb584, 2, none⟩) (Kd.R_far (p := ⟨gb584, 1, none⟩) (Kd.R_far (p := ⟨gb584, 0, none⟩) (Kd.R_mono HO_6.out (fun k_ hk => (⟨hk, hk.2⟩ : _ ∧ k_ ≠ gb584))) (fun _ hk => hk.2) (.int .i64 ((rd_T60 t562 x13_3).f0))) (fun _ hk => hk.2) (.int .i64 ((rd_T60 t562 x13_3).f1))) (fun _ hk => hk.2) (.int .i64 ((rd_T60 t562 x13_3).f2))) (fun _ hk => ⟨hk.1.1, hk.1.2⟩)⟩
                     have n3_ : Aside0 (Kd.S (Kd.slice 4 Kd.bool) 58 (((w94.setCell ⟨gb584, 0, none⟩ (.int .i64 ((rd_T60 t562 x13_3).f0))).setCell ⟨gb584, 1, none⟩ (.int .i64 ((rd_T60 t562 x13_3).f1))).setCell ⟨gb584, 2, none⟩ (.int .i64 ((rd_T60 t562 x13_3).f2))) w.heap.size (fun _ => True) u7 x7_3) := ⟨by (with_reducible repeat (first | apply Kd.S_alloc | apply Kd.S_drewN | apply Kd.S_drew)); exact Kd.S_mono (Kd.S_far (p := ⟨gb584, 2, none⟩) (Kd.S_far (p := ⟨gb584, 1, none⟩) (Kd.S_far (p := ⟨gb584, 0, none⟩) (Kd.S_types HO_7.out BK584.out (by decide)) (fun _ hk => hk.2) (.int .i64 ((rd_T60 t562 x13_3).f0))) (fun _ hk => hk.2) (.int .i64 ((rd_T60 t562 x13_3).f1))) (fun _ hk => hk.2) (.int .i64 ((rd_T60 t562 x13_3).f2))) (fun _ hk => trivial)⟩
                     have n4_ : Aside0 (Kd.R k66 66 (((w94.setCell ⟨gb584, 0, none⟩ (.int .i64 ((rd_T60 t562 x13_3).f0))).setCell ⟨gb584, 1, none⟩ (.int .i64 ((rd_T60 t562 x13_3).f1))).setCell ⟨gb584, 2, none⟩ (.int .i64 ((rd_T60 t562 x13_3).f2))) w.heap.size (fun _ => True) (.slice Ao11 t555.length co11) t555) := ⟨by (with_reducible repeat (first | apply Kd.R_alloc | apply Kd.R_drewN | apply Kd.R_drew)); exact Kd.R_mono (Kd.R_far (p := ⟨gb584, 2, none⟩) (Kd.R_far (p := ⟨gb584, 1, none⟩) (Kd.R_far (p := ⟨gb584, 0, none⟩) (Kd.R_types HO_562004.out BK584.out (by decide)) (fun _ hk => hk.2) (.int .i64 ((rd_T60 t562 x13_3).f0))) (fun _ hk => hk.2) (.int .i64 ((rd_T60 t562 x13_3).f1))) (fun _ hk => hk.2) (.int .i64 ((rd_T60 t562 x13_3).f2))) (fun _ hk => trivial)⟩
                     have n5_ : Aside0 ((((w94.setCell ⟨gb584, 0, none⟩ (.int .i64 ((rd_T60 t562 x13_3).f0))).setCell ⟨gb584, 1, none⟩ (.int .i64 ((rd_T60 t562 x13_3).f1))).setCell ⟨gb584, 2, none⟩ (.int .i64 ((rd_T60 t562 x13_3).f2))).heap[gb561]? = some (.cells #[.int .i64 t551, .int .i64 t552, .int .i64 t553, .int .i64 t554, .slice Ao11 t555.length co11] 29 (0, 0))) := ⟨zF BK561.out NB561_584.out⟩
                     have n6_ : Aside0 ((((w94.setCell ⟨gb584, 0, none⟩ (.int .i64 ((rd_T60 t562 x13_3).f0))).setCell ⟨gb584, 1, none⟩ (.int .i64 ((rd_T60 t562 x13_3).f1))).setCell ⟨gb584, 2, none⟩ (.int .i64 ((rd_T60 t562 x13_3).f2))).heap[gb584]? = some (.cells #[.int .i64 ((rd_T60 t562 x13_3).f0), .int .i64 ((rd_T60 t562 x13_3).f1), .int .i64 ((rd_T60 t562 x13_3).f2)] 60 (0, 0))) := ⟨zP BK584.out⟩
                     have n7_ : Aside0 (Below w.heap.size w (((w94.setCell ⟨gb584, 0, none⟩ (.int .i64 ((rd_T60 t562 x13_3).f0))).setCell ⟨gb584, 1, none⟩ (.int .i64 ((rd_T60 t562 x13_3).f1))).setCell ⟨gb584, 2, none⟩ (.int .i64 ((rd_T60 t562 x13_3).f2)))) := ⟨zT HB.out GE561.out GE584.out⟩
                     generalize (((w94.setCell ⟨gb584, 0, none⟩ (.int .i64 ((rd_T60 t562 x13_3).f0))).setCell ⟨gb584, 1, none⟩ (.int .i64 ((rd_T60 t562 x13_3).f1))).setCell ⟨gb584, 2, none⟩ (.int .i64 ((rd_T60 t562 x13_3).f2))) = w97 at n0_ n1_ n2_ n3_ n4_ n5_ n6_ n7_ ⊢
                     have HO_4 := n0_
                     have HO_5 := n1_
                     have HO_6 := n2_
                     have HO_7 := n3_
                     have HO_562004 := n4_
                     have BK561 := n5_
                     have BK584 := n6_
                     have HB := n7_
                     clear n0_ n1_ n2_ n3_ n4_ n5_ n6_ n7_
                     have n0_ := Aside0.mk (Kd.R_drew HO_4.out)
                     have n1_ := Aside0.mk (Kd.R_drew HO_5.out)
                     have n2_ := Aside0.mk (Kd.R_drew HO_6.out)
                     have n3_ := Aside0.mk (Kd.S_drew HO_7.out)
                     have n4_ := Aside0.mk (Kd.R_drew HO_562004.out)
                     have n5_ := Aside0.mk (blk_drew BK561.out)
                     have n6_ := Aside0.mk (blk_drew BK584.out)
                     have n7_ := Aside0.mk (below_drew1 HB.out)
                     clear HO_4
                     clear HO_5
                     clear HO_6
                     clear HO_7
                     clear HO_562004
                     clear BK561
                     clear BK584
                     clear HB
                     have HO_4 := n0_
                     have HO_5 := n1_
                     have HO_6 := n2_
                     have HO_7 := n3_
                     have HO_562004 := n4_
                     have BK561 := n5_
                     have BK584 := n6_
                     have HB := n7_
                     clear n0_ n1_ n2_ n3_ n4_ n5_ n6_ n7_
                     have p585 : 0 ≤ (x13_3 : Int) := dT
                     have q585 : x13_3 < (t565.length : Int) := dT
                     obtain ⟨ad585, e585, hx585_0, hx585_1, hx585_2⟩ := at_T60 (Kd.R_reads' HO_6.out).2.2 x13_3 p585 q585
                     cases e585
                     replace p585 := eq_true p585
                     replace q585 := eq_true q585
                     refine start_ (n := 6) (S := fun w' => w'.cell? ⟨gb584, 0, none⟩ = some (.int .i64 ((rd_T60 t562 x13_3).f0)) ∧ w'.cell? ⟨gb584, 1, none⟩ = some (.int .i64 ((rd_T60 t562 x13_3).f1)) ∧ w'.cell? ⟨gb584, 2, none⟩ = some (.int .i64 ((rd_T60 t562 x13_3).f2)) ∧ w'.cell? (ad585.add ((x13_3).toNat * 3)) = some (.int .i64 ((rd_T60 t565 x13_3).f0)) ∧ w'.cell? ⟨(ad585.add ((x13_3).toNat * 3)).block, (ad585.add ((x13_3).toNat * 3)).off + 1, none⟩ = some (.int .i64 ((rd_T60 t565 x13_3).f1)) ∧ w'.cell? ⟨(ad585.add ((x13_3).toNat * 3)).block, (ad585.add ((x13_3).toNat * 3)).off + 2, none⟩ = some (.int .i64 ((rd_T60 t565 x13_3).f2))) (ds := []) (Array.replicate 6 false) (by kernel_rfl) rfl rfl ⟨(blk_cell BK584.out 0).trans rfl, (blk_cell BK584.out 1).trans rfl, (blk_cell BK584.out 2).trans rfl, hx585_0, hx585_1, hx585_2⟩ (fun hHeld => ?_)
                     generalize w97.drew = w98 at HO_4 HO_5 HO_6 HO_7 HO_562004 BK561 BK584 HB hx585_0 hx585_1 hx585_2 hHeld ⊢
                     refine sv 1 100 (lbn 6 2) ?_
                     refine sv 2 101 (lbn 6 6) ?_
                     refine sv 3 102 (lbn 6 14) ?_
                     refine st 0 99 (lbn 6 15) hHeld ?_
                     refine st 4 103 (lbn 6 31) hHeld ?_
                     refine sv 5 104 (lbn 6 63) ?_
                     refine done_ (by kernel_rfl) ?_
                     obtain ⟨hcz99_0, hcz99_1, hcz99_2, hcz99_3, hcz99_4, hfz99_0, hfz99_1, hfz99_2, hfz99_3, hfz99_4⟩ := bf5 BK561.out
                     obtain ⟨hcz100_0, hcz100_1, hcz100_2, hfz100_0, hfz100_1, hfz100_2⟩ := bf3 BK584.out
                     try go_wp2_with (first | ((with_reducible refine gate_callee (f := 20) rfl ?_); refine goesL_ (some 109) rfl rfl Try.func20 (by kernel_rfl) rfl #[.agg #[.int .i64 t551, .int .i64 t552, .int .i64 t553, .int .i64 t554, .slice Ao11 t555.length co11], .int .i64 ((rd_T60 t562 x13_3).f0)] rfl zM ?_; (with_reducible refine (spec_BlocksOf.calls k3 t551 t552 t553 t554 _ _ t555 ((rd_T60 t562 x13_3).f0) t586 t587 _ ?side1 ?side2 A69.out).mono ?_); (case side1 => repeat (first | exact (Kd.R_reads' HO_562004.out).2.2 | (with_reducible refine Kd.C_alloc ?_ _) | (with_reducible refine Kd.C_drewN ?_ _) | (with_reducible refine Kd.C_drew ?_))); (case side2 => exact (Kd.R_reads' HO_562004.out).2.1); rintro e w101 ⟨rfl, hb⟩; refine ⟨_, rfl, ?_⟩; have n0_ := Aside0.mk (Kd.R_below (zR HO_4.out) hb); have n1_ := Aside0.mk (Kd.R_below (zR HO_5.out) hb); have n2_ := Aside0.mk (Kd.R_below (zR HO_6.out) hb); have n3_ := Aside0.mk (Kd.S_below (zQ HO_7.out) hb); have n4_ := Aside0.mk (Kd.R_below (zR HO_562004.out) hb); have n5_ := Aside0.mk (kB BK561.out hb); have n6_ := Aside0.mk (kB BK584.out hb); have n7_ := Aside0.mk (below_step (zT HB.out GE561.out GE584.out) hb); clear HO_4; clear HO_5; clear HO_6; clear HO_7; clear HO_562004; clear BK561; clear BK584; clear HB; have HO_4 := n0_; have HO_5 := n1_; have HO_6 := n2_; have HO_7 := n3_; have HO_562004 := n4_; have BK561 := n5_; have BK584 := n6_; have HB := n7_; clear n0_ n1_ n2_ n3_ n4_ n5_ n6_ n7_; try clear hb))
                     have n0_ := Aside0.mk (Kd.R_drew HO_4.out)
                     have n1_ := Aside0.mk (Kd.R_drew HO_5.out)
                     have n2_ := Aside0.mk (Kd.R_drew HO_6.out)
                     have n3_ := Aside0.mk (Kd.S_drew HO_7.out)
                     have n4_ := Aside0.mk (Kd.R_drew HO_562004.out)
                     have n5_ := Aside0.mk (blk_drew BK561.out)
                     have n6_ := Aside0.mk (blk_drew BK584.out)
                     have n7_ := Aside0.mk (below_drew1 HB.out)
                     clear HO_4
                     clear HO_5
                     clear HO_6
                     clear HO_7
                     clear HO_562004
                     clear BK561
                     clear BK584
                     clear HB
                     have HO_4 := n0_
                     have HO_5 := n1_
                     have HO_6 := n2_
                     have HO_7 := n3_
                     have HO_562004 := n4_
                     have BK561 := n5_
                     have BK584 := n6_
                     have HB := n7_
                     clear n0_ n1_ n2_ n3_ n4_ n5_ n6_ n7_
                     refine start_ (n := 36) (S := fun w' => w'.cell? ⟨gb584, 0, none⟩ = some (.int .i64 ((rd_T60 t562 x13_3).f0)) ∧ w'.cell? ⟨gb584, 1, none⟩ = some (.int .i64 ((rd_T60 t562 x13_3).f1)) ∧ w'.cell? ⟨gb584, 2, none⟩ = some (.int .i64 ((rd_T60 t562 x13_3).f2))) (ds := []) (Array.replicate 36 false) (by kernel_rfl) rfl rfl ⟨(blk_cell BK584.out 0).trans rfl, (blk_cell BK584.out 1).trans rfl, (blk_cell BK584.out 2).trans rfl⟩ (fun hHeld => ?_); refine with_tabW laws_FnPlaces.tab26 laws_FnPlaces.bits26 (fun HT_ HW_ => ?_)
                     generalize w101.drew = w102 at HO_4 HO_5 HO_6 HO_7 HO_562004 BK561 BK584 HB hHeld ⊢
                     refine sV 0 112 (lbn 36 1) HT_.out ?_
                     refine sT 1 113 (lbn 36 3) HT_.out HW_.out hHeld ?_
                     refine sV 2 114 (lbn 36 7) HT_.out ?_
                     refine sV 3 115 (lbn 36 15) HT_.out ?_
                     refine sV 4 116 (lbn 36 31) HT_.out ?_
                     refine sV 6 118 (lbn 36 95) HT_.out ?_
                     refine sT 5 117 (lbn 36 127) HT_.out HW_.out hHeld ?_
                     refine sV 7 119 (lbn 36 255) HT_.out ?_
                     refine sV 8 120 (lbn 36 511) HT_.out ?_
                     refine sV 9 121 (lbn 36 1023) HT_.out ?_
                     refine sV 10 122 (lbn 36 2047) HT_.out ?_
                     refine sT 11 123 (lbn 36 4095) HT_.out HW_.out hHeld ?_
                     refine sV 12 124 (lbn 36 8191) HT_.out ?_
                     refine sV 13 125 (lbn 36 16383) HT_.out ?_
                     refine sV 14 126 (lbn 36 32767) HT_.out ?_
                     refine sU 15 127 (lbn 36 65535) HT_.out ?_
                     refine sU 16 128 (lbn 36 131071) HT_.out ?_
                     refine sU 17 129 (lbn 36 262143) HT_.out ?_
                     refine sU 18 130 (lbn 36 524287) HT_.out ?_
                     refine sV 19 131 (lbn 36 1048575) HT_.out ?_
                     refine sV 20 132 (lbn 36 2097151) HT_.out ?_
                     refine sU 21 133 (lbn 36 4194303) HT_.out ?_
                     refine sU 22 134 (lbn 36 8388607) HT_.out ?_
                     refine sU 23 135 (lbn 36 16777215) HT_.out ?_
                     refine sU 24 136 (lbn 36 33554431) HT_.out ?_
                     refine sU 25 137 (lbn 36 67108863) HT_.out ?_
                     refine sU 26 138 (lbn 36 134217727) HT_.out ?_
                     refine sU 27 139 (lbn 36 268435455) HT_.out ?_
                     refine sU 28 140 (lbn 36 536870911) HT_.out ?_
                     refine sU 29 141 (lbn 36 1073741823) HT_.out ?_
                     refine sU 30 142 (lbn 36 2147483647) HT_.out ?_
                     refine sU 31 143 (lbn 36 4294967295) HT_.out ?_
                     refine sU 32 144 (lbn 36 8589934591) HT_.out ?_
                     refine sU 33 145 (lbn 36 17179869183) HT_.out ?_
                     refine sU 34 146 (lbn 36 34359738367) HT_.out ?_
                     refine sV 35 147 (lbn 36 68719476735) HT_.out ?_
                     refine done_ (done_of HT_.out (by kernel_rfl)) ?_
                     try go_wp2
                     go_ret
                     exact ⟨by first | rfl | (simp [errW_none, errW_some] <;> rfl) | (simp [*, errW_none, errW_some] <;> rfl), zT HB.out GE561.out GE584.out⟩
                   ·rw [if_neg c92] at H
                    have c92b0 : decide (((rd_T60 t562 x13_3).f2) < 0) = false := decide_eq_false c92
                    clear c92
                    by_cases c103 : ((rd_T60 t562 x13_3).f2) ≥ t586
                    ·as_aux_lemma =>
                      rw [if_pos c103] at H
                      have c103b0 : decide (t586 ≤ ((rd_T60 t562 x13_3).f2)) = true := decide_eq_true c103
                      clear c103
                      obtain rfl := Option.some.inj H
                      obtain ⟨Ao104, co104, eo104⟩ := Kd.R_slice HO_5.out
                      subst eo104
                      have p583 : 0 ≤ (x13_3 : Int) := dT
                      have q583 : x13_3 < (t562.length : Int) := dT
                      obtain ⟨ad583, e583, hx583_0, hx583_1, hx583_2⟩ := at_T60 (Kd.R_reads' HO_5.out).2.2 x13_3 p583 q583
                      cases e583
                      replace p583 := eq_true p583
                      replace q583 := eq_true q583
                      try go_wp2_with (first | ((with_reducible refine gate_dst (N := 14) rfl ?_); refine box_event ?hg (N := 14) ?hd (cs := #[.int .i64 0, .int .i64 0, .int .i64 0]) (t := 60) ?hr ?_; (case hd => rfl); (case hg => rfl); (case hr => first | (go_simp; done) | (go_simp; rfl)); intro gb584 hg w105 hbox hb; have n0_ := Aside0.mk (Kd.R_below (zR HO_4.out) hb); have n1_ := Aside0.mk (Kd.R_below (Kd.R_elderB (zR HO_5.out) gb584 (Nat.le_of_eq hg.symm)) hb); have n2_ := Aside0.mk (Kd.R_below (Kd.R_elderB (zR HO_6.out) gb584 (Nat.le_of_eq hg.symm)) hb); have n3_ := Aside0.mk (Kd.S_below (zQ HO_7.out) hb); have n4_ := Aside0.mk (Kd.R_below (zR HO_562004.out) hb); have n5_ := Aside0.mk (kB BK561.out hb); have n6_ := Aside0.mk (below_step (zS HB.out GE561.out) hb); have n7_ := Aside0.mk (hbox); have n8_ := Aside0.mk (gS hg HB.out GE561.out); have n9_ := Aside0.mk (gS hg HB.out GE561.out); have n10_ := Aside0.mk (nL hg BK561.out); have n11_ := Aside0.mk (nG hg BK561.out); clear HO_4; clear HO_5; clear HO_6; clear HO_7; clear HO_562004; clear BK561; clear HB; have HO_4 := n0_; have HO_5 := n1_; have HO_6 := n2_; have HO_7 := n3_; have HO_562004 := n4_; have BK561 := n5_; have HB := n6_; have BK584 := n7_; have GW584 := n8_; have GE584 := n9_; have NB561_584 := n10_; have NB584_561 := n11_; clear n0_ n1_ n2_ n3_ n4_ n5_ n6_ n7_ n8_ n9_ n10_ n11_; clear hb hbox hg; have hnb106 := NB584_561.out; have hnc106 := NB561_584.out; obtain ⟨hcz107_0, hcz107_1, hcz107_2, hfz107_0, hfz107_1, hfz107_2⟩ := bf3 BK584.out))
                      have n0_ : Aside0 (Kd.R (Kd.int .i64) 3 (((w105.setCell ⟨gb584, 0, none⟩ (.int .i64 ((rd_T60 t562 x13_3).f0))).setCell ⟨gb584, 1, none⟩ (.int .i64 ((rd_T60 t562 x13_3).f1))).setCell ⟨gb584, 2, none⟩ (.int .i64 ((rd_T60 t562 x13_3).f2))) w.heap.size (fun _ => True) (.slice Ao12 t558.length co12) t558) := ⟨by (with_reducible repeat (first | apply Kd.R_alloc | apply Kd.R_drewN | apply Kd.R_drew)); exact Kd.R_mono (Kd.R_far (p := ⟨gb584, 2, none⟩) (Kd.R_far (p := ⟨gb584, 1, none⟩) (Kd.R_far (p := ⟨gb584, 0, none⟩) (Kd.R_types HO_4.out BK584.out (by decide)) (fun _ hk => hk.2) (.int .i64 ((rd_T60 t562 x13_3).f0))) (fun _ hk => hk.2) (.int .i64 ((rd_T60 t562 x13_3).f1))) (fun _ hk => hk.2) (.int .i64 ((rd_T60 t562 x13_3).f2))) (fun _ hk => trivial)⟩
                      have n1_ : Aside0 (Kd.R k60 60 (((w105.setCell ⟨gb584, 0, none⟩ (.int .i64 ((rd_T60 t562 x13_3).f0))).setCell ⟨gb584, 1, none⟩ (.int .i64 ((rd_T60 t562 x13_3).f1))).setCell ⟨gb584, 2, none⟩ (.int .i64 ((rd_T60 t562 x13_3).f2))) w.heap.size (fun k_ => some k_ ≠ (.slice Ao30 t565.length co30 : Value).ownBlock ∧ k_ ≠ gb584) (.slice (some ad583) t562.length co104) t562) := ⟨by (with_reducible repeat (first | apply Kd.R_alloc | apply Kd.R_drewN | apply Kd.R_drew)); exact Kd.R_mono (Kd.R_far (p := ⟨gb584, 2, none⟩) (Kd.R_far (p := ⟨gb584, 1, none⟩) (Kd.R_far (p := ⟨gb584, 0, none⟩) (Kd.R_mono HO_5.out (fun k_ hk => (⟨hk, hk.2⟩ : _ ∧ k_ ≠ gb584))) (fun _ hk => hk.2) (.int .i64 ((rd_T60 t562 x13_3).f0))) (fun _ hk => hk.2) (.int .i64 ((rd_T60 t562 x13_3).f1))) (fun _ hk => hk.2) (.int .i64 ((rd_T60 t562 x13_3).f2))) (fun _ hk => ⟨hk.1.1, hk.1.2⟩)⟩
                      have n2_ : Aside0 (Kd.R k60 60 (((w105.setCell ⟨gb584, 0, none⟩ (.int .i64 ((rd_T60 t562 x13_3).f0))).setCell ⟨gb584, 1, none⟩ (.int .i64 ((rd_T60 t562 x13_3).f1))).setCell ⟨gb584, 2, none⟩ (.int .i64 ((rd_T60 t562 x13_3).f2))) w.heap.size (fun k_ => some k_ ≠ (.slice (some ad583) t562.length co104 : Value).ownBlock ∧ k_ ≠ gb584) (.slice Ao30 t565.length co30) t565) := ⟨by (with_reducible repeat (first | apply Kd.R_alloc | apply Kd.R_drewN | apply Kd.R_drew)); exact Kd.R_mono (Kd.R_far (p := ⟨gb584, 2, none⟩) (Kd.R_far (p := ⟨gb584, 1, none⟩) (Kd.R_far (p := ⟨gb584, 0, none⟩) (Kd.R_mono HO_6.out (fun k_ hk => (⟨hk, hk.2⟩ : _ ∧ k_ ≠ gb584))) (fun _ hk => hk.2) (.int .i64 ((rd_T60 t562 x13_3).f0))) (fun _ hk => hk.2) (.int .i64 ((rd_T60 t562 x13_3).f1))) (fun _ hk => hk.2) (.int .i64 ((rd_T60 t562 x13_3).f2))) (fun _ hk => ⟨hk.1.1, hk.1.2⟩)⟩
                      have n3_ : Aside0 (Kd.S (Kd.slice 4 Kd.bool) 58 (((w105.setCell ⟨gb584, 0, none⟩ (.int .i64 ((rd_T60 t562 x13_3).f0))).setCell ⟨gb584, 1, none⟩ (.int .i64 ((rd_T60 t562 x13_3).f1))).setCell ⟨gb584, 2, none⟩ (.int .i64 ((rd_T60 t562 x13_3).f2))) w.heap.size (fun _ => True) u7 x7_3) := ⟨by (with_reducible repeat (first | apply Kd.S_alloc | apply Kd.S_drewN | apply Kd.S_drew)); exact Kd.S_mono (Kd.S_far (p := ⟨gb584, 2, none⟩) (Kd.S_far (p := ⟨gb584, 1, none⟩) (Kd.S_far (p := ⟨gb584, 0, none⟩) (Kd.S_types HO_7.out BK584.out (by decide)) (fun _ hk => hk.2) (.int .i64 ((rd_T60 t562 x13_3).f0))) (fun _ hk => hk.2) (.int .i64 ((rd_T60 t562 x13_3).f1))) (fun _ hk => hk.2) (.int .i64 ((rd_T60 t562 x13_3).f2))) (fun _ hk => trivial)⟩
                      have n4_ : Aside0 (Kd.R k66 66 (((w105.setCell ⟨gb584, 0, none⟩ (.int .i64 ((rd_T60 t562 x13_3).f0))).setCell ⟨gb584, 1, none⟩ (.int .i64 ((rd_T60 t562 x13_3).f1))).setCell ⟨gb584, 2, none⟩ (.int .i64 ((rd_T60 t562 x13_3).f2))) w.heap.size (fun _ => True) (.slice Ao11 t555.length co11) t555) := ⟨by (with_reducible repeat (first | apply Kd.R_alloc | apply Kd.R_drewN | apply Kd.R_drew)); exact Kd.R_mono (Kd.R_far (p := ⟨gb584, 2, none⟩) (Kd.R_far (p := ⟨gb584, 1, none⟩) (Kd.R_far (p := ⟨gb584, 0, none⟩) (Kd.R_types HO_562004.out BK584.out (by decide)) (fun _ hk => hk.2) (.int .i64 ((rd_T60 t562 x13_3).f0))) (fun _ hk => hk.2) (.int .i64 ((rd_T60 t562 x13_3).f1))) (fun _ hk => hk.2) (.int .i64 ((rd_T60 t562 x13_3).f2))) (fun _ hk => trivial)⟩
                      have n5_ : Aside0 ((((w105.setCell ⟨gb584, 0, none⟩ (.int .i64 ((rd_T60 t562 x13_3).f0))).setCell ⟨gb584, 1, none⟩ (.int .i64 ((rd_T60 t562 x13_3).f1))).setCell ⟨gb584, 2, none⟩ (.int .i64 ((rd_T60 t562 x13_3).f2))).heap[gb561]? = some (.cells #[.int .i64 t551, .int .i64 t552, .int .i64 t553, .int .i64 t554, .slice Ao11 t555.length co11] 29 (0, 0))) := ⟨zF BK561.out NB561_584.out⟩
                      have n6_ : Aside0 ((((w105.setCell ⟨gb584, 0, none⟩ (.int .i64 ((rd_T60 t562 x13_3).f0))).setCell ⟨gb584, 1, none⟩ (.int .i64 ((rd_T60 t562 x13_3).f1))).setCell ⟨gb584, 2, none⟩ (.int .i64 ((rd_T60 t562 x13_3).f2))).heap[gb584]? = some (.cells #[.int .i64 ((rd_T60 t562 x13_3).f0), .int .i64 ((rd_T60 t562 x13_3).f1), .int .i64 ((rd_T60 t562 x13_3).f2)] 60 (0, 0))) := ⟨zP BK584.out⟩
                      have n7_ : Aside0 (Below w.heap.size w (((w105.setCell ⟨gb584, 0, none⟩ (.int .i64 ((rd_T60 t562 x13_3).f0))).setCell ⟨gb584, 1, none⟩ (.int .i64 ((rd_T60 t562 x13_3).f1))).setCell ⟨gb584, 2, none⟩ (.int .i64 ((rd_T60 t562 x13_3).f2)))) := ⟨zT HB.out GE561.out GE584.out⟩
                      generalize (((w105.setCell ⟨gb584, 0, none⟩ (.int .i64 ((rd_T60 t562 x13_3).f0))).setCell ⟨gb584, 1, none⟩ (.int .i64 ((rd_T60 t562 x13_3).f1))).setCell ⟨gb584, 2, none⟩ (.int .i64 ((rd_T60 t562 x13_3).f2))) = w108 at n0_ n1_ n2_ n3_ n4_ n5_ n6_ n7_ ⊢
                      have HO_4 := n0_
                      have HO_5 := n1_
                      have HO_6 := n2_
                      have HO_7 := n3_
                      have HO_562004 := n4_
                      have BK561 := n5_
                      have BK584 := n6_
                      have HB := n7_
                      clear n0_ n1_ n2_ n3_ n4_ n5_ n6_ n7_
                      have n0_ := Aside0.mk (Kd.R_drew HO_4.out)
                      have n1_ := Aside0.mk (Kd.R_drew HO_5.out)
                      have n2_ := Aside0.mk (Kd.R_drew HO_6.out)
                      have n3_ := Aside0.mk (Kd.S_drew HO_7.out)
                      have n4_ := Aside0.mk (Kd.R_drew HO_562004.out)
                      have n5_ := Aside0.mk (blk_drew BK561.out)
                      have n6_ := Aside0.mk (blk_drew BK584.out)
                      have n7_ := Aside0.mk (below_drew1 HB.out)
                      clear HO_4
                      clear HO_5
                      clear HO_6
                      clear HO_7
                      clear HO_562004
                      clear BK561
                      clear BK584
                      clear HB
                      have HO_4 := n0_
                      have HO_5 := n1_
                      have HO_6 := n2_
                      have HO_7 := n3_
                      have HO_562004 := n4_
                      have BK561 := n5_
                      have BK584 := n6_
                      have HB := n7_
                      clear n0_ n1_ n2_ n3_ n4_ n5_ n6_ n7_
                      have p585 : 0 ≤ (x13_3 : Int) := dT
                      have q585 : x13_3 < (t565.length : Int) := dT
                      obtain ⟨ad585, e585, hx585_0, hx585_1, hx585_2⟩ := at_T60 (Kd.R_reads' HO_6.out).2.2 x13_3 p585 q585
                      cases e585
                      replace p585 := eq_true p585
                      replace q585 := eq_true q585
                      refine start_ (n := 6) (S := fun w' => w'.cell? ⟨gb584, 0, none⟩ = some (.int .i64 ((rd_T60 t562 x13_3).f0)) ∧ w'.cell? ⟨gb584, 1, none⟩ = some (.int .i64 ((rd_T60 t562 x13_3).f1)) ∧ w'.cell? ⟨gb584, 2, none⟩ = some (.int .i64 ((rd_T60 t562 x13_3).f2)) ∧ w'.cell? (ad585.add ((x13_3).toNat * 3)) = some (.int .i64 ((rd_T60 t565 x13_3).f0)) ∧ w'.cell? ⟨(ad585.add ((x13_3).toNat * 3)).block, (ad585.add ((x13_3).toNat * 3)).off + 1, none⟩ = some (.int .i64 ((rd_T60 t565 x13_3).f1)) ∧ w'.cell? ⟨(ad585.add ((x13_3).toNat * 3)).block, (ad585.add ((x13_3).toNat * 3)).off + 2, none⟩ = some (.int .i64 ((rd_T60 t565 x13_3).f2))) (ds := []) (Array.replicate 6 false) (by kernel_rfl) rfl rfl ⟨(blk_cell BK584.out 0).trans rfl, (blk_cell BK584.out 1).trans rfl, (blk_cell BK584.out 2).trans rfl, hx585_0, hx585_1, hx585_2⟩ (fun hHeld => ?_)
                      generalize w108.drew = w109 at HO_4 HO_5 HO_6 HO_7 HO_562004 BK561 BK584 HB hx585_0 hx585_1 hx585_2 hHeld ⊢
                      refine sv 1 100 (lbn 6 2) ?_
                      refine sv 2 101 (lbn 6 6) ?_
                      refine sv 3 102 (lbn 6 14) ?_
                      refine st 0 99 (lbn 6 15) hHeld ?_
                      refine st 4 103 (lbn 6 31) hHeld ?_
                      refine sv 5 104 (lbn 6 63) ?_
                      refine done_ (by kernel_rfl) ?_
                      obtain ⟨hcz110_0, hcz110_1, hcz110_2, hcz110_3, hcz110_4, hfz110_0, hfz110_1, hfz110_2, hfz110_3, hfz110_4⟩ := bf5 BK561.out
                      obtain ⟨hcz111_0, hcz111_1, hcz111_2, hfz111_0, hfz111_1, hfz111_2⟩ := bf3 BK584.out
                      try go_wp2_with (first | ((with_reducible refine gate_callee (f := 20) rfl ?_); refine goesL_ (some 109) rfl rfl Try.func20 (by kernel_rfl) rfl #[.agg #[.int .i64 t551, .int .i64 t552, .int .i64 t553, .int .i64 t554, .slice Ao11 t555.length co11], .int .i64 ((rd_T60 t562 x13_3).f0)] rfl zM ?_; (with_reducible refine (spec_BlocksOf.calls k3 t551 t552 t553 t554 _ _ t555 ((rd_T60 t562 x13_3).f0) t586 t587 _ ?side1 ?side2 A69.out).mono ?_); (case side1 => repeat (first | exact (Kd.R_reads' HO_562004.out).2.2 | (with_reducible refine Kd.C_alloc ?_ _) | (with_reducible refine Kd.C_drewN ?_ _) | (with_reducible refine Kd.C_drew ?_))); (case side2 => exact (Kd.R_reads' HO_562004.out).2.1); rintro e w112 ⟨rfl, hb⟩; refine ⟨_, rfl, ?_⟩; have n0_ := Aside0.mk (Kd.R_below (zR HO_4.out) hb); have n1_ := Aside0.mk (Kd.R_below (zR HO_5.out) hb); have n2_ := Aside0.mk (Kd.R_below (zR HO_6.out) hb); have n3_ := Aside0.mk (Kd.S_below (zQ HO_7.out) hb); have n4_ := Aside0.mk (Kd.R_below (zR HO_562004.out) hb); have n5_ := Aside0.mk (kB BK561.out hb); have n6_ := Aside0.mk (kB BK584.out hb); have n7_ := Aside0.mk (below_step (zT HB.out GE561.out GE584.out) hb); clear HO_4; clear HO_5; clear HO_6; clear HO_7; clear HO_562004; clear BK561; clear BK584; clear HB; have HO_4 := n0_; have HO_5 := n1_; have HO_6 := n2_; have HO_7 := n3_; have HO_562004 := n4_; have BK561 := n5_; have BK584 := n6_; have HB := n7_; clear n0_ n1_ n2_ n3_ n4_ n5_ n6_ n7_; try clear hb))
                      have n0_ := Aside0.mk (Kd.R_drew HO_4.out)
                      have n1_ := Aside0.mk (Kd.R_drew HO_5.out)
                      have n2_ := Aside0.mk (Kd.R_drew HO_6.out)
                      have n3_ := Aside0.mk (Kd.S_drew HO_7.out)
                      have n4_ := Aside0.mk (Kd.R_drew HO_562004.out)
                      have n5_ := Aside0.mk (blk_drew BK561.out)
                      have n6_ := Aside0.mk (blk_drew BK584.out)
                      have n7_ := Aside0.mk (below_drew1 HB.out)
                      clear HO_4
                      clear HO_5
                      clear HO_6
                      clear HO_7
                      clear HO_562004
                      clear BK561
                      clear BK584
                      clear HB
                      have HO_4 := n0_
                      have HO_5 := n1_
                      have HO_6 := n2_
                      have HO_7 := n3_
                      have HO_562004 := n4_
                      have BK561 := n5_
                      have BK584 := n6_
                      have HB := n7_
                      clear n0_ n1_ n2_ n3_ n4_ n5_ n6_ n7_
                      refine start_ (n := 36) (S := fun w' => w'.cell? ⟨gb584, 0, none⟩ = some (.int .i64 ((rd_T60 t562 x13_3).f0)) ∧ w'.cell? ⟨gb584, 1, none⟩ = some (.int .i64 ((rd_T60 t562 x13_3).f1)) ∧ w'.cell? ⟨gb584, 2, none⟩ = some (.int .i64 ((rd_T60 t562 x13_3).f2))) (ds := []) (Array.replicate 36 false) (by kernel_rfl) rfl rfl ⟨(blk_cell BK584.out 0).trans rfl, (blk_cell BK584.out 1).trans rfl, (blk_cell BK584.out 2).trans rfl⟩ (fun hHeld => ?_); refine with_tabW laws_FnPlaces.tab26 laws_FnPlaces.bits26 (fun HT_ HW_ => ?_)
                      generalize w112.drew = w113 at HO_4 HO_5 HO_6 HO_7 HO_562004 BK561 BK584 HB hHeld ⊢
                      refine sV 0 112 (lbn 36 1) HT_.out ?_
                      refine sT 1 113 (lbn 36 3) HT_.out HW_.out hHeld ?_
                      refine sV 2 114 (lbn 36 7) HT_.out ?_
                      refine sV 3 115 (lbn 36 15) HT_.out ?_
                      refine sV 4 116 (lbn 36 31) HT_.out ?_
                      refine sV 6 118 (lbn 36 95) HT_.out ?_
                      refine sT 5 117 (lbn 36 127) HT_.out HW_.out hHeld ?_
                      refine sV 7 119 (lbn 36 255) HT_.out ?_
                      refine sV 8 120 (lbn 36 511) HT_.out ?_
                      refine sV 9 121 (lbn 36 1023) HT_.out ?_
                      refine sV 10 122 (lbn 36 2047) HT_.out ?_
                      refine sT 11 123 (lbn 36 4095) HT_.out HW_.out hHeld ?_
                      refine sV 12 124 (lbn 36 8191) HT_.out ?_
                      refine sV 13 125 (lbn 36 16383) HT_.out ?_
                      refine sV 14 126 (lbn 36 32767) HT_.out ?_
                      refine sV 15 127 (lbn 36 65535) HT_.out ?_
                      refine sV 17 129 (lbn 36 196607) HT_.out ?_
                      refine sT 16 128 (lbn 36 262143) HT_.out HW_.out hHeld ?_
                      refine sV 18 130 (lbn 36 524287) HT_.out ?_
                      refine sV 19 131 (lbn 36 1048575) HT_.out ?_
                      refine sV 20 132 (lbn 36 2097151) HT_.out ?_
                      refine sU 21 133 (lbn 36 4194303) HT_.out ?_
                      refine sU 22 134 (lbn 36 8388607) HT_.out ?_
                      refine sU 23 135 (lbn 36 16777215) HT_.out ?_
                      refine sU 24 136 (lbn 36 33554431) HT_.out ?_
                      refine sU 25 137 (lbn 36 67108863) HT_.out ?_
                      refine sU 26 138 (lbn 36 134217727) HT_.out ?_
                      refine sU 27 139 (lbn 36 268435455) HT_.out ?_
                      refine sU 28 140 (lbn 36 536870911) HT_.out ?_
                      refine sU 29 141 (lbn 36 1073741823) HT_.out ?_
                      refine sU 30 142 (lbn 36 2147483647) HT_.out ?_
                      refine sU 31 143 (lbn 36 4294967295) HT_.out ?_
                      refine sU 32 144 (lbn 36 8589934591) HT_.out ?_
                      refine sU 33 145 (lbn 36 17179869183) HT_.out ?_
                      refine sU 34 146 (lbn 36 34359738367) HT_.out ?_
                      refine sV 35 147 (lbn 36 68719476735) HT_.out ?_
                      refine done_ (done_of HT_.out (by kernel_rfl)) ?_
                      try go_wp2
                      go_ret
                      exact ⟨by first | rfl | (simp [errW_none, errW_some] <;> rfl) | (simp [*, errW_none, errW_some] <;> rfl), zT HB.out GE561.out GE584.out⟩
                    ·rw [if_neg c103] at H
                     have c103b0 : decide (t586 ≤ ((rd_T60 t562 x13_3).f2)) = false := decide_eq_false c103
                     clear c103
                     by_cases c114 : 0 ≤ ((rd_T60 t562 x13_3).f0)
                     ·rw [if_pos c114] at H
                      have c114b0 : decide (0 ≤ ((rd_T60 t562 x13_3).f0)) = true := decide_eq_true c114
                      clear c114
                      by_cases c115 : ((rd_T60 t562 x13_3).f0) < (x7_3.length : Int)
                      ·rw [if_pos c115] at H
                       have c115b0 : decide (((rd_T60 t562 x13_3).f0) < (x7_3.length : Int)) = true := decide_eq_true c115
                       clear c115
                       obtain ⟨ji116, hji116⟩ : ∃ j_ : Int, (wrap64 ((wrap64 (((rd_T60 t562 x13_3).f1) * t586)) + ((rd_T60 t562 x13_3).f2))) = j_ := ⟨_, rfl⟩
                       replace H : (if 0 ≤ (ji116) then (if (ji116) < ((rd_L6 x7_3 ((rd_T60 t562 x13_3).f0)).length : Int) then (if rdOf false (rd_L6 x7_3 ((rd_T60 t562 x13_3).f0)) (ji116) = true then (some false) else (laws_FnPlaces.l1 k3 t558 t562 t565 (x7_3.set (((rd_T60 t562 x13_3).f0) : Int).toNat ((rd_L6 x7_3 ((rd_T60 t562 x13_3).f0)).set ((ji116) : Int).toNat true)) (wrap64 (x13_3 + 1)) t551 t552 t553 t554 t555)) else (none)) else (none)) = some r := by first | (rw [hji116] at H; exact H) | (simp only [hji116] at H ⊢; exact H)
                       (try rw [hji116] at A69)
                       have hji116w : (IntKind.i64.wrap ((wrap64 (((rd_T60 t562 x13_3).f1) * t586)) + ((rd_T60 t562 x13_3).f2))) = ji116 := (i64_w _).trans hji116
                       by_cases c117 : 0 ≤ (ji116)
                       ·rw [if_pos c117] at H
                        have c117b0 : decide (0 ≤ (ji116)) = true := decide_eq_true c117
                        clear c117
                        by_cases c118 : (ji116) < ((rd_L6 x7_3 ((rd_T60 t562 x13_3).f0)).length : Int)
                        ·rw [if_pos c118] at H
                         have c118b0 : decide ((ji116) < ((rd_L6 x7_3 ((rd_T60 t562 x13_3).f0)).length : Int)) = true := decide_eq_true c118
                         clear c118
                         obtain ⟨bq119, hbq119⟩ : ∃ b_ : Bool, b_ = (rdOf false (rd_L6 x7_3 ((rd_T60 t562 x13_3).f0)) (ji116)) := ⟨_, rfl⟩
                         replace H : (if bq119 = true then (some false) else (laws_FnPlaces.l1 k3 t558 t562 t565 (x7_3.set (((rd_T60 t562 x13_3).f0) : Int).toNat ((rd_L6 x7_3 ((rd_T60 t562 x13_3).f0)).set ((ji116) : Int).toNat true)) (wrap64 (x13_3 + 1)) t551 t552 t553 t554 t555)) = some r := by rw [← hbq119] at H; exact H
                         have Nbq119 := Aside0.mk hbq119
                         clear hbq119
                         by_cases c120 : bq119 = true
                         ·subst c120
                          have H1 : (some false) = some r := by rw [if_pos rfl] at H; exact H
                          clear H
                          have H := H1
                          clear H1
                          obtain rfl := Option.some.inj H
                          obtain ⟨Ao121, co121, eo121⟩ := Kd.R_slice HO_5.out
                          subst eo121
                          have p583 : 0 ≤ (x13_3 : Int) := dT
                          have q583 : x13_3 < (t562.length : Int) := dT
                          obtain ⟨ad583, e583, hx583_0, hx583_1, hx583_2⟩ := at_T60 (Kd.R_reads' HO_5.out).2.2 x13_3 p583 q583
                          cases e583
                          replace p583 := eq_true p583
                          replace q583 := eq_true q583
                          try go_wp2_with (first | ((with_reducible refine gate_dst (N := 14) rfl ?_); refine box_event ?hg (N := 14) ?hd (cs := #[.int .i64 0, .int .i64 0, .int .i64 0]) (t := 60) ?hr ?_; (case hd => rfl); (case hg => rfl); (case hr => first | (go_simp; done) | (go_simp; rfl)); intro gb584 hg w122 hbox hb; have n0_ := Aside0.mk (Kd.R_below (zR HO_4.out) hb); have n1_ := Aside0.mk (Kd.R_below (Kd.R_elderB (zR HO_5.out) gb584 (Nat.le_of_eq hg.symm)) hb); have n2_ := Aside0.mk (Kd.R_below (Kd.R_elderB (zR HO_6.out) gb584 (Nat.le_of_eq hg.symm)) hb); have n3_ := Aside0.mk (Kd.S_below (zQ HO_7.out) hb); have n4_ := Aside0.mk (Kd.R_below (zR HO_562004.out) hb); have n5_ := Aside0.mk (kB BK561.out hb); have n6_ := Aside0.mk (below_step (zS HB.out GE561.out) hb); have n7_ := Aside0.mk (hbox); have n8_ := Aside0.mk (gS hg HB.out GE561.out); have n9_ := Aside0.mk (gS hg HB.out GE561.out); have n10_ := Aside0.mk (nL hg BK561.out); have n11_ := Aside0.mk (nG hg BK561.out); clear HO_4; clear HO_5; clear HO_6; clear HO_7; clear HO_562004; clear BK561; clear HB; have HO_4 := n0_; have HO_5 := n1_; have HO_6 := n2_; have HO_7 := n3_; have HO_562004 := n4_; have BK561 := n5_; have HB := n6_; have BK584 := n7_; have GW584 := n8_; have GE584 := n9_; have NB561_584 := n10_; have NB584_561 := n11_; clear n0_ n1_ n2_ n3_ n4_ n5_ n6_ n7_ n8_ n9_ n10_ n11_; clear hb hbox hg; have hnb123 := NB584_561.out; have hnc123 := NB561_584.out; obtain ⟨hcz124_0, hcz124_1, hcz124_2, hfz124_0, hfz124_1, hfz124_2⟩ := bf3 BK584.out))
                          have n0_ : Aside0 (Kd.R (Kd.int .i64) 3 (((w122.setCell ⟨gb584, 0, none⟩ (.int .i64 ((rd_T60 t562 x13_3).f0))).setCell ⟨gb584, 1, none⟩ (.int .i64 ((rd_T60 t562 x13_3).f1))).setCell ⟨gb584, 2, none⟩ (.int .i64 ((rd_T60 t562 x13_3).f2))) w.heap.size (fun _ => True) (.slice Ao12 t558.length co12) t558) := ⟨by (with_reducible repeat (first | apply Kd.R_alloc | apply Kd.R_drewN | apply Kd.R_drew)); exact Kd.R_mono (Kd.R_far (p := ⟨gb584, 2, none⟩) (Kd.R_far (p := ⟨gb584, 1, none⟩) (Kd.R_far (p := ⟨gb584, 0, none⟩) (Kd.R_types HO_4.out BK584.out (by decide)) (fun _ hk => hk.2) (.int .i64 ((rd_T60 t562 x13_3).f0))) (fun _ hk => hk.2) (.int .i64 ((rd_T60 t562 x13_3).f1))) (fun _ hk => hk.2) (.int .i64 ((rd_T60 t562 x13_3).f2))) (fun _ hk => trivial)⟩
                          have n1_ : Aside0 (Kd.R k60 60 (((w122.setCell ⟨gb584, 0, none⟩ (.int .i64 ((rd_T60 t562 x13_3).f0))).setCell ⟨gb584, 1, none⟩ (.int .i64 ((rd_T60 t562 x13_3).f1))).setCell ⟨gb584, 2, none⟩ (.int .i64 ((rd_T60 t562 x13_3).f2))) w.heap.size (fun k_ => some k_ ≠ (.slice Ao30 t565.length co30 : Value).ownBlock ∧ k_ ≠ gb584) (.slice (some ad583) t562.length co121) t562) := ⟨by (with_reducible repeat (first | apply Kd.R_alloc | apply Kd.R_drewN | apply Kd.R_drew)); exact Kd.R_mono (Kd.R_far (p := ⟨gb584, 2, none⟩) (Kd.R_far (p := ⟨gb584, 1, none⟩) (Kd.R_far (p := ⟨gb584, 0, none⟩) (Kd.R_mono HO_5.out (fun k_ hk => (⟨hk, hk.2⟩ : _ ∧ k_ ≠ gb584))) (fun _ hk => hk.2) (.int .i64 ((rd_T60 t562 x13_3).f0))) (fun _ hk => hk.2) (.int .i64 ((rd_T60 t562 x13_3).f1))) (fun _ hk => hk.2) (.int .i64 ((rd_T60 t562 x13_3).f2))) (fun _ hk => ⟨hk.1.1, hk.1.2⟩)⟩
                          have n2_ : Aside0 (Kd.R k60 60 (((w122.setCell ⟨gb584, 0, none⟩ (.int .i64 ((rd_T60 t562 x13_3).f0))).setCell ⟨gb584, 1, none⟩ (.int .i64 ((rd_T60 t562 x13_3).f1))).setCell ⟨gb584, 2, none⟩ (.int .i64 ((rd_T60 t562 x13_3).f2))) w.heap.size (fun k_ => some k_ ≠ (.slice (some ad583) t562.length co121 : Value).ownBlock ∧ k_ ≠ gb584) (.slice Ao30 t565.length co30) t565) := ⟨by (with_reducible repeat (first | apply Kd.R_alloc | apply Kd.R_drewN | apply Kd.R_drew)); exact Kd.R_mono (Kd.R_far (p := ⟨gb584, 2, none⟩) (Kd.R_far (p := ⟨gb584, 1, none⟩) (Kd.R_far (p := ⟨gb584, 0, none⟩) (Kd.R_mono HO_6.out (fun k_ hk => (⟨hk, hk.2⟩ : _ ∧ k_ ≠ gb584))) (fun _ hk => hk.2) (.int .i64 ((rd_T60 t562 x13_3).f0))) (fun _ hk => hk.2) (.int .i64 ((rd_T60 t562 x13_3).f1))) (fun _ hk => hk.2) (.int .i64 ((rd_T60 t562 x13_3).f2))) (fun _ hk => ⟨hk.1.1, hk.1.2⟩)⟩
                          have n3_ : Aside0 (Kd.S (Kd.slice 4 Kd.bool) 58 (((w122.setCell ⟨gb584, 0, none⟩ (.int .i64 ((rd_T60 t562 x13_3).f0))).setCell ⟨gb584, 1, none⟩ (.int .i64 ((rd_T60 t562 x13_3).f1))).setCell ⟨gb584, 2, none⟩ (.int .i64 ((rd_T60 t562 x13_3).f2))) w.heap.size (fun _ => True) u7 x7_3) := ⟨by (with_reducible repeat (first | apply Kd.S_alloc | apply Kd.S_drewN | apply Kd.S_drew)); exact Kd.S_mono (Kd.S_far (p := ⟨gb584, 2, none⟩) (Kd.S_far (p := ⟨gb584, 1, none⟩) (Kd.S_far (p := ⟨gb584, 0, none⟩) (Kd.S_types HO_7.out BK584.out (by decide)) (fun _ hk => hk.2) (.int .i64 ((rd_T60 t562 x13_3).f0))) (fun _ hk => hk.2) (.int .i64 ((rd_T60 t562 x13_3).f1))) (fun _ hk => hk.2) (.int .i64 ((rd_T60 t562 x13_3).f2))) (fun _ hk => trivial)⟩
                          have n4_ : Aside0 (Kd.R k66 66 (((w122.setCell ⟨gb584, 0, none⟩ (.int .i64 ((rd_T60 t562 x13_3).f0))).setCell ⟨gb584, 1, none⟩ (.int .i64 ((rd_T60 t562 x13_3).f1))).setCell ⟨gb584, 2, none⟩ (.int .i64 ((rd_T60 t562 x13_3).f2))) w.heap.size (fun _ => True) (.slice Ao11 t555.length co11) t555) := ⟨by (with_reducible repeat (first | apply Kd.R_alloc | apply Kd.R_drewN | apply Kd.R_drew)); exact Kd.R_mono (Kd.R_far (p := ⟨gb584, 2, none⟩) (Kd.R_far (p := ⟨gb584, 1, none⟩) (Kd.R_far (p := ⟨gb584, 0, none⟩) (Kd.R_types HO_562004.out BK584.out (by decide)) (fun _ hk => hk.2) (.int .i64 ((rd_T60 t562 x13_3).f0))) (fun _ hk => hk.2) (.int .i64 ((rd_T60 t562 x13_3).f1))) (fun _ hk => hk.2) (.int .i64 ((rd_T60 t562 x13_3).f2))) (fun _ hk => trivial)⟩
                          have n5_ : Aside0 ((((w122.setCell ⟨gb584, 0, none⟩ (.int .i64 ((rd_T60 t562 x13_3).f0))).setCell ⟨gb584, 1, none⟩ (.int .i64 ((rd_T60 t562 x13_3).f1))).setCell ⟨gb584, 2, none⟩ (.int .i64 ((rd_T60 t562 x13_3).f2))).heap[gb561]? = some (.cells #[.int .i64 t551, .int .i64 t552, .int .i64 t553, .int .i64 t554, .slice Ao11 t555.length co11] 29 (0, 0))) := ⟨zF BK561.out NB561_584.out⟩
                          have n6_ : Aside0 ((((w122.setCell ⟨gb584, 0, none⟩ (.int .i64 ((rd_T60 t562 x13_3).f0))).setCell ⟨gb584, 1, none⟩ (.int .i64 ((rd_T60 t562 x13_3).f1))).setCell ⟨gb584, 2, none⟩ (.int .i64 ((rd_T60 t562 x13_3).f2))).heap[gb584]? = some (.cells #[.int .i64 ((rd_T60 t562 x13_3).f0), .int .i64 ((rd_T60 t562 x13_3).f1), .int .i64 ((rd_T60 t562 x13_3).f2)] 60 (0, 0))) := ⟨zP BK584.out⟩
                          have n7_ : Aside0 (Below w.heap.size w (((w122.setCell ⟨gb584, 0, none⟩ (.int .i64 ((rd_T60 t562 x13_3).f0))).setCell ⟨gb584, 1, none⟩ (.int .i64 ((rd_T60 t562 x13_3).f1))).setCell ⟨gb584, 2, none⟩ (.int .i64 ((rd_T60 t562 x13_3).f2)))) := ⟨zT HB.out GE561.out GE584.out⟩
                          generalize (((w122.setCell ⟨gb584, 0, none⟩ (.int .i64 ((rd_T60 t562 x13_3).f0))).setCell ⟨gb584, 1, none⟩ (.int .i64 ((rd_T60 t562 x13_3).f1))).setCell ⟨gb584, 2, none⟩ (.int .i64 ((rd_T60 t562 x13_3).f2))) = w125 at n0_ n1_ n2_ n3_ n4_ n5_ n6_ n7_ ⊢
                          have HO_4 := n0_
                          have HO_5 := n1_
                          have HO_6 := n2_
                          have HO_7 := n3_
                          have HO_562004 := n4_
                          have BK561 := n5_
                          have BK584 := n6_
                          have HB := n7_
                          clear n0_ n1_ n2_ n3_ n4_ n5_ n6_ n7_
                          have n0_ := Aside0.mk (Kd.R_drew HO_4.out)
                          have n1_ := Aside0.mk (Kd.R_drew HO_5.out)
                          have n2_ := Aside0.mk (Kd.R_drew HO_6.out)
                          have n3_ := Aside0.mk (Kd.S_drew HO_7.out)
                          have n4_ := Aside0.mk (Kd.R_drew HO_562004.out)
                          have n5_ := Aside0.mk (blk_drew BK561.out)
                          have n6_ := Aside0.mk (blk_drew BK584.out)
                          have n7_ := Aside0.mk (below_drew1 HB.out)
                          clear HO_4
                          clear HO_5
                          clear HO_6
                          clear HO_7
                          clear HO_562004
                          clear BK561
                          clear BK584
                          clear HB
                          have HO_4 := n0_
                          have HO_5 := n1_
                          have HO_6 := n2_
                          have HO_7 := n3_
                          have HO_562004 := n4_
                          have BK561 := n5_
                          have BK584 := n6_
                          have HB := n7_
                          clear n0_ n1_ n2_ n3_ n4_ n5_ n6_ n7_
                          have p585 : 0 ≤ (x13_3 : Int) := dT
                          have q585 : x13_3 < (t565.length : Int) := dT
                          obtain ⟨ad585, e585, hx585_0, hx585_1, hx585_2⟩ := at_T60 (Kd.R_reads' HO_6.out).2.2 x13_3 p585 q585
                          cases e585
                          replace p585 := eq_true p585
                          replace q585 := eq_true q585
                          refine start_ (n := 6) (S := fun w' => w'.cell? ⟨gb584, 0, none⟩ = some (.int .i64 ((rd_T60 t562 x13_3).f0)) ∧ w'.cell? ⟨gb584, 1, none⟩ = some (.int .i64 ((rd_T60 t562 x13_3).f1)) ∧ w'.cell? ⟨gb584, 2, none⟩ = some (.int .i64 ((rd_T60 t562 x13_3).f2)) ∧ w'.cell? (ad585.add ((x13_3).toNat * 3)) = some (.int .i64 ((rd_T60 t565 x13_3).f0)) ∧ w'.cell? ⟨(ad585.add ((x13_3).toNat * 3)).block, (ad585.add ((x13_3).toNat * 3)).off + 1, none⟩ = some (.int .i64 ((rd_T60 t565 x13_3).f1)) ∧ w'.cell? ⟨(ad585.add ((x13_3).toNat * 3)).block, (ad585.add ((x13_3).toNat * 3)).off + 2, none⟩ = some (.int .i64 ((rd_T60 t565 x13_3).f2))) (ds := []) (Array.replicate 6 false) (by kernel_rfl) rfl rfl ⟨(blk_cell BK584.out 0).trans rfl, (blk_cell BK584.out 1).trans rfl, (blk_cell BK584.out 2).trans rfl, hx585_0, hx585_1, hx585_2⟩ (fun hHeld => ?_)
                          generalize w125.drew = w126 at HO_4 HO_5 HO_6 HO_7 HO_562004 BK561 BK584 HB hx585_0 hx585_1 hx585_2 hHeld ⊢
                          refine sv 1 100 (lbn 6 2) ?_
                          refine sv 2 101 (lbn 6 6) ?_
                          refine sv 3 102 (lbn 6 14) ?_
                          refine st 0 99 (lbn 6 15) hHeld ?_
                          refine st 4 103 (lbn 6 31) hHeld ?_
                          refine sv 5 104 (lbn 6 63) ?_
                          refine done_ (by kernel_rfl) ?_
                          obtain ⟨hcz127_0, hcz127_1, hcz127_2, hcz127_3, hcz127_4, hfz127_0, hfz127_1, hfz127_2, hfz127_3, hfz127_4⟩ := bf5 BK561.out
                          obtain ⟨hcz128_0, hcz128_1, hcz128_2, hfz128_0, hfz128_1, hfz128_2⟩ := bf3 BK584.out
                          try go_wp2_with (first | ((with_reducible refine gate_callee (f := 20) rfl ?_); refine goesL_ (some 109) rfl rfl Try.func20 (by kernel_rfl) rfl #[.agg #[.int .i64 t551, .int .i64 t552, .int .i64 t553, .int .i64 t554, .slice Ao11 t555.length co11], .int .i64 ((rd_T60 t562 x13_3).f0)] rfl zM ?_; (with_reducible refine (spec_BlocksOf.calls k3 t551 t552 t553 t554 _ _ t555 ((rd_T60 t562 x13_3).f0) t586 t587 _ ?side1 ?side2 A69.out).mono ?_); (case side1 => repeat (first | exact (Kd.R_reads' HO_562004.out).2.2 | (with_reducible refine Kd.C_alloc ?_ _) | (with_reducible refine Kd.C_drewN ?_ _) | (with_reducible refine Kd.C_drew ?_))); (case side2 => exact (Kd.R_reads' HO_562004.out).2.1); rintro e w129 ⟨rfl, hb⟩; refine ⟨_, rfl, ?_⟩; have n0_ := Aside0.mk (Kd.R_below (zR HO_4.out) hb); have n1_ := Aside0.mk (Kd.R_below (zR HO_5.out) hb); have n2_ := Aside0.mk (Kd.R_below (zR HO_6.out) hb); have n3_ := Aside0.mk (Kd.S_below (zQ HO_7.out) hb); have n4_ := Aside0.mk (Kd.R_below (zR HO_562004.out) hb); have n5_ := Aside0.mk (kB BK561.out hb); have n6_ := Aside0.mk (kB BK584.out hb); have n7_ := Aside0.mk (below_step (zT HB.out GE561.out GE584.out) hb); clear HO_4; clear HO_5; clear HO_6; clear HO_7; clear HO_562004; clear BK561; clear BK584; clear HB; have HO_4 := n0_; have HO_5 := n1_; have HO_6 := n2_; have HO_7 := n3_; have HO_562004 := n4_; have BK561 := n5_; have BK584 := n6_; have HB := n7_; clear n0_ n1_ n2_ n3_ n4_ n5_ n6_ n7_; try clear hb))
                          have n0_ := Aside0.mk (Kd.R_drew HO_4.out)
                          have n1_ := Aside0.mk (Kd.R_drew HO_5.out)
                          have n2_ := Aside0.mk (Kd.R_drew HO_6.out)
                          have n3_ := Aside0.mk (Kd.S_drew HO_7.out)
                          have n4_ := Aside0.mk (Kd.R_drew HO_562004.out)
                          have n5_ := Aside0.mk (blk_drew BK561.out)
                          have n6_ := Aside0.mk (blk_drew BK584.out)
                          have n7_ := Aside0.mk (below_drew1 HB.out)
                          clear HO_4
                          clear HO_5
                          clear HO_6
                          clear HO_7
                          clear HO_562004
                          clear BK561
                          clear BK584
                          clear HB
                          have HO_4 := n0_
                          have HO_5 := n1_
                          have HO_6 := n2_
                          have HO_7 := n3_
                          have HO_562004 := n4_
                          have BK561 := n5_
                          have BK584 := n6_
                          have HB := n7_
                          clear n0_ n1_ n2_ n3_ n4_ n5_ n6_ n7_
                          obtain ⟨Ao131, co131, eo131⟩ := Kd.S_slice HO_7.out
                          (first | subst eo131 | (injection eo131 with f1_ f2_ f3_; have f4_ := f1_.symm; have f5_ := f3_.symm; clear f1_ f2_ f3_; subst f4_; subst f5_))
                          have p588 : 0 ≤ (((rd_T60 t562 x13_3).f0) : Int) := dT
                          have q588 : ((rd_T60 t562 x13_3).f0) < (x7_3.length : Int) := dT
                          obtain ⟨ad588, A588_0, c588_0, e588, hx588_0, hl588_0, hi588_0⟩ := at_L6 (Kd.S_reads' HO_7.out).2.2 ((rd_T60 t562 x13_3).f0) p588 q588
                          cases e588
                          obtain ⟨ce588, hce588, hMe588, hcc588⟩ := Kd.S_get HO_7.out [] ((rd_T60 t562 x13_3).f0) p588 (by first | exact q588 | exact dT | (have e_ := (Kd.S_reads' HO_7.out).1; omega))
                          obtain ⟨ve588_0, rfl, ge588_0⟩ := hMe588
                          have hv588_0 := hcc588 0 _ rfl
                          rw [Nat.add_zero, show ((Kd.slice 4 Kd.bool)).sz = 1 from rfl, Nat.mul_one] at hv588_0
                          replace hv588_0 := Option.some.inj (hv588_0.symm.trans hx588_0)
                          rw [hv588_0] at ge588_0
                          have HL588_0 := Aside0.mk (show Kd.R Kd.bool 4 _ _ _ _ (rd_L6 x7_3 ((rd_T60 t562 x13_3).f0)) from ge588_0)
                          clear hv588_0 ge588_0
                          have HX588_0 := Aside0.mk hx588_0
                          clear hcc588 hce588
                          have HR588_0 := Aside0.mk hi588_0
                          have HC588_0 := Aside0.mk hl588_0
                          clear hi588_0 hl588_0
                          replace p588 := eq_true p588
                          replace q588 := eq_true q588
                          have p589 : 0 ≤ ((ji116) : Int) := dT
                          have q589 : (ji116) < ((rd_L6 x7_3 ((rd_T60 t562 x13_3).f0)).length : Int) := dT
                          obtain ⟨ad589, e589, hx589_0⟩ := Kd.at_bool (by repeat (first | (with_reducible exact HR588_0.out) | (with_reducible refine Kd.C_alloc ?_ _) | (with_reducible refine Kd.C_drewN ?_ _) | (with_reducible refine Kd.C_drew ?_) | exact HR588_0.out)) (ji116) p589 q589
                          (try rw [← Nbq119.out] at hx589_0)
                          cases e589
                          replace p589 := eq_true p589
                          replace q589 := eq_true q589
                          refine start_ (n := 36) (S := fun w' => w'.cell? ⟨gb584, 0, none⟩ = some (.int .i64 ((rd_T60 t562 x13_3).f0)) ∧ w'.cell? ⟨gb584, 1, none⟩ = some (.int .i64 ((rd_T60 t562 x13_3).f1)) ∧ w'.cell? ⟨gb584, 2, none⟩ = some (.int .i64 ((rd_T60 t562 x13_3).f2)) ∧ w'.cell? (ad588.add (((rd_T60 t562 x13_3).f0)).toNat) = some (.slice (some ad589) (rd_L6 x7_3 ((rd_T60 t562 x13_3).f0)).length c588_0) ∧ w'.cell? (ad589.add ((ji116)).toNat) = some (.bool true)) (ds := []) (Array.replicate 36 false) (by kernel_rfl) rfl rfl ⟨(blk_cell BK584.out 0).trans rfl, (blk_cell BK584.out 1).trans rfl, (blk_cell BK584.out 2).trans rfl, hx588_0, hx589_0⟩ (fun hHeld => ?_); refine with_tabW laws_FnPlaces.tab26 laws_FnPlaces.bits26 (fun HT_ HW_ => ?_)
                          generalize w129.drew = w130 at HO_4 HO_5 HO_6 HO_7 HO_562004 BK561 BK584 HB HL588_0 HR588_0 HX588_0 hx588_0 hx589_0 hHeld ⊢
                          refine sV 0 112 (lbn 36 1) HT_.out ?_
                          refine sT 1 113 (lbn 36 3) HT_.out HW_.out hHeld ?_
                          refine sV 2 114 (lbn 36 7) HT_.out ?_
                          refine sV 3 115 (lbn 36 15) HT_.out ?_
                          refine sV 4 116 (lbn 36 31) HT_.out ?_
                          refine sV 6 118 (lbn 36 95) HT_.out ?_
                          refine sT 5 117 (lbn 36 127) HT_.out HW_.out hHeld ?_
                          refine sV 7 119 (lbn 36 255) HT_.out ?_
                          refine sV 8 120 (lbn 36 511) HT_.out ?_
                          refine sV 9 121 (lbn 36 1023) HT_.out ?_
                          refine sV 10 122 (lbn 36 2047) HT_.out ?_
                          refine sT 11 123 (lbn 36 4095) HT_.out HW_.out hHeld ?_
                          refine sV 12 124 (lbn 36 8191) HT_.out ?_
                          refine sV 13 125 (lbn 36 16383) HT_.out ?_
                          refine sV 14 126 (lbn 36 32767) HT_.out ?_
                          refine sV 15 127 (lbn 36 65535) HT_.out ?_
                          refine sV 17 129 (lbn 36 196607) HT_.out ?_
                          refine sT 16 128 (lbn 36 262143) HT_.out HW_.out hHeld ?_
                          refine sV 18 130 (lbn 36 524287) HT_.out ?_
                          refine sV 19 131 (lbn 36 1048575) HT_.out ?_
                          refine sV 20 132 (lbn 36 2097151) HT_.out ?_
                          refine sV 21 133 (lbn 36 4194303) HT_.out ?_
                          refine sV 22 134 (lbn 36 8388607) HT_.out ?_
                          refine sV 26 138 (lbn 36 75497471) HT_.out ?_
                          refine sV 28 140 (lbn 36 343932927) HT_.out ?_
                          refine sV 30 142 (lbn 36 1417674751) HT_.out ?_
                          refine sT 23 135 (lbn 36 1426063359) HT_.out HW_.out hHeld ?_
                          refine sV 24 136 (lbn 36 1442840575) HT_.out ?_
                          refine sT 25 137 (lbn 36 1476395007) HT_.out HW_.out hHeld ?_
                          refine sT 27 139 (lbn 36 1610612735) HT_.out HW_.out hHeld ?_
                          refine sV 29 141 (lbn 36 2147483647) HT_.out ?_
                          refine sT 31 143 (lbn 36 4294967295) HT_.out HW_.out hHeld ?_
                          refine sV 32 144 (lbn 36 8589934591) HT_.out ?_
                          refine sV 33 145 (lbn 36 17179869183) HT_.out ?_
                          refine sT 34 146 (lbn 36 34359738367) HT_.out HW_.out hHeld ?_
                          refine sV 35 147 (lbn 36 68719476735) HT_.out ?_
                          refine done_ (done_of HT_.out (by kernel_rfl)) ?_
                          try go_wp2
                          go_ret
                          exact ⟨by first | rfl | (simp [errW_none, errW_some] <;> rfl) | (simp only [← hji116]; first | rfl | (simp [errW_none, errW_some] <;> rfl)) | (simp [*, errW_none, errW_some] <;> rfl), zT HB.out GE561.out GE584.out⟩
                         ·replace c120 := Bool.eq_false_iff.mpr c120
                          subst c120
                          have H1 : (laws_FnPlaces.l1 k3 t558 t562 t565 (x7_3.set (((rd_T60 t562 x13_3).f0) : Int).toNat ((rd_L6 x7_3 ((rd_T60 t562 x13_3).f0)).set ((ji116) : Int).toNat true)) (wrap64 (x13_3 + 1)) t551 t552 t553 t554 t555) = some r := by rw [if_neg (show ¬ (false = true) by decide)] at H; exact H
                          clear H
                          have H := H1
                          clear H1
                          obtain ⟨y591, hy591⟩ : ∃ y_ : List Bool, y_ = ((rd_L6 x7_3 ((rd_T60 t562 x13_3).f0)).set ((ji116) : Int).toNat true) := ⟨_, rfl⟩
                          replace H : (laws_FnPlaces.l1 k3 t558 t562 t565 (x7_3.set (((rd_T60 t562 x13_3).f0) : Int).toNat y591) (wrap64 (x13_3 + 1)) t551 t552 t553 t554 t555) = some r := by first | (rw [hy591]; with_reducible exact H) | (have H2_ := (Option.bind_some _ _).symm.trans H; rw [hy591]; with_reducible exact H2_) | (have H2_ := (Option.bind_some _ _).symm.trans H; with_reducible exact H2_) | with_reducible exact H | (rw [hy591]; exact H) | exact H
                          have Ny591 := Aside0.mk hy591
                          clear hy591
                          obtain ⟨y593, hy593⟩ : ∃ y_ : List (List Bool), y_ = (x7_3.set (((rd_T60 t562 x13_3).f0) : Int).toNat y591) := ⟨_, rfl⟩
                          replace H : (laws_FnPlaces.l1 k3 t558 t562 t565 y593 (wrap64 (x13_3 + 1)) t551 t552 t553 t554 t555) = some r := by first | (rw [hy593]; with_reducible exact H) | (have H2_ := (Option.bind_some _ _).symm.trans H; rw [hy593]; with_reducible exact H2_) | (have H2_ := (Option.bind_some _ _).symm.trans H; with_reducible exact H2_) | with_reducible exact H | (rw [hy593]; exact H) | exact H
                          have Ny593 := Aside0.mk hy593
                          clear hy593
                          have H' := Aside0.mk H
                          clear H
                          obtain ⟨Ao133, co133, eo133⟩ := Kd.R_slice HO_5.out
                          subst eo133
                          have p583 : 0 ≤ (x13_3 : Int) := dT
                          have q583 : x13_3 < (t562.length : Int) := dT
                          obtain ⟨ad583, e583, hx583_0, hx583_1, hx583_2⟩ := at_T60 (Kd.R_reads' HO_5.out).2.2 x13_3 p583 q583
                          cases e583
                          replace p583 := eq_true p583
                          replace q583 := eq_true q583
                          try go_wp2_with (first | ((with_reducible refine gate_dst (N := 14) rfl ?_); refine box_event ?hg (N := 14) ?hd (cs := #[.int .i64 0, .int .i64 0, .int .i64 0]) (t := 60) ?hr ?_; (case hd => rfl); (case hg => rfl); (case hr => first | (go_simp; done) | (go_simp; rfl)); intro gb584 hg w134 hbox hb; have n0_ := Aside0.mk (Kd.R_below (zR HO_4.out) hb); have n1_ := Aside0.mk (Kd.R_below (Kd.R_elderB (zR HO_5.out) gb584 (Nat.le_of_eq hg.symm)) hb); have n2_ := Aside0.mk (Kd.R_below (Kd.R_elderB (zR HO_6.out) gb584 (Nat.le_of_eq hg.symm)) hb); have n3_ := Aside0.mk (Kd.S_below (zQ HO_7.out) hb); have n4_ := Aside0.mk (Kd.R_below (zR HO_562004.out) hb); have n5_ := Aside0.mk (kB BK561.out hb); have n6_ := Aside0.mk (below_step (zS HB.out GE561.out) hb); have n7_ := Aside0.mk (hbox); have n8_ := Aside0.mk (gS hg HB.out GE561.out); have n9_ := Aside0.mk (gS hg HB.out GE561.out); have n10_ := Aside0.mk (nL hg BK561.out); have n11_ := Aside0.mk (nG hg BK561.out); clear HO_4; clear HO_5; clear HO_6; clear HO_7; clear HO_562004; clear BK561; clear HB; have HO_4 := n0_; have HO_5 := n1_; have HO_6 := n2_; have HO_7 := n3_; have HO_562004 := n4_; have BK561 := n5_; have HB := n6_; have BK584 := n7_; have GW584 := n8_; have GE584 := n9_; have NB561_584 := n10_; have NB584_561 := n11_; clear n0_ n1_ n2_ n3_ n4_ n5_ n6_ n7_ n8_ n9_ n10_ n11_; clear hb hbox hg; have hnb135 := NB584_561.out; have hnc135 := NB561_584.out; obtain ⟨hcz136_0, hcz136_1, hcz136_2, hfz136_0, hfz136_1, hfz136_2⟩ := bf3 BK584.out))
                          have n0_ : Aside0 (Kd.R (Kd.int .i64) 3 (((w134.setCell ⟨gb584, 0, none⟩ (.int .i64 ((rd_T60 t562 x13_3).f0))).setCell ⟨gb584, 1, none⟩ (.int .i64 ((rd_T60 t562 x13_3).f1))).setCell ⟨gb584, 2, none⟩ (.int .i64 ((rd_T60 t562 x13_3).f2))) w.heap.size (fun _ => True) (.slice Ao12 t558.length co12) t558) := ⟨by (with_reducible repeat (first | apply Kd.R_alloc | apply Kd.R_drewN | apply Kd.R_drew)); exact Kd.R_mono (Kd.R_far (p := ⟨gb584, 2, none⟩) (Kd.R_far (p := ⟨gb584, 1, none⟩) (Kd.R_far (p := ⟨gb584, 0, none⟩) (Kd.R_types HO_4.out BK584.out (by decide)) (fun _ hk => hk.2) (.int .i64 ((rd_T60 t562 x13_3).f0))) (fun _ hk => hk.2) (.int .i64 ((rd_T60 t562 x13_3).f1))) (fun _ hk => hk.2) (.int .i64 ((rd_T60 t562 x13_3).f2))) (fun _ hk => trivial)⟩
                          have n1_ : Aside0 (Kd.R k60 60 (((w134.setCell ⟨gb584, 0, none⟩ (.int .i64 ((rd_T60 t562 x13_3).f0))).setCell ⟨gb584, 1, none⟩ (.int .i64 ((rd_T60 t562 x13_3).f1))).setCell ⟨gb584, 2, none⟩ (.int .i64 ((rd_T60 t562 x13_3).f2))) w.heap.size (fun k_ => some k_ ≠ (.slice Ao30 t565.length co30 : Value).ownBlock ∧ k_ ≠ gb584) (.slice (some ad583) t562.length co133) t562) := ⟨by (with_reducible repeat (first | apply Kd.R_alloc | apply Kd.R_drewN | apply Kd.R_drew)); exact Kd.R_mono (Kd.R_far (p := ⟨gb584, 2, none⟩) (Kd.R_far (p := ⟨gb584, 1, none⟩) (Kd.R_far (p := ⟨gb584, 0, none⟩) (Kd.R_mono HO_5.out (fun k_ hk => (⟨hk, hk.2⟩ : _ ∧ k_ ≠ gb584))) (fun _ hk => hk.2) (.int .i64 ((rd_T60 t562 x13_3).f0))) (fun _ hk => hk.2) (.int .i64 ((rd_T60 t562 x13_3).f1))) (fun _ hk => hk.2) (.int .i64 ((rd_T60 t562 x13_3).f2))) (fun _ hk => ⟨hk.1.1, hk.1.2⟩)⟩
                          have n2_ : Aside0 (Kd.R k60 60 (((w134.setCell ⟨gb584, 0, none⟩ (.int .i64 ((rd_T60 t562 x13_3).f0))).setCell ⟨gb584, 1, none⟩ (.int .i64 ((rd_T60 t562 x13_3).f1))).setCell ⟨gb584, 2, none⟩ (.int .i64 ((rd_T60 t562 x13_3).f2))) w.heap.size (fun k_ => some k_ ≠ (.slice (some ad583) t562.length co133 : Value).ownBlock ∧ k_ ≠ gb584) (.slice Ao30 t565.length co30) t565) := ⟨by (with_reducible repeat (first | apply Kd.R_alloc | apply Kd.R_drewN | apply Kd.R_drew)); exact Kd.R_mono (Kd.R_far (p := ⟨gb584, 2, none⟩) (Kd.R_far (p := ⟨gb584, 1, none⟩) (Kd.R_far (p := ⟨gb584, 0, none⟩) (Kd.R_mono HO_6.out (fun k_ hk => (⟨hk, hk.2⟩ : _ ∧ k_ ≠ gb584))) (fun _ hk => hk.2) (.int .i64 ((rd_T60 t562 x13_3).f0))) (fun _ hk => hk.2) (.int .i64 ((rd_T60 t562 x13_3).f1))) (fun _ hk => hk.2) (.int .i64 ((rd_T60 t562 x13_3).f2))) (fun _ hk => ⟨hk.1.1, hk.1.2⟩)⟩
                          have n3_ : Aside0 (Kd.S (Kd.slice 4 Kd.bool) 58 (((w134.setCell ⟨gb584, 0, none⟩ (.int .i64 ((rd_T60 t562 x13_3).f0))).setCell ⟨gb584, 1, none⟩ (.int .i64 ((rd_T60 t562 x13_3).f1))).setCell ⟨gb584, 2, none⟩ (.int .i64 ((rd_T60 t562 x13_3).f2))) w.heap.size (fun _ => True) u7 x7_3) := ⟨by (with_reducible repeat (first | apply Kd.S_alloc | apply Kd.S_drewN | apply Kd.S_drew)); exact Kd.S_mono (Kd.S_far (p := ⟨gb584, 2, none⟩) (Kd.S_far (p := ⟨gb584, 1, none⟩) (Kd.S_far (p := ⟨gb584, 0, none⟩) (Kd.S_types HO_7.out BK584.out (by decide)) (fun _ hk => hk.2) (.int .i64 ((rd_T60 t562 x13_3).f0))) (fun _ hk => hk.2) (.int .i64 ((rd_T60 t562 x13_3).f1))) (fun _ hk => hk.2) (.int .i64 ((rd_T60 t562 x13_3).f2))) (fun _ hk => trivial)⟩
                          have n4_ : Aside0 (Kd.R k66 66 (((w134.setCell ⟨gb584, 0, none⟩ (.int .i64 ((rd_T60 t562 x13_3).f0))).setCell ⟨gb584, 1, none⟩ (.int .i64 ((rd_T60 t562 x13_3).f1))).setCell ⟨gb584, 2, none⟩ (.int .i64 ((rd_T60 t562 x13_3).f2))) w.heap.size (fun _ => True) (.slice Ao11 t555.length co11) t555) := ⟨by (with_reducible repeat (first | apply Kd.R_alloc | apply Kd.R_drewN | apply Kd.R_drew)); exact Kd.R_mono (Kd.R_far (p := ⟨gb584, 2, none⟩) (Kd.R_far (p := ⟨gb584, 1, none⟩) (Kd.R_far (p := ⟨gb584, 0, none⟩) (Kd.R_types HO_562004.out BK584.out (by decide)) (fun _ hk => hk.2) (.int .i64 ((rd_T60 t562 x13_3).f0))) (fun _ hk => hk.2) (.int .i64 ((rd_T60 t562 x13_3).f1))) (fun _ hk => hk.2) (.int .i64 ((rd_T60 t562 x13_3).f2))) (fun _ hk => trivial)⟩
                          have n5_ : Aside0 ((((w134.setCell ⟨gb584, 0, none⟩ (.int .i64 ((rd_T60 t562 x13_3).f0))).setCell ⟨gb584, 1, none⟩ (.int .i64 ((rd_T60 t562 x13_3).f1))).setCell ⟨gb584, 2, none⟩ (.int .i64 ((rd_T60 t562 x13_3).f2))).heap[gb561]? = some (.cells #[.int .i64 t551, .int .i64 t552, .int .i64 t553, .int .i64 t554, .slice Ao11 t555.length co11] 29 (0, 0))) := ⟨zF BK561.out NB561_584.out⟩
                          have n6_ : Aside0 ((((w134.setCell ⟨gb584, 0, none⟩ (.int .i64 ((rd_T60 t562 x13_3).f0))).setCell ⟨gb584, 1, none⟩ (.int .i64 ((rd_T60 t562 x13_3).f1))).setCell ⟨gb584, 2, none⟩ (.int .i64 ((rd_T60 t562 x13_3).f2))).heap[gb584]? = some (.cells #[.int .i64 ((rd_T60 t562 x13_3).f0), .int .i64 ((rd_T60 t562 x13_3).f1), .int .i64 ((rd_T60 t562 x13_3).f2)] 60 (0, 0))) := ⟨zP BK584.out⟩
                          have n7_ : Aside0 (Below w.heap.size w (((w134.setCell ⟨gb584, 0, none⟩ (.int .i64 ((rd_T60 t562 x13_3).f0))).setCell ⟨gb584, 1, none⟩ (.int .i64 ((rd_T60 t562 x13_3).f1))).setCell ⟨gb584, 2, none⟩ (.int .i64 ((rd_T60 t562 x13_3).f2)))) := ⟨zT HB.out GE561.out GE584.out⟩
                          generalize (((w134.setCell ⟨gb584, 0, none⟩ (.int .i64 ((rd_T60 t562 x13_3).f0))).setCell ⟨gb584, 1, none⟩ (.int .i64 ((rd_T60 t562 x13_3).f1))).setCell ⟨gb584, 2, none⟩ (.int .i64 ((rd_T60 t562 x13_3).f2))) = w137 at n0_ n1_ n2_ n3_ n4_ n5_ n6_ n7_ ⊢
                          have HO_4 := n0_
                          have HO_5 := n1_
                          have HO_6 := n2_
                          have HO_7 := n3_
                          have HO_562004 := n4_
                          have BK561 := n5_
                          have BK584 := n6_
                          have HB := n7_
                          clear n0_ n1_ n2_ n3_ n4_ n5_ n6_ n7_
                          have n0_ := Aside0.mk (Kd.R_drew HO_4.out)
                          have n1_ := Aside0.mk (Kd.R_drew HO_5.out)
                          have n2_ := Aside0.mk (Kd.R_drew HO_6.out)
                          have n3_ := Aside0.mk (Kd.S_drew HO_7.out)
                          have n4_ := Aside0.mk (Kd.R_drew HO_562004.out)
                          have n5_ := Aside0.mk (blk_drew BK561.out)
                          have n6_ := Aside0.mk (blk_drew BK584.out)
                          have n7_ := Aside0.mk (below_drew1 HB.out)
                          clear HO_4
                          clear HO_5
                          clear HO_6
                          clear HO_7
                          clear HO_562004
                          clear BK561
                          clear BK584
                          clear HB
                          have HO_4 := n0_
                          have HO_5 := n1_
                          have HO_6 := n2_
                          have HO_7 := n3_
                          have HO_562004 := n4_
                          have BK561 := n5_
                          have BK584 := n6_
                          have HB := n7_
                          clear n0_ n1_ n2_ n3_ n4_ n5_ n6_ n7_
                          have p585 : 0 ≤ (x13_3 : Int) := dT
                          have q585 : x13_3 < (t565.length : Int) := dT
                          obtain ⟨ad585, e585, hx585_0, hx585_1, hx585_2⟩ := at_T60 (Kd.R_reads' HO_6.out).2.2 x13_3 p585 q585
                          cases e585
                          replace p585 := eq_true p585
                          replace q585 := eq_true q585
                          refine start_ (n := 6) (S := fun w' => w'.cell? ⟨gb584, 0, none⟩ = some (.int .i64 ((rd_T60 t562 x13_3).f0)) ∧ w'.cell? ⟨gb584, 1, none⟩ = some (.int .i64 ((rd_T60 t562 x13_3).f1)) ∧ w'.cell? ⟨gb584, 2, none⟩ = some (.int .i64 ((rd_T60 t562 x13_3).f2)) ∧ w'.cell? (ad585.add ((x13_3).toNat * 3)) = some (.int .i64 ((rd_T60 t565 x13_3).f0)) ∧ w'.cell? ⟨(ad585.add ((x13_3).toNat * 3)).block, (ad585.add ((x13_3).toNat * 3)).off + 1, none⟩ = some (.int .i64 ((rd_T60 t565 x13_3).f1)) ∧ w'.cell? ⟨(ad585.add ((x13_3).toNat * 3)).block, (ad585.add ((x13_3).toNat * 3)).off + 2, none⟩ = some (.int .i64 ((rd_T60 t565 x13_3).f2))) (ds := []) (Array.replicate 6 false) (by kernel_rfl) rfl rfl ⟨(blk_cell BK584.out 0).trans rfl, (blk_cell BK584.out 1).trans rfl, (blk_cell BK584.out 2).trans rfl, hx585_0, hx585_1, hx585_2⟩ (fun hHeld => ?_)
                          generalize w137.drew = w138 at HO_4 HO_5 HO_6 HO_7 HO_562004 BK561 BK584 HB hx585_0 hx585_1 hx585_2 hHeld ⊢
                          refine sv 1 100 (lbn 6 2) ?_
                          refine sv 2 101 (lbn 6 6) ?_
                          refine sv 3 102 (lbn 6 14) ?_
                          refine st 0 99 (lbn 6 15) hHeld ?_
                          refine st 4 103 (lbn 6 31) hHeld ?_
                          refine sv 5 104 (lbn 6 63) ?_
                          refine done_ (by kernel_rfl) ?_
                          obtain ⟨hcz139_0, hcz139_1, hcz139_2, hcz139_3, hcz139_4, hfz139_0, hfz139_1, hfz139_2, hfz139_3, hfz139_4⟩ := bf5 BK561.out
                          obtain ⟨hcz140_0, hcz140_1, hcz140_2, hfz140_0, hfz140_1, hfz140_2⟩ := bf3 BK584.out
                          try go_wp2_with (first | ((with_reducible refine gate_callee (f := 20) rfl ?_); refine goesL_ (some 109) rfl rfl Try.func20 (by kernel_rfl) rfl #[.agg #[.int .i64 t551, .int .i64 t552, .int .i64 t553, .int .i64 t554, .slice Ao11 t555.length co11], .int .i64 ((rd_T60 t562 x13_3).f0)] rfl zM ?_; (with_reducible refine (spec_BlocksOf.calls k3 t551 t552 t553 t554 _ _ t555 ((rd_T60 t562 x13_3).f0) t586 t587 _ ?side1 ?side2 A69.out).mono ?_); (case side1 => repeat (first | exact (Kd.R_reads' HO_562004.out).2.2 | (with_reducible refine Kd.C_alloc ?_ _) | (with_reducible refine Kd.C_drewN ?_ _) | (with_reducible refine Kd.C_drew ?_))); (case side2 => exact (Kd.R_reads' HO_562004.out).2.1); rintro e w141 ⟨rfl, hb⟩; refine ⟨_, rfl, ?_⟩; have n0_ := Aside0.mk (Kd.R_below (zR HO_4.out) hb); have n1_ := Aside0.mk (Kd.R_below (zR HO_5.out) hb); have n2_ := Aside0.mk (Kd.R_below (zR HO_6.out) hb); have n3_ := Aside0.mk (Kd.S_below (zQ HO_7.out) hb); have n4_ := Aside0.mk (Kd.R_below (zR HO_562004.out) hb); have n5_ := Aside0.mk (kB BK561.out hb); have n6_ := Aside0.mk (kB BK584.out hb); have n7_ := Aside0.mk (below_step (zT HB.out GE561.out GE584.out) hb); clear HO_4; clear HO_5; clear HO_6; clear HO_7; clear HO_562004; clear BK561; clear BK584; clear HB; have HO_4 := n0_; have HO_5 := n1_; have HO_6 := n2_; have HO_7 := n3_; have HO_562004 := n4_; have BK561 := n5_; have BK584 := n6_; have HB := n7_; clear n0_ n1_ n2_ n3_ n4_ n5_ n6_ n7_; try clear hb))
                          have n0_ := Aside0.mk (Kd.R_drew HO_4.out)
                          have n1_ := Aside0.mk (Kd.R_drew HO_5.out)
                          have n2_ := Aside0.mk (Kd.R_drew HO_6.out)
                          have n3_ := Aside0.mk (Kd.S_drew HO_7.out)
                          have n4_ := Aside0.mk (Kd.R_drew HO_562004.out)
                          have n5_ := Aside0.mk (blk_drew BK561.out)
                          have n6_ := Aside0.mk (blk_drew BK584.out)
                          have n7_ := Aside0.mk (below_drew1 HB.out)
                          clear HO_4
                          clear HO_5
                          clear HO_6
                          clear HO_7
                          clear HO_562004
                          clear BK561
                          clear BK584
                          clear HB
                          have HO_4 := n0_
                          have HO_5 := n1_
                          have HO_6 := n2_
                          have HO_7 := n3_
                          have HO_562004 := n4_
                          have BK561 := n5_
                          have BK584 := n6_
                          have HB := n7_
                          clear n0_ n1_ n2_ n3_ n4_ n5_ n6_ n7_
                          obtain ⟨Ao143, co143, eo143⟩ := Kd.S_slice HO_7.out
                          (first | subst eo143 | (injection eo143 with f1_ f2_ f3_; have f4_ := f1_.symm; have f5_ := f3_.symm; clear f1_ f2_ f3_; subst f4_; subst f5_))
                          have p588 : 0 ≤ (((rd_T60 t562 x13_3).f0) : Int) := dT
                          have q588 : ((rd_T60 t562 x13_3).f0) < (x7_3.length : Int) := dT
                          obtain ⟨ad588, A588_0, c588_0, e588, hx588_0, hl588_0, hi588_0⟩ := at_L6 (Kd.S_reads' HO_7.out).2.2 ((rd_T60 t562 x13_3).f0) p588 q588
                          cases e588
                          obtain ⟨ce588, hce588, hMe588, hcc588⟩ := Kd.S_get HO_7.out [] ((rd_T60 t562 x13_3).f0) p588 (by first | exact q588 | exact dT | (have e_ := (Kd.S_reads' HO_7.out).1; omega))
                          obtain ⟨ve588_0, rfl, ge588_0⟩ := hMe588
                          have hv588_0 := hcc588 0 _ rfl
                          rw [Nat.add_zero, show ((Kd.slice 4 Kd.bool)).sz = 1 from rfl, Nat.mul_one] at hv588_0
                          replace hv588_0 := Option.some.inj (hv588_0.symm.trans hx588_0)
                          rw [hv588_0] at ge588_0
                          have HL588_0 := Aside0.mk (show Kd.R Kd.bool 4 _ _ _ _ (rd_L6 x7_3 ((rd_T60 t562 x13_3).f0)) from ge588_0)
                          clear hv588_0 ge588_0
                          have HX588_0 := Aside0.mk hx588_0
                          clear hcc588 hce588
                          have HR588_0 := Aside0.mk hi588_0
                          have HC588_0 := Aside0.mk hl588_0
                          clear hi588_0 hl588_0
                          replace p588 := eq_true p588
                          replace q588 := eq_true q588
                          have p589 : 0 ≤ ((ji116) : Int) := dT
                          have q589 : (ji116) < ((rd_L6 x7_3 ((rd_T60 t562 x13_3).f0)).length : Int) := dT
                          obtain ⟨ad589, e589, hx589_0⟩ := Kd.at_bool (by repeat (first | (with_reducible exact HR588_0.out) | (with_reducible refine Kd.C_alloc ?_ _) | (with_reducible refine Kd.C_drewN ?_ _) | (with_reducible refine Kd.C_drew ?_) | exact HR588_0.out)) (ji116) p589 q589
                          (try rw [← Nbq119.out] at hx589_0)
                          cases e589
                          replace p589 := eq_true p589
                          replace q589 := eq_true q589
                          refine start_ (n := 36) (S := fun w' => w'.cell? ⟨gb584, 0, none⟩ = some (.int .i64 ((rd_T60 t562 x13_3).f0)) ∧ w'.cell? ⟨gb584, 1, none⟩ = some (.int .i64 ((rd_T60 t562 x13_3).f1)) ∧ w'.cell? ⟨gb584, 2, none⟩ = some (.int .i64 ((rd_T60 t562 x13_3).f2)) ∧ w'.cell? (ad588.add (((rd_T60 t562 x13_3).f0)).toNat) = some (.slice (some ad589) (rd_L6 x7_3 ((rd_T60 t562 x13_3).f0)).length c588_0) ∧ w'.cell? (ad589.add ((ji116)).toNat) = some (.bool false)) (ds := []) (Array.replicate 36 false) (by kernel_rfl) rfl rfl ⟨(blk_cell BK584.out 0).trans rfl, (blk_cell BK584.out 1).trans rfl, (blk_cell BK584.out 2).trans rfl, hx588_0, hx589_0⟩ (fun hHeld => ?_); refine with_tabW laws_FnPlaces.tab26 laws_FnPlaces.bits26 (fun HT_ HW_ => ?_)
                          generalize w141.drew = w142 at HO_4 HO_5 HO_6 HO_7 HO_562004 BK561 BK584 HB HL588_0 HR588_0 HX588_0 hx588_0 hx589_0 hHeld ⊢
                          refine sV 0 112 (lbn 36 1) HT_.out ?_
                          refine sT 1 113 (lbn 36 3) HT_.out HW_.out hHeld ?_
                          refine sV 2 114 (lbn 36 7) HT_.out ?_
                          refine sV 3 115 (lbn 36 15) HT_.out ?_
                          refine sV 4 116 (lbn 36 31) HT_.out ?_
                          refine sV 6 118 (lbn 36 95) HT_.out ?_
                          refine sT 5 117 (lbn 36 127) HT_.out HW_.out hHeld ?_
                          refine sV 7 119 (lbn 36 255) HT_.out ?_
                          refine sV 8 120 (lbn 36 511) HT_.out ?_
                          refine sV 9 121 (lbn 36 1023) HT_.out ?_
                          refine sV 10 122 (lbn 36 2047) HT_.out ?_
                          refine sT 11 123 (lbn 36 4095) HT_.out HW_.out hHeld ?_
                          refine sV 12 124 (lbn 36 8191) HT_.out ?_
                          refine sV 13 125 (lbn 36 16383) HT_.out ?_
                          refine sV 14 126 (lbn 36 32767) HT_.out ?_
                          refine sV 15 127 (lbn 36 65535) HT_.out ?_
                          refine sV 17 129 (lbn 36 196607) HT_.out ?_
                          refine sT 16 128 (lbn 36 262143) HT_.out HW_.out hHeld ?_
                          refine sV 18 130 (lbn 36 524287) HT_.out ?_
                          refine sV 19 131 (lbn 36 1048575) HT_.out ?_
                          refine sV 20 132 (lbn 36 2097151) HT_.out ?_
                          refine sV 21 133 (lbn 36 4194303) HT_.out ?_
                          refine sV 22 134 (lbn 36 8388607) HT_.out ?_
                          refine sV 26 138 (lbn 36 75497471) HT_.out ?_
                          refine sV 28 140 (lbn 36 343932927) HT_.out ?_
                          refine sV 30 142 (lbn 36 1417674751) HT_.out ?_
                          refine sT 23 135 (lbn 36 1426063359) HT_.out HW_.out hHeld ?_
                          refine sV 24 136 (lbn 36 1442840575) HT_.out ?_
                          refine sT 25 137 (lbn 36 1476395007) HT_.out HW_.out hHeld ?_
                          refine sT 27 139 (lbn 36 1610612735) HT_.out HW_.out hHeld ?_
                          refine sV 29 141 (lbn 36 2147483647) HT_.out ?_
                          refine sT 31 143 (lbn 36 4294967295) HT_.out HW_.out hHeld ?_
                          refine sV 32 144 (lbn 36 8589934591) HT_.out ?_
                          refine sV 33 145 (lbn 36 17179869183) HT_.out ?_
                          refine sT 34 146 (lbn 36 34359738367) HT_.out HW_.out hHeld ?_
                          refine sV 35 147 (lbn 36 68719476735) HT_.out ?_
                          refine done_ (done_of HT_.out (by kernel_rfl)) ?_
                          try go_wp2
                          have n0_ := Aside0.mk (Kd.R_drew HO_4.out)
                          have n1_ := Aside0.mk (Kd.R_drew HO_5.out)
                          have n2_ := Aside0.mk (Kd.R_drew HO_6.out)
                          have n3_ := Aside0.mk (Kd.S_drew HO_7.out)
                          have n4_ := Aside0.mk (Kd.R_drew HO_562004.out)
                          have n5_ := Aside0.mk (Kd.R_drew HL588_0.out)
                          have n6_ := Aside0.mk (blk_drew BK561.out)
                          have n7_ := Aside0.mk (blk_drew BK584.out)
                          have n8_ := Aside0.mk (Kd.C_drew HR588_0.out)
                          have n9_ := Aside0.mk (below_drew1 HB.out)
                          clear HO_4
                          clear HO_5
                          clear HO_6
                          clear HO_7
                          clear HO_562004
                          clear HL588_0
                          clear BK561
                          clear BK584
                          clear HR588_0
                          clear HB
                          have HO_4 := n0_
                          have HO_5 := n1_
                          have HO_6 := n2_
                          have HO_7 := n3_
                          have HO_562004 := n4_
                          have HL588_0 := n5_
                          have BK561 := n6_
                          have BK584 := n7_
                          have HR588_0 := n8_
                          have HB := n9_
                          clear n0_ n1_ n2_ n3_ n4_ n5_ n6_ n7_ n8_ n9_
                          have p590 : 0 ≤ (((rd_T60 t562 x13_3).f0) : Int) := dT
                          have q590 : ((rd_T60 t562 x13_3).f0) < (x7_3.length : Int) := dT
                          obtain ⟨ad590, A590_0, c590_0, e590, hx590_0, hl590_0, hi590_0⟩ := at_L6 (Kd.S_reads' HO_7.out).2.2 ((rd_T60 t562 x13_3).f0) p590 q590
                          obtain rfl : ad588 = ad590 := (by injection e590)
                          obtain ⟨ce590, hce590, hMe590, hcc590⟩ := Kd.S_get HO_7.out [] ((rd_T60 t562 x13_3).f0) p590 (by first | exact q590 | exact dT | (have e_ := (Kd.S_reads' HO_7.out).1; omega))
                          obtain ⟨ve590_0, rfl, ge590_0⟩ := hMe590
                          have hv590_0 := hcc590 0 _ rfl
                          rw [Nat.add_zero, show ((Kd.slice 4 Kd.bool)).sz = 1 from rfl, Nat.mul_one] at hv590_0
                          replace hv590_0 := Option.some.inj (hv590_0.symm.trans hx590_0)
                          rw [hv590_0] at ge590_0
                          have HL590_0 := Aside0.mk (show Kd.R Kd.bool 4 _ _ _ _ (rd_L6 x7_3 ((rd_T60 t562 x13_3).f0)) from ge590_0)
                          clear hv590_0 ge590_0
                          have HX590_0 := Aside0.mk hx590_0
                          clear hcc590 hce590
                          have HR590_0 := Aside0.mk hi590_0
                          have HC590_0 := Aside0.mk hl590_0
                          clear hi590_0 hl590_0
                          replace p590 := eq_true p590
                          replace q590 := eq_true q590
                          have p132 : 0 ≤ ((ji116) : Int) := dT
                          have q132 : ((ji116) : Int) < (((rd_L6 x7_3 ((rd_T60 t562 x13_3).f0)).length : Int) : Int) := dT
                          obtain ⟨go132, co132, eo132, gb132, gl132, cl132, HG132⟩ := Kd.R_form HL590_0.out (by omega)
                          (first | cases eo132 | (injection eo132 with ea_ en_ ec_; (first | subst ea_ | (injection ea_ with ea_; subst ea_)); subst ec_; clear en_))
                          have GB132 := Aside0.mk gb132
                          have GG132 := Aside0.mk HG132
                          clear gb132 gl132 HG132
                          obtain ⟨hx132_0, hf132_0⟩ := Kd.R_celln false HL590_0.out ((ji116) : Int) p132 q132
                          replace p132 := eq_true p132
                          replace q132 := eq_true q132
                          have hq145 : (((rd_T60 t562 x13_3).f0) : Int) < (x7_3.length : Int) := (by have h_ : (((rd_T60 t562 x13_3).f0) : Int) < ((x7_3.length : Int) : Int) := dT; first | exact h_ | (have e_ := (Kd.S_reads' HO_7.out).1; omega) | simpa only [List.length_set, List.length_set] using h_)
                          obtain ⟨oki145, ce145, hcl145, hM145, hcc145, hok145, hbk145⟩ := Kd.S_borrow HO_7.out [] (((rd_T60 t562 x13_3).f0) : Int) (dT) hq145
                          obtain ⟨ve145_0, rfl, ge145_0⟩ := hM145
                          have hv145 := hcc145 0 _ rfl
                          rw [Nat.add_zero, show ((Kd.slice 4 Kd.bool)).sz = 1 from rfl, Nat.mul_one] at hv145
                          replace hv145 := Option.some.inj (hv145.symm.trans HX590_0.out)
                          subst hv145
                          clear hcc145 hcl145
                          replace ge145_0 := (show Kd.R Kd.bool 4 _ _ _ _ (rd_L6 x7_3 ((rd_T60 t562 x13_3).f0)) from ge145_0)
                          have HP145 := Kd.R_putg ge145_0 ((ji116) : Int) true
                          rw [← Ny591.out] at HP145
                          have HS145 := hbk145 HP145.2 (fun k_ e_ => by injection e_ with e_; subst e_; exact ge145_0.1 _ rfl) (x' := y591) (Kd.M_row HP145.1)
                          rw [← Ny593.out] at HS145
                          have HQ145 := Aside0.mk HS145
                          clear HP145 HS145 hbk145 hok145
                          refine start_ (n := 14) (S := fun w' => w'.cell? ⟨gb584, 0, none⟩ = some (.int .i64 ((rd_T60 t562 x13_3).f0)) ∧ w'.cell? ⟨gb584, 1, none⟩ = some (.int .i64 ((rd_T60 t562 x13_3).f1)) ∧ w'.cell? ⟨gb584, 2, none⟩ = some (.int .i64 ((rd_T60 t562 x13_3).f2)) ∧ w'.cell? (ad588.add (((rd_T60 t562 x13_3).f0)).toNat) = some (.slice (some ⟨go132, 0, none⟩) (rd_L6 x7_3 ((rd_T60 t562 x13_3).f0)).length c590_0)) (ds := [13]) (Array.replicate 14 false) (by kernel_rfl) rfl rfl ⟨(blk_cell BK584.out 0).trans rfl, (blk_cell BK584.out 1).trans rfl, (blk_cell BK584.out 2).trans rfl, hx590_0⟩ (fun hHeld => ?_); refine with_tabW laws_FnPlaces.tab28 laws_FnPlaces.bits28 (fun HT_ HW_ => ?_)
                          generalize w142.drew = w144 at HO_4 HO_5 HO_6 HO_7 HO_562004 HL588_0 BK561 BK584 HR588_0 HB GG132 HL590_0 HQ145 HR590_0 HX590_0 hf132_0 hx132_0 hx590_0 hHeld ⊢
                          refine sV 0 148 (lbn 14 1) HT_.out ?_
                          refine sV 1 149 (lbn 14 3) HT_.out ?_
                          refine sV 5 153 (lbn 14 35) HT_.out ?_
                          refine sV 7 155 (lbn 14 163) HT_.out ?_
                          refine sV 9 157 (lbn 14 675) HT_.out ?_
                          refine sT 2 150 (lbn 14 679) HT_.out HW_.out hHeld ?_
                          refine sV 3 151 (lbn 14 687) HT_.out ?_
                          refine sT 4 152 (lbn 14 703) HT_.out HW_.out hHeld ?_
                          refine sT 6 154 (lbn 14 767) HT_.out HW_.out hHeld ?_
                          refine sV 8 156 (lbn 14 1023) HT_.out ?_
                          refine sT 10 158 (lbn 14 2047) HT_.out HW_.out hHeld ?_
                          refine sV 11 159 (lbn 14 4095) HT_.out ?_
                          refine sV 12 160 (lbn 14 8191) HT_.out ?_
                          refine last_ (i := 13) (N := none) #[true, true, true, true, true, true, true, true, true, true, true, true, true, true] rfl rfl (one_of HT_.out (by kernel_rfl)) (by decide) (fun K hK => ?_)
                          refine skip_ (w1 := ?_) (by rfl) rfl ?_ ?_
                          rotate_left
                          ·go_simp
                           rfl
                          refine hK.out _ _ ?_
                          clear hK K
                          refine done_ (done_of HT_.out (by kernel_rfl)) ?_
                          try go_wp2
                          go_roundg k3
                          case measure => have := HJ6.out; have := HK2.out; have := HK3.out; omega
                          case rel => exact ⟨(y593), (wrap64 (x13_3 + 1)), (by first | rfl | (simp; done) | (simp [*]; done)), H', ⟨by have := HJ6.out; have := HK2.out; have := HK3.out; omega⟩, ⟨by (with_reducible repeat (first | apply Kd.R_alloc | apply Kd.R_drewN | apply Kd.R_drew)); exact Kd.R_mono (Kd.R_far (p := ⟨go132, ((ji116) : Int).toNat, none⟩) (Kd.R_types HO_4.out GG132.out (by decide)) (fun _ hk => hk.2) (.bool true)) (fun _ hk => trivial)⟩, ⟨by (with_reducible repeat (first | apply Kd.R_alloc | apply Kd.R_drewN | apply Kd.R_drew)); exact Kd.R_mono (Kd.R_far (p := ⟨go132, ((ji116) : Int).toNat, none⟩) (Kd.R_types HO_5.out GG132.out (by decide)) (fun _ hk => hk.2) (.bool true)) (fun _ hk => hk.1.1)⟩, ⟨by (with_reducible repeat (first | apply Kd.R_alloc | apply Kd.R_drewN | apply Kd.R_drew)); exact Kd.R_mono (Kd.R_far (p := ⟨go132, ((ji116) : Int).toNat, none⟩) (Kd.R_types HO_6.out GG132.out (by decide)) (fun _ hk => hk.2) (.bool true)) (fun _ hk => hk.1.1)⟩, ⟨zQ HQ145.out⟩, ⟨by (with_reducible repeat (first | apply Kd.R_alloc | apply Kd.R_drewN | apply Kd.R_drew)); exact Kd.R_mono (Kd.R_far (p := ⟨go132, ((ji116) : Int).toNat, none⟩) (Kd.R_types HO_562004.out GG132.out (by decide)) (fun _ hk => hk.2) (.bool true)) (fun _ hk => trivial)⟩, ⟨by (with_reducible repeat (first | refine blk_drewN ?_ _ | refine blk_drew ?_ | refine blk_alloc ?_ _)); refine blk_far ?_ (by have h_ := Kd.R_ne HL590_0.out BK561.out (by decide); intro e_; exact h_ (by rw [e_]; rfl)) _; (with_reducible repeat (first | refine blk_drewN ?_ _ | refine blk_drew ?_ | refine blk_alloc ?_ _)); exact BK561.out⟩, ⟨by with_reducible repeat (first | exact HB.out | apply below_alloc | apply pw_below_drewN | apply below_drew1 | refine below_set ?_ GB132.out | refine below_set ?_ GE561.out | refine below_set ?_ GE584.out)⟩⟩
                        ·rw [if_neg c118] at H
                         exact absurd H (by simp)
                       ·rw [if_neg c117] at H
                        exact absurd H (by simp)
                      ·rw [if_neg c115] at H
                       exact absurd H (by simp)
                     ·rw [if_neg c114] at H
                      exact absurd H (by simp)
               ·rw [if_neg c61] at H
                exact absurd H (by simp)
              ·rw [if_neg c60] at H
               exact absurd H (by simp)
             ·rw [if_neg c59] at H
              have c59b0 : decide (x13_3 < (t562.length : Int)) = false := decide_eq_false c59
              clear c59
              have H' := Aside0.mk H
              clear H
              obtain ⟨Ao147, co147, eo147⟩ := Kd.R_slice HO_5.out
              subst eo147
              go_wp2
              go_loopg [17] k3 (fun kq v17 w' => ∃ (x17_4 : Int), v17 = .int .i64 x17_4 ∧ Aside0 (laws_FnPlaces.l2 kq t558 x7_3 x17_4 t551 t552 t553 t554 t555 = some r) ∧ Aside0 (kq ≤ k3) ∧ Aside0 (Kd.R (Kd.int .i64) 3 w' w.heap.size (fun _ => True) (.slice Ao12 t558.length co12) t558) ∧ Aside0 (Kd.S (Kd.slice 4 Kd.bool) 58 w' w.heap.size (fun _ => True) u7 x7_3) ∧ Aside0 (Kd.R k66 66 w' w.heap.size (fun _ => True) (.slice Ao11 t555.length co11) t555) ∧ Aside0 (w'.heap[gb561]? = some (.cells #[.int .i64 t551, .int .i64 t552, .int .i64 t553, .int .i64 t554, (.slice Ao11 t555.length co11)] 29 (0, 0))) ∧ Aside0 (Below w.heap.size w w'))
              case atStart => exact ⟨(0), (by first | rfl | (simp; done) | (simp [*]; done)), H', ⟨Nat.le_refl _⟩, ⟨zR HO_4.out⟩, ⟨zQ HO_7.out⟩, ⟨zR HO_562004.out⟩, ⟨zK BK561.out⟩, ⟨zS HB.out GE561.out⟩⟩
              case round =>
               as_aux_lemma =>
                clear H'
                obtain ⟨x17_4, rfl, HA, HK4, HO_4, HO_7, HO_562004, BK561, HB⟩ := hrel
                cases gk with
                | zero => exact absurd HA.out (by simp [laws_FnPlaces.l2])
                | succ k4 =>
                 have H := HA.out
                 clear HA
                 simp only [laws_FnPlaces.l2] at H
                 by_cases c148 : x17_4 < (t558.length : Int)
                 ·rw [if_pos c148] at H
                  have c148b0 : decide (x17_4 < (t558.length : Int)) = true := decide_eq_true c148
                  clear c148
                  by_cases c149 : 0 ≤ x17_4
                  ·rw [if_pos c149] at H
                   have c149b0 : decide (0 ≤ x17_4) = true := decide_eq_true c149
                   clear c149
                   replace H := Option.bind_eq_some_iff.mp H
                   obtain ⟨⟨t595, t596⟩, A1500, H⟩ := H
                   replace H : ((spec_BlocksOf.f k4 t551 t552 t553 t554 t555 (rd t558 x17_4)).bind fun bt598 => (laws_FnPlaces.l3 k4 t558 x7_3 x17_4 t595 t596 bt598.1 0 t551 t552 t553 t554 t555)) = some r := H
                   have A150 := Aside0.mk A1500
                   clear A1500
                   replace H := Option.bind_eq_some_iff.mp H
                   obtain ⟨⟨t598, t599⟩, A1510, H⟩ := H
                   replace H : (laws_FnPlaces.l3 k4 t558 x7_3 x17_4 t595 t596 t598 0 t551 t552 t553 t554 t555) = some r := H
                   have A151 := Aside0.mk A1510
                   clear A1510
                   have H' := Aside0.mk H
                   clear H
                   try go_wp2
                   have n0_ := Aside0.mk (Kd.R_drew HO_4.out)
                   have n1_ := Aside0.mk (Kd.S_drew HO_7.out)
                   have n2_ := Aside0.mk (Kd.R_drew HO_562004.out)
                   have n3_ := Aside0.mk (blk_drew BK561.out)
                   have n4_ := Aside0.mk (below_drew1 HB.out)
                   clear HO_4
                   clear HO_7
                   clear HO_562004
                   clear BK561
                   clear HB
                   have HO_4 := n0_
                   have HO_7 := n1_
                   have HO_562004 := n2_
                   have BK561 := n3_
                   have HB := n4_
                   clear n0_ n1_ n2_ n3_ n4_
                   have p594 : 0 ≤ (x17_4 : Int) := dT
                   have q594 : x17_4 < (t558.length : Int) := dT
                   obtain ⟨ad594, e594, hx594_0⟩ := Kd.at_int (Kd.R_reads' HO_4.out).2.2 x17_4 p594 q594
                   cases e594
                   replace p594 := eq_true p594
                   replace q594 := eq_true q594
                   refine start_ (n := 11) (S := fun w' => w'.cell? ⟨gb561, 0, none⟩ = some (.int .i64 t551) ∧ w'.cell? ⟨gb561, 1, none⟩ = some (.int .i64 t552) ∧ w'.cell? ⟨gb561, 2, none⟩ = some (.int .i64 t553) ∧ w'.cell? ⟨gb561, 3, none⟩ = some (.int .i64 t554) ∧ w'.cell? ⟨gb561, 4, none⟩ = some (.slice Ao11 t555.length co11) ∧ w'.cell? (ad594.add (x17_4).toNat) = some (.int .i64 (rd t558 x17_4))) (ds := []) (Array.replicate 11 false) (by kernel_rfl) rfl rfl ⟨(blk_cell BK561.out 0).trans rfl, (blk_cell BK561.out 1).trans rfl, (blk_cell BK561.out 2).trans rfl, (blk_cell BK561.out 3).trans rfl, (blk_cell BK561.out 4).trans rfl, hx594_0⟩ (fun hHeld => ?_); refine with_tabW laws_FnPlaces.tab32 laws_FnPlaces.bits32 (fun HT_ HW_ => ?_)
                   generalize wr.drew = w152 at HO_4 HO_7 HO_562004 BK561 HB hx594_0 hHeld ⊢
                   refine sV 1 169 (lbn 11 2) HT_.out ?_
                   refine sV 2 170 (lbn 11 6) HT_.out ?_
                   refine sV 3 171 (lbn 11 14) HT_.out ?_
                   refine sT 0 168 (lbn 11 15) HT_.out HW_.out hHeld ?_
                   refine sT 4 172 (lbn 11 31) HT_.out HW_.out hHeld ?_
                   refine one_ (i := 5) (N := some 173) #[true, true, true, true, true, true, false, false, false, false, false] rfl rfl (one_of HT_.out (by kernel_rfl)) (by decide) (fun K hK => ?_)
                   refine goes_ Try.func19 (by kernel_rfl) rfl #[.agg #[.int .i64 t551, .int .i64 t552, .int .i64 t553, .int .i64 t554, .slice Ao11 t555.length co11], .int .i64 (rd t558 x17_4)] (by rfl) rfl rfl zM ?_
                   with_reducible refine (impl_SizeOf.calls k4 t551 t552 t553 t554 _ _ t555 (rd t558 x17_4) t595 t596 _ ?side1 ?side2 A150.out).mono ?_
                   (case side1 => repeat (first | exact (Kd.R_reads' HO_562004.out).2.2 | (with_reducible refine Kd.C_alloc ?_ _) | (with_reducible refine Kd.C_drewN ?_ _) | (with_reducible refine Kd.C_drew ?_)))
                   (case side2 => exact (Kd.R_reads' HO_562004.out).2.1)
                   rintro e w153 ⟨rfl, hb⟩
                   have HS5_ := (hb.cell (World.block_lt_of_cell? _ _ (hHeld.2.2.2.2.2))).trans (hHeld.2.2.2.2.2)
                   refine ⟨_, rfl, ?_⟩
                   have n0_ := Aside0.mk (Kd.R_below (zR HO_4.out) hb)
                   have n1_ := Aside0.mk (Kd.S_below (zQ HO_7.out) hb)
                   have n2_ := Aside0.mk (Kd.R_below (zR HO_562004.out) hb)
                   have n3_ := Aside0.mk (kB BK561.out hb)
                   have n4_ := Aside0.mk (below_step (zS HB.out GE561.out) hb)
                   clear HO_4
                   clear HO_7
                   clear HO_562004
                   clear BK561
                   clear HB
                   have HO_4 := n0_
                   have HO_7 := n1_
                   have HO_562004 := n2_
                   have BK561 := n3_
                   have HB := n4_
                   clear n0_ n1_ n2_ n3_ n4_
                   refine hK.out _ _ ⟨(blk_cell BK561.out 0).trans rfl, (blk_cell BK561.out 1).trans rfl, (blk_cell BK561.out 2).trans rfl, (blk_cell BK561.out 3).trans rfl, (blk_cell BK561.out 4).trans rfl, HS5_⟩ (fun hHeld => ?_)
                   clear hK K
                   refine norm_ (a' := ?_) ?_ ?_
                   rotate_left
                   ·show Act.put _ (some 173) _ = _
                    simp only [Act.put, List.setIfInBounds_toArray, List.set_cons_zero, List.set_cons_succ, i64_w, i32_w]
                    rfl
                   refine sV 6 167 (lbn 11 127) HT_.out ?_
                   refine sV 7 174 (lbn 11 255) HT_.out ?_
                   refine sV 8 175 (lbn 11 511) HT_.out ?_
                   refine sV 9 18 (lbn 11 1023) HT_.out ?_
                   refine sV 10 19 (lbn 11 2047) HT_.out ?_
                   refine done_ (done_of HT_.out (by kernel_rfl)) ?_
                   try go_wp2
                   have n0_ := Aside0.mk (Kd.R_drew HO_4.out)
                   have n1_ := Aside0.mk (Kd.S_drew HO_7.out)
                   have n2_ := Aside0.mk (Kd.R_drew HO_562004.out)
                   have n3_ := Aside0.mk (blk_drew BK561.out)
                   have n4_ := Aside0.mk (below_drew1 HB.out)
                   clear HO_4
                   clear HO_7
                   clear HO_562004
                   clear BK561
                   clear HB
                   have HO_4 := n0_
                   have HO_7 := n1_
                   have HO_562004 := n2_
                   have BK561 := n3_
                   have HB := n4_
                   clear n0_ n1_ n2_ n3_ n4_
                   have p597 : 0 ≤ (x17_4 : Int) := dT
                   have q597 : x17_4 < (t558.length : Int) := dT
                   obtain ⟨ad597, e597, hx597_0⟩ := Kd.at_int (Kd.R_reads' HO_4.out).2.2 x17_4 p597 q597
                   obtain rfl : ad594 = ad597 := (by injection e597)
                   replace p597 := eq_true p597
                   replace q597 := eq_true q597
                   refine start_ (n := 11) (S := fun w' => w'.cell? ⟨gb561, 0, none⟩ = some (.int .i64 t551) ∧ w'.cell? ⟨gb561, 1, none⟩ = some (.int .i64 t552) ∧ w'.cell? ⟨gb561, 2, none⟩ = some (.int .i64 t553) ∧ w'.cell? ⟨gb561, 3, none⟩ = some (.int .i64 t554) ∧ w'.cell? ⟨gb561, 4, none⟩ = some (.slice Ao11 t555.length co11) ∧ w'.cell? (ad594.add (x17_4).toNat) = some (.int .i64 (rd t558 x17_4))) (ds := []) (Array.replicate 11 false) (by kernel_rfl) rfl rfl ⟨(blk_cell BK561.out 0).trans rfl, (blk_cell BK561.out 1).trans rfl, (blk_cell BK561.out 2).trans rfl, (blk_cell BK561.out 3).trans rfl, (blk_cell BK561.out 4).trans rfl, hx597_0⟩ (fun hHeld => ?_); refine with_tabW laws_FnPlaces.tab33 laws_FnPlaces.bits33 (fun HT_ HW_ => ?_)
                   generalize w153.drew = w154 at HO_4 HO_7 HO_562004 BK561 HB hx597_0 hHeld ⊢
                   refine sV 1 178 (lbn 11 2) HT_.out ?_
                   refine sV 2 179 (lbn 11 6) HT_.out ?_
                   refine sV 3 180 (lbn 11 14) HT_.out ?_
                   refine sT 0 177 (lbn 11 15) HT_.out HW_.out hHeld ?_
                   refine sT 4 181 (lbn 11 31) HT_.out HW_.out hHeld ?_
                   refine one_ (i := 5) (N := some 182) #[true, true, true, true, true, true, false, false, false, false, false] rfl rfl (one_of HT_.out (by kernel_rfl)) (by decide) (fun K hK => ?_)
                   refine goes_ Try.func20 (by kernel_rfl) rfl #[.agg #[.int .i64 t551, .int .i64 t552, .int .i64 t553, .int .i64 t554, .slice Ao11 t555.length co11], .int .i64 (rd t558 x17_4)] (by rfl) rfl rfl zM ?_
                   with_reducible refine (spec_BlocksOf.calls k4 t551 t552 t553 t554 _ _ t555 (rd t558 x17_4) t598 t599 _ ?side1 ?side2 A151.out).mono ?_
                   (case side1 => repeat (first | exact (Kd.R_reads' HO_562004.out).2.2 | (with_reducible refine Kd.C_alloc ?_ _) | (with_reducible refine Kd.C_drewN ?_ _) | (with_reducible refine Kd.C_drew ?_)))
                   (case side2 => exact (Kd.R_reads' HO_562004.out).2.1)
                   rintro e w155 ⟨rfl, hb⟩
                   have HS5_ := (hb.cell (World.block_lt_of_cell? _ _ (hHeld.2.2.2.2.2))).trans (hHeld.2.2.2.2.2)
                   refine ⟨_, rfl, ?_⟩
                   have n0_ := Aside0.mk (Kd.R_below (zR HO_4.out) hb)
                   have n1_ := Aside0.mk (Kd.S_below (zQ HO_7.out) hb)
                   have n2_ := Aside0.mk (Kd.R_below (zR HO_562004.out) hb)
                   have n3_ := Aside0.mk (kB BK561.out hb)
                   have n4_ := Aside0.mk (below_step (zS HB.out GE561.out) hb)
                   clear HO_4
                   clear HO_7
                   clear HO_562004
                   clear BK561
                   clear HB
                   have HO_4 := n0_
                   have HO_7 := n1_
                   have HO_562004 := n2_
                   have BK561 := n3_
                   have HB := n4_
                   clear n0_ n1_ n2_ n3_ n4_
                   refine hK.out _ _ ⟨(blk_cell BK561.out 0).trans rfl, (blk_cell BK561.out 1).trans rfl, (blk_cell BK561.out 2).trans rfl, (blk_cell BK561.out 3).trans rfl, (blk_cell BK561.out 4).trans rfl, HS5_⟩ (fun hHeld => ?_)
                   clear hK K
                   refine norm_ (a' := ?_) ?_ ?_
                   rotate_left
                   ·show Act.put _ (some 182) _ = _
                    simp only [Act.put, List.setIfInBounds_toArray, List.set_cons_zero, List.set_cons_succ, i64_w, i32_w]
                    rfl
                   refine sV 6 176 (lbn 11 127) HT_.out ?_
                   refine sV 7 183 (lbn 11 255) HT_.out ?_
                   refine sV 8 184 (lbn 11 511) HT_.out ?_
                   refine sV 9 20 (lbn 11 1023) HT_.out ?_
                   refine sV 10 21 (lbn 11 2047) HT_.out ?_
                   refine done_ (done_of HT_.out (by kernel_rfl)) ?_
                   try go_wp2
                   go_loopg [22] k4 (fun kq v22 w' => ∃ (x22_5 : Int), v22 = .int .i64 x22_5 ∧ Aside0 (laws_FnPlaces.l3 kq t558 x7_3 x17_4 t595 t596 t598 x22_5 t551 t552 t553 t554 t555 = some r) ∧ Aside0 (kq ≤ k4) ∧ Aside0 (Kd.R (Kd.int .i64) 3 w' w.heap.size (fun _ => True) (.slice (some ad594) t558.length co12) t558) ∧ Aside0 (Kd.S (Kd.slice 4 Kd.bool) 58 w' w.heap.size (fun _ => True) u7 x7_3) ∧ Aside0 (Kd.R k66 66 w' w.heap.size (fun _ => True) (.slice Ao11 t555.length co11) t555) ∧ Aside0 (w'.heap[gb561]? = some (.cells #[.int .i64 t551, .int .i64 t552, .int .i64 t553, .int .i64 t554, (.slice Ao11 t555.length co11)] 29 (0, 0))) ∧ Aside0 (Below w.heap.size w w'))
                   case atStart => exact ⟨(0), (by first | rfl | (simp; done) | (simp [*]; done)), H', ⟨Nat.le_refl _⟩, ⟨zR HO_4.out⟩, ⟨zQ HO_7.out⟩, ⟨zR HO_562004.out⟩, ⟨zK BK561.out⟩, ⟨zS HB.out GE561.out⟩⟩
                   case round =>
                    as_aux_lemma =>
                     clear H'
                     obtain ⟨x22_5, rfl, HA, HK5, HO_4, HO_7, HO_562004, BK561, HB⟩ := hrel
                     cases gk with
                     | zero => exact absurd HA.out (by simp [laws_FnPlaces.l3])
                     | succ k5 =>
                      have H := HA.out
                      clear HA
                      simp only [laws_FnPlaces.l3] at H
                      by_cases c156 : x22_5 < t596
                      ·rw [if_pos c156] at H
                       have c156b0 : decide (x22_5 < t596) = true := decide_eq_true c156
                       clear c156
                       have H' := Aside0.mk H
                       clear H
                       go_wp2
                       go_loopg [23] k5 (fun kq v23 w' => ∃ (x23_6 : Int), v23 = .int .i64 x23_6 ∧ Aside0 (laws_FnPlaces.l4 kq t558 x7_3 x17_4 t595 t596 t598 x22_5 x23_6 t551 t552 t553 t554 t555 = some r) ∧ Aside0 (kq ≤ k5) ∧ Aside0 (Kd.R (Kd.int .i64) 3 w' w.heap.size (fun _ => True) (.slice (some ad594) t558.length co12) t558) ∧ Aside0 (Kd.S (Kd.slice 4 Kd.bool) 58 w' w.heap.size (fun _ => True) u7 x7_3) ∧ Aside0 (Kd.R k66 66 w' w.heap.size (fun _ => True) (.slice Ao11 t555.length co11) t555) ∧ Aside0 (w'.heap[gb561]? = some (.cells #[.int .i64 t551, .int .i64 t552, .int .i64 t553, .int .i64 t554, (.slice Ao11 t555.length co11)] 29 (0, 0))) ∧ Aside0 (Below w.heap.size w w'))
                       case atStart => exact ⟨(0), (by first | rfl | (simp; done) | (simp [*]; done)), H', ⟨Nat.le_refl _⟩, ⟨zR HO_4.out⟩, ⟨zQ HO_7.out⟩, ⟨zR HO_562004.out⟩, ⟨zK BK561.out⟩, ⟨zS HB.out GE561.out⟩⟩
                       case round =>
                        as_aux_lemma =>
                         clear H'
                         obtain ⟨x23_6, rfl, HA, HK6, HO_4, HO_7, HO_562004, BK561, HB⟩ := hrel
                         cases gk with
                         | zero => exact absurd HA.out (by simp [laws_FnPlaces.l4])
                         | succ k6 =>
                          have H := HA.out
                          clear HA
                          simp only [laws_FnPlaces.l4] at H
                          by_cases c157 : x23_6 < t595
                          ·rw [if_pos c157] at H
                           have c157b0 : decide (x23_6 < t595) = true := decide_eq_true c157
                           clear c157
                           by_cases c158 : 0 ≤ x17_4
                           ·rw [if_pos c158] at H
                            have c158b0 : decide (0 ≤ x17_4) = true := decide_eq_true c158
                            clear c158
                            by_cases c159 : x17_4 < (t558.length : Int)
                            ·rw [if_pos c159] at H
                             have c159b0 : decide (x17_4 < (t558.length : Int)) = true := decide_eq_true c159
                             clear c159
                             by_cases c160 : 0 ≤ (rd t558 x17_4)
                             ·rw [if_pos c160] at H
                              have c160b0 : decide (0 ≤ (rd t558 x17_4)) = true := decide_eq_true c160
                              clear c160
                              by_cases c161 : (rd t558 x17_4) < (x7_3.length : Int)
                              ·rw [if_pos c161] at H
                               have c161b0 : decide ((rd t558 x17_4) < (x7_3.length : Int)) = true := decide_eq_true c161
                               clear c161
                               obtain ⟨ji162, hji162⟩ : ∃ j_ : Int, (wrap64 ((wrap64 ((wrap64 (Int.tdiv x22_5 8)) * t598)) + (wrap64 (Int.tdiv x23_6 8)))) = j_ := ⟨_, rfl⟩
                               replace H : (if 0 ≤ (ji162) then (if (ji162) < ((rd_L6 x7_3 (rd t558 x17_4)).length : Int) then (if (rdOf false (rd_L6 x7_3 (rd t558 x17_4)) (ji162) = true) then (laws_FnPlaces.l4 k6 t558 x7_3 x17_4 t595 t596 t598 x22_5 (wrap64 (x23_6 + 8)) t551 t552 t553 t554 t555) else (some false)) else (none)) else (none)) = some r := by first | (rw [hji162] at H; exact H) | (simp only [hji162] at H ⊢; exact H)
                               have hji162w : (IntKind.i64.wrap ((wrap64 ((wrap64 (Int.tdiv x22_5 8)) * t598)) + (wrap64 (Int.tdiv x23_6 8)))) = ji162 := (i64_w _).trans hji162
                               by_cases c163 : 0 ≤ (ji162)
                               ·rw [if_pos c163] at H
                                have c163b0 : decide (0 ≤ (ji162)) = true := decide_eq_true c163
                                clear c163
                                by_cases c164 : (ji162) < ((rd_L6 x7_3 (rd t558 x17_4)).length : Int)
                                ·rw [if_pos c164] at H
                                 have c164b0 : decide ((ji162) < ((rd_L6 x7_3 (rd t558 x17_4)).length : Int)) = true := decide_eq_true c164
                                 clear c164
                                 obtain ⟨bq165, hbq165⟩ : ∃ b_ : Bool, b_ = (rdOf false (rd_L6 x7_3 (rd t558 x17_4)) (ji162)) := ⟨_, rfl⟩
                                 replace H : (if (bq165 = true) then (laws_FnPlaces.l4 k6 t558 x7_3 x17_4 t595 t596 t598 x22_5 (wrap64 (x23_6 + 8)) t551 t552 t553 t554 t555) else (some false)) = some r := by rw [← hbq165] at H; exact H
                                 have Nbq165 := Aside0.mk hbq165
                                 clear hbq165
                                 by_cases c166 : (bq165 = true)
                                 ·subst c166
                                  have H1 : (laws_FnPlaces.l4 k6 t558 x7_3 x17_4 t595 t596 t598 x22_5 (wrap64 (x23_6 + 8)) t551 t552 t553 t554 t555) = some r := by rw [if_pos rfl] at H; exact H
                                  clear H
                                  have H := H1
                                  clear H1
                                  have H' := Aside0.mk H
                                  clear H
                                  have p600 : 0 ≤ (x17_4 : Int) := dT
                                  have q600 : x17_4 < (t558.length : Int) := dT
                                  obtain ⟨ad600, e600, hx600_0⟩ := Kd.at_int (Kd.R_reads' HO_4.out).2.2 x17_4 p600 q600
                                  obtain rfl : ad594 = ad600 := (by injection e600)
                                  replace p600 := eq_true p600
                                  replace q600 := eq_true q600
                                  obtain ⟨Ao167, co167, eo167⟩ := Kd.S_slice HO_7.out
                                  subst eo167
                                  have p601 : 0 ≤ ((rd t558 x17_4) : Int) := dT
                                  have q601 : (rd t558 x17_4) < (x7_3.length : Int) := dT
                                  obtain ⟨ad601, A601_0, c601_0, e601, hx601_0, hl601_0, hi601_0⟩ := at_L6 (Kd.S_reads' HO_7.out).2.2 (rd t558 x17_4) p601 q601
                                  cases e601
                                  obtain ⟨ce601, hce601, hMe601, hcc601⟩ := Kd.S_get HO_7.out [] (rd t558 x17_4) p601 (by first | exact q601 | exact dT | (have e_ := (Kd.S_reads' HO_7.out).1; omega))
                                  obtain ⟨ve601_0, rfl, ge601_0⟩ := hMe601
                                  have hv601_0 := hcc601 0 _ rfl
                                  rw [Nat.add_zero, show ((Kd.slice 4 Kd.bool)).sz = 1 from rfl, Nat.mul_one] at hv601_0
                                  replace hv601_0 := Option.some.inj (hv601_0.symm.trans hx601_0)
                                  rw [hv601_0] at ge601_0
                                  have HL601_0 := Aside0.mk (show Kd.R Kd.bool 4 _ _ _ _ (rd_L6 x7_3 (rd t558 x17_4)) from ge601_0)
                                  clear hv601_0 ge601_0
                                  have HX601_0 := Aside0.mk hx601_0
                                  clear hcc601 hce601
                                  have HR601_0 := Aside0.mk hi601_0
                                  have HC601_0 := Aside0.mk hl601_0
                                  clear hi601_0 hl601_0
                                  replace p601 := eq_true p601
                                  replace q601 := eq_true q601
                                  have p602 : 0 ≤ ((ji162) : Int) := dT
                                  have q602 : (ji162) < ((rd_L6 x7_3 (rd t558 x17_4)).length : Int) := dT
                                  obtain ⟨ad602, e602, hx602_0⟩ := Kd.at_bool (by repeat (first | (with_reducible exact HR601_0.out) | (with_reducible refine Kd.C_alloc ?_ _) | (with_reducible refine Kd.C_drewN ?_ _) | (with_reducible refine Kd.C_drew ?_) | exact HR601_0.out)) (ji162) p602 q602
                                  (try rw [← Nbq165.out] at hx602_0)
                                  cases e602
                                  replace p602 := eq_true p602
                                  replace q602 := eq_true q602
                                  go_wp2
                                  go_roundg k6
                                  case measure => have := HJ6.out; have := HK2.out; have := HK3.out; have := HK4.out; have := HK5.out; have := HK6.out; omega
                                  case rel => exact ⟨(wrap64 (x23_6 + 8)), (by first | rfl | (simp; done) | (simp [*]; done)), H', ⟨by have := HJ6.out; have := HK2.out; have := HK3.out; have := HK4.out; have := HK5.out; have := HK6.out; omega⟩, ⟨zR HO_4.out⟩, ⟨zQ HO_7.out⟩, ⟨zR HO_562004.out⟩, ⟨zK BK561.out⟩, ⟨zS HB.out GE561.out⟩⟩
                                 ·replace c166 := Bool.eq_false_iff.mpr c166
                                  subst c166
                                  have H1 : (some false) = some r := by rw [if_neg (show ¬ (false = true) by decide)] at H; exact H
                                  clear H
                                  have H := H1
                                  clear H1
                                  obtain rfl := Option.some.inj H
                                  have p600 : 0 ≤ (x17_4 : Int) := dT
                                  have q600 : x17_4 < (t558.length : Int) := dT
                                  obtain ⟨ad600, e600, hx600_0⟩ := Kd.at_int (Kd.R_reads' HO_4.out).2.2 x17_4 p600 q600
                                  obtain rfl : ad594 = ad600 := (by injection e600)
                                  replace p600 := eq_true p600
                                  replace q600 := eq_true q600
                                  obtain ⟨Ao168, co168, eo168⟩ := Kd.S_slice HO_7.out
                                  subst eo168
                                  have p601 : 0 ≤ ((rd t558 x17_4) : Int) := dT
                                  have q601 : (rd t558 x17_4) < (x7_3.length : Int) := dT
                                  obtain ⟨ad601, A601_0, c601_0, e601, hx601_0, hl601_0, hi601_0⟩ := at_L6 (Kd.S_reads' HO_7.out).2.2 (rd t558 x17_4) p601 q601
                                  cases e601
                                  obtain ⟨ce601, hce601, hMe601, hcc601⟩ := Kd.S_get HO_7.out [] (rd t558 x17_4) p601 (by first | exact q601 | exact dT | (have e_ := (Kd.S_reads' HO_7.out).1; omega))
                                  obtain ⟨ve601_0, rfl, ge601_0⟩ := hMe601
                                  have hv601_0 := hcc601 0 _ rfl
                                  rw [Nat.add_zero, show ((Kd.slice 4 Kd.bool)).sz = 1 from rfl, Nat.mul_one] at hv601_0
                                  replace hv601_0 := Option.some.inj (hv601_0.symm.trans hx601_0)
                                  rw [hv601_0] at ge601_0
                                  have HL601_0 := Aside0.mk (show Kd.R Kd.bool 4 _ _ _ _ (rd_L6 x7_3 (rd t558 x17_4)) from ge601_0)
                                  clear hv601_0 ge601_0
                                  have HX601_0 := Aside0.mk hx601_0
                                  clear hcc601 hce601
                                  have HR601_0 := Aside0.mk hi601_0
                                  have HC601_0 := Aside0.mk hl601_0
                                  clear hi601_0 hl601_0
                                  replace p601 := eq_true p601
                                  replace q601 := eq_true q601
                                  have p602 : 0 ≤ ((ji162) : Int) := dT
                                  have q602 : (ji162) < ((rd_L6 x7_3 (rd t558 x17_4)).length : Int) := dT
                                  obtain ⟨ad602, e602, hx602_0⟩ := Kd.at_bool (by repeat (first | (with_reducible exact HR601_0.out) | (with_reducible refine Kd.C_alloc ?_ _) | (with_reducible refine Kd.C_drewN ?_ _) | (with_reducible refine Kd.C_drew ?_) | exact HR601_0.out)) (ji162) p602 q602
                                  (try rw [← Nbq165.out] at hx602_0)
                                  cases e602
                                  replace p602 := eq_true p602
                                  replace q602 := eq_true q602
                                  go_wp2
                                  go_ret
                                  exact ⟨by first | rfl | (simp [errW_none, errW_some] <;> rfl) | (simp only [← hji162]; first | rfl | (simp [errW_none, errW_some] <;> rfl)) | (simp [*, errW_none, errW_some] <;> rfl), zS HB.out GE561.out⟩
                                ·rw [if_neg c164] at H
                                 exact absurd H (by simp)
                               ·rw [if_neg c163] at H
                                exact absurd H (by simp)
                              ·rw [if_neg c161] at H
                               exact absurd H (by simp)
                             ·rw [if_neg c160] at H
                              exact absurd H (by simp)
                            ·rw [if_neg c159] at H
                             exact absurd H (by simp)
                           ·rw [if_neg c158] at H
                            exact absurd H (by simp)
                          ·rw [if_neg c157] at H
                           have c157b0 : decide (x23_6 < t595) = false := decide_eq_false c157
                           clear c157
                           have H' := Aside0.mk H
                           clear H
                           go_wp2
                           go_roundg k6
                           case measure => have := HJ6.out; have := HK2.out; have := HK3.out; have := HK4.out; have := HK5.out; have := HK6.out; omega
                           case rel => exact ⟨(wrap64 (x22_5 + 8)), (by first | rfl | (simp; done) | (simp [*]; done)), H', ⟨by have := HJ6.out; have := HK2.out; have := HK3.out; have := HK4.out; have := HK5.out; have := HK6.out; omega⟩, ⟨zR HO_4.out⟩, ⟨zQ HO_7.out⟩, ⟨zR HO_562004.out⟩, ⟨zK BK561.out⟩, ⟨zS HB.out GE561.out⟩⟩
                      ·rw [if_neg c156] at H
                       have c156b0 : decide (x22_5 < t596) = false := decide_eq_false c156
                       clear c156
                       have H' := Aside0.mk H
                       clear H
                       go_wp2
                       go_roundg k5
                       case measure => have := HJ6.out; have := HK2.out; have := HK3.out; have := HK4.out; have := HK5.out; omega
                       case rel => exact ⟨(wrap64 (x17_4 + 1)), (by first | rfl | (simp; done) | (simp [*]; done)), H', ⟨by have := HJ6.out; have := HK2.out; have := HK3.out; have := HK4.out; have := HK5.out; omega⟩, ⟨zR HO_4.out⟩, ⟨zQ HO_7.out⟩, ⟨zR HO_562004.out⟩, ⟨zK BK561.out⟩, ⟨zS HB.out GE561.out⟩⟩
                  ·rw [if_neg c149] at H
                   exact absurd H (by simp)
                 ·rw [if_neg c148] at H
                  have c148b0 : decide (x17_4 < (t558.length : Int)) = false := decide_eq_false c148
                  clear c148
                  obtain rfl := Option.some.inj H
                  go_wp2
                  go_ret
                  exact ⟨by first | rfl | (simp [errW_none, errW_some] <;> rfl) | (simp [*, errW_none, errW_some] <;> rfl), zS HB.out GE561.out⟩

/-- THE ONE PURE STATEMENT of laws_FnPlaces: yours. -/
def laws_FnPlaces.Pure : Prop := ∀ (l0 : List Int), l0.length ≤ maxLen → l0.length * 1 ≤ 140737488351232 → (∀ x ∈ l0, (Lit.int .u8 x).wf = true) → ∃ k, laws_FnPlaces.f k l0 = some true
theorem laws_FnPlaces.walk (P : laws_FnPlaces.Pure) (a0 : Option Addr) (len0 cap0 : Nat) (z0 : List Int) (w : World) (w0 : (a0 = none ∧ len0 = 0 ∧ cap0 = 0 ∧ z0 = []) ∨ ∃ x, a0 = some x ∧ len0 ≤ cap0 ∧ cap0 ≤ maxLen ∧ z0.length = cap0 ∧ (∀ i, i < z0.length → w.cell? (x.add i) = some (.int .u8 (z0.getD i 0))) ∧ ∀ n ∈ z0, (Lit.int .u8 n).wf = true) (y0 : len0 * 1 ≤ 140737488351232) :
  Calls Try.prog 10 #[.slice a0 len0 cap0] w fun e w' => e = .returned (.bool true) ∧ Below w.heap.size w w' := by
 obtain ⟨l0, rfl, hr0, hm0, hw0, hc0⟩ := ReadsInt.ofRowC w0
 obtain ⟨k, h⟩ := P l0 hm0 y0 hw0
 refine (laws_FnPlaces.calls k _ _ l0 true w (Kd.C_of_reads (d := (0 : Int)) (h1 := fun _ => rfl) hr0) hc0 h).mono ?_
 rintro e w' ⟨rfl, hd⟩
 exact ⟨rfl, hd⟩

end Go.Proofs.Ytbhfimbikooccaa.PFnPlaces
