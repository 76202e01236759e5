-- Written by a program of this session.
import Derived.Test.YtbhfimbikooccaaPFnPlacesx0
import Derived.Test.YtbhfimbikooccaaPFnPlacesx6
import Derived.Test.YtbhfimbikooccaaPFnPlacesx7
namespace Go.Proofs.Ytbhfimbikooccaa.PFnPlaces
open Go.RowKit Go.Proofs.YtbhfimbikooccaaW.PrintWords Go.Proofs.YtbhfimbikooccaaW.PrintLast Go.Proofs.YtbhfimbikooccaaW.PrintMore
attribute [local go_sem] max2_int min2_int max_two min_two max_three min_three max_four min_four   -- for this text's walks alone
set_option linter.unusedVariables false
set_option linter.unusedSimpArgs false

/-! ### spec_l04Order: function 66 -/
mutual
def spec_l04Order.l0 : Nat → List Int → List (List (S60)) → Int → Int → Int → Option ((List (List (S60))))
 | 0, _, _, _, _, _ => none
 | k + 1, x1, x5, x6, x7, x8 => (spec_l04Up.f x7 8).bind fun t211 => (if x8 < t211 then (spec_l04Order.l1 k x1 x5 x6 x7 x8 0) else (some x5))
def spec_l04Order.l1 : Nat → List Int → List (List (S60)) → Int → Int → Int → Int → Option ((List (List (S60))))
 | 0, _, _, _, _, _, _ => none
 | k + 1, x1, x5, x6, x7, x8, x9 => (spec_l04Up.f x6 8).bind fun t212 => (if x9 < t212 then (if 0 < (x1.length : Int) then (if x5.length < 5864062014805 then (spec_l04Order.l1 k x1 (x5 ++ [(([(⟨rd x1 0, x8, x9⟩ : S60)] : List (S60)))]) x6 x7 x8 (wrap64 (x9 + 1))) else (none)) else (none)) else (spec_l04Order.l0 k x1 x5 x6 x7 (wrap64 (x8 + 1))))
def spec_l04Order.l2 : Nat → List Int → List (List (S60)) → Int → Int → Int → Int → Int → Int → Int → List (S66) → Option ((List (List (S60))))
 | 0, _, _, _, _, _, _, _, _, _, _ => none
 | k + 1, x1, x5, x10, x11, x12, x205000, x205001, x205002, x205003, x205004 => if x12 < x11 then (spec_l04Order.l3 k x1 x5 x10 x11 x12 0 x205000 x205001 x205002 x205003 x205004) else (some x5)
def spec_l04Order.l3 : Nat → List Int → List (List (S60)) → Int → Int → Int → Int → Int → Int → Int → Int → List (S66) → Option ((List (List (S60))))
 | 0, _, _, _, _, _, _, _, _, _, _, _ => none
 | k + 1, x1, x5, x10, x11, x12, x13, x205000, x205001, x205002, x205003, x205004 => if x13 < x10 then (spec_l04Order.l4 k x1 x5 x10 x11 x12 x13 (([] : List (S60))) 0 x205000 x205001 x205002 x205003 x205004) else (spec_l04Order.l2 k x1 x5 x10 x11 (wrap64 (x12 + 1)) x205000 x205001 x205002 x205003 x205004)
def spec_l04Order.l4 : Nat → List Int → List (List (S60)) → Int → Int → Int → Int → List (S60) → Int → Int → Int → Int → Int → List (S66) → Option ((List (List (S60))))
 | 0, _, _, _, _, _, _, _, _, _, _, _, _, _ => none
 | k + 1, x1, x5, x10, x11, x12, x13, x14, x15, x205000, x205001, x205002, x205003, x205004 => if x15 < (x1.length : Int) then (if 0 ≤ x15 then (if 0 ≤ (rd x1 x15) then (if (rd x1 x15) < (x205004.length : Int) then (spec_l04Order.l5 k x1 x5 x10 x11 x12 x13 x14 x15 0 x205000 x205001 x205002 x205003 x205004 ((rd_T66 x205004 (rd x1 x15)).f0) ((rd_T66 x205004 (rd x1 x15)).f1) ((rd_T66 x205004 (rd x1 x15)).f2) ((rd_T66 x205004 (rd x1 x15)).f3)) else (none)) else (none)) else (none)) else (if x5.length < 5864062014805 then (spec_l04Order.l3 k x1 (x5 ++ [x14]) x10 x11 x12 (wrap64 (x13 + 1)) x205000 x205001 x205002 x205003 x205004) else (none))
def spec_l04Order.l5 : Nat → List Int → List (List (S60)) → Int → Int → Int → Int → List (S60) → Int → Int → Int → Int → Int → Int → List (S66) → Int → Int → Int → Int → Option ((List (List (S60))))
 | 0, _, _, _, _, _, _, _, _, _, _, _, _, _, _, _, _, _, _ => none
 | k + 1, x1, x5, x10, x11, x12, x13, x14, x15, x17, x205000, x205001, x205002, x205003, x205004, x231000, x231001, x231002, x231003 => if x17 < x231002 then (spec_l04Order.l6 k x1 x5 x10 x11 x12 x13 x14 x15 x17 0 x205000 x205001 x205002 x205003 x205004 x231000 x231001 x231002 x231003) else (spec_l04Order.l4 k x1 x5 x10 x11 x12 x13 x14 (wrap64 (x15 + 1)) x205000 x205001 x205002 x205003 x205004)
def spec_l04Order.l6 : Nat → List Int → List (List (S60)) → Int → Int → Int → Int → List (S60) → Int → Int → Int → Int → Int → Int → Int → List (S66) → Int → Int → Int → Int → Option ((List (List (S60))))
 | 0, _, _, _, _, _, _, _, _, _, _, _, _, _, _, _, _, _, _, _ => none
 | k + 1, x1, x5, x10, x11, x12, x13, x14, x15, x17, x18, x205000, x205001, x205002, x205003, x205004, x231000, x231001, x231002, x231003 => if x18 < x231001 then (if 0 ≤ x15 then (if x15 < (x1.length : Int) then (if x14.length < 5864062014805 then (spec_l04Order.l6 k x1 x5 x10 x11 x12 x13 (x14 ++ [(⟨rd x1 x15, wrap64 ((wrap64 (x12 * x231002)) + x17), wrap64 ((wrap64 (x13 * x231001)) + x18)⟩ : S60)]) x15 x17 (wrap64 (x18 + 1)) x205000 x205001 x205002 x205003 x205004 x231000 x231001 x231002 x231003) else (none)) else (none)) else (none)) else (spec_l04Order.l5 k x1 x5 x10 x11 x12 x13 x14 x15 (wrap64 (x17 + 1)) x205000 x205001 x205002 x205003 x205004 x231000 x231001 x231002 x231003)
end
def spec_l04Order.f (k : Nat) (a0_0 : Int) (a0_1 : Int) (a0_2 : Int) (a0_3 : Int) (l0_4 : List (S66)) (l1 : List Int) : Option ((List (List (S60)))) := (some (([] : List (List (S60))) : List (List (S60)))).bind fun y205 => (if (l1.length : Int) = 1 then (if 0 < (l1.length : Int) then ((spec_l04Size.f k a0_0 a0_1 a0_2 a0_3 l0_4 (rd l1 0)).bind fun bt209 => (spec_l04Order.l0 k l1 y205 bt209.1 bt209.2 0)) else (none)) else ((spec_l04Units.f k a0_0 a0_1 a0_2 a0_3 l0_4).bind fun bt220 => (spec_l04Order.l2 k l1 y205 bt220.1 bt220.2 0 a0_0 a0_1 a0_2 a0_3 l0_4)))
def spec_l04Order.T3 : Bool × List (List Nat × List Nat) := (true, [([], []), ([], []), ([1], [1]), ([2], [2]), ([0, 3], [0, 3]), ([4], [4]), ([5], [5]), ([5], [5]), ([6, 4, 0, 1, 2, 3, 4, 5, 6], [6]), ([7, 8, 0, 1, 2, 3, 4, 5, 6, 7, 8], [7])])
def spec_l04Order.B3 : List Nat := [0, 0, 2, 6, 15, 31, 63, 63, 127, 511]
theorem spec_l04Order.tab3 : rtab .any (opsOf Try.f66 3) = spec_l04Order.T3 := by kernel_rfl
theorem spec_l04Order.bits3 : waitsOk spec_l04Order.T3.2 spec_l04Order.B3 = true := by kernel_rfl
def spec_l04Order.T23 : Bool × List (List Nat × List Nat) := (true, [([], []), ([0], [0]), ([], []), ([], []), ([2, 3], [2, 3]), ([4], [4]), ([1, 5], [1, 5]), ([6], [6]), ([], []), ([8, 7, 0, 1, 2, 3, 4, 5, 6, 7, 8], [7, 8])])
def spec_l04Order.B23 : List Nat := [0, 1, 0, 0, 12, 28, 63, 127, 0, 511]
theorem spec_l04Order.tab23 : rtab .any (opsOf Try.f66 23) = spec_l04Order.T23 := by kernel_rfl
theorem spec_l04Order.bits23 : waitsOk spec_l04Order.T23.2 spec_l04Order.B23 = true := by kernel_rfl
def spec_l04Order.T30 : Bool × List (List Nat × List Nat) := (true, [([], []), ([], []), ([], []), ([1, 2], [1, 2]), ([3], [3]), ([], []), ([], []), ([6], [6]), ([5, 7], [5, 7]), ([], []), ([8, 9], [8, 9]), ([], []), ([], []), ([12], [12]), ([11, 13], [11, 13]), ([], []), ([14, 15], [14, 15]), ([4, 10, 16], [4, 10, 16]), ([17], [17]), ([0, 18], [0, 18]), ([19, 19, 0, 1, 2, 3, 4, 5, 6, 7, 8, 9, 10, 11, 12, 13, 14, 15, 16, 17, 18, 19], [0, 19])])
def spec_l04Order.B30 : List Nat := [0, 0, 0, 6, 14, 0, 0, 64, 224, 0, 992, 0, 0, 4096, 14336, 0, 63488, 131070, 262142, 524287, 1048575]
theorem spec_l04Order.tab30 : rtab .any (opsOf Try.f66 30) = spec_l04Order.T30 := by kernel_rfl
theorem spec_l04Order.bits30 : waitsOk spec_l04Order.T30.2 spec_l04Order.B30 = true := by kernel_rfl
set_option maxHeartbeats 8000000 in
set_option maxRecDepth 100000 in
theorem spec_l04Order.calls (k : Nat) (a0_0 : Int) (a0_1 : Int) (a0_2 : Int) (a0_3 : Int) (A0_4 : Option Addr) (c0_4 : Nat) (l0_4 : List (S66)) (A1 : Option Addr) (c1 : Nat) (l1 : List Int) (r : List (List (S60))) (w : World) (hr0_4 : Kd.C k66 w A0_4 l0_4.length l0_4) (hc0_4 : l0_4.length ≤ c0_4) (hr1 : Kd.C (Kd.int .i64) w A1 l1.length l1) (hc1 : l1.length ≤ c1) (h : spec_l04Order.f k a0_0 a0_1 a0_2 a0_3 l0_4 l1 = some r) :
  Calls Try.prog 66 #[.agg #[.int .i64 a0_0, .int .i64 a0_1, .int .i64 a0_2, .int .i64 a0_3, .slice A0_4 l0_4.length c0_4], .slice A1 l1.length c1] w fun e w' => ∃ v0_ : Value, e = .returned (v0_) ∧ Kd.S (Kd.slice 60 k60) 50 w' w.heap.size (fun _ => True) v0_ r ∧ Below w.heap.size w w' := by
 have hu29 := Try.underlying29
 have hu60 := Try.underlying60
 have hu66 := Try.underlying66
 have HR0_4 := Aside0.mk hr0_4
 have HC0_4 := Aside0.mk hc0_4
 clear hr0_4 hc0_4
 have HR1 := Aside0.mk hr1
 have HC1 := Aside0.mk hc1
 clear hr1 hc1
 have HB := Aside0.mk (Below.refl w.heap.size w)
 have H : ((some (([] : List (List (S60))) : List (List (S60)))).bind fun y205 => (if (l1.length : Int) = 1 then (if 0 < (l1.length : Int) then ((spec_l04Size.f k a0_0 a0_1 a0_2 a0_3 l0_4 (rd l1 0)).bind fun bt209 => (spec_l04Order.l0 k l1 y205 bt209.1 bt209.2 0)) else (none)) else ((spec_l04Units.f k a0_0 a0_1 a0_2 a0_3 l0_4).bind fun bt220 => (spec_l04Order.l2 k l1 y205 bt220.1 bt220.2 0 a0_0 a0_1 a0_2 a0_3 l0_4)))) = some r := h
 clear h
 obtain ⟨y205, hy205⟩ : ∃ y_ : List (List (S60)), y_ = (([] : List (List (S60)))) := ⟨_, rfl⟩
 replace H : (if (l1.length : Int) = 1 then (if 0 < (l1.length : Int) then ((spec_l04Size.f k a0_0 a0_1 a0_2 a0_3 l0_4 (rd l1 0)).bind fun bt209 => (spec_l04Order.l0 k l1 y205 bt209.1 bt209.2 0)) else (none)) else ((spec_l04Units.f k a0_0 a0_1 a0_2 a0_3 l0_4).bind fun bt220 => (spec_l04Order.l2 k l1 y205 bt220.1 bt220.2 0 a0_0 a0_1 a0_2 a0_3 l0_4))) = some r := by first | (rw [hy205]; with_reducible exact H) | (have H2_ := (Option.bind_some _ _).symm.trans H; rw [hy205]; with_reducible exact H2_) | (have H2_ := (Option.bind_some _ _).symm.trans H; with_reducible exact H2_) | with_reducible exact H | (rw [hy205]; exact H) | exact H
 have Ny205 := Aside0.mk hy205
 clear hy205
 by_cases c3 : (l1.length : Int) = 1
 ·rw [if_pos c3] at H
  have c3b0 : ((l1.length : Int) == 1) = true := beq_iff_eq.mpr c3
  have c3b1 : ((l1.length : Int) != 1) = false := bne_eq_false_iff_eq.mpr c3
  clear c3
  by_cases c4 : 0 < (l1.length : Int)
  ·rw [if_pos c4] at H
   have c4b0 : decide (0 < (l1.length : Int)) = true := decide_eq_true c4
   have c4b1 : decide (0 < l1.length) = true := decide_eq_true (by omega)
   clear c4
   replace H := Option.bind_eq_some_iff.mp H
   obtain ⟨⟨t209, t210⟩, A50, H⟩ := H
   replace H : (spec_l04Order.l0 k l1 y205 t209 t210 0) = some r := H
   have A5 := Aside0.mk A50
   clear A50
   have H' := Aside0.mk H
   clear H
   go_enter Try.func66, Try.ntmps66
   try go_wp2_with (first | ((with_reducible refine gate_dst (N := 2) rfl ?_); refine box_event ?hg (N := 2) ?hd (cs := #[.int .i64 a0_0, .int .i64 a0_1, .int .i64 a0_2, .int .i64 a0_3, .slice A0_4 l0_4.length c0_4]) (t := 29) ?hr ?_; (case hd => rfl); (case hg => rfl); (case hr => first | (go_simp; done) | (go_simp; rfl)); intro gb204 hg w6 hbox hb; have n0_ := Aside0.mk (below_step (zB HB.out) hb); have n1_ := Aside0.mk (hbox); have n2_ := Aside0.mk (gE hg HB.out); have n3_ := Aside0.mk (gE hg HB.out); clear HB; have HB := n0_; have BK204 := n1_; have GW204 := n2_; have GE204 := n3_; clear n0_ n1_ n2_ n3_; clear hb hbox hg) | ((with_reducible refine gate_dst (N := 19) rfl ?_); refine Kd.S_lit (Kd.slice 60 k60) _ 50 ?hg (N := 19) ?hd (xs := ([] : List (List (S60)))) (inner := []) (ok := fun _ => True) (okp := fun _ => True) ?hr ?hp (fun _ hk => hk) trivial (Below.refl _ _) (Nat.le_refl _) (by simp) ?_; (case hd => rfl); (case hg => rfl); (case hr => first | (go_simp; done) | (go_simp; rfl)); (case hp => exact (Reps.none _ _)); intro v206 w7 ho8 hb hg_ hnew_; clear hg_ hnew_; (first | rw [← Ny205.out] at ho8 | (simp only [Int.reduceToNat] at ho8; rw [← Ny205.out] at ho8)); have n0_ := Aside0.mk (Kd.S_lower ho8 (below_size (zS HB.out GE204.out))); have n1_ := Aside0.mk (kB BK204.out hb); have n2_ := Aside0.mk (below_step (zS HB.out GE204.out) hb); clear BK204; clear HB; have HO207 := n0_; have BK204 := n1_; have HB := n2_; clear n0_ n1_ n2_; clear hb ho8))
   have n0_ := Aside0.mk (Kd.S_drew HO207.out)
   have n1_ := Aside0.mk (blk_drew BK204.out)
   have n2_ := Aside0.mk (below_drew1 HB.out)
   clear HO207
   clear BK204
   clear HB
   have HO207 := n0_
   have BK204 := n1_
   have HB := n2_
   clear n0_ n1_ n2_
   have p208 : 0 ≤ (0 : Int) := (by omega)
   have q208 : 0 < (l1.length : Int) := dT
   obtain ⟨ad208, e208, hx208_0⟩ := Kd.at_int HR1.out 0 p208 q208
   have hw208_0 := hx208_0
   (try rw [show ((0 : Int)).toNat = 0 from rfl] at hw208_0)
   (try rw [show 0 * 1 = 0 from rfl] at hw208_0)
   (try rw [Addr.add_zero'] at hw208_0)
   cases e208
   have qi208 : (0 < l1.length) = True := eq_true (by omega)
   (try rw [show ((0 : Int)).toNat = 0 from rfl] at hx208_0)
   (try rw [Addr.add_zero'] at hx208_0)
   replace hx208_0 := cB HB.out hx208_0
   replace p208 := eq_true p208
   replace q208 := eq_true q208
   refine start_ (n := 10) (S := fun w' => w'.cell? ⟨gb204, 0, none⟩ = some (.int .i64 a0_0) ∧ w'.cell? ⟨gb204, 1, none⟩ = some (.int .i64 a0_1) ∧ w'.cell? ⟨gb204, 2, none⟩ = some (.int .i64 a0_2) ∧ w'.cell? ⟨gb204, 3, none⟩ = some (.int .i64 a0_3) ∧ w'.cell? ⟨gb204, 4, none⟩ = some (.slice A0_4 l0_4.length c0_4) ∧ w'.cell? ad208 = some (.int .i64 (rd l1 0))) (ds := []) (Array.replicate 10 false) (by kernel_rfl) rfl rfl ⟨(blk_cell BK204.out 0).trans rfl, (blk_cell BK204.out 1).trans rfl, (blk_cell BK204.out 2).trans rfl, (blk_cell BK204.out 3).trans rfl, (blk_cell BK204.out 4).trans rfl, (cB HB.out hw208_0)⟩ (fun hHeld => ?_); refine with_tabW spec_l04Order.tab3 spec_l04Order.bits3 (fun HT_ HW_ => ?_)
   generalize w7.drew = w9 at HO207 BK204 HB hx208_0 hHeld ⊢
   refine sV 1 25 (lbn 10 2) HT_.out ?_
   refine sV 2 26 (lbn 10 6) HT_.out ?_
   refine sT 0 24 (lbn 10 7) HT_.out HW_.out hHeld ?_
   refine sT 3 27 (lbn 10 15) HT_.out HW_.out hHeld ?_
   refine one_ (i := 4) (N := some 28) #[true, true, true, true, true, false, false, false, false, false] rfl rfl (one_of HT_.out (by kernel_rfl)) (by decide) (fun K hK => ?_)
   refine goes_ Try.func58 (by kernel_rfl) rfl #[.agg #[.int .i64 a0_0, .int .i64 a0_1, .int .i64 a0_2, .int .i64 a0_3, .slice A0_4 l0_4.length c0_4], .int .i64 (rd l1 0)] (by rfl) rfl rfl zM ?_
   with_reducible refine (spec_l04Size.calls k a0_0 a0_1 a0_2 a0_3 _ _ l0_4 (rd l1 0) t209 t210 _ ?side1 ?side2 A5.out).mono ?_
   (case side1 => repeat (first | exact (Kd.C_below HR0_4.out HB.out) | (with_reducible refine Kd.C_alloc ?_ _) | (with_reducible refine Kd.C_drewN ?_ _) | (with_reducible refine Kd.C_drew ?_)))
   (case side2 => exact HC0_4.out)
   rintro e w10 ⟨rfl, hb⟩
   refine ⟨_, rfl, ?_⟩
   have n0_ := Aside0.mk (Kd.S_below (zQ HO207.out) hb)
   have n1_ := Aside0.mk (kB BK204.out hb)
   have n2_ := Aside0.mk (below_step (zS HB.out GE204.out) hb)
   clear HO207
   clear BK204
   clear HB
   have HO207 := n0_
   have BK204 := n1_
   have HB := n2_
   clear n0_ n1_ n2_
   refine hK.out _ _ ⟨(blk_cell BK204.out 0).trans rfl, (blk_cell BK204.out 1).trans rfl, (blk_cell BK204.out 2).trans rfl, (blk_cell BK204.out 3).trans rfl, (blk_cell BK204.out 4).trans rfl, (cB HB.out hw208_0)⟩ (fun hHeld => ?_)
   clear hK K
   refine norm_ (a' := ?_) ?_ ?_
   rotate_left
   ·show Act.put _ (some 28) _ = _
    simp only [Act.put, List.setIfInBounds_toArray, List.set_cons_zero, List.set_cons_succ, i64_w, i32_w]
    rfl
   refine sV 5 23 (lbn 10 63) HT_.out ?_
   refine sV 6 29 (lbn 10 127) HT_.out ?_
   refine sV 7 30 (lbn 10 255) HT_.out ?_
   refine sV 8 6 (lbn 10 511) HT_.out ?_
   refine sV 9 7 (lbn 10 1023) HT_.out ?_
   refine done_ (done_of HT_.out (by kernel_rfl)) ?_
   try go_wp2
   go_loopg [5, 8] k (fun kq v5 v8 w' => ∃ (x5_1 : List (List (S60))) (x8_1 : Int), v8 = .int .i64 x8_1 ∧ Aside0 (spec_l04Order.l0 kq l1 x5_1 t209 t210 x8_1 = some r) ∧ Aside0 (kq ≤ k) ∧ Aside0 (Kd.S (Kd.slice 60 k60) 50 w' w.heap.size (fun _ => True) v5 x5_1) ∧ Aside0 (w'.heap[gb204]? = some (.cells #[.int .i64 a0_0, .int .i64 a0_1, .int .i64 a0_2, .int .i64 a0_3, (.slice A0_4 l0_4.length c0_4)] 29 (0, 0))) ∧ Aside0 (Below w.heap.size w w'))
   case atStart => exact ⟨(y205), (0), (by first | rfl | (simp; done) | (simp [*]; done)), H', ⟨Nat.le_refl _⟩, ⟨zQ HO207.out⟩, ⟨zK BK204.out⟩, ⟨zS HB.out GE204.out⟩⟩
   case round =>
    clear H'
    obtain ⟨x5_1, x8_1, rfl, HA, HK1, HO_5, BK204, HB⟩ := hrel
    cases gk with
    | zero => exact absurd HA.out (by simp [spec_l04Order.l0])
    | succ k1 =>
     have H := HA.out
     clear HA
     simp only [spec_l04Order.l0] at H
     replace H := Option.bind_eq_some_iff.mp H
     obtain ⟨t211, A110, H⟩ := H
     replace H : (if x8_1 < t211 then (spec_l04Order.l1 k1 l1 x5_1 t209 t210 x8_1 0) else (some x5_1)) = some r := H
     have A11 := Aside0.mk A110
     clear A110
     by_cases c12 : x8_1 < t211
     ·rw [if_pos c12] at H
      have c12b0 : decide (x8_1 < t211) = true := decide_eq_true c12
      clear c12
      have H' := Aside0.mk H
      clear H
      go_wp2_with (first | ((with_reducible refine gate_callee (f := 85) rfl ?_); refine goesL_ (some 33) rfl rfl Try.func85 (by kernel_rfl) rfl #[.int .i64 t210, .int .i64 8] rfl zM ?_; (with_reducible refine (spec_l04Up.calls t210 8 t211 _ A11.out).mono ?_); rintro e w' ⟨rfl, ⟨nd, rfl⟩⟩; refine ⟨_, rfl, ?_⟩))
      go_loopg [5, 9] k1 (fun kq v5 v9 w' => ∃ (x5_2 : List (List (S60))) (x9_2 : Int), v9 = .int .i64 x9_2 ∧ Aside0 (spec_l04Order.l1 kq l1 x5_2 t209 t210 x8_1 x9_2 = some r) ∧ Aside0 (kq ≤ k1) ∧ Aside0 (Kd.S (Kd.slice 60 k60) 50 w' w.heap.size (fun _ => True) v5 x5_2) ∧ Aside0 (w'.heap[gb204]? = some (.cells #[.int .i64 a0_0, .int .i64 a0_1, .int .i64 a0_2, .int .i64 a0_3, (.slice A0_4 l0_4.length c0_4)] 29 (0, 0))) ∧ Aside0 (Below w.heap.size w w'))
      case atStart => exact ⟨(x5_1), (0), (by first | rfl | (simp; done) | (simp [*]; done)), H', ⟨Nat.le_refl _⟩, ⟨zQ HO_5.out⟩, ⟨zK BK204.out⟩, ⟨zS HB.out GE204.out⟩⟩
      case round =>
       clear H'
       obtain ⟨x5_2, x9_2, rfl, HA, HK2, HO_5, BK204, HB⟩ := hrel
       cases gk with
       | zero => exact absurd HA.out (by simp [spec_l04Order.l1])
       | succ k2 =>
        have H := HA.out
        clear HA
        simp only [spec_l04Order.l1] at H
        replace H := Option.bind_eq_some_iff.mp H
        obtain ⟨t212, A130, H⟩ := H
        (try dsimp only at H)
        have A13 := Aside0.mk A130
        clear A130
        by_cases c14 : x9_2 < t212
        ·rw [if_pos c14] at H
         have c14b0 : decide (x9_2 < t212) = true := decide_eq_true c14
         clear c14
         by_cases c15 : 0 < (l1.length : Int)
         ·rw [if_pos c15] at H
          have c15b0 : decide (0 < (l1.length : Int)) = true := decide_eq_true c15
          have c15b1 : decide (0 < l1.length) = true := decide_eq_true (by omega)
          clear c15
          obtain ⟨y214, hy214⟩ : ∃ y_ : List (S60), y_ = (([(⟨rd l1 0, x8_1, x9_2⟩ : S60)] : List (S60))) := ⟨_, rfl⟩
          replace H : (if x5_2.length < 5864062014805 then (spec_l04Order.l1 k2 l1 (x5_2 ++ [y214]) t209 t210 x8_1 (wrap64 (x9_2 + 1))) else (none)) = some r := by first | (rw [hy214]; with_reducible exact H) | (have H2_ := (Option.bind_some _ _).symm.trans H; rw [hy214]; with_reducible exact H2_) | (have H2_ := (Option.bind_some _ _).symm.trans H; with_reducible exact H2_) | with_reducible exact H | (rw [hy214]; exact H) | exact H
          have Ny214 := Aside0.mk hy214
          clear hy214
          by_cases c16 : x5_2.length < 5864062014805
          ·rw [if_pos c16] at H
           have LMc16 := Aside0.mk c16
           clear c16
           obtain ⟨y217, hy217⟩ : ∃ y_ : List (List (S60)), y_ = (x5_2 ++ [y214]) := ⟨_, rfl⟩
           replace H : (spec_l04Order.l1 k2 l1 y217 t209 t210 x8_1 (wrap64 (x9_2 + 1))) = some r := by first | (rw [hy217]; with_reducible exact H) | (have H2_ := (Option.bind_some _ _).symm.trans H; rw [hy217]; with_reducible exact H2_) | (have H2_ := (Option.bind_some _ _).symm.trans H; with_reducible exact H2_) | with_reducible exact H | (rw [hy217]; exact H) | exact H
           have Ny217 := Aside0.mk hy217
           clear hy217
           have H' := Aside0.mk H
           clear H
           go_wp2_with (first | ((with_reducible refine gate_callee (f := 85) rfl ?_); refine goesL_ (some 39) rfl rfl Try.func85 (by kernel_rfl) rfl #[.int .i64 t209, .int .i64 8] rfl zM ?_; (with_reducible refine (spec_l04Up.calls t209 8 t212 _ A13.out).mono ?_); rintro e w' ⟨rfl, ⟨nd, rfl⟩⟩; refine ⟨_, rfl, ?_⟩; have p213 : 0 ≤ (0 : Int) := (by omega); have q213 : 0 < (l1.length : Int) := dT; obtain ⟨ad213, e213, hx213_0⟩ := Kd.at_int HR1.out 0 p213 q213; obtain rfl : ad208 = ad213 := (by injection e213); have qi213 : (0 < l1.length) = True := eq_true (by omega); (try rw [show ((0 : Int)).toNat = 0 from rfl] at hx213_0); (try rw [Addr.add_zero'] at hx213_0); replace hx213_0 := cB HB.out hx213_0; replace p213 := eq_true p213; replace q213 := eq_true q213) | ((with_reducible refine gate_dst (N := 50) rfl ?_); refine Kd.R_lit k60 _ 60 ?hg (N := 50) ?hd (xs := ([(⟨rd l1 0, x8_1, x9_2⟩ : S60)] : List (S60))) (inner := [.int .i64 (rd l1 0), .int .i64 x8_1, .int .i64 x9_2]) (ok := fun _ => True) (okp := fun _ => True) ?hr ?hp (fun _ hk => hk) trivial (Below.refl _ _) (Nat.le_refl _) (by simp) ?_; (case hd => rfl); (case hg => rfl); (case hr => first | (go_simp; done) | (go_simp; rfl)); (case hp => exact (Reps.c3 (show Kd.M k60 _ _ _ (⟨rd l1 0, x8_1, x9_2⟩ : S60) [.int .i64 (rd l1 0), .int .i64 x8_1, .int .i64 x9_2] from (k60_mkM _ _ _ (⟨rd l1 0, x8_1, x9_2⟩ : S60) )) (Reps.none _ _))); intro v215 w17 ho18 hb hg_ hnew_; clear hg_ hnew_; (first | rw [← Ny214.out] at ho18 | (simp only [Int.reduceToNat] at ho18; rw [← Ny214.out] at ho18)); have n0_ := Aside0.mk (Kd.S_elder' (zQ HO_5.out) (Kd.R_base ho18) hb); have n1_ := Aside0.mk (Kd.R_lower ho18 (below_size (zS HB.out GE204.out))); have n2_ := Aside0.mk (kB BK204.out hb); have n3_ := Aside0.mk (below_step (zS HB.out GE204.out) hb); clear HO_5; clear BK204; clear HB; have HO_5 := n0_; have HO216 := n1_; have BK204 := n2_; have HB := n3_; clear n0_ n1_ n2_ n3_; clear hb ho18; obtain ⟨Ao20, co20, eo20⟩ := Kd.R_slice HO216.out; subst eo20) | ((with_reducible refine gate_builtin (b := .append) (xs := #[.tmp 43, .tmp 51]) rfl ?_); at_builtin; refine Kd.S_append (Kd.slice 60 k60) (w0 := w) w.heap.size rfl (.tmp 43) (.tmp 51) 76 50 (.slice none 0 0) 24 rfl Try.underlying76 info50 rfl (by decide) (by omega) u5 x5_2 y214 [.slice Ao20 y214.length co20] (fun _ => True) (fun k_ => some k_ = (.slice Ao20 y214.length co20 : Value).ownBlock) rfl rfl ?aP (fun k_ hk_ => ((Kd.R_mono (ok' := fun k_ => ((fun _ => True)) k_ ∧ some k_ ≠ (u5 : Value).ownBlock) (Kd.R_apart' (HO216.out) (Kd.S_typed HO_5.out) (by decide)) (fun k_ hk => ⟨trivial, hk.2⟩))).1 k_ hk_.symm) ?aF ?aO ?aB ?aS ?aL ?_; (case aP => exact Kd.M_row (Kd.R_mono (Kd.R_tight rfl (Kd.R_mono (ok' := fun k_ => ((fun _ => True)) k_ ∧ some k_ ≠ (u5 : Value).ownBlock) (Kd.R_apart' (HO216.out) (Kd.S_typed HO_5.out) (by decide)) (fun k_ hk => ⟨trivial, hk.2⟩))) (fun _ h_ => h_))); (case aB => exact (zS HB.out GE204.out)); (case aF => exact (fun _ _ => trivial)); (case aO => exact (by (with_reducible repeat (first | apply Kd.S_alloc | apply Kd.S_drewN | apply Kd.S_drew)); exact Kd.S_mono HO_5.out (fun k_ hk => ⟨trivial, fun e_ => hk.2 e_⟩))); (case aS => exact (below_size (zS HB.out GE204.out))); (case aL => have := LMc16.out; omega); intro v218 w19 ho hb hg hat; rw [← Ny217.out] at ho; have n0_ := Aside0.mk (kG BK204.out hg (Kd.S_ne HO_5.out BK204.out (by decide))); have n1_ := Aside0.mk (hb); have n2_ := Aside0.mk (ho); clear BK204; clear HB; clear HO_5; clear HO216; have BK204 := n0_; have HB := n1_; have HO219 := n2_; clear n0_ n1_ n2_; clear ho hb hg hat))
           go_roundg k2
           case measure => have := HK1.out; have := HK2.out; omega
           case rel => exact ⟨(y217), (wrap64 (x9_2 + 1)), (by first | rfl | (simp; done) | (simp [*]; done)), H', ⟨by have := HK1.out; have := HK2.out; omega⟩, ⟨zQ HO219.out⟩, ⟨zK BK204.out⟩, ⟨zS HB.out GE204.out⟩⟩
          ·rw [if_neg c16] at H
           exact absurd H (by simp)
         ·rw [if_neg c15] at H
          exact absurd H (by simp)
        ·rw [if_neg c14] at H
         have c14b0 : decide (x9_2 < t212) = false := decide_eq_false c14
         clear c14
         have H' := Aside0.mk H
         clear H
         go_wp2_with (first | ((with_reducible refine gate_callee (f := 85) rfl ?_); refine goesL_ (some 39) rfl rfl Try.func85 (by kernel_rfl) rfl #[.int .i64 t209, .int .i64 8] rfl zM ?_; (with_reducible refine (spec_l04Up.calls t209 8 t212 _ A13.out).mono ?_); rintro e w' ⟨rfl, ⟨nd, rfl⟩⟩; refine ⟨_, rfl, ?_⟩))
         go_roundg k2
         case measure => have := HK1.out; have := HK2.out; omega
         case rel => exact ⟨(x5_2), (wrap64 (x8_1 + 1)), (by first | rfl | (simp; done) | (simp [*]; done)), H', ⟨by have := HK1.out; have := HK2.out; omega⟩, ⟨zQ HO_5.out⟩, ⟨zK BK204.out⟩, ⟨zS HB.out GE204.out⟩⟩
     ·rw [if_neg c12] at H
      have c12b0 : decide (x8_1 < t211) = false := decide_eq_false c12
      clear c12
      obtain rfl := Option.some.inj H
      go_wp2_with (first | ((with_reducible refine gate_callee (f := 85) rfl ?_); refine goesL_ (some 33) rfl rfl Try.func85 (by kernel_rfl) rfl #[.int .i64 t210, .int .i64 8] rfl zM ?_; (with_reducible refine (spec_l04Up.calls t210 8 t211 _ A11.out).mono ?_); rintro e w' ⟨rfl, ⟨nd, rfl⟩⟩; refine ⟨_, rfl, ?_⟩))
      go_ret
      exact ⟨_, by first | rfl | (simp [errW_none, errW_some] <;> rfl) | (simp [*, errW_none, errW_some] <;> rfl), zQ HO_5.out, zS HB.out GE204.out⟩
  ·rw [if_neg c4] at H
   exact absurd H (by simp)
 ·rw [if_neg c3] at H
  have c3b0 : ((l1.length : Int) == 1) = false := beq_eq_false_iff_ne.mpr c3
  have c3b1 : ((l1.length : Int) != 1) = true := bne_iff_ne.mpr c3
  replace H := Option.bind_eq_some_iff.mp H
  obtain ⟨⟨t220, t221⟩, A210, H⟩ := H
  replace H : (spec_l04Order.l2 k l1 y205 t220 t221 0 a0_0 a0_1 a0_2 a0_3 l0_4) = some r := H
  have A21 := Aside0.mk A210
  clear A210
  have H' := Aside0.mk H
  clear H
  go_enter Try.func66, Try.ntmps66
  go_wp2_with (first | ((with_reducible refine gate_dst (N := 2) rfl ?_); refine box_event ?hg (N := 2) ?hd (cs := #[.int .i64 a0_0, .int .i64 a0_1, .int .i64 a0_2, .int .i64 a0_3, .slice A0_4 l0_4.length c0_4]) (t := 29) ?hr ?_; (case hd => rfl); (case hg => rfl); (case hr => first | (go_simp; done) | (go_simp; rfl)); intro gb204 hg w22 hbox hb; have n0_ := Aside0.mk (below_step (zB HB.out) hb); have n1_ := Aside0.mk (hbox); have n2_ := Aside0.mk (gE hg HB.out); have n3_ := Aside0.mk (gE hg HB.out); clear HB; have HB := n0_; have BK204 := n1_; have GW204 := n2_; have GE204 := n3_; clear n0_ n1_ n2_ n3_; clear hb hbox hg) | ((with_reducible refine gate_dst (N := 19) rfl ?_); refine Kd.S_lit (Kd.slice 60 k60) _ 50 ?hg (N := 19) ?hd (xs := ([] : List (List (S60)))) (inner := []) (ok := fun _ => True) (okp := fun _ => True) ?hr ?hp (fun _ hk => hk) trivial (Below.refl _ _) (Nat.le_refl _) (by simp) ?_; (case hd => rfl); (case hg => rfl); (case hr => first | (go_simp; done) | (go_simp; rfl)); (case hp => exact (Reps.none _ _)); intro v206 w23 ho24 hb hg_ hnew_; clear hg_ hnew_; (first | rw [← Ny205.out] at ho24 | (simp only [Int.reduceToNat] at ho24; rw [← Ny205.out] at ho24)); have n0_ := Aside0.mk (Kd.S_lower ho24 (below_size (zS HB.out GE204.out))); have n1_ := Aside0.mk (kB BK204.out hb); have n2_ := Aside0.mk (below_step (zS HB.out GE204.out) hb); clear BK204; clear HB; have HO207 := n0_; have BK204 := n1_; have HB := n2_; clear n0_ n1_ n2_; clear hb ho24; obtain ⟨hcz25_0, hcz25_1, hcz25_2, hcz25_3, hcz25_4, hfz25_0, hfz25_1, hfz25_2, hfz25_3, hfz25_4⟩ := bf5 BK204.out) | ((with_reducible refine gate_callee (f := 88) rfl ?_); refine goesL_ (some 56) rfl rfl Try.func88 (by kernel_rfl) rfl #[.agg #[.int .i64 a0_0, .int .i64 a0_1, .int .i64 a0_2, .int .i64 a0_3, .slice A0_4 l0_4.length c0_4]] rfl zM ?_; (with_reducible refine (spec_l04Units.calls k a0_0 a0_1 a0_2 a0_3 _ _ l0_4 t220 t221 _ ?side1 ?side2 A21.out).mono ?_); (case side1 => repeat (first | exact (Kd.C_below HR0_4.out HB.out) | (with_reducible refine Kd.C_alloc ?_ _) | (with_reducible refine Kd.C_drewN ?_ _) | (with_reducible refine Kd.C_drew ?_))); (case side2 => exact HC0_4.out); rintro e w26 ⟨rfl, hb⟩; refine ⟨_, rfl, ?_⟩; have n0_ := Aside0.mk (Kd.S_below (zQ HO207.out) hb); have n1_ := Aside0.mk (kB BK204.out hb); have n2_ := Aside0.mk (below_step (zS HB.out GE204.out) hb); clear HO207; clear BK204; clear HB; have HO207 := n0_; have BK204 := n1_; have HB := n2_; clear n0_ n1_ n2_; try clear hb))
  go_loopg [5, 12] k (fun kq v5 v12 w' => ∃ (x5_1 : List (List (S60))) (x12_1 : Int), v12 = .int .i64 x12_1 ∧ Aside0 (spec_l04Order.l2 kq l1 x5_1 t220 t221 x12_1 a0_0 a0_1 a0_2 a0_3 l0_4 = some r) ∧ Aside0 (kq ≤ k) ∧ Aside0 (Kd.S (Kd.slice 60 k60) 50 w' w.heap.size (fun _ => True) v5 x5_1) ∧ Aside0 (w'.heap[gb204]? = some (.cells #[.int .i64 a0_0, .int .i64 a0_1, .int .i64 a0_2, .int .i64 a0_3, (.slice A0_4 l0_4.length c0_4)] 29 (0, 0))) ∧ Aside0 (Below w.heap.size w w'))
  case atStart => exact ⟨(y205), (0), (by first | rfl | (simp; done) | (simp [*]; done)), H', ⟨Nat.le_refl _⟩, ⟨zQ HO207.out⟩, ⟨zK BK204.out⟩, ⟨zS HB.out GE204.out⟩⟩
  case round =>
   clear H'
   obtain ⟨x5_1, x12_1, rfl, HA, HK1, HO_5, BK204, HB⟩ := hrel
   cases gk with
   | zero => exact absurd HA.out (by simp [spec_l04Order.l2])
   | succ k1 =>
    have H := HA.out
    clear HA
    simp only [spec_l04Order.l2] at H
    by_cases c27 : x12_1 < t221
    ·rw [if_pos c27] at H
     have c27b0 : decide (x12_1 < t221) = true := decide_eq_true c27
     clear c27
     have H' := Aside0.mk H
     clear H
     go_wp2
     go_loopg [5, 13] k1 (fun kq v5 v13 w' => ∃ (x5_2 : List (List (S60))) (x13_2 : Int), v13 = .int .i64 x13_2 ∧ Aside0 (spec_l04Order.l3 kq l1 x5_2 t220 t221 x12_1 x13_2 a0_0 a0_1 a0_2 a0_3 l0_4 = some r) ∧ Aside0 (kq ≤ k1) ∧ Aside0 (Kd.S (Kd.slice 60 k60) 50 w' w.heap.size (fun _ => True) v5 x5_2) ∧ Aside0 (w'.heap[gb204]? = some (.cells #[.int .i64 a0_0, .int .i64 a0_1, .int .i64 a0_2, .int .i64 a0_3, (.slice A0_4 l0_4.length c0_4)] 29 (0, 0))) ∧ Aside0 (Below w.heap.size w w'))
     case atStart => exact ⟨(x5_1), (0), (by first | rfl | (simp; done) | (simp [*]; done)), H', ⟨Nat.le_refl _⟩, ⟨zQ HO_5.out⟩, ⟨zK BK204.out⟩, ⟨zS HB.out GE204.out⟩⟩
     case round =>
      clear H'
      obtain ⟨x5_2, x13_2, rfl, HA, HK2, HO_5, BK204, HB⟩ := hrel
      cases gk with
      | zero => exact absurd HA.out (by simp [spec_l04Order.l3])
      | succ k2 =>
       have H := HA.out
       clear HA
       simp only [spec_l04Order.l3] at H
       by_cases c28 : x13_2 < t220
       ·rw [if_pos c28] at H
        have c28b0 : decide (x13_2 < t220) = true := decide_eq_true c28
        clear c28
        obtain ⟨y222, hy222⟩ : ∃ y_ : List (S60), y_ = (([] : List (S60))) := ⟨_, rfl⟩
        replace H : (spec_l04Order.l4 k2 l1 x5_2 t220 t221 x12_1 x13_2 y222 0 a0_0 a0_1 a0_2 a0_3 l0_4) = some r := by first | (rw [hy222]; with_reducible exact H) | (have H2_ := (Option.bind_some _ _).symm.trans H; rw [hy222]; with_reducible exact H2_) | (have H2_ := (Option.bind_some _ _).symm.trans H; with_reducible exact H2_) | with_reducible exact H | (rw [hy222]; exact H) | exact H
        have Ny222 := Aside0.mk hy222
        clear hy222
        have H' := Aside0.mk H
        clear H
        go_wp2_with (first | ((with_reducible refine gate_dst (N := 69) rfl ?_); refine Kd.R_lit k60 _ 60 ?hg (N := 69) ?hd (xs := ([] : List (S60))) (inner := []) (ok := fun _ => True) (okp := fun _ => True) ?hr ?hp (fun _ hk => hk) trivial (Below.refl _ _) (Nat.le_refl _) (by simp) ?_; (case hd => rfl); (case hg => rfl); (case hr => first | (go_simp; done) | (go_simp; rfl)); (case hp => exact (Reps.none _ _)); intro v223 w29 ho30 hb hg_ hnew_; clear hg_ hnew_; (first | rw [← Ny222.out] at ho30 | (simp only [Int.reduceToNat] at ho30; rw [← Ny222.out] at ho30)); have n0_ := Aside0.mk (Kd.S_elder' (zQ HO_5.out) (Kd.R_base ho30) hb); have n1_ := Aside0.mk (Kd.R_lower ho30 (below_size (zS HB.out GE204.out))); have n2_ := Aside0.mk (kB BK204.out hb); have n3_ := Aside0.mk (below_step (zS HB.out GE204.out) hb); clear HO_5; clear BK204; clear HB; have HO_5 := n0_; have HO224 := n1_; have BK204 := n2_; have HB := n3_; clear n0_ n1_ n2_ n3_; clear hb ho30))
        go_loopg [14, 15] k2 (fun kq v14 v15 w' => ∃ (x14_3 : List (S60)) (x15_3 : Int), v15 = .int .i64 x15_3 ∧ Aside0 (spec_l04Order.l4 kq l1 x5_2 t220 t221 x12_1 x13_2 x14_3 x15_3 a0_0 a0_1 a0_2 a0_3 l0_4 = some r) ∧ Aside0 (kq ≤ k2) ∧ Aside0 (Kd.S (Kd.slice 60 k60) 50 w' w.heap.size (fun k_ => some k_ ≠ (v14 : Value).ownBlock) u5 x5_2) ∧ Aside0 (Kd.R k60 60 w' w.heap.size (fun _ => True) v14 x14_3) ∧ Aside0 (w'.heap[gb204]? = some (.cells #[.int .i64 a0_0, .int .i64 a0_1, .int .i64 a0_2, .int .i64 a0_3, (.slice A0_4 l0_4.length c0_4)] 29 (0, 0))) ∧ Aside0 (Below w.heap.size w w'))
        case atStart => exact ⟨(y222), (0), (by first | rfl | (simp; done) | (simp [*]; done)), H', ⟨Nat.le_refl _⟩, ⟨by (with_reducible repeat (first | apply Kd.S_alloc | apply Kd.S_drewN | apply Kd.S_drew)); exact Kd.S_mono HO_5.out (fun _ hk => hk.2)⟩, ⟨zR HO224.out⟩, ⟨zK BK204.out⟩, ⟨zS HB.out GE204.out⟩⟩
        case round =>
         clear H'
         obtain ⟨x14_3, x15_3, rfl, HA, HK3, HO_5, HO_14, BK204, HB⟩ := hrel
         cases gk with
         | zero => exact absurd HA.out (by simp [spec_l04Order.l4])
         | succ k3 =>
          have H := HA.out
          clear HA
          simp only [spec_l04Order.l4] at H
          by_cases c31 : x15_3 < (l1.length : Int)
          ·rw [if_pos c31] at H
           have c31b0 : decide (x15_3 < (l1.length : Int)) = true := decide_eq_true c31
           clear c31
           by_cases c32 : 0 ≤ x15_3
           ·rw [if_pos c32] at H
            have c32b0 : decide (0 ≤ x15_3) = true := decide_eq_true c32
            clear c32
            by_cases c33 : 0 ≤ (rd l1 x15_3)
            ·rw [if_pos c33] at H
             have c33b0 : decide (0 ≤ (rd l1 x15_3)) = true := decide_eq_true c33
             clear c33
             by_cases c34 : (rd l1 x15_3) < (l0_4.length : Int)
             ·rw [if_pos c34] at H
              have c34b0 : decide ((rd l1 x15_3) < (l0_4.length : Int)) = true := decide_eq_true c34
              clear c34
              have H' := Aside0.mk H
              clear H
              try go_wp2
              have n0_ := Aside0.mk (Kd.S_drew HO_5.out)
              have n1_ := Aside0.mk (Kd.R_drew HO_14.out)
              have n2_ := Aside0.mk (blk_drew BK204.out)
              have n3_ := Aside0.mk (below_drew1 HB.out)
              clear HO_5
              clear HO_14
              clear BK204
              clear HB
              have HO_5 := n0_
              have HO_14 := n1_
              have BK204 := n2_
              have HB := n3_
              clear n0_ n1_ n2_ n3_
              have p228 : 0 ≤ (x15_3 : Int) := dT
              have q228 : x15_3 < (l1.length : Int) := dT
              obtain ⟨ad228, e228, hx228_0⟩ := Kd.at_int HR1.out x15_3 p228 q228
              have hw228_0 := hx228_0
              cases e228
              replace hx228_0 := cB HB.out hx228_0
              replace p228 := eq_true p228
              replace q228 := eq_true q228
              have p229 : 0 ≤ ((rd l1 x15_3) : Int) := dT
              have q229 : (rd l1 x15_3) < (l0_4.length : Int) := dT
              obtain ⟨ad229, e229, hx229_0, hx229_1, hx229_2, hx229_3⟩ := at_T66 HR0_4.out (rd l1 x15_3) p229 q229
              have hw229_3 := hx229_3
              have hw229_2 := hx229_2
              have hw229_1 := hx229_1
              have hw229_0 := hx229_0
              cases e229
              replace hx229_0 := cB HB.out hx229_0
              replace hx229_1 := cB HB.out hx229_1
              replace hx229_2 := cB HB.out hx229_2
              replace hx229_3 := cB HB.out hx229_3
              replace p229 := eq_true p229
              replace q229 := eq_true q229
              refine start_ (n := 10) (S := fun w' => w'.cell? ⟨gb204, 0, none⟩ = some (.int .i64 a0_0) ∧ w'.cell? ⟨gb204, 1, none⟩ = some (.int .i64 a0_1) ∧ w'.cell? ⟨gb204, 2, none⟩ = some (.int .i64 a0_2) ∧ w'.cell? ⟨gb204, 3, none⟩ = some (.int .i64 a0_3) ∧ w'.cell? ⟨gb204, 4, none⟩ = some (.slice (some ad229) l0_4.length c0_4) ∧ w'.cell? (ad228.add (x15_3).toNat) = some (.int .i64 (rd l1 x15_3)) ∧ w'.cell? (ad229.add (((rd l1 x15_3)).toNat * 4)) = some (.int .i64 ((rd_T66 l0_4 (rd l1 x15_3)).f0)) ∧ w'.cell? ⟨(ad229.add (((rd l1 x15_3)).toNat * 4)).block, (ad229.add (((rd l1 x15_3)).toNat * 4)).off + 1, none⟩ = some (.int .i64 ((rd_T66 l0_4 (rd l1 x15_3)).f1)) ∧ w'.cell? ⟨(ad229.add (((rd l1 x15_3)).toNat * 4)).block, (ad229.add (((rd l1 x15_3)).toNat * 4)).off + 2, none⟩ = some (.int .i64 ((rd_T66 l0_4 (rd l1 x15_3)).f2)) ∧ w'.cell? ⟨(ad229.add (((rd l1 x15_3)).toNat * 4)).block, (ad229.add (((rd l1 x15_3)).toNat * 4)).off + 3, none⟩ = some (.int .i64 ((rd_T66 l0_4 (rd l1 x15_3)).f3))) (ds := []) (Array.replicate 10 false) (by kernel_rfl) rfl rfl ⟨(blk_cell BK204.out 0).trans rfl, (blk_cell BK204.out 1).trans rfl, (blk_cell BK204.out 2).trans rfl, (blk_cell BK204.out 3).trans rfl, (blk_cell BK204.out 4).trans rfl, (cB HB.out hw228_0), (cB HB.out hw229_0), (cB HB.out hw229_1), (cB HB.out hw229_2), (cB HB.out hw229_3)⟩ (fun hHeld => ?_); refine with_tabW spec_l04Order.tab23 spec_l04Order.bits23 (fun HT_ HW_ => ?_)
              generalize wr.drew = w35 at HO_5 HO_14 BK204 HB hx228_0 hx229_0 hx229_1 hx229_2 hx229_3 hHeld ⊢
              refine sV 0 76 (lbn 10 1) HT_.out ?_
              refine sV 2 78 (lbn 10 5) HT_.out ?_
              refine sV 3 79 (lbn 10 13) HT_.out ?_
              refine sV 4 80 (lbn 10 29) HT_.out ?_
              refine sT 1 77 (lbn 10 31) HT_.out HW_.out hHeld ?_
              refine sT 5 81 (lbn 10 63) HT_.out HW_.out hHeld ?_
              refine sV 6 82 (lbn 10 127) HT_.out ?_
              refine sT 7 83 (lbn 10 255) HT_.out HW_.out hHeld ?_
              refine one_ (i := 8) (N := some 16) #[true, true, true, true, true, true, true, true, true, false] rfl rfl (one_of HT_.out (by kernel_rfl)) (by decide) (fun K hK => ?_)
              refine box_step ?hg (N := 16) ?hd (cs := #[.int .i64 0, .int .i64 0, .int .i64 0, .int .i64 0]) (t := 66) ?hr ?_; (case hd => rfl); (case hg => rfl); (case hr => first | (go_simp; done) | (go_simp; rfl))
              intro gb230 hg w36 hbox hb
              have n0_ := Aside0.mk (Kd.S_below (zQ HO_5.out) hb)
              have n1_ := Aside0.mk (Kd.R_below (zR HO_14.out) hb)
              have n2_ := Aside0.mk (kB BK204.out hb)
              have n3_ := Aside0.mk (below_step (zS HB.out GE204.out) hb)
              have n4_ := Aside0.mk (hbox)
              have n5_ := Aside0.mk (gS hg HB.out GE204.out)
              have n6_ := Aside0.mk (gS hg HB.out GE204.out)
              have n7_ := Aside0.mk (nL hg BK204.out)
              have n8_ := Aside0.mk (nG hg BK204.out)
              clear HO_5
              clear HO_14
              clear BK204
              clear HB
              have HO_5 := n0_
              have HO_14 := n1_
              have BK204 := n2_
              have HB := n3_
              have BK230 := n4_
              have GW230 := n5_
              have GE230 := n6_
              have NB204_230 := n7_
              have NB230_204 := n8_
              clear n0_ n1_ n2_ n3_ n4_ n5_ n6_ n7_ n8_
              clear hb hbox hg
              refine hK.out _ _ ⟨(blk_cell BK204.out 0).trans rfl, (blk_cell BK204.out 1).trans rfl, (blk_cell BK204.out 2).trans rfl, (blk_cell BK204.out 3).trans rfl, (blk_cell BK204.out 4).trans rfl, (cB HB.out hw228_0), (cB HB.out hw229_0), (cB HB.out hw229_1), (cB HB.out hw229_2), (cB HB.out hw229_3)⟩ (fun hHeld => ?_)
              clear hK K
              refine norm_ (a' := ?_) ?_ ?_
              rotate_left
              ·show Act.put _ (some 16) _ = _
               simp only [Act.put, List.setIfInBounds_toArray, List.set_cons_zero, List.set_cons_succ, i64_w, i32_w]
               rfl
              refine one_ (i := 9) (N := none) #[true, true, true, true, true, true, true, true, true, true] rfl rfl (one_of HT_.out (by kernel_rfl)) (by decide) (fun K hK => ?_)
              have hs37 : w36.cell? ⟨gb230, 0, none⟩ = some (.int .i64 0) := (blk_cell BK230.out 0).trans rfl
              have hfs37 := blk_frozen BK230.out 0
              have hns37_0 := NB204_230.out
              have hms37_0 := NB230_204.out
              have hs38 : w36.cell? ⟨gb230, 1, none⟩ = some (.int .i64 0) := (blk_cell BK230.out 1).trans rfl
              have hfs38 := blk_frozen BK230.out 1
              have hns38_0 := NB204_230.out
              have hms38_0 := NB230_204.out
              have hs39 : w36.cell? ⟨gb230, 2, none⟩ = some (.int .i64 0) := (blk_cell BK230.out 2).trans rfl
              have hfs39 := blk_frozen BK230.out 2
              have hns39_0 := NB204_230.out
              have hms39_0 := NB230_204.out
              have hs40 : w36.cell? ⟨gb230, 3, none⟩ = some (.int .i64 0) := (blk_cell BK230.out 3).trans rfl
              have hfs40 := blk_frozen BK230.out 3
              have hns40_0 := NB204_230.out
              have hms40_0 := NB230_204.out
              refine skip_ (w1 := ?_) (by rfl) rfl ?_ ?_
              rotate_left
              ·go_simp
               rfl
              refine hK.out _ _ ⟨((cell_far (p := ⟨gb230, _, none⟩) NB204_230.out _).trans (((cell_far (p := ⟨gb230, _, none⟩) NB204_230.out _).trans (((cell_far (p := ⟨gb230, _, none⟩) NB204_230.out _).trans (((cell_far (p := ⟨gb230, _, none⟩) NB204_230.out _).trans (hHeld.1)))))))), ((cell_far (p := ⟨gb230, _, none⟩) NB204_230.out _).trans (((cell_far (p := ⟨gb230, _, none⟩) NB204_230.out _).trans (((cell_far (p := ⟨gb230, _, none⟩) NB204_230.out _).trans (((cell_far (p := ⟨gb230, _, none⟩) NB204_230.out _).trans (hHeld.2.1)))))))), ((cell_far (p := ⟨gb230, _, none⟩) NB204_230.out _).trans (((cell_far (p := ⟨gb230, _, none⟩) NB204_230.out _).trans (((cell_far (p := ⟨gb230, _, none⟩) NB204_230.out _).trans (((cell_far (p := ⟨gb230, _, none⟩) NB204_230.out _).trans (hHeld.2.2.1)))))))), ((cell_far (p := ⟨gb230, _, none⟩) NB204_230.out _).trans (((cell_far (p := ⟨gb230, _, none⟩) NB204_230.out _).trans (((cell_far (p := ⟨gb230, _, none⟩) NB204_230.out _).trans (((cell_far (p := ⟨gb230, _, none⟩) NB204_230.out _).trans (hHeld.2.2.2.1)))))))), ((cell_far (p := ⟨gb230, _, none⟩) NB204_230.out _).trans (((cell_far (p := ⟨gb230, _, none⟩) NB204_230.out _).trans (((cell_far (p := ⟨gb230, _, none⟩) NB204_230.out _).trans (((cell_far (p := ⟨gb230, _, none⟩) NB204_230.out _).trans (hHeld.2.2.2.2.1)))))))), ((cell_far (p := ⟨gb230, _, none⟩) (by first | exact Nat.ne_of_lt (Nat.lt_of_lt_of_le (by have := World.block_lt_of_cell? _ _ hw228_0; first | rwa [add_block] at this | exact this) GW230.out) | (rw [add_block]; exact Nat.ne_of_lt (Nat.lt_of_lt_of_le (by have := World.block_lt_of_cell? _ _ hw228_0; first | rwa [add_block] at this | exact this) GW230.out)) | (show (Addr.add _ _).block ≠ _; rw [add_block]; exact Nat.ne_of_lt (Nat.lt_of_lt_of_le (by have := World.block_lt_of_cell? _ _ hw228_0; first | rwa [add_block] at this | exact this) GW230.out)) | (dsimp only; exact Nat.ne_of_lt (Nat.lt_of_lt_of_le (by have := World.block_lt_of_cell? _ _ hw228_0; first | rwa [add_block] at this | exact this) GW230.out))) _).trans (((cell_far (p := ⟨gb230, _, none⟩) (by first | exact Nat.ne_of_lt (Nat.lt_of_lt_of_le (by have := World.block_lt_of_cell? _ _ hw228_0; first | rwa [add_block] at this | exact this) GW230.out) | (rw [add_block]; exact Nat.ne_of_lt (Nat.lt_of_lt_of_le (by have := World.block_lt_of_cell? _ _ hw228_0; first | rwa [add_block] at this | exact this) GW230.out)) | (show (Addr.add _ _).block ≠ _; rw [add_block]; exact Nat.ne_of_lt (Nat.lt_of_lt_of_le (by have := World.block_lt_of_cell? _ _ hw228_0; first | rwa [add_block] at this | exact this) GW230.out)) | (dsimp only; exact Nat.ne_of_lt (Nat.lt_of_lt_of_le (by have := World.block_lt_of_cell? _ _ hw228_0; first | rwa [add_block] at this | exact this) GW230.out))) _).trans (((cell_far (p := ⟨gb230, _, none⟩) (by first | exact Nat.ne_of_lt (Nat.lt_of_lt_of_le (by have := World.block_lt_of_cell? _ _ hw228_0; first | rwa [add_block] at this | exact this) GW230.out) | (rw [add_block]; exact Nat.ne_of_lt (Nat.lt_of_lt_of_le (by have := World.block_lt_of_cell? _ _ hw228_0; first | rwa [add_block] at this | exact this) GW230.out)) | (show (Addr.add _ _).block ≠ _; rw [add_block]; exact Nat.ne_of_lt (Nat.lt_of_lt_of_le (by have := World.block_lt_of_cell? _ _ hw228_0; first | rwa [add_block] at this | exact this) GW230.out)) | (dsimp only; exact Nat.ne_of_lt (Nat.lt_of_lt_of_le (by have := World.block_lt_of_cell? _ _ hw228_0; first | rwa [add_block] at this | exact this) GW230.out))) _).trans (((cell_far (p := ⟨gb230, _, none⟩) (by first | exact Nat.ne_of_lt (Nat.lt_of_lt_of_le (by have := World.block_lt_of_cell? _ _ hw228_0; first | rwa [add_block] at this | exact this) GW230.out) | (rw [add_block]; exact Nat.ne_of_lt (Nat.lt_of_lt_of_le (by have := World.block_lt_of_cell? _ _ hw228_0; first | rwa [add_block] at this | exact this) GW230.out)) | (show (Addr.add _ _).block ≠ _; rw [add_block]; exact Nat.ne_of_lt (Nat.lt_of_lt_of_le (by have := World.block_lt_of_cell? _ _ hw228_0; first | rwa [add_block] at this | exact this) GW230.out)) | (dsimp only; exact Nat.ne_of_lt (Nat.lt_of_lt_of_le (by have := World.block_lt_of_cell? _ _ hw228_0; first | rwa [add_block] at this | exact this) GW230.out))) _).trans (hHeld.2.2.2.2.2.1)))))))), ((cell_far (p := ⟨gb230, _, none⟩) (by first | exact Nat.ne_of_lt (Nat.lt_of_lt_of_le (by have := World.block_lt_of_cell? _ _ hw229_0; first | rwa [add_block] at this | exact this) GW230.out) | (rw [add_block]; exact Nat.ne_of_lt (Nat.lt_of_lt_of_le (by have := World.block_lt_of_cell? _ _ hw229_0; first | rwa [add_block] at this | exact this) GW230.out)) | (show (Addr.add _ _).block ≠ _; rw [add_block]; exact Nat.ne_of_lt (Nat.lt_of_lt_of_le (by have := World.block_lt_of_cell? _ _ hw229_0; first | rwa [add_block] at this | exact this) GW230.out)) | (dsimp only; exact Nat.ne_of_lt (Nat.lt_of_lt_of_le (by have := World.block_lt_of_cell? _ _ hw229_0; first | rwa [add_block] at this | exact this) GW230.out))) _).trans (((cell_far (p := ⟨gb230, _, none⟩) (by first | exact Nat.ne_of_lt (Nat.lt_of_lt_of_le (by have := World.block_lt_of_cell? _ _ hw229_0; first | rwa [add_block] at this | exact this) GW230.out) | (rw [add_block]; exact Nat.ne_of_lt (Nat.lt_of_lt_of_le (by have := World.block_lt_of_cell? _ _ hw229_0; first | rwa [add_block] at this | exact this) GW230.out)) | (show (Addr.add _ _).block ≠ _; rw [add_block]; exact Nat.ne_of_lt (Nat.lt_of_lt_of_le (by have := World.block_lt_of_cell? _ _ hw229_0; first | rwa [add_block] at this | exact this) GW230.out)) | (dsimp only; exact Nat.ne_of_lt (Nat.lt_of_lt_of_le (by have := World.block_lt_of_cell? _ _ hw229_0; first | rwa [add_block] at this | exact this) GW230.out))) _).trans (((cell_far (p := ⟨gb230, _, none⟩) (by first | exact Nat.ne_of_lt (Nat.lt_of_lt_of_le (by have := World.block_lt_of_cell? _ _ hw229_0; first | rwa [add_block] at this | exact this) GW230.out) | (rw [add_block]; exact Nat.ne_of_lt (Nat.lt_of_lt_of_le (by have := World.block_lt_of_cell? _ _ hw229_0; first | rwa [add_block] at this | exact this) GW230.out)) | (show (Addr.add _ _).block ≠ _; rw [add_block]; exact Nat.ne_of_lt (Nat.lt_of_lt_of_le (by have := World.block_lt_of_cell? _ _ hw229_0; first | rwa [add_block] at this | exact this) GW230.out)) | (dsimp only; exact Nat.ne_of_lt (Nat.lt_of_lt_of_le (by have := World.block_lt_of_cell? _ _ hw229_0; first | rwa [add_block] at this | exact this) GW230.out))) _).trans (((cell_far (p := ⟨gb230, _, none⟩) (by first | exact Nat.ne_of_lt (Nat.lt_of_lt_of_le (by have := World.block_lt_of_cell? _ _ hw229_0; first | rwa [add_block] at this | exact this) GW230.out) | (rw [add_block]; exact Nat.ne_of_lt (Nat.lt_of_lt_of_le (by have := World.block_lt_of_cell? _ _ hw229_0; first | rwa [add_block] at this | exact this) GW230.out)) | (show (Addr.add _ _).block ≠ _; rw [add_block]; exact Nat.ne_of_lt (Nat.lt_of_lt_of_le (by have := World.block_lt_of_cell? _ _ hw229_0; first | rwa [add_block] at this | exact this) GW230.out)) | (dsimp only; exact Nat.ne_of_lt (Nat.lt_of_lt_of_le (by have := World.block_lt_of_cell? _ _ hw229_0; first | rwa [add_block] at this | exact this) GW230.out))) _).trans (hHeld.2.2.2.2.2.2.1)))))))), ((cell_far (p := ⟨gb230, _, none⟩) (by first | exact Nat.ne_of_lt (Nat.lt_of_lt_of_le (by have := World.block_lt_of_cell? _ _ hw229_1; first | rwa [add_block] at this | exact this) GW230.out) | (rw [add_block]; exact Nat.ne_of_lt (Nat.lt_of_lt_of_le (by have := World.block_lt_of_cell? _ _ hw229_1; first | rwa [add_block] at this | exact this) GW230.out)) | (show (Addr.add _ _).block ≠ _; rw [add_block]; exact Nat.ne_of_lt (Nat.lt_of_lt_of_le (by have := World.block_lt_of_cell? _ _ hw229_1; first | rwa [add_block] at this | exact this) GW230.out)) | (dsimp only; exact Nat.ne_of_lt (Nat.lt_of_lt_of_le (by have := World.block_lt_of_cell? _ _ hw229_1; first | rwa [add_block] at this | exact this) GW230.out))) _).trans (((cell_far (p := ⟨gb230, _, none⟩) (by first | exact Nat.ne_of_lt (Nat.lt_of_lt_of_le (by have := World.block_lt_of_cell? _ _ hw229_1; first | rwa [add_block] at this | exact this) GW230.out) | (rw [add_block]; exact Nat.ne_of_lt (Nat.lt_of_lt_of_le (by have := World.block_lt_of_cell? _ _ hw229_1; first | rwa [add_block] at this | exact this) GW230.out)) | (show (Addr.add _ _).block ≠ _; rw [add_block]; exact Nat.ne_of_lt (Nat.lt_of_lt_of_le (by have := World.block_lt_of_cell? _ _ hw229_1; first | rwa [add_block] at this | exact this) GW230.out)) | (dsimp only; exact Nat.ne_of_lt (Nat.lt_of_lt_of_le (by have := World.block_lt_of_cell? _ _ hw229_1; first | rwa [add_block] at this | exact this) GW230.out))) _).trans (((cell_far (p := ⟨gb230, _, none⟩) (by first | exact Nat.ne_of_lt (Nat.lt_of_lt_of_le (by have := World.block_lt_of_cell? _ _ hw229_1; first | rwa [add_block] at this | exact this) GW230.out) | (rw [add_block]; exact Nat.ne_of_lt (Nat.lt_of_lt_of_le (by have := World.block_lt_of_cell? _ _ hw229_1; first | rwa [add_block] at this | exact this) GW230.out)) | (show (Addr.add _ _).block ≠ _; rw [add_block]; exact Nat.ne_of_lt (Nat.lt_of_lt_of_le (by have := World.block_lt_of_cell? _ _ hw229_1; first | rwa [add_block] at this | exact this) GW230.out)) | (dsimp only; exact Nat.ne_of_lt (Nat.lt_of_lt_of_le (by have := World.block_lt_of_cell? _ _ hw229_1; first | rwa [add_block] at this | exact this) GW230.out))) _).trans (((cell_far (p := ⟨gb230, _, none⟩) (by first | exact Nat.ne_of_lt (Nat.lt_of_lt_of_le (by have := World.block_lt_of_cell? _ _ hw229_1; first | rwa [add_block] at this | exact this) GW230.out) | (rw [add_block]; exact Nat.ne_of_lt (Nat.lt_of_lt_of_le (by have := World.block_lt_of_cell? _ _ hw229_1; first | rwa [add_block] at this | exact this) GW230.out)) | (show (Addr.add _ _).block ≠ _; rw [add_block]; exact Nat.ne_of_lt (Nat.lt_of_lt_of_le (by have := World.block_lt_of_cell? _ _ hw229_1; first | rwa [add_block] at this | exact this) GW230.out)) | (dsimp only; exact Nat.ne_of_lt (Nat.lt_of_lt_of_le (by have := World.block_lt_of_cell? _ _ hw229_1; first | rwa [add_block] at this | exact this) GW230.out))) _).trans (hHeld.2.2.2.2.2.2.2.1)))))))), ((cell_far (p := ⟨gb230, _, none⟩) (by first | exact Nat.ne_of_lt (Nat.lt_of_lt_of_le (by have := World.block_lt_of_cell? _ _ hw229_2; first | rwa [add_block] at this | exact this) GW230.out) | (rw [add_block]; exact Nat.ne_of_lt (Nat.lt_of_lt_of_le (by have := World.block_lt_of_cell? _ _ hw229_2; first | rwa [add_block] at this | exact this) GW230.out)) | (show (Addr.add _ _).block ≠ _; rw [add_block]; exact Nat.ne_of_lt (Nat.lt_of_lt_of_le (by have := World.block_lt_of_cell? _ _ hw229_2; first | rwa [add_block] at this | exact this) GW230.out)) | (dsimp only; exact Nat.ne_of_lt (Nat.lt_of_lt_of_le (by have := World.block_lt_of_cell? _ _ hw229_2; first | rwa [add_block] at this | exact this) GW230.out))) _).trans (((cell_far (p := ⟨gb230, _, none⟩) (by first | exact Nat.ne_of_lt (Nat.lt_of_lt_of_le (by have := World.block_lt_of_cell? _ _ hw229_2; first | rwa [add_block] at this | exact this) GW230.out) | (rw [add_block]; exact Nat.ne_of_lt (Nat.lt_of_lt_of_le (by have := World.block_lt_of_cell? _ _ hw229_2; first | rwa [add_block] at this | exact this) GW230.out)) | (show (Addr.add _ _).block ≠ _; rw [add_block]; exact Nat.ne_of_lt (Nat.lt_of_lt_of_le (by have := World.block_lt_of_cell? _ _ hw229_2; first | rwa [add_block] at this | exact this) GW230.out)) | (dsimp only; exact Nat.ne_of_lt (Nat.lt_of_lt_of_le (by have := World.block_lt_of_cell? _ _ hw229_2; first | rwa [add_block] at this | exact this) GW230.out))) _).trans (((cell_far (p := ⟨gb230, _, none⟩) (by first | exact Nat.ne_of_lt (Nat.lt_of_lt_of_le (by have := World.block_lt_of_cell? _ _ hw229_2; first | rwa [add_block] at this | exact this) GW230.out) | (rw [add_block]; exact Nat.ne_of_lt (Nat.lt_of_lt_of_le (by have := World.block_lt_of_cell? _ _ hw229_2; first | rwa [add_block] at this | exact this) GW230.out)) | (show (Addr.add _ _).block ≠ _; rw [add_block]; exact Nat.ne_of_lt (Nat.lt_of_lt_of_le (by have := World.block_lt_of_cell? _ _ hw229_2; first | rwa [add_block] at this | exact this) GW230.out)) | (dsimp only; exact Nat.ne_of_lt (Nat.lt_of_lt_of_le (by have := World.block_lt_of_cell? _ _ hw229_2; first | rwa [add_block] at this | exact this) GW230.out))) _).trans (((cell_far (p := ⟨gb230, _, none⟩) (by first | exact Nat.ne_of_lt (Nat.lt_of_lt_of_le (by have := World.block_lt_of_cell? _ _ hw229_2; first | rwa [add_block] at this | exact this) GW230.out) | (rw [add_block]; exact Nat.ne_of_lt (Nat.lt_of_lt_of_le (by have := World.block_lt_of_cell? _ _ hw229_2; first | rwa [add_block] at this | exact this) GW230.out)) | (show (Addr.add _ _).block ≠ _; rw [add_block]; exact Nat.ne_of_lt (Nat.lt_of_lt_of_le (by have := World.block_lt_of_cell? _ _ hw229_2; first | rwa [add_block] at this | exact this) GW230.out)) | (dsimp only; exact Nat.ne_of_lt (Nat.lt_of_lt_of_le (by have := World.block_lt_of_cell? _ _ hw229_2; first | rwa [add_block] at this | exact this) GW230.out))) _).trans (hHeld.2.2.2.2.2.2.2.2.1)))))))), ((cell_far (p := ⟨gb230, _, none⟩) (by first | exact Nat.ne_of_lt (Nat.lt_of_lt_of_le (by have := World.block_lt_of_cell? _ _ hw229_3; first | rwa [add_block] at this | exact this) GW230.out) | (rw [add_block]; exact Nat.ne_of_lt (Nat.lt_of_lt_of_le (by have := World.block_lt_of_cell? _ _ hw229_3; first | rwa [add_block] at this | exact this) GW230.out)) | (show (Addr.add _ _).block ≠ _; rw [add_block]; exact Nat.ne_of_lt (Nat.lt_of_lt_of_le (by have := World.block_lt_of_cell? _ _ hw229_3; first | rwa [add_block] at this | exact this) GW230.out)) | (dsimp only; exact Nat.ne_of_lt (Nat.lt_of_lt_of_le (by have := World.block_lt_of_cell? _ _ hw229_3; first | rwa [add_block] at this | exact this) GW230.out))) _).trans (((cell_far (p := ⟨gb230, _, none⟩) (by first | exact Nat.ne_of_lt (Nat.lt_of_lt_of_le (by have := World.block_lt_of_cell? _ _ hw229_3; first | rwa [add_block] at this | exact this) GW230.out) | (rw [add_block]; exact Nat.ne_of_lt (Nat.lt_of_lt_of_le (by have := World.block_lt_of_cell? _ _ hw229_3; first | rwa [add_block] at this | exact this) GW230.out)) | (show (Addr.add _ _).block ≠ _; rw [add_block]; exact Nat.ne_of_lt (Nat.lt_of_lt_of_le (by have := World.block_lt_of_cell? _ _ hw229_3; first | rwa [add_block] at this | exact this) GW230.out)) | (dsimp only; exact Nat.ne_of_lt (Nat.lt_of_lt_of_le (by have := World.block_lt_of_cell? _ _ hw229_3; first | rwa [add_block] at this | exact this) GW230.out))) _).trans (((cell_far (p := ⟨gb230, _, none⟩) (by first | exact Nat.ne_of_lt (Nat.lt_of_lt_of_le (by have := World.block_lt_of_cell? _ _ hw229_3; first | rwa [add_block] at this | exact this) GW230.out) | (rw [add_block]; exact Nat.ne_of_lt (Nat.lt_of_lt_of_le (by have := World.block_lt_of_cell? _ _ hw229_3; first | rwa [add_block] at this | exact this) GW230.out)) | (show (Addr.add _ _).block ≠ _; rw [add_block]; exact Nat.ne_of_lt (Nat.lt_of_lt_of_le (by have := World.block_lt_of_cell? _ _ hw229_3; first | rwa [add_block] at this | exact this) GW230.out)) | (dsimp only; exact Nat.ne_of_lt (Nat.lt_of_lt_of_le (by have := World.block_lt_of_cell? _ _ hw229_3; first | rwa [add_block] at this | exact this) GW230.out))) _).trans (((cell_far (p := ⟨gb230, _, none⟩) (by first | exact Nat.ne_of_lt (Nat.lt_of_lt_of_le (by have := World.block_lt_of_cell? _ _ hw229_3; first | rwa [add_block] at this | exact this) GW230.out) | (rw [add_block]; exact Nat.ne_of_lt (Nat.lt_of_lt_of_le (by have := World.block_lt_of_cell? _ _ hw229_3; first | rwa [add_block] at this | exact this) GW230.out)) | (show (Addr.add _ _).block ≠ _; rw [add_block]; exact Nat.ne_of_lt (Nat.lt_of_lt_of_le (by have := World.block_lt_of_cell? _ _ hw229_3; first | rwa [add_block] at this | exact this) GW230.out)) | (dsimp only; exact Nat.ne_of_lt (Nat.lt_of_lt_of_le (by have := World.block_lt_of_cell? _ _ hw229_3; first | rwa [add_block] at this | exact this) GW230.out))) _).trans (hHeld.2.2.2.2.2.2.2.2.2))))))))⟩ (fun hHeld => ?_)
              clear hK K
              refine done_ (done_of HT_.out (by kernel_rfl)) ?_
              try go_wp2
              go_loopg [14, 17] k3 (fun kq v14 v17 w' => ∃ (x14_4 : List (S60)) (x17_4 : Int), v17 = .int .i64 x17_4 ∧ Aside0 (spec_l04Order.l5 kq l1 x5_2 t220 t221 x12_1 x13_2 x14_4 x15_3 x17_4 a0_0 a0_1 a0_2 a0_3 l0_4 ((rd_T66 l0_4 (rd l1 x15_3)).f0) ((rd_T66 l0_4 (rd l1 x15_3)).f1) ((rd_T66 l0_4 (rd l1 x15_3)).f2) ((rd_T66 l0_4 (rd l1 x15_3)).f3) = some r) ∧ Aside0 (kq ≤ k3) ∧ Aside0 (Kd.S (Kd.slice 60 k60) 50 w' w.heap.size (fun k_ => some k_ ≠ (v14 : Value).ownBlock) u5 x5_2) ∧ Aside0 (Kd.R k60 60 w' w.heap.size (fun _ => True) v14 x14_4) ∧ Aside0 (w'.heap[gb204]? = some (.cells #[.int .i64 a0_0, .int .i64 a0_1, .int .i64 a0_2, .int .i64 a0_3, (.slice (some ad229) l0_4.length c0_4)] 29 (0, 0))) ∧ Aside0 (w'.heap[gb230]? = some (.cells #[.int .i64 ((rd_T66 l0_4 (rd l1 x15_3)).f0), .int .i64 ((rd_T66 l0_4 (rd l1 x15_3)).f1), .int .i64 ((rd_T66 l0_4 (rd l1 x15_3)).f2), .int .i64 ((rd_T66 l0_4 (rd l1 x15_3)).f3)] 66 (0, 0))) ∧ Aside0 (Below w.heap.size w w'))
              case atStart => exact ⟨(x14_3), (0), (by first | rfl | (simp; done) | (simp [*]; done)), H', ⟨Nat.le_refl _⟩, ⟨by (with_reducible repeat (first | apply Kd.S_alloc | apply Kd.S_drewN | apply Kd.S_drew)); exact Kd.S_mono (Kd.S_far (p := ⟨gb230, 3, none⟩) (Kd.S_far (p := ⟨gb230, 2, none⟩) (Kd.S_far (p := ⟨gb230, 1, none⟩) (Kd.S_far (p := ⟨gb230, 0, none⟩) (Kd.S_types HO_5.out BK230.out (by decide)) (fun _ hk => hk.2) (.int .i64 ((rd_T66 l0_4 (rd l1 x15_3)).f0))) (fun _ hk => hk.2) (.int .i64 ((rd_T66 l0_4 (rd l1 x15_3)).f1))) (fun _ hk => hk.2) (.int .i64 ((rd_T66 l0_4 (rd l1 x15_3)).f2))) (fun _ hk => hk.2) (.int .i64 ((rd_T66 l0_4 (rd l1 x15_3)).f3))) (fun _ hk => hk.1)⟩, ⟨by (with_reducible repeat (first | apply Kd.R_alloc | apply Kd.R_drewN | apply Kd.R_drew)); exact Kd.R_mono (Kd.R_far (p := ⟨gb230, 3, none⟩) (Kd.R_far (p := ⟨gb230, 2, none⟩) (Kd.R_far (p := ⟨gb230, 1, none⟩) (Kd.R_far (p := ⟨gb230, 0, none⟩) (Kd.R_types HO_14.out BK230.out (by decide)) (fun _ hk => hk.2) (.int .i64 ((rd_T66 l0_4 (rd l1 x15_3)).f0))) (fun _ hk => hk.2) (.int .i64 ((rd_T66 l0_4 (rd l1 x15_3)).f1))) (fun _ hk => hk.2) (.int .i64 ((rd_T66 l0_4 (rd l1 x15_3)).f2))) (fun _ hk => hk.2) (.int .i64 ((rd_T66 l0_4 (rd l1 x15_3)).f3))) (fun _ hk => trivial)⟩, ⟨zF BK204.out NB204_230.out⟩, ⟨zP BK230.out⟩, ⟨zT HB.out GE204.out GE230.out⟩⟩
              case round =>
               clear H'
               obtain ⟨x14_4, x17_4, rfl, HA, HK4, HO_5, HO_14, BK204, BK230, HB⟩ := hrel
               cases gk with
               | zero => exact absurd HA.out (by simp [spec_l04Order.l5])
               | succ k4 =>
                have H := HA.out
                clear HA
                simp only [spec_l04Order.l5] at H
                by_cases c41 : x17_4 < ((rd_T66 l0_4 (rd l1 x15_3)).f2)
                ·rw [if_pos c41] at H
                 have c41b0 : decide (x17_4 < ((rd_T66 l0_4 (rd l1 x15_3)).f2)) = true := decide_eq_true c41
                 clear c41
                 have H' := Aside0.mk H
                 clear H
                 have hnb42 := NB230_204.out
                 have hnc42 := NB204_230.out
                 obtain ⟨hcz43_0, hcz43_1, hcz43_2, hcz43_3, hfz43_0, hfz43_1, hfz43_2, hfz43_3⟩ := bf4 BK230.out
                 go_wp2
                 go_loopg [14, 18] k4 (fun kq v14 v18 w' => ∃ (x14_5 : List (S60)) (x18_5 : Int), v18 = .int .i64 x18_5 ∧ Aside0 (spec_l04Order.l6 kq l1 x5_2 t220 t221 x12_1 x13_2 x14_5 x15_3 x17_4 x18_5 a0_0 a0_1 a0_2 a0_3 l0_4 ((rd_T66 l0_4 (rd l1 x15_3)).f0) ((rd_T66 l0_4 (rd l1 x15_3)).f1) ((rd_T66 l0_4 (rd l1 x15_3)).f2) ((rd_T66 l0_4 (rd l1 x15_3)).f3) = some r) ∧ Aside0 (kq ≤ k4) ∧ Aside0 (Kd.S (Kd.slice 60 k60) 50 w' w.heap.size (fun k_ => some k_ ≠ (v14 : Value).ownBlock) u5 x5_2) ∧ Aside0 (Kd.R k60 60 w' w.heap.size (fun _ => True) v14 x14_5) ∧ Aside0 (w'.heap[gb204]? = some (.cells #[.int .i64 a0_0, .int .i64 a0_1, .int .i64 a0_2, .int .i64 a0_3, (.slice (some ad229) l0_4.length c0_4)] 29 (0, 0))) ∧ Aside0 (w'.heap[gb230]? = some (.cells #[.int .i64 ((rd_T66 l0_4 (rd l1 x15_3)).f0), .int .i64 ((rd_T66 l0_4 (rd l1 x15_3)).f1), .int .i64 ((rd_T66 l0_4 (rd l1 x15_3)).f2), .int .i64 ((rd_T66 l0_4 (rd l1 x15_3)).f3)] 66 (0, 0))) ∧ Aside0 (Below w.heap.size w w'))
                 case atStart => exact ⟨(x14_4), (0), (by first | rfl | (simp; done) | (simp [*]; done)), H', ⟨Nat.le_refl _⟩, ⟨zQ HO_5.out⟩, ⟨zR HO_14.out⟩, ⟨zK BK204.out⟩, ⟨zK BK230.out⟩, ⟨zT HB.out GE204.out GE230.out⟩⟩
                 case round =>
                  clear H'
                  obtain ⟨x14_5, x18_5, rfl, HA, HK5, HO_5, HO_14, BK204, BK230, HB⟩ := hrel
                  cases gk with
                  | zero => exact absurd HA.out (by simp [spec_l04Order.l6])
                  | succ k5 =>
                   have H := HA.out
                   clear HA
                   simp only [spec_l04Order.l6] at H
                   by_cases c44 : x18_5 < ((rd_T66 l0_4 (rd l1 x15_3)).f1)
                   ·rw [if_pos c44] at H
                    have c44b0 : decide (x18_5 < ((rd_T66 l0_4 (rd l1 x15_3)).f1)) = true := decide_eq_true c44
                    clear c44
                    by_cases c45 : 0 ≤ x15_3
                    ·rw [if_pos c45] at H
                     have c45b0 : decide (0 ≤ x15_3) = true := decide_eq_true c45
                     clear c45
                     by_cases c46 : x15_3 < (l1.length : Int)
                     ·rw [if_pos c46] at H
                      have c46b0 : decide (x15_3 < (l1.length : Int)) = true := decide_eq_true c46
                      clear c46
                      by_cases c47 : x14_5.length < 5864062014805
                      ·rw [if_pos c47] at H
                       have LMc47 := Aside0.mk c47
                       clear c47
                       obtain ⟨y232, hy232⟩ : ∃ y_ : List (S60), y_ = (x14_5 ++ [(⟨rd l1 x15_3, wrap64 ((wrap64 (x12_1 * ((rd_T66 l0_4 (rd l1 x15_3)).f2))) + x17_4), wrap64 ((wrap64 (x13_2 * ((rd_T66 l0_4 (rd l1 x15_3)).f1))) + x18_5)⟩ : S60)]) := ⟨_, rfl⟩
                       replace H : (spec_l04Order.l6 k5 l1 x5_2 t220 t221 x12_1 x13_2 y232 x15_3 x17_4 (wrap64 (x18_5 + 1)) a0_0 a0_1 a0_2 a0_3 l0_4 ((rd_T66 l0_4 (rd l1 x15_3)).f0) ((rd_T66 l0_4 (rd l1 x15_3)).f1) ((rd_T66 l0_4 (rd l1 x15_3)).f2) ((rd_T66 l0_4 (rd l1 x15_3)).f3)) = some r := by first | (rw [hy232]; with_reducible exact H) | (have H2_ := (Option.bind_some _ _).symm.trans H; rw [hy232]; with_reducible exact H2_) | (have H2_ := (Option.bind_some _ _).symm.trans H; with_reducible exact H2_) | with_reducible exact H | (rw [hy232]; exact H) | exact H
                       have Ny232 := Aside0.mk hy232
                       clear hy232
                       have H' := Aside0.mk H
                       clear H
                       have hnb48 := NB230_204.out
                       have hnc48 := NB204_230.out
                       obtain ⟨hcz49_0, hcz49_1, hcz49_2, hcz49_3, hfz49_0, hfz49_1, hfz49_2, hfz49_3⟩ := bf4 BK230.out
                       try go_wp2
                       have n0_ := Aside0.mk (Kd.S_drew HO_5.out)
                       have n1_ := Aside0.mk (Kd.R_drew HO_14.out)
                       have n2_ := Aside0.mk (blk_drew BK204.out)
                       have n3_ := Aside0.mk (blk_drew BK230.out)
                       have n4_ := Aside0.mk (below_drew1 HB.out)
                       clear HO_5
                       clear HO_14
                       clear BK204
                       clear BK230
                       clear HB
                       have HO_5 := n0_
                       have HO_14 := n1_
                       have BK204 := n2_
                       have BK230 := n3_
                       have HB := n4_
                       clear n0_ n1_ n2_ n3_ n4_
                       have p231 : 0 ≤ (x15_3 : Int) := dT
                       have q231 : x15_3 < (l1.length : Int) := dT
                       obtain ⟨ad231, e231, hx231_0⟩ := Kd.at_int HR1.out x15_3 p231 q231
                       have hw231_0 := hx231_0
                       obtain rfl : ad228 = ad231 := (by injection e231)
                       replace hx231_0 := cB HB.out hx231_0
                       replace p231 := eq_true p231
                       replace q231 := eq_true q231
                       refine start_ (n := 21) (S := fun w' => w'.cell? ⟨gb230, 0, none⟩ = some (.int .i64 ((rd_T66 l0_4 (rd l1 x15_3)).f0)) ∧ w'.cell? ⟨gb230, 1, none⟩ = some (.int .i64 ((rd_T66 l0_4 (rd l1 x15_3)).f1)) ∧ w'.cell? ⟨gb230, 2, none⟩ = some (.int .i64 ((rd_T66 l0_4 (rd l1 x15_3)).f2)) ∧ w'.cell? ⟨gb230, 3, none⟩ = some (.int .i64 ((rd_T66 l0_4 (rd l1 x15_3)).f3)) ∧ w'.cell? (ad228.add (x15_3).toNat) = some (.int .i64 (rd l1 x15_3))) (ds := []) (Array.replicate 21 false) (by kernel_rfl) rfl rfl ⟨(blk_cell BK230.out 0).trans rfl, (blk_cell BK230.out 1).trans rfl, (blk_cell BK230.out 2).trans rfl, (blk_cell BK230.out 3).trans rfl, (cB HB.out hw231_0)⟩ (fun hHeld => ?_); refine with_tabW spec_l04Order.tab30 spec_l04Order.bits30 (fun HT_ HW_ => ?_)
                       generalize wr.drew = w50 at HO_5 HO_14 BK204 BK230 HB hx231_0 hHeld ⊢
                       refine sV 0 96 (lbn 21 1) HT_.out ?_
                       refine sV 1 97 (lbn 21 3) HT_.out ?_
                       refine sV 2 98 (lbn 21 7) HT_.out ?_
                       refine sV 3 99 (lbn 21 15) HT_.out ?_
                       refine sV 5 101 (lbn 21 47) HT_.out ?_
                       refine sV 6 102 (lbn 21 111) HT_.out ?_
                       refine sV 9 105 (lbn 21 623) HT_.out ?_
                       refine sV 11 107 (lbn 21 2671) HT_.out ?_
                       refine sV 12 108 (lbn 21 6767) HT_.out ?_
                       refine sV 15 111 (lbn 21 39535) HT_.out ?_
                       refine sT 4 100 (lbn 21 39551) HT_.out HW_.out hHeld ?_
                       refine sT 7 103 (lbn 21 39679) HT_.out HW_.out hHeld ?_
                       refine sV 8 104 (lbn 21 39935) HT_.out ?_
                       refine sV 10 106 (lbn 21 40959) HT_.out ?_
                       refine sT 13 109 (lbn 21 49151) HT_.out HW_.out hHeld ?_
                       refine sV 14 110 (lbn 21 65535) HT_.out ?_
                       refine sV 16 112 (lbn 21 131071) HT_.out ?_
                       refine sV 17 113 (lbn 21 262143) HT_.out ?_
                       refine one_ (i := 18) (N := some 114) #[true, true, true, true, true, true, true, true, true, true, true, true, true, true, true, true, true, true, true, false, false] rfl rfl (one_of HT_.out (by kernel_rfl)) (by decide) (fun K hK => ?_)
                       refine value_ (w1 := ?_) (v := ?_) (by rfl) rfl ?_ ?_
                       rotate_left 2
                       ·go_simp
                        constructor
                        ·rfl
                        ·rfl
                       refine hK.out _ _ ⟨(blk_cell (blk_alloc BK230.out _) 0).trans rfl, (blk_cell (blk_alloc BK230.out _) 1).trans rfl, (blk_cell (blk_alloc BK230.out _) 2).trans rfl, (blk_cell (blk_alloc BK230.out _) 3).trans rfl, (World.cell?_alloc_lt _ _ _ (World.block_lt_of_cell? _ _ ((cB HB.out hw231_0)))).trans ((cB HB.out hw231_0))⟩ (fun hHeld => ?_)
                       clear hK K
                       refine norm_ (a' := ?_) ?_ ?_
                       rotate_left
                       ·show Act.put _ (some 114) _ = _
                        simp only [Act.put, List.setIfInBounds_toArray, List.set_cons_zero, List.set_cons_succ, i64_w, i32_w]
                        rfl
                       refine one_ (i := 19) (N := some 115) #[true, true, true, true, true, true, true, true, true, true, true, true, true, true, true, true, true, true, true, true, false] rfl rfl (one_of HT_.out (by kernel_rfl)) (by decide) (fun K hK => ?_)
                       refine Kd.R_append_step k60 (w0 := w) w.heap.size (by rfl) (.tmp 96) (.tmp 114) 50 60 (.agg #[(.int .i64 0), (.int .i64 0), (.int .i64 0)]) 24 rfl Try.underlying50 info60 rfl (by decide) (by omega) u14 x14_5 (⟨rd l1 x15_3, wrap64 ((wrap64 (x12_1 * ((rd_T66 l0_4 (rd l1 x15_3)).f2))) + x17_4), wrap64 ((wrap64 (x13_2 * ((rd_T66 l0_4 (rd l1 x15_3)).f1))) + x18_5)⟩ : S60) [.int .i64 (rd l1 x15_3), .int .i64 (wrap64 ((wrap64 (x12_1 * ((rd_T66 l0_4 (rd l1 x15_3)).f2))) + x17_4)), .int .i64 (wrap64 ((wrap64 (x13_2 * ((rd_T66 l0_4 (rd l1 x15_3)).f1))) + x18_5))] (fun _ => True) (fun _ => False) rfl rfl ?aP (fun _ hk => hk.elim) ?aF ?aO ?aB ?aS ?aL ?_
                       (case aP => exact k60_mkM _ _ _ (⟨rd l1 x15_3, wrap64 ((wrap64 (x12_1 * ((rd_T66 l0_4 (rd l1 x15_3)).f2))) + x17_4), wrap64 ((wrap64 (x13_2 * ((rd_T66 l0_4 (rd l1 x15_3)).f1))) + x18_5)⟩ : S60))
                       (case aB => exact (zT HB.out GE204.out GE230.out))
                       (case aF => exact (fun _ _ => trivial))
                       (case aO => exact (zR HO_14.out))
                       (case aS => exact (below_size (zT HB.out GE204.out GE230.out)))
                       (case aL => have := LMc47.out; omega)
                       intro v233 w51 ho hb hg hat
                       rw [← Ny232.out] at ho
                       have n0_ := Aside0.mk (Kd.S_after (ok := (fun _ => True)) (by (with_reducible repeat (first | apply Kd.S_alloc | apply Kd.S_drewN | apply Kd.S_drew)); exact Kd.S_mono HO_5.out (fun _ hk => ⟨trivial, hk⟩)) hg hat)
                       have n1_ := Aside0.mk (kG BK204.out hg (Kd.R_ne HO_14.out BK204.out (by decide)))
                       have n2_ := Aside0.mk (kG BK230.out hg (Kd.R_ne HO_14.out BK230.out (by decide)))
                       have n3_ := Aside0.mk (hb)
                       have n4_ := Aside0.mk (ho)
                       clear HO_5
                       clear BK204
                       clear BK230
                       clear HB
                       clear HO_14
                       have HO_5 := n0_
                       have BK204 := n1_
                       have BK230 := n2_
                       have HB := n3_
                       have HO234 := n4_
                       clear n0_ n1_ n2_ n3_ n4_
                       clear ho hb hg hat
                       refine hK.out _ _ ⟨(blk_cell BK230.out 0).trans rfl, (blk_cell BK230.out 1).trans rfl, (blk_cell BK230.out 2).trans rfl, (blk_cell BK230.out 3).trans rfl, (cB HB.out hw231_0)⟩ (fun hHeld => ?_)
                       clear hK K
                       refine norm_ (a' := ?_) ?_ ?_
                       rotate_left
                       ·show Act.put _ (some 115) _ = _
                        simp only [Act.put, List.setIfInBounds_toArray, List.set_cons_zero, List.set_cons_succ, i64_w, i32_w]
                        rfl
                       refine sV 20 14 (lbn 21 2097151) HT_.out ?_
                       refine done_ (done_of HT_.out (by kernel_rfl)) ?_
                       try go_wp2
                       go_roundg k5
                       case measure => have := HK1.out; have := HK2.out; have := HK3.out; have := HK4.out; have := HK5.out; omega
                       case rel => exact ⟨(y232), (wrap64 (x18_5 + 1)), (by first | rfl | (simp; done) | (simp [*]; done)), H', ⟨by have := HK1.out; have := HK2.out; have := HK3.out; have := HK4.out; have := HK5.out; omega⟩, ⟨by (with_reducible repeat (first | apply Kd.S_alloc | apply Kd.S_drewN | apply Kd.S_drew)); exact Kd.S_mono HO_5.out (fun _ hk => hk.2)⟩, ⟨zR HO234.out⟩, ⟨zK BK204.out⟩, ⟨zK BK230.out⟩, ⟨zT HB.out GE204.out GE230.out⟩⟩
                      ·rw [if_neg c47] at H
                       exact absurd H (by simp)
                     ·rw [if_neg c46] at H
                      exact absurd H (by simp)
                    ·rw [if_neg c45] at H
                     exact absurd H (by simp)
                   ·rw [if_neg c44] at H
                    have c44b0 : decide (x18_5 < ((rd_T66 l0_4 (rd l1 x15_3)).f1)) = false := decide_eq_false c44
                    clear c44
                    have H' := Aside0.mk H
                    clear H
                    have hnb52 := NB230_204.out
                    have hnc52 := NB204_230.out
                    obtain ⟨hcz53_0, hcz53_1, hcz53_2, hcz53_3, hfz53_0, hfz53_1, hfz53_2, hfz53_3⟩ := bf4 BK230.out
                    go_wp2
                    go_roundg k5
                    case measure => have := HK1.out; have := HK2.out; have := HK3.out; have := HK4.out; have := HK5.out; omega
                    case rel => exact ⟨(x14_5), (wrap64 (x17_4 + 1)), (by first | rfl | (simp; done) | (simp [*]; done)), H', ⟨by have := HK1.out; have := HK2.out; have := HK3.out; have := HK4.out; have := HK5.out; omega⟩, ⟨zQ HO_5.out⟩, ⟨zR HO_14.out⟩, ⟨zK BK204.out⟩, ⟨zK BK230.out⟩, ⟨zT HB.out GE204.out GE230.out⟩⟩
                ·rw [if_neg c41] at H
                 have c41b0 : decide (x17_4 < ((rd_T66 l0_4 (rd l1 x15_3)).f2)) = false := decide_eq_false c41
                 clear c41
                 have H' := Aside0.mk H
                 clear H
                 have hnb54 := NB230_204.out
                 have hnc54 := NB204_230.out
                 obtain ⟨hcz55_0, hcz55_1, hcz55_2, hcz55_3, hfz55_0, hfz55_1, hfz55_2, hfz55_3⟩ := bf4 BK230.out
                 go_wp2
                 go_roundg k4
                 case measure => have := HK1.out; have := HK2.out; have := HK3.out; have := HK4.out; omega
                 case rel => exact ⟨(x14_4), (wrap64 (x15_3 + 1)), (by first | rfl | (simp; done) | (simp [*]; done)), H', ⟨by have := HK1.out; have := HK2.out; have := HK3.out; have := HK4.out; omega⟩, ⟨zQ HO_5.out⟩, ⟨zR HO_14.out⟩, ⟨zK BK204.out⟩, ⟨zT HB.out GE204.out GE230.out⟩⟩
             ·rw [if_neg c34] at H
              exact absurd H (by simp)
            ·rw [if_neg c33] at H
             exact absurd H (by simp)
           ·rw [if_neg c32] at H
            exact absurd H (by simp)
          ·rw [if_neg c31] at H
           have c31b0 : decide (x15_3 < (l1.length : Int)) = false := decide_eq_false c31
           clear c31
           by_cases c56 : x5_2.length < 5864062014805
           ·rw [if_pos c56] at H
            have LMc56 := Aside0.mk c56
            clear c56
            obtain ⟨y225, hy225⟩ : ∃ y_ : List (List (S60)), y_ = (x5_2 ++ [x14_3]) := ⟨_, rfl⟩
            replace H : (spec_l04Order.l3 k3 l1 y225 t220 t221 x12_1 (wrap64 (x13_2 + 1)) a0_0 a0_1 a0_2 a0_3 l0_4) = some r := by first | (rw [hy225]; with_reducible exact H) | (have H2_ := (Option.bind_some _ _).symm.trans H; rw [hy225]; with_reducible exact H2_) | (have H2_ := (Option.bind_some _ _).symm.trans H; with_reducible exact H2_) | with_reducible exact H | (rw [hy225]; exact H) | exact H
            have Ny225 := Aside0.mk hy225
            clear hy225
            have H' := Aside0.mk H
            clear H
            obtain ⟨Ao58, co58, eo58⟩ := Kd.R_slice HO_14.out
            subst eo58
            go_wp2_with (first | ((with_reducible refine gate_builtin (b := .append) (xs := #[.tmp 116, .tmp 118]) rfl ?_); at_builtin; refine Kd.S_append (Kd.slice 60 k60) (w0 := w) w.heap.size rfl (.tmp 116) (.tmp 118) 76 50 (.slice none 0 0) 24 rfl Try.underlying76 info50 rfl (by decide) (by omega) u5 x5_2 x14_3 [.slice Ao58 x14_3.length co58] (fun _ => True) (fun k_ => some k_ = (.slice Ao58 x14_3.length co58 : Value).ownBlock) rfl rfl ?aP (fun k_ hk_ => ((Kd.R_mono (ok' := fun k_ => ((fun _ => True)) k_ ∧ some k_ ≠ (u5 : Value).ownBlock) (Kd.R_apart' (HO_14.out) (Kd.S_typed HO_5.out) (by decide)) (fun k_ hk => ⟨trivial, hk.2⟩))).1 k_ hk_.symm) ?aF ?aO ?aB ?aS ?aL ?_; (case aP => exact Kd.M_row (Kd.R_mono (Kd.R_tight rfl (Kd.R_mono (ok' := fun k_ => ((fun _ => True)) k_ ∧ some k_ ≠ (u5 : Value).ownBlock) (Kd.R_apart' (HO_14.out) (Kd.S_typed HO_5.out) (by decide)) (fun k_ hk => ⟨trivial, hk.2⟩))) (fun _ h_ => h_))); (case aB => exact (zS HB.out GE204.out)); (case aF => exact (fun _ _ => trivial)); (case aO => exact (by (with_reducible repeat (first | apply Kd.S_alloc | apply Kd.S_drewN | apply Kd.S_drew)); exact Kd.S_mono HO_5.out (fun k_ hk => ⟨trivial, fun e_ => hk e_⟩))); (case aS => exact (below_size (zS HB.out GE204.out))); (case aL => have := LMc56.out; omega); intro v226 w57 ho hb hg hat; rw [← Ny225.out] at ho; have n0_ := Aside0.mk (kG BK204.out hg (Kd.S_ne HO_5.out BK204.out (by decide))); have n1_ := Aside0.mk (hb); have n2_ := Aside0.mk (ho); clear BK204; clear HB; clear HO_5; clear HO_14; have BK204 := n0_; have HB := n1_; have HO227 := n2_; clear n0_ n1_ n2_; clear ho hb hg hat))
            go_roundg k3
            case measure => have := HK1.out; have := HK2.out; have := HK3.out; omega
            case rel => exact ⟨(y225), (wrap64 (x13_2 + 1)), (by first | rfl | (simp; done) | (simp [*]; done)), H', ⟨by have := HK1.out; have := HK2.out; have := HK3.out; omega⟩, ⟨zQ HO227.out⟩, ⟨zK BK204.out⟩, ⟨zS HB.out GE204.out⟩⟩
           ·rw [if_neg c56] at H
            exact absurd H (by simp)
       ·rw [if_neg c28] at H
        have c28b0 : decide (x13_2 < t220) = false := decide_eq_false c28
        clear c28
        have H' := Aside0.mk H
        clear H
        go_wp2
        go_roundg k2
        case measure => have := HK1.out; have := HK2.out; omega
        case rel => exact ⟨(x5_2), (wrap64 (x12_1 + 1)), (by first | rfl | (simp; done) | (simp [*]; done)), H', ⟨by have := HK1.out; have := HK2.out; omega⟩, ⟨zQ HO_5.out⟩, ⟨zK BK204.out⟩, ⟨zS HB.out GE204.out⟩⟩
    ·rw [if_neg c27] at H
     have c27b0 : decide (x12_1 < t221) = false := decide_eq_false c27
     clear c27
     obtain rfl := Option.some.inj H
     go_wp2
     go_ret
     exact ⟨_, by first | rfl | (simp [errW_none, errW_some] <;> rfl) | (simp [*, errW_none, errW_some] <;> rfl), zQ HO_5.out, zS HB.out GE204.out⟩

end Go.Proofs.Ytbhfimbikooccaa.PFnPlaces
