-- Written by a program of this session.
import Derived.Test.YtbhfimbikooccaaPFnPlacesx0
import Derived.Test.YtbhfimbikooccaaPFnPlacesx6
import Derived.Test.YtbhfimbikooccaaPFnPlacesx9
namespace Go.Proofs.Ytbhfimbikooccaa.PFnPlaces
open Go.RowKit Go.Proofs.YtbhfimbikooccaaW.PrintWords Go.Proofs.YtbhfimbikooccaaW.PrintLast Go.Proofs.YtbhfimbikooccaaW.PrintMore
attribute [local go_sem] max2_int min2_int max_two min_two max_three min_three max_four min_four   -- for this text's walks alone
set_option linter.unusedVariables false
set_option linter.unusedSimpArgs false

/-! ### impl_Frame_unitPlaces: function 70 -/
mutual
def impl_Frame_unitPlaces.l0 : Nat → List Int → List (List (S60)) → Int → Int → Int → Option ((List (List (S60))))
 | 0, _, _, _, _, _ => none
 | k + 1, x1, x5, x6, x33, x34 => if x34 < x33 then (impl_Frame_unitPlaces.l1 k x1 x5 x6 x34 x33 x34 x6 0) else (some x5)
def impl_Frame_unitPlaces.l1 : Nat → List Int → List (List (S60)) → Int → Int → Int → Int → Int → Int → Option ((List (List (S60))))
 | 0, _, _, _, _, _, _, _, _ => none
 | k + 1, x1, x5, x6, x8, x33, x34, x37, x38 => if x38 < x37 then (if 0 < (x1.length : Int) then (if x5.length < 5864062014805 then (impl_Frame_unitPlaces.l1 k x1 (x5 ++ [(([(⟨rd x1 0, x8, x38⟩ : S60)] : List (S60)))]) x6 x8 x33 x34 x37 (wrap64 (x38 + 1))) else (none)) else (none)) else (impl_Frame_unitPlaces.l0 k x1 x5 x6 x33 (wrap64 (x34 + 1)))
def impl_Frame_unitPlaces.l2 : Nat → List Int → List (List (S60)) → Int → Int → Int → Int → Int → Int → Int → List (S66) → Option ((List (List (S60))))
 | 0, _, _, _, _, _, _, _, _, _, _ => none
 | k + 1, x1, x5, x10, x59, x60, x271000, x271001, x271002, x271003, x271004 => if x60 < x59 then (impl_Frame_unitPlaces.l3 k x1 x5 x10 x60 x59 x60 x10 0 x271000 x271001 x271002 x271003 x271004) else (some x5)
def impl_Frame_unitPlaces.l3 : Nat → List Int → List (List (S60)) → Int → Int → Int → Int → Int → Int → Int → Int → Int → Int → List (S66) → Option ((List (List (S60))))
 | 0, _, _, _, _, _, _, _, _, _, _, _, _, _ => none
 | k + 1, x1, x5, x10, x12, x59, x60, x63, x64, x271000, x271001, x271002, x271003, x271004 => if x64 < x63 then (impl_Frame_unitPlaces.l4 k x1 x5 x10 x12 x64 (([] : List (S60))) x59 x60 x63 x64 x1 (x1.length : Int) 0 x271000 x271001 x271002 x271003 x271004) else (impl_Frame_unitPlaces.l2 k x1 x5 x10 x59 (wrap64 (x60 + 1)) x271000 x271001 x271002 x271003 x271004)
def impl_Frame_unitPlaces.l4 : Nat → List Int → List (List (S60)) → Int → Int → Int → List (S60) → Int → Int → Int → Int → List Int → Int → Int → Int → Int → Int → Int → List (S66) → Option ((List (List (S60))))
 | 0, _, _, _, _, _, _, _, _, _, _, _, _, _, _, _, _, _, _ => none
 | k + 1, x1, x5, x10, x12, x13, x14, x59, x60, x63, x64, x68, x69, x70, x271000, x271001, x271002, x271003, x271004 => if x70 < x69 then (if 0 ≤ x70 then (if x70 < (x68.length : Int) then (if 0 ≤ (rd x68 x70) then (if (rd x68 x70) < (x271004.length : Int) then (impl_Frame_unitPlaces.l5 k x1 x5 x10 x12 x13 x14 (rd x68 x70) ((rd_T66 x271004 (rd x68 x70)).f1) ((rd_T66 x271004 (rd x68 x70)).f2) x59 x60 x63 x64 x68 x69 x70 ((rd_T66 x271004 (rd x68 x70)).f2) 0 x271000 x271001 x271002 x271003 x271004) else (none)) else (none)) else (none)) else (none)) else (if x5.length < 5864062014805 then (impl_Frame_unitPlaces.l3 k x1 (x5 ++ [x14]) x10 x12 x59 x60 x63 (wrap64 (x64 + 1)) x271000 x271001 x271002 x271003 x271004) else (none))
def impl_Frame_unitPlaces.l5 : Nat → List Int → List (List (S60)) → Int → Int → Int → List (S60) → Int → Int → Int → Int → Int → Int → Int → List Int → Int → Int → Int → Int → Int → Int → Int → Int → List (S66) → Option ((List (List (S60))))
 | 0, _, _, _, _, _, _, _, _, _, _, _, _, _, _, _, _, _, _, _, _, _, _, _ => none
 | k + 1, x1, x5, x10, x12, x13, x14, x16, x17, x18, x59, x60, x63, x64, x68, x69, x70, x86, x87, x271000, x271001, x271002, x271003, x271004 => if x87 < x86 then (impl_Frame_unitPlaces.l6 k x1 x5 x10 x12 x13 x14 x16 x17 x18 x87 x59 x60 x63 x64 x68 x69 x70 x86 x87 x17 0 x271000 x271001 x271002 x271003 x271004) else (impl_Frame_unitPlaces.l4 k x1 x5 x10 x12 x13 x14 x59 x60 x63 x64 x68 x69 (wrap64 (x70 + 1)) x271000 x271001 x271002 x271003 x271004)
def impl_Frame_unitPlaces.l6 : Nat → List Int → List (List (S60)) → Int → Int → Int → List (S60) → Int → Int → Int → Int → Int → Int → Int → Int → List Int → Int → Int → Int → Int → Int → Int → Int → Int → Int → Int → List (S66) → Option ((List (List (S60))))
 | 0, _, _, _, _, _, _, _, _, _, _, _, _, _, _, _, _, _, _, _, _, _, _, _, _, _, _ => none
 | k + 1, x1, x5, x10, x12, x13, x14, x16, x17, x18, x19, x59, x60, x63, x64, x68, x69, x70, x86, x87, x90, x91, x271000, x271001, x271002, x271003, x271004 => if x91 < x90 then (if x14.length < 5864062014805 then (impl_Frame_unitPlaces.l6 k x1 x5 x10 x12 x13 (x14 ++ [(⟨x16, wrap64 ((wrap64 (x12 * x18)) + x19), wrap64 ((wrap64 (x13 * x17)) + x91)⟩ : S60)]) x16 x17 x18 x19 x59 x60 x63 x64 x68 x69 x70 x86 x87 x90 (wrap64 (x91 + 1)) x271000 x271001 x271002 x271003 x271004) else (none)) else (impl_Frame_unitPlaces.l5 k x1 x5 x10 x12 x13 x14 x16 x17 x18 x59 x60 x63 x64 x68 x69 x70 x86 (wrap64 (x87 + 1)) x271000 x271001 x271002 x271003 x271004)
end
def impl_Frame_unitPlaces.f (k : Nat) (a0_0 : Int) (a0_1 : Int) (a0_2 : Int) (a0_3 : Int) (l0_4 : List (S66)) (l1 : List Int) : Option ((List (List (S60)))) := (some (([] : List (List (S60))) : List (List (S60)))).bind fun y271 => (if (l1.length : Int) = 1 then (if 0 < (l1.length : Int) then ((impl_Frame_needed.f k a0_0 a0_1 a0_2 a0_3 l0_4 (rd l1 0)).bind fun bt275 => (impl_Frame_unitPlaces.l0 k l1 y271 bt275.1 bt275.2 0)) else (none)) else ((impl_Frame_units.f k a0_0 a0_1 a0_2 a0_3 l0_4).bind fun bt284 => (impl_Frame_unitPlaces.l2 k l1 y271 bt284.1 bt284.2 0 a0_0 a0_1 a0_2 a0_3 l0_4)))
def impl_Frame_unitPlaces.T3 : Bool × List (List Nat × List Nat) := (true, [([], []), ([], []), ([1], [1]), ([2], [2]), ([0, 3], [0, 3]), ([4], [4]), ([5], [5]), ([5], [5]), ([6, 4, 0, 1, 2, 3, 4, 5, 6], [6]), ([7, 8, 0, 1, 2, 3, 4, 5, 6, 7, 8], [7])])
def impl_Frame_unitPlaces.B3 : List Nat := [0, 0, 2, 6, 15, 31, 63, 63, 127, 511]
theorem impl_Frame_unitPlaces.tab3 : rtab .any (opsOf Try.f70 3) = impl_Frame_unitPlaces.T3 := by kernel_rfl
theorem impl_Frame_unitPlaces.bits3 : waitsOk impl_Frame_unitPlaces.T3.2 impl_Frame_unitPlaces.B3 = true := by kernel_rfl
def impl_Frame_unitPlaces.T25 : Bool × List (List Nat × List Nat) := (true, [([], []), ([0], [0]), ([], []), ([1, 2], [1, 2]), ([3], [3]), ([4], [4]), ([], []), ([6], [6]), ([], []), ([7, 8], [7, 8]), ([9], [9]), ([10], [10]), ([5, 0, 1, 2, 3, 4, 5], [5]), ([11, 12, 0, 1, 2, 3, 4, 5, 6, 7, 8, 9, 10, 11, 12], [11])])
def impl_Frame_unitPlaces.B25 : List Nat := [0, 1, 0, 7, 15, 31, 0, 64, 0, 448, 960, 1984, 63, 8191]
theorem impl_Frame_unitPlaces.tab25 : rtab .any (opsOf Try.f70 25) = impl_Frame_unitPlaces.T25 := by kernel_rfl
theorem impl_Frame_unitPlaces.bits25 : waitsOk impl_Frame_unitPlaces.T25.2 impl_Frame_unitPlaces.B25 = true := by kernel_rfl
set_option maxHeartbeats 8000000 in
set_option maxRecDepth 100000 in
theorem impl_Frame_unitPlaces.calls (k : Nat) (a0_0 : Int) (a0_1 : Int) (a0_2 : Int) (a0_3 : Int) (A0_4 : Option Addr) (c0_4 : Nat) (l0_4 : List (S66)) (A1 : Option Addr) (c1 : Nat) (l1 : List Int) (r : List (List (S60))) (w : World) (hr0_4 : Kd.C k66 w A0_4 l0_4.length l0_4) (hc0_4 : l0_4.length ≤ c0_4) (hr1 : Kd.C (Kd.int .i64) w A1 l1.length l1) (hc1 : l1.length ≤ c1) (h : impl_Frame_unitPlaces.f k a0_0 a0_1 a0_2 a0_3 l0_4 l1 = some r) :
  Calls Try.prog 70 #[.agg #[.int .i64 a0_0, .int .i64 a0_1, .int .i64 a0_2, .int .i64 a0_3, .slice A0_4 l0_4.length c0_4], .slice A1 l1.length c1] w fun e w' => ∃ v0_ : Value, e = .returned (v0_) ∧ Kd.S (Kd.slice 60 k60) 50 w' w.heap.size (fun _ => True) v0_ r ∧ Below w.heap.size w w' := by
 have hu29 := Try.underlying29
 have hu60 := Try.underlying60
 have HR0_4 := Aside0.mk hr0_4
 have HC0_4 := Aside0.mk hc0_4
 clear hr0_4 hc0_4
 have HR1 := Aside0.mk hr1
 have HC1 := Aside0.mk hc1
 clear hr1 hc1
 have HB := Aside0.mk (Below.refl w.heap.size w)
 have H : ((some (([] : List (List (S60))) : List (List (S60)))).bind fun y271 => (if (l1.length : Int) = 1 then (if 0 < (l1.length : Int) then ((impl_Frame_needed.f k a0_0 a0_1 a0_2 a0_3 l0_4 (rd l1 0)).bind fun bt275 => (impl_Frame_unitPlaces.l0 k l1 y271 bt275.1 bt275.2 0)) else (none)) else ((impl_Frame_units.f k a0_0 a0_1 a0_2 a0_3 l0_4).bind fun bt284 => (impl_Frame_unitPlaces.l2 k l1 y271 bt284.1 bt284.2 0 a0_0 a0_1 a0_2 a0_3 l0_4)))) = some r := h
 clear h
 obtain ⟨y271, hy271⟩ : ∃ y_ : List (List (S60)), y_ = (([] : List (List (S60)))) := ⟨_, rfl⟩
 replace H : (if (l1.length : Int) = 1 then (if 0 < (l1.length : Int) then ((impl_Frame_needed.f k a0_0 a0_1 a0_2 a0_3 l0_4 (rd l1 0)).bind fun bt275 => (impl_Frame_unitPlaces.l0 k l1 y271 bt275.1 bt275.2 0)) else (none)) else ((impl_Frame_units.f k a0_0 a0_1 a0_2 a0_3 l0_4).bind fun bt284 => (impl_Frame_unitPlaces.l2 k l1 y271 bt284.1 bt284.2 0 a0_0 a0_1 a0_2 a0_3 l0_4))) = some r := by first | (rw [hy271]; with_reducible exact H) | (have H2_ := (Option.bind_some _ _).symm.trans H; rw [hy271]; with_reducible exact H2_) | (have H2_ := (Option.bind_some _ _).symm.trans H; with_reducible exact H2_) | with_reducible exact H | (rw [hy271]; exact H) | exact H
 have Ny271 := Aside0.mk hy271
 clear hy271
 by_cases c3 : (l1.length : Int) = 1
 ·rw [if_pos c3] at H
  have c3b0 : ((l1.length : Int) == 1) = true := beq_iff_eq.mpr c3
  have c3b1 : ((l1.length : Int) != 1) = false := bne_eq_false_iff_eq.mpr c3
  clear c3
  by_cases c4 : 0 < (l1.length : Int)
  ·rw [if_pos c4] at H
   have c4b0 : decide (0 < (l1.length : Int)) = true := decide_eq_true c4
   have c4b1 : decide (0 < l1.length) = true := decide_eq_true (by omega)
   clear c4
   replace H := Option.bind_eq_some_iff.mp H
   obtain ⟨⟨t275, t276⟩, A50, H⟩ := H
   replace H : (impl_Frame_unitPlaces.l0 k l1 y271 t275 t276 0) = some r := H
   have A5 := Aside0.mk A50
   clear A50
   have H' := Aside0.mk H
   clear H
   go_enter Try.func70, Try.ntmps70
   try go_wp2_with (first | ((with_reducible refine gate_dst (N := 2) rfl ?_); refine box_event ?hg (N := 2) ?hd (cs := #[.int .i64 a0_0, .int .i64 a0_1, .int .i64 a0_2, .int .i64 a0_3, .slice A0_4 l0_4.length c0_4]) (t := 29) ?hr ?_; (case hd => rfl); (case hg => rfl); (case hr => first | (go_simp; done) | (go_simp; rfl)); intro gb270 hg w6 hbox hb; have n0_ := Aside0.mk (below_step (zB HB.out) hb); have n1_ := Aside0.mk (hbox); have n2_ := Aside0.mk (gE hg HB.out); have n3_ := Aside0.mk (gE hg HB.out); clear HB; have HB := n0_; have BK270 := n1_; have GW270 := n2_; have GE270 := n3_; clear n0_ n1_ n2_ n3_; clear hb hbox hg) | ((with_reducible refine gate_dst (N := 21) rfl ?_); refine Kd.S_lit (Kd.slice 60 k60) _ 50 ?hg (N := 21) ?hd (xs := ([] : List (List (S60)))) (inner := []) (ok := fun _ => True) (okp := fun _ => True) ?hr ?hp (fun _ hk => hk) trivial (Below.refl _ _) (Nat.le_refl _) (by simp) ?_; (case hd => rfl); (case hg => rfl); (case hr => first | (go_simp; done) | (go_simp; rfl)); (case hp => exact (Reps.none _ _)); intro v272 w7 ho8 hb hg_ hnew_; clear hg_ hnew_; (first | rw [← Ny271.out] at ho8 | (simp only [Int.reduceToNat] at ho8; rw [← Ny271.out] at ho8)); have n0_ := Aside0.mk (Kd.S_lower ho8 (below_size (zS HB.out GE270.out))); have n1_ := Aside0.mk (kB BK270.out hb); have n2_ := Aside0.mk (below_step (zS HB.out GE270.out) hb); clear BK270; clear HB; have HO273 := n0_; have BK270 := n1_; have HB := n2_; clear n0_ n1_ n2_; clear hb ho8))
   have n0_ := Aside0.mk (Kd.S_drew HO273.out)
   have n1_ := Aside0.mk (blk_drew BK270.out)
   have n2_ := Aside0.mk (below_drew1 HB.out)
   clear HO273
   clear BK270
   clear HB
   have HO273 := n0_
   have BK270 := n1_
   have HB := n2_
   clear n0_ n1_ n2_
   have p274 : 0 ≤ (0 : Int) := (by omega)
   have q274 : 0 < (l1.length : Int) := dT
   obtain ⟨ad274, e274, hx274_0⟩ := Kd.at_int HR1.out 0 p274 q274
   have hw274_0 := hx274_0
   (try rw [show ((0 : Int)).toNat = 0 from rfl] at hw274_0)
   (try rw [show 0 * 1 = 0 from rfl] at hw274_0)
   (try rw [Addr.add_zero'] at hw274_0)
   cases e274
   have qi274 : (0 < l1.length) = True := eq_true (by omega)
   (try rw [show ((0 : Int)).toNat = 0 from rfl] at hx274_0)
   (try rw [Addr.add_zero'] at hx274_0)
   replace hx274_0 := cB HB.out hx274_0
   replace p274 := eq_true p274
   replace q274 := eq_true q274
   refine start_ (n := 10) (S := fun w' => w'.cell? ⟨gb270, 0, none⟩ = some (.int .i64 a0_0) ∧ w'.cell? ⟨gb270, 1, none⟩ = some (.int .i64 a0_1) ∧ w'.cell? ⟨gb270, 2, none⟩ = some (.int .i64 a0_2) ∧ w'.cell? ⟨gb270, 3, none⟩ = some (.int .i64 a0_3) ∧ w'.cell? ⟨gb270, 4, none⟩ = some (.slice A0_4 l0_4.length c0_4) ∧ w'.cell? ad274 = some (.int .i64 (rd l1 0))) (ds := []) (Array.replicate 10 false) (by kernel_rfl) rfl rfl ⟨(blk_cell BK270.out 0).trans rfl, (blk_cell BK270.out 1).trans rfl, (blk_cell BK270.out 2).trans rfl, (blk_cell BK270.out 3).trans rfl, (blk_cell BK270.out 4).trans rfl, (cB HB.out hw274_0)⟩ (fun hHeld => ?_); refine with_tabW impl_Frame_unitPlaces.tab3 impl_Frame_unitPlaces.bits3 (fun HT_ HW_ => ?_)
   generalize w7.drew = w9 at HO273 BK270 HB hx274_0 hHeld ⊢
   refine sV 1 27 (lbn 10 2) HT_.out ?_
   refine sV 2 28 (lbn 10 6) HT_.out ?_
   refine sT 0 26 (lbn 10 7) HT_.out HW_.out hHeld ?_
   refine sT 3 29 (lbn 10 15) HT_.out HW_.out hHeld ?_
   refine one_ (i := 4) (N := some 30) #[true, true, true, true, true, false, false, false, false, false] rfl rfl (one_of HT_.out (by kernel_rfl)) (by decide) (fun K hK => ?_)
   refine goes_ Try.func69 (by kernel_rfl) rfl #[.agg #[.int .i64 a0_0, .int .i64 a0_1, .int .i64 a0_2, .int .i64 a0_3, .slice A0_4 l0_4.length c0_4], .int .i64 (rd l1 0)] (by rfl) rfl rfl zM ?_
   with_reducible refine (impl_Frame_needed.calls k a0_0 a0_1 a0_2 a0_3 _ _ l0_4 (rd l1 0) t275 t276 _ ?side1 ?side2 A5.out).mono ?_
   (case side1 => repeat (first | exact (Kd.C_below HR0_4.out HB.out) | (with_reducible refine Kd.C_alloc ?_ _) | (with_reducible refine Kd.C_drewN ?_ _) | (with_reducible refine Kd.C_drew ?_)))
   (case side2 => exact HC0_4.out)
   rintro e w10 ⟨rfl, hb⟩
   refine ⟨_, rfl, ?_⟩
   have n0_ := Aside0.mk (Kd.S_below (zQ HO273.out) hb)
   have n1_ := Aside0.mk (kB BK270.out hb)
   have n2_ := Aside0.mk (below_step (zS HB.out GE270.out) hb)
   clear HO273
   clear BK270
   clear HB
   have HO273 := n0_
   have BK270 := n1_
   have HB := n2_
   clear n0_ n1_ n2_
   refine hK.out _ _ ⟨(blk_cell BK270.out 0).trans rfl, (blk_cell BK270.out 1).trans rfl, (blk_cell BK270.out 2).trans rfl, (blk_cell BK270.out 3).trans rfl, (blk_cell BK270.out 4).trans rfl, (cB HB.out hw274_0)⟩ (fun hHeld => ?_)
   clear hK K
   refine norm_ (a' := ?_) ?_ ?_
   rotate_left
   ·show Act.put _ (some 30) _ = _
    simp only [Act.put, List.setIfInBounds_toArray, List.set_cons_zero, List.set_cons_succ, i64_w, i32_w]
    rfl
   refine sV 5 25 (lbn 10 63) HT_.out ?_
   refine sV 6 31 (lbn 10 127) HT_.out ?_
   refine sV 7 32 (lbn 10 255) HT_.out ?_
   refine sV 8 6 (lbn 10 511) HT_.out ?_
   refine sV 9 7 (lbn 10 1023) HT_.out ?_
   refine done_ (done_of HT_.out (by kernel_rfl)) ?_
   try go_wp2
   go_loopg [5, 34] k (fun kq v5 v34 w' => ∃ (x5_1 : List (List (S60))) (x34_1 : Int), v34 = .int .i64 x34_1 ∧ Aside0 (impl_Frame_unitPlaces.l0 kq l1 x5_1 t275 t276 x34_1 = some r) ∧ Aside0 (kq ≤ k) ∧ Aside0 (Kd.S (Kd.slice 60 k60) 50 w' w.heap.size (fun _ => True) v5 x5_1) ∧ Aside0 (w'.heap[gb270]? = some (.cells #[.int .i64 a0_0, .int .i64 a0_1, .int .i64 a0_2, .int .i64 a0_3, (.slice A0_4 l0_4.length c0_4)] 29 (0, 0))) ∧ Aside0 (Below w.heap.size w w'))
   case atStart => exact ⟨(y271), (0), (by first | rfl | (simp; done) | (simp [*]; done)), H', ⟨Nat.le_refl _⟩, ⟨zQ HO273.out⟩, ⟨zK BK270.out⟩, ⟨zS HB.out GE270.out⟩⟩
   case round =>
    clear H'
    obtain ⟨x5_1, x34_1, rfl, HA, HK1, HO_5, BK270, HB⟩ := hrel
    cases gk with
    | zero => exact absurd HA.out (by simp [impl_Frame_unitPlaces.l0])
    | succ k1 =>
     have H := HA.out
     clear HA
     simp only [impl_Frame_unitPlaces.l0] at H
     by_cases c11 : x34_1 < t276
     ·rw [if_pos c11] at H
      have c11b0 : decide (x34_1 < t276) = true := decide_eq_true c11
      clear c11
      have H' := Aside0.mk H
      clear H
      go_wp2
      go_loopg [5, 38] k1 (fun kq v5 v38 w' => ∃ (x5_2 : List (List (S60))) (x38_2 : Int), v38 = .int .i64 x38_2 ∧ Aside0 (impl_Frame_unitPlaces.l1 kq l1 x5_2 t275 x34_1 t276 x34_1 t275 x38_2 = some r) ∧ Aside0 (kq ≤ k1) ∧ Aside0 (Kd.S (Kd.slice 60 k60) 50 w' w.heap.size (fun _ => True) v5 x5_2) ∧ Aside0 (w'.heap[gb270]? = some (.cells #[.int .i64 a0_0, .int .i64 a0_1, .int .i64 a0_2, .int .i64 a0_3, (.slice A0_4 l0_4.length c0_4)] 29 (0, 0))) ∧ Aside0 (Below w.heap.size w w'))
      case atStart => exact ⟨(x5_1), (0), (by first | rfl | (simp; done) | (simp [*]; done)), H', ⟨Nat.le_refl _⟩, ⟨zQ HO_5.out⟩, ⟨zK BK270.out⟩, ⟨zS HB.out GE270.out⟩⟩
      case round =>
       clear H'
       obtain ⟨x5_2, x38_2, rfl, HA, HK2, HO_5, BK270, HB⟩ := hrel
       cases gk with
       | zero => exact absurd HA.out (by simp [impl_Frame_unitPlaces.l1])
       | succ k2 =>
        have H := HA.out
        clear HA
        simp only [impl_Frame_unitPlaces.l1] at H
        by_cases c12 : x38_2 < t275
        ·rw [if_pos c12] at H
         have c12b0 : decide (x38_2 < t275) = true := decide_eq_true c12
         clear c12
         by_cases c13 : 0 < (l1.length : Int)
         ·rw [if_pos c13] at H
          have c13b0 : decide (0 < (l1.length : Int)) = true := decide_eq_true c13
          have c13b1 : decide (0 < l1.length) = true := decide_eq_true (by omega)
          clear c13
          obtain ⟨y278, hy278⟩ : ∃ y_ : List (S60), y_ = (([(⟨rd l1 0, x34_1, x38_2⟩ : S60)] : List (S60))) := ⟨_, rfl⟩
          replace H : (if x5_2.length < 5864062014805 then (impl_Frame_unitPlaces.l1 k2 l1 (x5_2 ++ [y278]) t275 x34_1 t276 x34_1 t275 (wrap64 (x38_2 + 1))) else (none)) = some r := by first | (rw [hy278]; with_reducible exact H) | (have H2_ := (Option.bind_some _ _).symm.trans H; rw [hy278]; with_reducible exact H2_) | (have H2_ := (Option.bind_some _ _).symm.trans H; with_reducible exact H2_) | with_reducible exact H | (rw [hy278]; exact H) | exact H
          have Ny278 := Aside0.mk hy278
          clear hy278
          by_cases c14 : x5_2.length < 5864062014805
          ·rw [if_pos c14] at H
           have LMc14 := Aside0.mk c14
           clear c14
           obtain ⟨y281, hy281⟩ : ∃ y_ : List (List (S60)), y_ = (x5_2 ++ [y278]) := ⟨_, rfl⟩
           replace H : (impl_Frame_unitPlaces.l1 k2 l1 y281 t275 x34_1 t276 x34_1 t275 (wrap64 (x38_2 + 1))) = some r := by first | (rw [hy281]; with_reducible exact H) | (have H2_ := (Option.bind_some _ _).symm.trans H; rw [hy281]; with_reducible exact H2_) | (have H2_ := (Option.bind_some _ _).symm.trans H; with_reducible exact H2_) | with_reducible exact H | (rw [hy281]; exact H) | exact H
           have Ny281 := Aside0.mk hy281
           clear hy281
           have H' := Aside0.mk H
           clear H
           have p277 : 0 ≤ (0 : Int) := (by omega)
           have q277 : 0 < (l1.length : Int) := dT
           obtain ⟨ad277, e277, hx277_0⟩ := Kd.at_int HR1.out 0 p277 q277
           obtain rfl : ad274 = ad277 := (by injection e277)
           have qi277 : (0 < l1.length) = True := eq_true (by omega)
           (try rw [show ((0 : Int)).toNat = 0 from rfl] at hx277_0)
           (try rw [Addr.add_zero'] at hx277_0)
           replace hx277_0 := cB HB.out hx277_0
           replace p277 := eq_true p277
           replace q277 := eq_true q277
           go_wp2_with (first | ((with_reducible refine gate_dst (N := 48) rfl ?_); refine Kd.R_lit k60 _ 60 ?hg (N := 48) ?hd (xs := ([(⟨rd l1 0, x34_1, x38_2⟩ : S60)] : List (S60))) (inner := [.int .i64 (rd l1 0), .int .i64 x34_1, .int .i64 x38_2]) (ok := fun _ => True) (okp := fun _ => True) ?hr ?hp (fun _ hk => hk) trivial (Below.refl _ _) (Nat.le_refl _) (by simp) ?_; (case hd => rfl); (case hg => rfl); (case hr => first | (go_simp; done) | (go_simp; rfl)); (case hp => exact (Reps.c3 (show Kd.M k60 _ _ _ (⟨rd l1 0, x34_1, x38_2⟩ : S60) [.int .i64 (rd l1 0), .int .i64 x34_1, .int .i64 x38_2] from (k60_mkM _ _ _ (⟨rd l1 0, x34_1, x38_2⟩ : S60) )) (Reps.none _ _))); intro v279 w15 ho16 hb hg_ hnew_; clear hg_ hnew_; (first | rw [← Ny278.out] at ho16 | (simp only [Int.reduceToNat] at ho16; rw [← Ny278.out] at ho16)); have n0_ := Aside0.mk (Kd.S_elder' (zQ HO_5.out) (Kd.R_base ho16) hb); have n1_ := Aside0.mk (Kd.R_lower ho16 (below_size (zS HB.out GE270.out))); have n2_ := Aside0.mk (kB BK270.out hb); have n3_ := Aside0.mk (below_step (zS HB.out GE270.out) hb); clear HO_5; clear BK270; clear HB; have HO_5 := n0_; have HO280 := n1_; have BK270 := n2_; have HB := n3_; clear n0_ n1_ n2_ n3_; clear hb ho16; obtain ⟨Ao18, co18, eo18⟩ := Kd.R_slice HO280.out; subst eo18) | ((with_reducible refine gate_builtin (b := .append) (xs := #[.tmp 41, .tmp 49]) rfl ?_); at_builtin; refine Kd.S_append (Kd.slice 60 k60) (w0 := w) w.heap.size rfl (.tmp 41) (.tmp 49) 76 50 (.slice none 0 0) 24 rfl Try.underlying76 info50 rfl (by decide) (by omega) u5 x5_2 y278 [.slice Ao18 y278.length co18] (fun _ => True) (fun k_ => some k_ = (.slice Ao18 y278.length co18 : Value).ownBlock) rfl rfl ?aP (fun k_ hk_ => ((Kd.R_mono (ok' := fun k_ => ((fun _ => True)) k_ ∧ some k_ ≠ (u5 : Value).ownBlock) (Kd.R_apart' (HO280.out) (Kd.S_typed HO_5.out) (by decide)) (fun k_ hk => ⟨trivial, hk.2⟩))).1 k_ hk_.symm) ?aF ?aO ?aB ?aS ?aL ?_; (case aP => exact Kd.M_row (Kd.R_mono (Kd.R_tight rfl (Kd.R_mono (ok' := fun k_ => ((fun _ => True)) k_ ∧ some k_ ≠ (u5 : Value).ownBlock) (Kd.R_apart' (HO280.out) (Kd.S_typed HO_5.out) (by decide)) (fun k_ hk => ⟨trivial, hk.2⟩))) (fun _ h_ => h_))); (case aB => exact (zS HB.out GE270.out)); (case aF => exact (fun _ _ => trivial)); (case aO => exact (by (with_reducible repeat (first | apply Kd.S_alloc | apply Kd.S_drewN | apply Kd.S_drew)); exact Kd.S_mono HO_5.out (fun k_ hk => ⟨trivial, fun e_ => hk.2 e_⟩))); (case aS => exact (below_size (zS HB.out GE270.out))); (case aL => have := LMc14.out; omega); intro v282 w17 ho hb hg hat; rw [← Ny281.out] at ho; have n0_ := Aside0.mk (kG BK270.out hg (Kd.S_ne HO_5.out BK270.out (by decide))); have n1_ := Aside0.mk (hb); have n2_ := Aside0.mk (ho); clear BK270; clear HB; clear HO_5; clear HO280; have BK270 := n0_; have HB := n1_; have HO283 := n2_; clear n0_ n1_ n2_; clear ho hb hg hat))
           go_roundg k2
           case measure => have := HK1.out; have := HK2.out; omega
           case rel => exact ⟨(y281), (wrap64 (x38_2 + 1)), (by first | rfl | (simp; done) | (simp [*]; done)), H', ⟨by have := HK1.out; have := HK2.out; omega⟩, ⟨zQ HO283.out⟩, ⟨zK BK270.out⟩, ⟨zS HB.out GE270.out⟩⟩
          ·rw [if_neg c14] at H
           exact absurd H (by simp)
         ·rw [if_neg c13] at H
          exact absurd H (by simp)
        ·rw [if_neg c12] at H
         have c12b0 : decide (x38_2 < t275) = false := decide_eq_false c12
         clear c12
         have H' := Aside0.mk H
         clear H
         go_wp2
         go_roundg k2
         case measure => have := HK1.out; have := HK2.out; omega
         case rel => exact ⟨(x5_2), (wrap64 (x34_1 + 1)), (by first | rfl | (simp; done) | (simp [*]; done)), H', ⟨by have := HK1.out; have := HK2.out; omega⟩, ⟨zQ HO_5.out⟩, ⟨zK BK270.out⟩, ⟨zS HB.out GE270.out⟩⟩
     ·rw [if_neg c11] at H
      have c11b0 : decide (x34_1 < t276) = false := decide_eq_false c11
      clear c11
      obtain rfl := Option.some.inj H
      go_wp2
      go_ret
      exact ⟨_, by first | rfl | (simp [errW_none, errW_some] <;> rfl) | (simp [*, errW_none, errW_some] <;> rfl), zQ HO_5.out, zS HB.out GE270.out⟩
  ·rw [if_neg c4] at H
   exact absurd H (by simp)
 ·rw [if_neg c3] at H
  have c3b0 : ((l1.length : Int) == 1) = false := beq_eq_false_iff_ne.mpr c3
  have c3b1 : ((l1.length : Int) != 1) = true := bne_iff_ne.mpr c3
  replace H := Option.bind_eq_some_iff.mp H
  obtain ⟨⟨t284, t285⟩, A190, H⟩ := H
  replace H : (impl_Frame_unitPlaces.l2 k l1 y271 t284 t285 0 a0_0 a0_1 a0_2 a0_3 l0_4) = some r := H
  have A19 := Aside0.mk A190
  clear A190
  have H' := Aside0.mk H
  clear H
  go_enter Try.func70, Try.ntmps70
  go_wp2_with (first | ((with_reducible refine gate_dst (N := 2) rfl ?_); refine box_event ?hg (N := 2) ?hd (cs := #[.int .i64 a0_0, .int .i64 a0_1, .int .i64 a0_2, .int .i64 a0_3, .slice A0_4 l0_4.length c0_4]) (t := 29) ?hr ?_; (case hd => rfl); (case hg => rfl); (case hr => first | (go_simp; done) | (go_simp; rfl)); intro gb270 hg w20 hbox hb; have n0_ := Aside0.mk (below_step (zB HB.out) hb); have n1_ := Aside0.mk (hbox); have n2_ := Aside0.mk (gE hg HB.out); have n3_ := Aside0.mk (gE hg HB.out); clear HB; have HB := n0_; have BK270 := n1_; have GW270 := n2_; have GE270 := n3_; clear n0_ n1_ n2_ n3_; clear hb hbox hg) | ((with_reducible refine gate_dst (N := 21) rfl ?_); refine Kd.S_lit (Kd.slice 60 k60) _ 50 ?hg (N := 21) ?hd (xs := ([] : List (List (S60)))) (inner := []) (ok := fun _ => True) (okp := fun _ => True) ?hr ?hp (fun _ hk => hk) trivial (Below.refl _ _) (Nat.le_refl _) (by simp) ?_; (case hd => rfl); (case hg => rfl); (case hr => first | (go_simp; done) | (go_simp; rfl)); (case hp => exact (Reps.none _ _)); intro v272 w21 ho22 hb hg_ hnew_; clear hg_ hnew_; (first | rw [← Ny271.out] at ho22 | (simp only [Int.reduceToNat] at ho22; rw [← Ny271.out] at ho22)); have n0_ := Aside0.mk (Kd.S_lower ho22 (below_size (zS HB.out GE270.out))); have n1_ := Aside0.mk (kB BK270.out hb); have n2_ := Aside0.mk (below_step (zS HB.out GE270.out) hb); clear BK270; clear HB; have HO273 := n0_; have BK270 := n1_; have HB := n2_; clear n0_ n1_ n2_; clear hb ho22; obtain ⟨hcz23_0, hcz23_1, hcz23_2, hcz23_3, hcz23_4, hfz23_0, hfz23_1, hfz23_2, hfz23_3, hfz23_4⟩ := bf5 BK270.out) | ((with_reducible refine gate_callee (f := 68) rfl ?_); refine goesL_ (some 56) rfl rfl Try.func68 (by kernel_rfl) rfl #[.agg #[.int .i64 a0_0, .int .i64 a0_1, .int .i64 a0_2, .int .i64 a0_3, .slice A0_4 l0_4.length c0_4]] rfl zM ?_; (with_reducible refine (impl_Frame_units.calls k a0_0 a0_1 a0_2 a0_3 _ _ l0_4 t284 t285 _ ?side1 ?side2 A19.out).mono ?_); (case side1 => repeat (first | exact (Kd.C_below HR0_4.out HB.out) | (with_reducible refine Kd.C_alloc ?_ _) | (with_reducible refine Kd.C_drewN ?_ _) | (with_reducible refine Kd.C_drew ?_))); (case side2 => exact HC0_4.out); rintro e w24 ⟨rfl, hb⟩; refine ⟨_, rfl, ?_⟩; have n0_ := Aside0.mk (Kd.S_below (zQ HO273.out) hb); have n1_ := Aside0.mk (kB BK270.out hb); have n2_ := Aside0.mk (below_step (zS HB.out GE270.out) hb); clear HO273; clear BK270; clear HB; have HO273 := n0_; have BK270 := n1_; have HB := n2_; clear n0_ n1_ n2_; try clear hb))
  go_loopg [5, 60] k (fun kq v5 v60 w' => ∃ (x5_1 : List (List (S60))) (x60_1 : Int), v60 = .int .i64 x60_1 ∧ Aside0 (impl_Frame_unitPlaces.l2 kq l1 x5_1 t284 t285 x60_1 a0_0 a0_1 a0_2 a0_3 l0_4 = some r) ∧ Aside0 (kq ≤ k) ∧ Aside0 (Kd.S (Kd.slice 60 k60) 50 w' w.heap.size (fun _ => True) v5 x5_1) ∧ Aside0 (w'.heap[gb270]? = some (.cells #[.int .i64 a0_0, .int .i64 a0_1, .int .i64 a0_2, .int .i64 a0_3, (.slice A0_4 l0_4.length c0_4)] 29 (0, 0))) ∧ Aside0 (Below w.heap.size w w'))
  case atStart => exact ⟨(y271), (0), (by first | rfl | (simp; done) | (simp [*]; done)), H', ⟨Nat.le_refl _⟩, ⟨zQ HO273.out⟩, ⟨zK BK270.out⟩, ⟨zS HB.out GE270.out⟩⟩
  case round =>
   clear H'
   obtain ⟨x5_1, x60_1, rfl, HA, HK1, HO_5, BK270, HB⟩ := hrel
   cases gk with
   | zero => exact absurd HA.out (by simp [impl_Frame_unitPlaces.l2])
   | succ k1 =>
    have H := HA.out
    clear HA
    simp only [impl_Frame_unitPlaces.l2] at H
    by_cases c25 : x60_1 < t285
    ·rw [if_pos c25] at H
     have c25b0 : decide (x60_1 < t285) = true := decide_eq_true c25
     clear c25
     have H' := Aside0.mk H
     clear H
     go_wp2
     go_loopg [5, 64] k1 (fun kq v5 v64 w' => ∃ (x5_2 : List (List (S60))) (x64_2 : Int), v64 = .int .i64 x64_2 ∧ Aside0 (impl_Frame_unitPlaces.l3 kq l1 x5_2 t284 x60_1 t285 x60_1 t284 x64_2 a0_0 a0_1 a0_2 a0_3 l0_4 = some r) ∧ Aside0 (kq ≤ k1) ∧ Aside0 (Kd.S (Kd.slice 60 k60) 50 w' w.heap.size (fun _ => True) v5 x5_2) ∧ Aside0 (w'.heap[gb270]? = some (.cells #[.int .i64 a0_0, .int .i64 a0_1, .int .i64 a0_2, .int .i64 a0_3, (.slice A0_4 l0_4.length c0_4)] 29 (0, 0))) ∧ Aside0 (Below w.heap.size w w'))
     case atStart => exact ⟨(x5_1), (0), (by first | rfl | (simp; done) | (simp [*]; done)), H', ⟨Nat.le_refl _⟩, ⟨zQ HO_5.out⟩, ⟨zK BK270.out⟩, ⟨zS HB.out GE270.out⟩⟩
     case round =>
      clear H'
      obtain ⟨x5_2, x64_2, rfl, HA, HK2, HO_5, BK270, HB⟩ := hrel
      cases gk with
      | zero => exact absurd HA.out (by simp [impl_Frame_unitPlaces.l3])
      | succ k2 =>
       have H := HA.out
       clear HA
       simp only [impl_Frame_unitPlaces.l3] at H
       by_cases c26 : x64_2 < t284
       ·rw [if_pos c26] at H
        have c26b0 : decide (x64_2 < t284) = true := decide_eq_true c26
        clear c26
        obtain ⟨y286, hy286⟩ : ∃ y_ : List (S60), y_ = (([] : List (S60))) := ⟨_, rfl⟩
        replace H : (impl_Frame_unitPlaces.l4 k2 l1 x5_2 t284 x60_1 x64_2 y286 t285 x60_1 t284 x64_2 l1 (l1.length : Int) 0 a0_0 a0_1 a0_2 a0_3 l0_4) = some r := by first | (rw [hy286]; with_reducible exact H) | (have H2_ := (Option.bind_some _ _).symm.trans H; rw [hy286]; with_reducible exact H2_) | (have H2_ := (Option.bind_some _ _).symm.trans H; with_reducible exact H2_) | with_reducible exact H | (rw [hy286]; exact H) | exact H
        have Ny286 := Aside0.mk hy286
        clear hy286
        have H' := Aside0.mk H
        clear H
        go_wp2_with (first | ((with_reducible refine gate_dst (N := 67) rfl ?_); refine Kd.R_lit k60 _ 60 ?hg (N := 67) ?hd (xs := ([] : List (S60))) (inner := []) (ok := fun _ => True) (okp := fun _ => True) ?hr ?hp (fun _ hk => hk) trivial (Below.refl _ _) (Nat.le_refl _) (by simp) ?_; (case hd => rfl); (case hg => rfl); (case hr => first | (go_simp; done) | (go_simp; rfl)); (case hp => exact (Reps.none _ _)); intro v287 w27 ho28 hb hg_ hnew_; clear hg_ hnew_; (first | rw [← Ny286.out] at ho28 | (simp only [Int.reduceToNat] at ho28; rw [← Ny286.out] at ho28)); have n0_ := Aside0.mk (Kd.S_elder' (zQ HO_5.out) (Kd.R_base ho28) hb); have n1_ := Aside0.mk (Kd.R_lower ho28 (below_size (zS HB.out GE270.out))); have n2_ := Aside0.mk (kB BK270.out hb); have n3_ := Aside0.mk (below_step (zS HB.out GE270.out) hb); clear HO_5; clear BK270; clear HB; have HO_5 := n0_; have HO288 := n1_; have BK270 := n2_; have HB := n3_; clear n0_ n1_ n2_ n3_; clear hb ho28))
        go_loopg [14, 70] k2 (fun kq v14 v70 w' => ∃ (x14_3 : List (S60)) (x70_3 : Int), v70 = .int .i64 x70_3 ∧ Aside0 (impl_Frame_unitPlaces.l4 kq l1 x5_2 t284 x60_1 x64_2 x14_3 t285 x60_1 t284 x64_2 l1 (l1.length : Int) x70_3 a0_0 a0_1 a0_2 a0_3 l0_4 = some r) ∧ Aside0 (kq ≤ k2) ∧ Aside0 (Kd.S (Kd.slice 60 k60) 50 w' w.heap.size (fun k_ => some k_ ≠ (v14 : Value).ownBlock) u5 x5_2) ∧ Aside0 (Kd.R k60 60 w' w.heap.size (fun _ => True) v14 x14_3) ∧ Aside0 (w'.heap[gb270]? = some (.cells #[.int .i64 a0_0, .int .i64 a0_1, .int .i64 a0_2, .int .i64 a0_3, (.slice A0_4 l0_4.length c0_4)] 29 (0, 0))) ∧ Aside0 (Below w.heap.size w w'))
        case atStart => exact ⟨(y286), (0), (by first | rfl | (simp; done) | (simp [*]; done)), H', ⟨Nat.le_refl _⟩, ⟨by (with_reducible repeat (first | apply Kd.S_alloc | apply Kd.S_drewN | apply Kd.S_drew)); exact Kd.S_mono HO_5.out (fun _ hk => hk.2)⟩, ⟨zR HO288.out⟩, ⟨zK BK270.out⟩, ⟨zS HB.out GE270.out⟩⟩
        case round =>
         clear H'
         obtain ⟨x14_3, x70_3, rfl, HA, HK3, HO_5, HO_14, BK270, HB⟩ := hrel
         cases gk with
         | zero => exact absurd HA.out (by simp [impl_Frame_unitPlaces.l4])
         | succ k3 =>
          have H := HA.out
          clear HA
          simp only [impl_Frame_unitPlaces.l4] at H
          by_cases c29 : x70_3 < (l1.length : Int)
          ·rw [if_pos c29] at H
           have c29b0 : decide (x70_3 < (l1.length : Int)) = true := decide_eq_true c29
           clear c29
           by_cases c30 : 0 ≤ x70_3
           ·rw [if_pos c30] at H
            have c30b0 : decide (0 ≤ x70_3) = true := decide_eq_true c30
            clear c30
            by_cases c31 : x70_3 < (l1.length : Int)
            ·rw [if_pos c31] at H
             have c31b0 : decide (x70_3 < (l1.length : Int)) = true := decide_eq_true c31
             clear c31
             by_cases c32 : 0 ≤ (rd l1 x70_3)
             ·rw [if_pos c32] at H
              have c32b0 : decide (0 ≤ (rd l1 x70_3)) = true := decide_eq_true c32
              clear c32
              by_cases c33 : (rd l1 x70_3) < (l0_4.length : Int)
              ·rw [if_pos c33] at H
               have c33b0 : decide ((rd l1 x70_3) < (l0_4.length : Int)) = true := decide_eq_true c33
               clear c33
               have H' := Aside0.mk H
               clear H
               have p292 : 0 ≤ (x70_3 : Int) := dT
               have q292 : x70_3 < (l1.length : Int) := dT
               obtain ⟨ad292, e292, hx292_0⟩ := Kd.at_int HR1.out x70_3 p292 q292
               cases e292
               replace hx292_0 := cB HB.out hx292_0
               replace p292 := eq_true p292
               replace q292 := eq_true q292
               try go_wp2
               have n0_ := Aside0.mk (Kd.S_drew HO_5.out)
               have n1_ := Aside0.mk (Kd.R_drew HO_14.out)
               have n2_ := Aside0.mk (blk_drew BK270.out)
               have n3_ := Aside0.mk (below_drew1 HB.out)
               clear HO_5
               clear HO_14
               clear BK270
               clear HB
               have HO_5 := n0_
               have HO_14 := n1_
               have BK270 := n2_
               have HB := n3_
               clear n0_ n1_ n2_ n3_
               have p293 : 0 ≤ ((rd l1 x70_3) : Int) := dT
               have q293 : (rd l1 x70_3) < (l0_4.length : Int) := dT
               obtain ⟨ad293, e293, hx293_0, hx293_1, hx293_2, hx293_3⟩ := at_T66 HR0_4.out (rd l1 x70_3) p293 q293
               have hw293_3 := hx293_3
               have hw293_2 := hx293_2
               have hw293_1 := hx293_1
               have hw293_0 := hx293_0
               cases e293
               replace hx293_0 := cB HB.out hx293_0
               replace hx293_1 := cB HB.out hx293_1
               replace hx293_2 := cB HB.out hx293_2
               replace hx293_3 := cB HB.out hx293_3
               replace p293 := eq_true p293
               replace q293 := eq_true q293
               have p294 : 0 ≤ ((rd l1 x70_3) : Int) := dT
               have q294 : (rd l1 x70_3) < (l0_4.length : Int) := dT
               obtain ⟨ad294, e294, hx294_0, hx294_1, hx294_2, hx294_3⟩ := at_T66 HR0_4.out (rd l1 x70_3) p294 q294
               have hw294_3 := hx294_3
               have hw294_2 := hx294_2
               have hw294_1 := hx294_1
               have hw294_0 := hx294_0
               obtain rfl : ad293 = ad294 := (by injection e294)
               replace hx294_0 := cB HB.out hx294_0
               replace hx294_1 := cB HB.out hx294_1
               replace hx294_2 := cB HB.out hx294_2
               replace hx294_3 := cB HB.out hx294_3
               replace p294 := eq_true p294
               replace q294 := eq_true q294
               refine start_ (n := 14) (S := fun w' => w'.cell? ⟨gb270, 0, none⟩ = some (.int .i64 a0_0) ∧ w'.cell? ⟨gb270, 1, none⟩ = some (.int .i64 a0_1) ∧ w'.cell? ⟨gb270, 2, none⟩ = some (.int .i64 a0_2) ∧ w'.cell? ⟨gb270, 3, none⟩ = some (.int .i64 a0_3) ∧ w'.cell? ⟨gb270, 4, none⟩ = some (.slice (some ad293) l0_4.length c0_4) ∧ w'.cell? (ad293.add (((rd l1 x70_3)).toNat * 4)) = some (.int .i64 ((rd_T66 l0_4 (rd l1 x70_3)).f0)) ∧ w'.cell? ⟨(ad293.add (((rd l1 x70_3)).toNat * 4)).block, (ad293.add (((rd l1 x70_3)).toNat * 4)).off + 1, none⟩ = some (.int .i64 ((rd_T66 l0_4 (rd l1 x70_3)).f1)) ∧ w'.cell? ⟨(ad293.add (((rd l1 x70_3)).toNat * 4)).block, (ad293.add (((rd l1 x70_3)).toNat * 4)).off + 2, none⟩ = some (.int .i64 ((rd_T66 l0_4 (rd l1 x70_3)).f2)) ∧ w'.cell? ⟨(ad293.add (((rd l1 x70_3)).toNat * 4)).block, (ad293.add (((rd l1 x70_3)).toNat * 4)).off + 3, none⟩ = some (.int .i64 ((rd_T66 l0_4 (rd l1 x70_3)).f3)) ∧ w'.cell? (ad293.add (((rd l1 x70_3)).toNat * 4)) = some (.int .i64 ((rd_T66 l0_4 (rd l1 x70_3)).f0)) ∧ w'.cell? ⟨(ad293.add (((rd l1 x70_3)).toNat * 4)).block, (ad293.add (((rd l1 x70_3)).toNat * 4)).off + 1, none⟩ = some (.int .i64 ((rd_T66 l0_4 (rd l1 x70_3)).f1)) ∧ w'.cell? ⟨(ad293.add (((rd l1 x70_3)).toNat * 4)).block, (ad293.add (((rd l1 x70_3)).toNat * 4)).off + 2, none⟩ = some (.int .i64 ((rd_T66 l0_4 (rd l1 x70_3)).f2)) ∧ w'.cell? ⟨(ad293.add (((rd l1 x70_3)).toNat * 4)).block, (ad293.add (((rd l1 x70_3)).toNat * 4)).off + 3, none⟩ = some (.int .i64 ((rd_T66 l0_4 (rd l1 x70_3)).f3))) (ds := []) (Array.replicate 14 false) (by kernel_rfl) rfl rfl ⟨(blk_cell BK270.out 0).trans rfl, (blk_cell BK270.out 1).trans rfl, (blk_cell BK270.out 2).trans rfl, (blk_cell BK270.out 3).trans rfl, (blk_cell BK270.out 4).trans rfl, (cB HB.out hw293_0), (cB HB.out hw293_1), (cB HB.out hw293_2), (cB HB.out hw293_3), (cB HB.out hw294_0), (cB HB.out hw294_1), (cB HB.out hw294_2), (cB HB.out hw294_3)⟩ (fun hHeld => ?_); refine with_tabW impl_Frame_unitPlaces.tab25 impl_Frame_unitPlaces.bits25 (fun HT_ HW_ => ?_)
               generalize wr.drew = w34 at HO_5 HO_14 BK270 HB hx293_0 hx293_1 hx293_2 hx293_3 hx294_0 hx294_1 hx294_2 hx294_3 hHeld ⊢
               refine sV 0 74 (lbn 14 1) HT_.out ?_
               refine sV 2 76 (lbn 14 5) HT_.out ?_
               refine sV 6 80 (lbn 14 69) HT_.out ?_
               refine sV 8 82 (lbn 14 325) HT_.out ?_
               refine sT 1 75 (lbn 14 327) HT_.out HW_.out hHeld ?_
               refine sV 3 77 (lbn 14 335) HT_.out ?_
               refine sV 4 78 (lbn 14 351) HT_.out ?_
               refine sT 5 79 (lbn 14 383) HT_.out HW_.out hHeld ?_
               refine sV 12 17 (lbn 14 4479) HT_.out ?_
               refine sT 7 81 (lbn 14 4607) HT_.out HW_.out hHeld ?_
               refine sV 9 83 (lbn 14 5119) HT_.out ?_
               refine sV 10 84 (lbn 14 6143) HT_.out ?_
               refine sT 11 85 (lbn 14 8191) HT_.out HW_.out hHeld ?_
               refine sV 13 18 (lbn 14 16383) HT_.out ?_
               refine done_ (done_of HT_.out (by kernel_rfl)) ?_
               try go_wp2
               go_loopg [14, 87] k3 (fun kq v14 v87 w' => ∃ (x14_4 : List (S60)) (x87_4 : Int), v87 = .int .i64 x87_4 ∧ Aside0 (impl_Frame_unitPlaces.l5 kq l1 x5_2 t284 x60_1 x64_2 x14_4 (rd l1 x70_3) ((rd_T66 l0_4 (rd l1 x70_3)).f1) ((rd_T66 l0_4 (rd l1 x70_3)).f2) t285 x60_1 t284 x64_2 l1 (l1.length : Int) x70_3 ((rd_T66 l0_4 (rd l1 x70_3)).f2) x87_4 a0_0 a0_1 a0_2 a0_3 l0_4 = some r) ∧ Aside0 (kq ≤ k3) ∧ Aside0 (Kd.S (Kd.slice 60 k60) 50 w' w.heap.size (fun k_ => some k_ ≠ (v14 : Value).ownBlock) u5 x5_2) ∧ Aside0 (Kd.R k60 60 w' w.heap.size (fun _ => True) v14 x14_4) ∧ Aside0 (w'.heap[gb270]? = some (.cells #[.int .i64 a0_0, .int .i64 a0_1, .int .i64 a0_2, .int .i64 a0_3, (.slice (some ad293) l0_4.length c0_4)] 29 (0, 0))) ∧ Aside0 (Below w.heap.size w w'))
               case atStart => exact ⟨(x14_3), (0), (by first | rfl | (simp; done) | (simp [*]; done)), H', ⟨Nat.le_refl _⟩, ⟨zQ HO_5.out⟩, ⟨zR HO_14.out⟩, ⟨zK BK270.out⟩, ⟨zS HB.out GE270.out⟩⟩
               case round =>
                clear H'
                obtain ⟨x14_4, x87_4, rfl, HA, HK4, HO_5, HO_14, BK270, HB⟩ := hrel
                cases gk with
                | zero => exact absurd HA.out (by simp [impl_Frame_unitPlaces.l5])
                | succ k4 =>
                 have H := HA.out
                 clear HA
                 simp only [impl_Frame_unitPlaces.l5] at H
                 by_cases c35 : x87_4 < ((rd_T66 l0_4 (rd l1 x70_3)).f2)
                 ·rw [if_pos c35] at H
                  have c35b0 : decide (x87_4 < ((rd_T66 l0_4 (rd l1 x70_3)).f2)) = true := decide_eq_true c35
                  clear c35
                  have H' := Aside0.mk H
                  clear H
                  go_wp2
                  go_loopg [14, 91] k4 (fun kq v14 v91 w' => ∃ (x14_5 : List (S60)) (x91_5 : Int), v91 = .int .i64 x91_5 ∧ Aside0 (impl_Frame_unitPlaces.l6 kq l1 x5_2 t284 x60_1 x64_2 x14_5 (rd l1 x70_3) ((rd_T66 l0_4 (rd l1 x70_3)).f1) ((rd_T66 l0_4 (rd l1 x70_3)).f2) x87_4 t285 x60_1 t284 x64_2 l1 (l1.length : Int) x70_3 ((rd_T66 l0_4 (rd l1 x70_3)).f2) x87_4 ((rd_T66 l0_4 (rd l1 x70_3)).f1) x91_5 a0_0 a0_1 a0_2 a0_3 l0_4 = some r) ∧ Aside0 (kq ≤ k4) ∧ Aside0 (Kd.S (Kd.slice 60 k60) 50 w' w.heap.size (fun k_ => some k_ ≠ (v14 : Value).ownBlock) u5 x5_2) ∧ Aside0 (Kd.R k60 60 w' w.heap.size (fun _ => True) v14 x14_5) ∧ Aside0 (w'.heap[gb270]? = some (.cells #[.int .i64 a0_0, .int .i64 a0_1, .int .i64 a0_2, .int .i64 a0_3, (.slice (some ad293) l0_4.length c0_4)] 29 (0, 0))) ∧ Aside0 (Below w.heap.size w w'))
                  case atStart => exact ⟨(x14_4), (0), (by first | rfl | (simp; done) | (simp [*]; done)), H', ⟨Nat.le_refl _⟩, ⟨zQ HO_5.out⟩, ⟨zR HO_14.out⟩, ⟨zK BK270.out⟩, ⟨zS HB.out GE270.out⟩⟩
                  case round =>
                   clear H'
                   obtain ⟨x14_5, x91_5, rfl, HA, HK5, HO_5, HO_14, BK270, HB⟩ := hrel
                   cases gk with
                   | zero => exact absurd HA.out (by simp [impl_Frame_unitPlaces.l6])
                   | succ k5 =>
                    have H := HA.out
                    clear HA
                    simp only [impl_Frame_unitPlaces.l6] at H
                    by_cases c36 : x91_5 < ((rd_T66 l0_4 (rd l1 x70_3)).f1)
                    ·rw [if_pos c36] at H
                     have c36b0 : decide (x91_5 < ((rd_T66 l0_4 (rd l1 x70_3)).f1)) = true := decide_eq_true c36
                     clear c36
                     by_cases c37 : x14_5.length < 5864062014805
                     ·rw [if_pos c37] at H
                      have LMc37 := Aside0.mk c37
                      clear c37
                      obtain ⟨y295, hy295⟩ : ∃ y_ : List (S60), y_ = (x14_5 ++ [(⟨(rd l1 x70_3), wrap64 ((wrap64 (x60_1 * ((rd_T66 l0_4 (rd l1 x70_3)).f2))) + x87_4), wrap64 ((wrap64 (x64_2 * ((rd_T66 l0_4 (rd l1 x70_3)).f1))) + x91_5)⟩ : S60)]) := ⟨_, rfl⟩
                      replace H : (impl_Frame_unitPlaces.l6 k5 l1 x5_2 t284 x60_1 x64_2 y295 (rd l1 x70_3) ((rd_T66 l0_4 (rd l1 x70_3)).f1) ((rd_T66 l0_4 (rd l1 x70_3)).f2) x87_4 t285 x60_1 t284 x64_2 l1 (l1.length : Int) x70_3 ((rd_T66 l0_4 (rd l1 x70_3)).f2) x87_4 ((rd_T66 l0_4 (rd l1 x70_3)).f1) (wrap64 (x91_5 + 1)) a0_0 a0_1 a0_2 a0_3 l0_4) = some r := by first | (rw [hy295]; with_reducible exact H) | (have H2_ := (Option.bind_some _ _).symm.trans H; rw [hy295]; with_reducible exact H2_) | (have H2_ := (Option.bind_some _ _).symm.trans H; with_reducible exact H2_) | with_reducible exact H | (rw [hy295]; exact H) | exact H
                      have Ny295 := Aside0.mk hy295
                      clear hy295
                      have H' := Aside0.mk H
                      clear H
                      go_wp2_with (first | ((with_reducible refine gate_builtin (b := .append) (xs := #[.tmp 94, .tmp 107]) rfl ?_); at_builtin; refine Kd.R_append k60 (w0 := w) w.heap.size rfl (.tmp 94) (.tmp 107) 50 60 (.agg #[(.int .i64 0), (.int .i64 0), (.int .i64 0)]) 24 rfl Try.underlying50 info60 rfl (by decide) (by omega) u14 x14_5 (⟨(rd l1 x70_3), wrap64 ((wrap64 (x60_1 * ((rd_T66 l0_4 (rd l1 x70_3)).f2))) + x87_4), wrap64 ((wrap64 (x64_2 * ((rd_T66 l0_4 (rd l1 x70_3)).f1))) + x91_5)⟩ : S60) [.int .i64 (rd l1 x70_3), .int .i64 (wrap64 ((wrap64 (x60_1 * ((rd_T66 l0_4 (rd l1 x70_3)).f2))) + x87_4)), .int .i64 (wrap64 ((wrap64 (x64_2 * ((rd_T66 l0_4 (rd l1 x70_3)).f1))) + x91_5))] (fun _ => True) (fun _ => False) rfl rfl ?aP (fun _ hk => hk.elim) ?aF ?aO ?aB ?aS ?aL ?_; (case aP => exact k60_mkM _ _ _ (⟨(rd l1 x70_3), wrap64 ((wrap64 (x60_1 * ((rd_T66 l0_4 (rd l1 x70_3)).f2))) + x87_4), wrap64 ((wrap64 (x64_2 * ((rd_T66 l0_4 (rd l1 x70_3)).f1))) + x91_5)⟩ : S60)); (case aB => exact (zS HB.out GE270.out)); (case aF => exact (fun _ _ => trivial)); (case aO => exact (zR HO_14.out)); (case aS => exact (below_size (zS HB.out GE270.out))); (case aL => have := LMc37.out; omega); intro v296 w38 ho hb hg hat; rw [← Ny295.out] at ho; have n0_ := Aside0.mk (Kd.S_after (ok := (fun _ => True)) (by (with_reducible repeat (first | apply Kd.S_alloc | apply Kd.S_drewN | apply Kd.S_drew)); exact Kd.S_mono HO_5.out (fun _ hk => ⟨trivial, hk⟩)) hg hat); have n1_ := Aside0.mk (kG BK270.out hg (Kd.R_ne HO_14.out BK270.out (by decide))); have n2_ := Aside0.mk (hb); have n3_ := Aside0.mk (ho); clear HO_5; clear BK270; clear HB; clear HO_14; have HO_5 := n0_; have BK270 := n1_; have HB := n2_; have HO297 := n3_; clear n0_ n1_ n2_ n3_; clear ho hb hg hat))
                      go_roundg k5
                      case measure => have := HK1.out; have := HK2.out; have := HK3.out; have := HK4.out; have := HK5.out; omega
                      case rel => exact ⟨(y295), (wrap64 (x91_5 + 1)), (by first | rfl | (simp; done) | (simp [*]; done)), H', ⟨by have := HK1.out; have := HK2.out; have := HK3.out; have := HK4.out; have := HK5.out; omega⟩, ⟨by (with_reducible repeat (first | apply Kd.S_alloc | apply Kd.S_drewN | apply Kd.S_drew)); exact Kd.S_mono HO_5.out (fun _ hk => hk.2)⟩, ⟨zR HO297.out⟩, ⟨zK BK270.out⟩, ⟨zS HB.out GE270.out⟩⟩
                     ·rw [if_neg c37] at H
                      exact absurd H (by simp)
                    ·rw [if_neg c36] at H
                     have c36b0 : decide (x91_5 < ((rd_T66 l0_4 (rd l1 x70_3)).f1)) = false := decide_eq_false c36
                     clear c36
                     have H' := Aside0.mk H
                     clear H
                     go_wp2
                     go_roundg k5
                     case measure => have := HK1.out; have := HK2.out; have := HK3.out; have := HK4.out; have := HK5.out; omega
                     case rel => exact ⟨(x14_5), (wrap64 (x87_4 + 1)), (by first | rfl | (simp; done) | (simp [*]; done)), H', ⟨by have := HK1.out; have := HK2.out; have := HK3.out; have := HK4.out; have := HK5.out; omega⟩, ⟨zQ HO_5.out⟩, ⟨zR HO_14.out⟩, ⟨zK BK270.out⟩, ⟨zS HB.out GE270.out⟩⟩
                 ·rw [if_neg c35] at H
                  have c35b0 : decide (x87_4 < ((rd_T66 l0_4 (rd l1 x70_3)).f2)) = false := decide_eq_false c35
                  clear c35
                  have H' := Aside0.mk H
                  clear H
                  go_wp2
                  go_roundg k4
                  case measure => have := HK1.out; have := HK2.out; have := HK3.out; have := HK4.out; omega
                  case rel => exact ⟨(x14_4), (wrap64 (x70_3 + 1)), (by first | rfl | (simp; done) | (simp [*]; done)), H', ⟨by have := HK1.out; have := HK2.out; have := HK3.out; have := HK4.out; omega⟩, ⟨zQ HO_5.out⟩, ⟨zR HO_14.out⟩, ⟨zK BK270.out⟩, ⟨zS HB.out GE270.out⟩⟩
              ·rw [if_neg c33] at H
               exact absurd H (by simp)
             ·rw [if_neg c32] at H
              exact absurd H (by simp)
            ·rw [if_neg c31] at H
             exact absurd H (by simp)
           ·rw [if_neg c30] at H
            exact absurd H (by simp)
          ·rw [if_neg c29] at H
           have c29b0 : decide (x70_3 < (l1.length : Int)) = false := decide_eq_false c29
           clear c29
           by_cases c39 : x5_2.length < 5864062014805
           ·rw [if_pos c39] at H
            have LMc39 := Aside0.mk c39
            clear c39
            obtain ⟨y289, hy289⟩ : ∃ y_ : List (List (S60)), y_ = (x5_2 ++ [x14_3]) := ⟨_, rfl⟩
            replace H : (impl_Frame_unitPlaces.l3 k3 l1 y289 t284 x60_1 t285 x60_1 t284 (wrap64 (x64_2 + 1)) a0_0 a0_1 a0_2 a0_3 l0_4) = some r := by first | (rw [hy289]; with_reducible exact H) | (have H2_ := (Option.bind_some _ _).symm.trans H; rw [hy289]; with_reducible exact H2_) | (have H2_ := (Option.bind_some _ _).symm.trans H; with_reducible exact H2_) | with_reducible exact H | (rw [hy289]; exact H) | exact H
            have Ny289 := Aside0.mk hy289
            clear hy289
            have H' := Aside0.mk H
            clear H
            obtain ⟨Ao41, co41, eo41⟩ := Kd.R_slice HO_14.out
            subst eo41
            go_wp2_with (first | ((with_reducible refine gate_builtin (b := .append) (xs := #[.tmp 112, .tmp 114]) rfl ?_); at_builtin; refine Kd.S_append (Kd.slice 60 k60) (w0 := w) w.heap.size rfl (.tmp 112) (.tmp 114) 76 50 (.slice none 0 0) 24 rfl Try.underlying76 info50 rfl (by decide) (by omega) u5 x5_2 x14_3 [.slice Ao41 x14_3.length co41] (fun _ => True) (fun k_ => some k_ = (.slice Ao41 x14_3.length co41 : Value).ownBlock) rfl rfl ?aP (fun k_ hk_ => ((Kd.R_mono (ok' := fun k_ => ((fun _ => True)) k_ ∧ some k_ ≠ (u5 : Value).ownBlock) (Kd.R_apart' (HO_14.out) (Kd.S_typed HO_5.out) (by decide)) (fun k_ hk => ⟨trivial, hk.2⟩))).1 k_ hk_.symm) ?aF ?aO ?aB ?aS ?aL ?_; (case aP => exact Kd.M_row (Kd.R_mono (Kd.R_tight rfl (Kd.R_mono (ok' := fun k_ => ((fun _ => True)) k_ ∧ some k_ ≠ (u5 : Value).ownBlock) (Kd.R_apart' (HO_14.out) (Kd.S_typed HO_5.out) (by decide)) (fun k_ hk => ⟨trivial, hk.2⟩))) (fun _ h_ => h_))); (case aB => exact (zS HB.out GE270.out)); (case aF => exact (fun _ _ => trivial)); (case aO => exact (by (with_reducible repeat (first | apply Kd.S_alloc | apply Kd.S_drewN | apply Kd.S_drew)); exact Kd.S_mono HO_5.out (fun k_ hk => ⟨trivial, fun e_ => hk e_⟩))); (case aS => exact (below_size (zS HB.out GE270.out))); (case aL => have := LMc39.out; omega); intro v290 w40 ho hb hg hat; rw [← Ny289.out] at ho; have n0_ := Aside0.mk (kG BK270.out hg (Kd.S_ne HO_5.out BK270.out (by decide))); have n1_ := Aside0.mk (hb); have n2_ := Aside0.mk (ho); clear BK270; clear HB; clear HO_5; clear HO_14; have BK270 := n0_; have HB := n1_; have HO291 := n2_; clear n0_ n1_ n2_; clear ho hb hg hat))
            go_roundg k3
            case measure => have := HK1.out; have := HK2.out; have := HK3.out; omega
            case rel => exact ⟨(y289), (wrap64 (x64_2 + 1)), (by first | rfl | (simp; done) | (simp [*]; done)), H', ⟨by have := HK1.out; have := HK2.out; have := HK3.out; omega⟩, ⟨zQ HO291.out⟩, ⟨zK BK270.out⟩, ⟨zS HB.out GE270.out⟩⟩
           ·rw [if_neg c39] at H
            exact absurd H (by simp)
       ·rw [if_neg c26] at H
        have c26b0 : decide (x64_2 < t284) = false := decide_eq_false c26
        clear c26
        have H' := Aside0.mk H
        clear H
        go_wp2
        go_roundg k2
        case measure => have := HK1.out; have := HK2.out; omega
        case rel => exact ⟨(x5_2), (wrap64 (x60_1 + 1)), (by first | rfl | (simp; done) | (simp [*]; done)), H', ⟨by have := HK1.out; have := HK2.out; omega⟩, ⟨zQ HO_5.out⟩, ⟨zK BK270.out⟩, ⟨zS HB.out GE270.out⟩⟩
    ·rw [if_neg c25] at H
     have c25b0 : decide (x60_1 < t285) = false := decide_eq_false c25
     clear c25
     obtain rfl := Option.some.inj H
     go_wp2
     go_ret
     exact ⟨_, by first | rfl | (simp [errW_none, errW_some] <;> rfl) | (simp [*, errW_none, errW_some] <;> rfl), zQ HO_5.out, zS HB.out GE270.out⟩

end Go.Proofs.Ytbhfimbikooccaa.PFnPlaces
