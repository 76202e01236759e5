-- Written by a program of this session.
import Derived.Test.YtbhfimbikooccaaPFnPlacesx0
namespace Go.Proofs.Ytbhfimbikooccaa.PFnPlaces
open Go.RowKit Go.Proofs.YtbhfimbikooccaaW.PrintWords Go.Proofs.YtbhfimbikooccaaW.PrintLast Go.Proofs.YtbhfimbikooccaaW.PrintMore
attribute [local go_sem] max2_int min2_int max_two min_two max_three min_three max_four min_four   -- for this text's walks alone
set_option linter.unusedVariables false
set_option linter.unusedSimpArgs false

/-! ### impl_within: function 53 -/
def impl_within.f (a0 : Int) (a1 : Int) (a2 : Int) : Option (Bool) := if a0 ≥ a1 then (some (decide (a0 ≤ a2))) else (some false)
set_option maxHeartbeats 8000000 in
set_option maxRecDepth 100000 in
theorem impl_within.calls (a0 : Int) (a1 : Int) (a2 : Int) (r : Bool) (w : World) (h : impl_within.f a0 a1 a2 = some r) :
    Calls Try.prog 53 #[.int .i64 a0, .int .i64 a1, .int .i64 a2] w fun e w' => e = .returned (.bool r) ∧ Drawn0 w w' := by
  have H : (if a0 ≥ a1 then (some (decide (a0 ≤ a2))) else (some false)) = some r := h
  clear h
  by_cases c4 : a0 ≥ a1
  · rw [if_pos c4] at H
    have c4b0 : decide (a1 ≤ a0) = true := decide_eq_true c4
    clear c4
    obtain rfl := Option.some.inj H
    go_enter Try.func53, Try.ntmps53
    go_wp2
    go_ret
    exact ⟨by first | rfl | (simp; done) | (simp [*]; done), by repeat (first | exact Drawn0.refl _ | apply Drawn0.step)⟩
  · rw [if_neg c4] at H
    have c4b0 : decide (a1 ≤ a0) = false := decide_eq_false c4
    clear c4
    obtain rfl := Option.some.inj H
    go_enter Try.func53, Try.ntmps53
    go_wp2
    go_ret
    exact ⟨by first | rfl | (simp; done) | (simp [*]; done), by repeat (first | exact Drawn0.refl _ | apply Drawn0.step)⟩

-- NOT PRINTED: function 82 (impl_Comp_82)

/-! ### slices_Has54: function 54 -/
def slices_Has54.f (l0 : List (S66)) (a1 : Int) : Option (Bool) := some (l0.any fun x => x.f0 == a1)
set_option maxHeartbeats 1000000 in
set_option maxRecDepth 100000 in
theorem frameClosure (x0 x1 x2 x3 id : Int) (b : Nat) (w : World) (hb : w.cell? ⟨b, 0, none⟩ = some (.int .i64 id)) :
    Calls Try.prog 55 #[.agg #[.int .i64 x0, .int .i64 x1, .int .i64 x2, .int .i64 x3], .pointer (some ⟨b, 0, none⟩)] w fun e w' => e = .returned (.bool (x0 == id)) ∧ Below w.heap.size w w' := by
  have hlt := World.block_lt_of_cell? w _ hb
  have hb2 : (w.alloc (.cells #[.int .i64 x0, .int .i64 x1, .int .i64 x2, .int .i64 x3] 66)).cell? ⟨b, 0, none⟩ = some (.int .i64 id) := by
    rw [World.cell?_alloc_past _ _ _ hlt]; exact hb
  go_enter Try.func55, Try.ntmps55
  go_wp2
  go_ret
  exact ⟨rfl, by repeat (first | exact Below.refl _ _ | apply below_drew1 | apply below_alloc | apply pw_below_drewN)⟩
set_option maxHeartbeats 2000000 in
set_option maxRecDepth 100000 in
theorem frameIndex (A0 : Option Addr) (c0 : Nat) (l0 : List (S66)) (id : Int) (b : Nat) (w : World) (hr0 : Kd.C k66 w A0 l0.length l0) (hc0 : l0.length ≤ c0) (hb : w.cell? ⟨b, 0, none⟩ = some (.int .i64 id)) :
    Calls Try.prog 82 #[.slice A0 l0.length c0, .func (.func 55) #[] #[.pointer (some ⟨b, 0, none⟩)]] w fun e w' => ∃ j : Int, e = .returned (.int .i64 j) ∧ decide (0 ≤ j) = (l0.any fun x => x.f0 == id) ∧ Below w.heap.size w w' := by
  have hlen : l0.length ≤ 9223372036854775807 := hr0.2.1
  have HR0 := Aside0.mk hr0
  have HBX := Aside0.mk hb
  clear hr0 hb
  go_enter Try.func82, Try.ntmps82
  go_wp2
  go_loopw [8] (fun i wr => ∃ x8 : Int, i = .int .i64 x8 ∧ Aside0 (0 ≤ x8 ∧ x8 ≤ (l0.length : Int)) ∧ Aside0 ((l0.take x8.toNat).any (fun x => x.f0 == id) = false) ∧ Aside0 (Below w.heap.size w wr)) (fun i _ => l0.length - (intOf i).toNat)
  case atStart => exact ⟨0, rfl, ⟨by omega⟩, ⟨by simp⟩, ⟨Below.refl _ _⟩⟩
  case round =>
    obtain ⟨x8, rfl, HX, HA, HB⟩ := hrel
    by_cases hlt : x8 < (l0.length : Int)
    · have p8 : 0 ≤ x8 := HX.out.1
      obtain ⟨ad, e, h0, h1, h2, h3⟩ := at_T66 HR0.out x8 p8 hlt
      cases e
      replace h0 := cB HB.out h0
      replace h1 := cB HB.out h1
      replace h2 := cB HB.out h2
      replace h3 := cB HB.out h3
      have hbx := Aside0.mk ((HB.out.cell (World.block_lt_of_cell? w _ HBX.out)).trans HBX.out)
      have c8 : decide (x8 < (l0.length : Int)) = true := decide_eq_true hlt
      have q8 := eq_true hlt
      clear hlt
      replace p8 := eq_true p8
      go_wp2_with (go_at_call 55; (with_reducible refine (frameClosure _ _ _ _ id b _ ?side1).mono ?_); (case side1 => exact hbx.out); rintro e w' ⟨rfl, hb⟩)
      · have hx : ((rd_T66 l0 x8).f0 == id) = true := by assumption
        go_ret
        have hp : 0 ≤ x8 := of_eq_true p8
        have hq : x8 < (l0.length : Int) := of_eq_true q8
        refine ⟨x8, rfl, ?_, below_then HB.out HB.out.size hb⟩
        rw [decide_eq_true hp, eq_comm, List.any_eq_true]
        refine ⟨rd_T66 l0 x8, ?_, hx⟩
        have hl : x8.toNat < l0.length := by omega
        unfold rd_T66
        rw [List.getD_eq_getElem?_getD, List.getElem?_eq_getElem hl]
        exact List.getElem_mem hl
      · have hx : ((rd_T66 l0 x8).f0 == id) = false := by assumption
        have hp : 0 ≤ x8 := of_eq_true p8
        have hq : x8 < (l0.length : Int) := of_eq_true q8
        have hw : wrap64 (x8 + 1) = x8 + 1 := by unfold wrap64; omega
        rw [hw]
        refine ⟨⟨x8 + 1, rfl, ⟨by omega⟩, ⟨?_⟩, ⟨below_then HB.out HB.out.size hb⟩⟩, by simp [intOf]; omega⟩
        have hl : x8.toNat < l0.length := by omega
        rw [show (x8 + 1).toNat = x8.toNat + 1 by omega, List.take_succ_eq_append_getElem hl, List.any_append, HA.out, Bool.false_or]
        unfold rd_T66 at hx
        rw [List.getD_eq_getElem?_getD, List.getElem?_eq_getElem hl] at hx
        simpa using hx
    · have he : x8 = (l0.length : Int) := by have := HX.out; omega
      have c8 : decide (x8 < (l0.length : Int)) = false := decide_eq_false hlt
      have hlt' := Aside0.mk hlt
      have he' := Aside0.mk he
      clear hlt he
      go_wp2_with (fail)
      go_ret
      refine ⟨-1, rfl, ?_, HB.out⟩
      have ha := HA.out
      rw [he'.out, Int.toNat_natCast, List.take_length] at ha
      rw [ha]; decide
set_option maxHeartbeats 1000000 in
set_option maxRecDepth 100000 in
theorem slices_Has54.calls (A0 : Option Addr) (c0 : Nat) (l0 : List (S66)) (a1 : Int) (r : Bool) (w : World) (hr0 : Kd.C k66 w A0 l0.length l0) (hc0 : l0.length ≤ c0) {b : Nat} (hb : w.cell? ⟨b, 0, none⟩ = some (.int .i64 a1)) (h : slices_Has54.f l0 a1 = some r) :
    Calls Try.prog 54 #[.slice A0 l0.length c0, .func (.func 55) #[] #[.pointer (some ⟨b, 0, none⟩)]] w fun e w' => e = .returned (.bool r) ∧ Below w.heap.size w w' := by
  obtain rfl := Option.some.inj h
  go_enter Try.func54, Try.ntmps54
  go_wp2_with (go_at_call 82; (with_reducible refine (frameIndex A0 c0 l0 a1 b _ ?side1 hc0 ?side2).mono ?_); (case side1 => exact hr0); (case side2 => exact hb); rintro e w' ⟨j, rfl, hj, hbel⟩)
  go_ret
  exact ⟨rfl, hbel⟩

end Go.Proofs.Ytbhfimbikooccaa.PFnPlaces
