-- Written by a program of this session.
import Derived.Test.YtbhfimbikooccaaPFnPlacesx0
import Derived.Test.YtbhfimbikooccaaPFnPlacesx12
namespace Go.Proofs.Ytbhfimbikooccaa.PFnPlaces
open Go.RowKit Go.Proofs.YtbhfimbikooccaaW.PrintWords Go.Proofs.YtbhfimbikooccaaW.PrintLast Go.Proofs.YtbhfimbikooccaaW.PrintMore
attribute [local go_sem] max2_int min2_int max_two min_two max_three min_three max_four min_four   -- for this text's walks alone
set_option linter.unusedVariables false
set_option linter.unusedSimpArgs false

/-! ### spec_l03DrawFrame: function 89 -/
def lb (n : Nat) : Array Bool := ((List.range 19).map fun i => n / 2 ^ i % 2 == 1).toArray
def CellF (W : World) (g : Nat) (a : Addr) (v : Value) : Prop := W.cell? a = some v ∧ a.block ≠ g
structure RgS (w0 w W : World) (g gb : Nat) (s0 : List Int) (a s : Int) : Prop where
 hI : IsS94 w0 W g s0 a s
 hB : Below w0.heap.size w0 W
 hK : KeepBut w W g none
 hb : W.heap[gb]? = some (.cells #[.int .i64 0, .int .i64 0, .int .i64 0, .int .i64 0, .slice none 0 0] 29 (0, 0))
 hn : gb ≠ g
structure BoxF (w0 w W : World) (g gb gc : Nat) : Prop where
 h : W.heap[gc]? = some (.cells #[.int .i64 0, .int .i64 0, .int .i64 0, .int .i64 0, .slice none 0 0] 29 (0, 0))
 hw : w.heap.size ≤ gc
 hw0 : w0.heap.size ≤ gc
 n1 : gc ≠ g
 n2 : gb ≠ gc
section
variable {w0 w W W1 : World} {g gb gc : Nat} {s0 : List Int} {a s a1 s1 : Int} {p : Addr} {v : Value}
theorem RgS.alloc (h : RgS w0 w W g gb s0 a s) (o : Obj) : RgS w0 w (W.alloc o) g gb s0 a s := ⟨h.hI.alloc o, below_alloc h.hB o, keep_alloc h.hK o, blk_alloc h.hb o, h.hn⟩
theorem RgS.pick (h : RgS w0 w W g gb s0 a s) (hi : IsS94 w0 W1 g s0 a1 s1) (hb : Below w0.heap.size w0 W1) (hk : KeepBut W W1 g none) : RgS w0 w W1 g gb s0 a1 s1 := ⟨hi, hb, KeepBut.trans h.hK hk (.inl rfl), KeepBut.blk hk h.hb h.hn (by simp), h.hn⟩
theorem CellF.alloc (h : CellF W g p v) (o : Obj) : CellF (W.alloc o) g p v := ⟨(World.cell?_alloc_lt _ _ _ (World.block_lt_of_cell? W p h.1)).trans h.1, h.2⟩
theorem CellF.pick (h : CellF W g p v) (hk : KeepBut W W1 g none) : CellF W1 g p v := ⟨keep_cell hk h.1 h.2, h.2⟩
theorem BoxF.alloc (h : BoxF w0 w W g gb gc) (o : Obj) : BoxF w0 w (W.alloc o) g gb gc := ⟨blk_alloc h.h o, h.hw, h.hw0, h.n1, h.n2⟩
theorem BoxF.pick (h : BoxF w0 w W g gb gc) (hk : KeepBut W W1 g none) : BoxF w0 w W1 g gb gc := ⟨KeepBut.blk hk h.h h.n1 (by simp), h.hw, h.hw0, h.n1, h.n2⟩
theorem BoxF.new (h : RgS w0 w W g gb s0 a s) : BoxF w0 w (W.alloc (.cells #[.int .i64 0, .int .i64 0, .int .i64 0, .int .i64 0, .slice none 0 0] 29)) g gb W.heap.size := ⟨blk_new W _, h.hK.1, h.hB.size, Nat.ne_of_gt h.hI.lt, Nat.ne_of_lt (blk_lt h.hb)⟩
theorem CellF.new3 (h : RgS w0 w W g gb s0 a s) (i : Int) (y : List Int) (hy : y = [8, 8, 12]) (h0 : 0 ≤ i) (h1 : i < (y.length : Int)) : CellF (W.alloc (.cells #[.int .i64 8, .int .i64 8, .int .i64 12] 3)) g ((⟨W.heap.size, 0, none⟩ : Addr).add i.toNat) (.int .i64 (rd y i)) := by
 subst hy
 have h2 : i < 3 := by simpa using h1
 refine ⟨?_, by rw [add_plain]; exact Nat.ne_of_gt h.hI.lt⟩
 rcases (show i = 0 ∨ i = 1 ∨ i = 2 by omega) with e | e | e <;> subst e <;> exact (World.cell?_alloc_at _ _ _ _ rfl).trans rfl
theorem CellF.new5 (h : RgS w0 w W g gb s0 a s) (i : Int) (y : List Int) (hy : y = [0, 0, 1, 2, 5]) (h0 : 0 ≤ i) (h1 : i < (y.length : Int)) : CellF (W.alloc (.cells #[.int .i64 0, .int .i64 0, .int .i64 1, .int .i64 2, .int .i64 5] 3)) g ((⟨W.heap.size, 0, none⟩ : Addr).add i.toNat) (.int .i64 (rd y i)) := by
 subst hy
 have h2 : i < 5 := by simpa using h1
 refine ⟨?_, by rw [add_plain]; exact Nat.ne_of_gt h.hI.lt⟩
 rcases (show i = 0 ∨ i = 1 ∨ i = 2 ∨ i = 3 ∨ i = 4 by omega) with e | e | e | e | e <;> subst e <;> exact (World.cell?_alloc_at _ _ _ _ rfl).trans rfl
theorem zY {P : Program} {ops : Array Oper} {oi : Oper} {v : Value} {a : Act} (h : Yields P ops oi v a := by (exact Or.inl ⟨by rfl, by (intro w'; (try simp only [Act.put, List.setIfInBounds_toArray, List.set_cons_zero, List.set_cons_succ, i64_w]); (first | (go_simp; done) | (go_simp; with_reducible rfl) | (go_simp; simp only [i64_w]; done) | (go_simp; simp only [i64_w]; rfl)))⟩)) : Yields P ops oi v a := h
theorem zA {p : Prop} (h : p := by (simp only [List.map_toArray, List.map_cons, List.map_nil]; rfl)) : p := h
theorem zG {p : Prop} (h : p := by (first | (go_simp; done) | (go_simp; rfl))) : p := h
theorem st3_ {P : Program} {Q : Exit → Act → World → Prop} {ops : Array Oper} {oi : Oper} {N : Option Tmp} {act : Act} {K : Act → World → Prop} (hw : Region.wanted oi (yielded ops act.tmps) = true) (hN : oi.dst = N) (hrun : (execOp act.eval oi).run P W = .ok (.value (.slice (some ⟨W.heap.size, 0, none⟩) 3 3)) (W.alloc (.cells #[.int .i64 8, .int .i64 8, .int .i64 12] 3)))
  (h : RgS w0 w W g gb s0 a s) (i : Int) (y : List Int) (hy : y = [8, 8, 12]) (h0 : 0 ≤ i) (h1 : i < (y.length : Int)) (hk : ∀ ad : Addr, CellF (W.alloc (.cells #[.int .i64 8, .int .i64 8, .int .i64 12] 3)) g (ad.add i.toNat) (.int .i64 (rd y i)) → K (act.put N (.slice (some ad) 3 3)) (W.alloc (.cells #[.int .i64 8, .int .i64 8, .int .i64 12] 3))) :
  if Region.wanted oi (yielded ops act.tmps) = true then Oper.wp P oi act W K Q else K (act.put N undef) W := value_ hw hN hrun (hk _ (CellF.new3 h i y hy h0 h1))
theorem st5_ {P : Program} {Q : Exit → Act → World → Prop} {ops : Array Oper} {oi : Oper} {N : Option Tmp} {act : Act} {K : Act → World → Prop} (hw : Region.wanted oi (yielded ops act.tmps) = true) (hN : oi.dst = N) (hrun : (execOp act.eval oi).run P W = .ok (.value (.slice (some ⟨W.heap.size, 0, none⟩) 5 5)) (W.alloc (.cells #[.int .i64 0, .int .i64 0, .int .i64 1, .int .i64 2, .int .i64 5] 3)))
  (h : RgS w0 w W g gb s0 a s) (i : Int) (y : List Int) (hy : y = [0, 0, 1, 2, 5]) (h0 : 0 ≤ i) (h1 : i < (y.length : Int)) (hk : ∀ ad : Addr, CellF (W.alloc (.cells #[.int .i64 0, .int .i64 0, .int .i64 1, .int .i64 2, .int .i64 5] 3)) g (ad.add i.toNat) (.int .i64 (rd y i)) → K (act.put N (.slice (some ad) 5 5)) (W.alloc (.cells #[.int .i64 0, .int .i64 0, .int .i64 1, .int .i64 2, .int .i64 5] 3))) :
  if Region.wanted oi (yielded ops act.tmps) = true then Oper.wp P oi act W K Q else K (act.put N undef) W := value_ hw hN hrun (hk _ (CellF.new5 h i y hy h0 h1))
theorem stB_ {P : Program} {Q : Exit → Act → World → Prop} {ops : Array Oper} {oi : Oper} {N : Option Tmp} {act : Act} {K : Act → World → Prop} (hw : Region.wanted oi (yielded ops act.tmps) = true) (hN : oi.dst = N) (hrun : (execOp act.eval oi).run P W = .ok (.value (.pointer (some ⟨W.heap.size, 0, none⟩))) (W.alloc (.cells #[.int .i64 0, .int .i64 0, .int .i64 0, .int .i64 0, .slice none 0 0] 29)))
  (h : RgS w0 w W g gb s0 a s) (hk : BoxF w0 w (W.alloc (.cells #[.int .i64 0, .int .i64 0, .int .i64 0, .int .i64 0, .slice none 0 0] 29)) g gb W.heap.size → K (act.put N (.pointer (some ⟨W.heap.size, 0, none⟩))) (W.alloc (.cells #[.int .i64 0, .int .i64 0, .int .i64 0, .int .i64 0, .slice none 0 0] 29))) :
  if Region.wanted oi (yielded ops act.tmps) = true then Oper.wp P oi act W K Q else K (act.put N undef) W := value_ hw hN hrun (hk (BoxF.new h))
theorem stP_ {Q : Exit → Act → World → Prop} {ops : Array Oper} {oi : Oper} {N : Option Tmp} {act : Act} {K : Act → World → Prop} {n T : Int} {oas : Array Operand} {ts : Array TypeId} (hw : Region.wanted oi (yielded ops act.tmps) = true) (hN : oi.dst = N) (hop : oi.op = .call { callee := .value (.func 90), args := oas, argTypes := ts }) (hargs : oas.map act.eval = #[.pointer (some ⟨g, 0, none⟩), .int .i64 n])
  (h : RgS w0 w W g gb s0 a s) (hf : spec_l01Cur_pick.f s0 a s n = some (T, a1, s1)) (hk : ∀ W2 : World, RgS w0 w W2 g gb s0 a1 s1 → KeepBut W W2 g none → K (act.put N (.int .i64 T)) W2) :
  if Region.wanted oi (yielded ops act.tmps) = true then Oper.wp Try.prog oi act W K Q else K (act.put N undef) W := by
 refine goes_ Try.func90 (by kernel_rfl) rfl _ hw hN hop hargs ?_
 refine (spec_l01Cur_pick.calls g s0 a s n T a1 s1 w0 _ h.hI h.hB hf).mono ?_
 rintro e w2 ⟨rfl, hi, hb, hkk⟩
 exact ⟨_, rfl, hk w2 (h.pick hi hb hkk) hkk⟩
theorem norm2_ {P : Program} {Q : Exit → Act → World → Prop} {ops : Array Oper} {md : Region.Mode} {S : World → Prop} {ds : List Nat} {fuel : Nat} {l : Array Bool} {a a' : Act} {w : World} (h : wpAnyLast P md ops Q S ds fuel l a' w) (ha : a = a' := by (first | (simp only [putAll, Act.put, List.setIfInBounds_toArray, List.set_cons_zero, List.set_cons_succ, i64_w]; done) | (simp only [putAll, Act.put, List.setIfInBounds_toArray, List.set_cons_zero, List.set_cons_succ, i64_w]; rfl))) : wpAnyLast P md ops Q S ds fuel l a w := norm_ ha h
end
def spec_l03DrawFrame.l0 : Nat → Int → Int → List Int → Int → Int → Int → Int → Int → Int → List (S66) → Option (Int × Int × Int × Int × (List (S66)) × Int × Int)
 | 0, _, _, _, _, _, _, _, _, _, _ => none
 | k + 1, x4, x5, x1000, x1001, x1002, x225000, x225001, x225002, x225003, x225004 => if x5 > 0 then ((spec_l01Cur_pick.f x1000 x1001 x1002 2).bind fun bt228 => ((spec_l01Cur_pick.f x1000 bt228.2.1 bt228.2.2 2).bind fun bt231 => ((spec_l01Cur_pick.f x1000 bt231.2.1 bt231.2.2 4).bind fun bt234 => ((spec_l01Cur_once.f x1000 bt234.2.1 bt234.2.2 12).bind fun bt238 => (if bt238.1 = true then ((spec_l01Cur_pick.f x1000 bt238.2.1 bt238.2.2 4).bind fun bt241 => (if (wrap64 (x4 + (wrap64 ((wrap64 (1 + bt241.1)) * (wrap64 (1 + bt231.1)))))) > 10 then (if x225004.length < 4398046511104 then (spec_l03DrawFrame.l0 k (wrap64 (x4 + (1 * 1))) (wrap64 (x5 - 1)) x1000 bt241.2.1 bt241.2.2 x225000 x225001 x225002 x225003 (x225004 ++ [(⟨wrap64 (10 * x5), 1, 1, bt234.1⟩ : S66)])) else (none)) else (if x225004.length < 4398046511104 then (spec_l03DrawFrame.l0 k (wrap64 (x4 + (wrap64 ((wrap64 (1 + bt241.1)) * (wrap64 (1 + bt231.1)))))) (wrap64 (x5 - 1)) x1000 bt241.2.1 bt241.2.2 x225000 x225001 x225002 x225003 (x225004 ++ [(⟨wrap64 (10 * x5), wrap64 (1 + bt241.1), wrap64 (1 + bt231.1), bt234.1⟩ : S66)])) else (none)))) else (if (wrap64 (x4 + (wrap64 ((wrap64 (1 + bt228.1)) * (wrap64 (1 + bt231.1)))))) > 10 then (if x225004.length < 4398046511104 then (spec_l03DrawFrame.l0 k (wrap64 (x4 + (1 * 1))) (wrap64 (x5 - 1)) x1000 bt238.2.1 bt238.2.2 x225000 x225001 x225002 x225003 (x225004 ++ [(⟨wrap64 (10 * x5), 1, 1, bt234.1⟩ : S66)])) else (none)) else (if x225004.length < 4398046511104 then (spec_l03DrawFrame.l0 k (wrap64 (x4 + (wrap64 ((wrap64 (1 + bt228.1)) * (wrap64 (1 + bt231.1)))))) (wrap64 (x5 - 1)) x1000 bt238.2.1 bt238.2.2 x225000 x225001 x225002 x225003 (x225004 ++ [(⟨wrap64 (10 * x5), wrap64 (1 + bt228.1), wrap64 (1 + bt231.1), bt234.1⟩ : S66)])) else (none)))))))) else (some (x225000, x225001, x225002, x225003, x225004, x1001, x1002))
def spec_l03DrawFrame.f (k : Nat) (s0_0 : List Int) (s0_1 : Int) (s0_2 : Int) : Option (Int × Int × Int × Int × (List (S66)) × Int × Int) := (some (([8, 8, 12] : List Int) : List Int)).bind fun y204 => ((spec_l01Cur_pick.f s0_0 s0_1 s0_2 3).bind fun bt207 => (if 0 ≤ bt207.1 then (if bt207.1 < (y204.length : Int) then ((spec_l01Cur_pick.f s0_0 bt207.2.1 bt207.2.2 20).bind fun bt211 => ((spec_l01Cur_pick.f s0_0 bt211.2.1 bt211.2.2 20).bind fun bt214 => ((some (([0, 0, 1, 2, 5] : List Int) : List Int)).bind fun y217 => ((spec_l01Cur_pick.f s0_0 bt214.2.1 bt214.2.2 5).bind fun bt220 => (if 0 ≤ bt220.1 then (if bt220.1 < (y217.length : Int) then ((spec_l01Cur_pick.f s0_0 bt220.2.1 bt220.2.2 4).bind fun bt225 => (spec_l03DrawFrame.l0 k 0 (wrap64 (1 + bt225.1)) s0_0 bt225.2.1 bt225.2.2 (rd y204 bt207.1) (wrap64 (1 + bt211.1)) (wrap64 (1 + bt214.1)) (rd y217 bt220.1) ([] : List (S66)))) else (none)) else (none)))))) else (none)) else (none)))
def spec_l03DrawFrame.T1 : Bool × List (List Nat × List Nat) := (true, [([], []), ([], []), ([1], [1]), ([0, 2], [0, 2]), ([3], [3]), ([], []), ([5, 2], [5]), ([6], [6]), ([], []), ([8, 6], [8]), ([9], [9]), ([], []), ([], []), ([12, 9], [12]), ([11, 13], [11, 13]), ([14], [14]), ([4, 7, 10, 15], [4, 7, 10, 15]), ([], []), ([17, 16, 13, 0, 1, 2, 3, 4, 5, 6, 7, 8, 9, 10, 11, 12, 13, 14, 15, 16, 17], [16, 17])])
def spec_l03DrawFrame.B1 : List Nat := [0, 0, 2, 7, 15, 0, 38, 102, 0, 358, 870, 0, 0, 4966, 15206, 31590, 65535, 0, 262143]
theorem spec_l03DrawFrame.tab1 : rtab .any (opsOf Try.f89 1) = spec_l03DrawFrame.T1 := by kernel_rfl
theorem spec_l03DrawFrame.bits1 : waitsOk spec_l03DrawFrame.T1.2 spec_l03DrawFrame.B1 = true := by kernel_rfl
set_option maxHeartbeats 8000000 in
set_option maxRecDepth 100000 in
theorem spec_l03DrawFrame.calls (k : Nat) (g : Nat) (s0_0 : List Int) (s0_1 : Int) (s0_2 : Int) (r1 : Int) (r2 : Int) (r3 : Int) (r4 : Int) (r5 : List (S66)) (r6 : Int) (r7 : Int) (w0 w : World) (hI : IsS94 w0 w g s0_0 s0_1 s0_2) (hB : Below w0.heap.size w0 w) (h : spec_l03DrawFrame.f k s0_0 s0_1 s0_2 = some (r1, r2, r3, r4, r5, r6, r7)) :
  Calls Try.prog 89 #[.pointer (some ⟨g, 0, none⟩)] w fun e w' => ∃ v4_ : Value, e = .returned (.agg #[.int .i64 r1, .int .i64 r2, .int .i64 r3, .int .i64 r4, v4_]) ∧ Kd.R k66 66 w' w.heap.size (fun _ => True) v4_ r5 ∧ IsS94 w0 w' g s0_0 r6 r7 ∧ Below w0.heap.size w0 w' ∧ KeepBut w w' g none := by
 have hu29 := Try.underlying29
 have hu66 := Try.underlying66
 have HI0 := Aside0.mk hI
 have HK := Aside0.mk (KeepBut.refl w g none)
 have HL := Aside0.mk hB.size
 clear hI
 have HW0 := Aside0.mk hB.size
 have HB := Aside0.mk hB
 clear hB
 have H : ((some (([8, 8, 12] : List Int) : List Int)).bind fun y204 => ((spec_l01Cur_pick.f s0_0 s0_1 s0_2 3).bind fun bt207 => (if 0 ≤ bt207.1 then (if bt207.1 < (y204.length : Int) then ((spec_l01Cur_pick.f s0_0 bt207.2.1 bt207.2.2 20).bind fun bt211 => ((spec_l01Cur_pick.f s0_0 bt211.2.1 bt211.2.2 20).bind fun bt214 => ((some (([0, 0, 1, 2, 5] : List Int) : List Int)).bind fun y217 => ((spec_l01Cur_pick.f s0_0 bt214.2.1 bt214.2.2 5).bind fun bt220 => (if 0 ≤ bt220.1 then (if bt220.1 < (y217.length : Int) then ((spec_l01Cur_pick.f s0_0 bt220.2.1 bt220.2.2 4).bind fun bt225 => (spec_l03DrawFrame.l0 k 0 (wrap64 (1 + bt225.1)) s0_0 bt225.2.1 bt225.2.2 (rd y204 bt207.1) (wrap64 (1 + bt211.1)) (wrap64 (1 + bt214.1)) (rd y217 bt220.1) ([] : List (S66)))) else (none)) else (none)))))) else (none)) else (none)))) = some (r1, r2, r3, r4, r5, r6, r7) := h
 clear h
 obtain ⟨y204, hy204⟩ : ∃ y_ : List Int, y_ = (([8, 8, 12] : List Int)) := ⟨_, rfl⟩
 replace H : ((spec_l01Cur_pick.f s0_0 s0_1 s0_2 3).bind fun bt207 => (if 0 ≤ bt207.1 then (if bt207.1 < (y204.length : Int) then ((spec_l01Cur_pick.f s0_0 bt207.2.1 bt207.2.2 20).bind fun bt211 => ((spec_l01Cur_pick.f s0_0 bt211.2.1 bt211.2.2 20).bind fun bt214 => ((some (([0, 0, 1, 2, 5] : List Int) : List Int)).bind fun y217 => ((spec_l01Cur_pick.f s0_0 bt214.2.1 bt214.2.2 5).bind fun bt220 => (if 0 ≤ bt220.1 then (if bt220.1 < (y217.length : Int) then ((spec_l01Cur_pick.f s0_0 bt220.2.1 bt220.2.2 4).bind fun bt225 => (spec_l03DrawFrame.l0 k 0 (wrap64 (1 + bt225.1)) s0_0 bt225.2.1 bt225.2.2 (rd y204 bt207.1) (wrap64 (1 + bt211.1)) (wrap64 (1 + bt214.1)) (rd y217 bt220.1) ([] : List (S66)))) else (none)) else (none)))))) else (none)) else (none))) = some (r1, r2, r3, r4, r5, r6, r7) := by first | (rw [hy204]; with_reducible exact H) | (have H2_ := (Option.bind_some _ _).symm.trans H; rw [hy204]; with_reducible exact H2_) | (have H2_ := (Option.bind_some _ _).symm.trans H; with_reducible exact H2_) | with_reducible exact H | (rw [hy204]; exact H) | exact H
 have Ny204 := Aside0.mk hy204
 clear hy204
 replace H := Option.bind_eq_some_iff.mp H
 obtain ⟨⟨t207, t208, t209⟩, A20, H⟩ := H
 (try dsimp only at H)
 have A2 := Aside0.mk A20
 clear A20
 by_cases c3 : 0 ≤ t207
 ·rw [if_pos c3] at H
  have c3b0 : decide (0 ≤ t207) = true := decide_eq_true c3
  clear c3
  by_cases c4 : t207 < (y204.length : Int)
  ·rw [if_pos c4] at H
   have c4b0 : decide (t207 < (y204.length : Int)) = true := decide_eq_true c4
   clear c4
   replace H := Option.bind_eq_some_iff.mp H
   obtain ⟨⟨t211, t212, t213⟩, A50, H⟩ := H
   (try dsimp only at H)
   have A5 := Aside0.mk A50
   clear A50
   replace H := Option.bind_eq_some_iff.mp H
   obtain ⟨⟨t214, t215, t216⟩, A60, H⟩ := H
   (try dsimp only at H)
   have A6 := Aside0.mk A60
   clear A60
   obtain ⟨y217, hy217⟩ : ∃ y_ : List Int, y_ = (([0, 0, 1, 2, 5] : List Int)) := ⟨_, rfl⟩
   replace H : ((spec_l01Cur_pick.f s0_0 t215 t216 5).bind fun bt220 => (if 0 ≤ bt220.1 then (if bt220.1 < (y217.length : Int) then ((spec_l01Cur_pick.f s0_0 bt220.2.1 bt220.2.2 4).bind fun bt225 => (spec_l03DrawFrame.l0 k 0 (wrap64 (1 + bt225.1)) s0_0 bt225.2.1 bt225.2.2 (rd y204 t207) (wrap64 (1 + t211)) (wrap64 (1 + t214)) (rd y217 bt220.1) ([] : List (S66)))) else (none)) else (none))) = some (r1, r2, r3, r4, r5, r6, r7) := by first | (rw [hy217]; with_reducible exact H) | (have H2_ := (Option.bind_some _ _).symm.trans H; rw [hy217]; with_reducible exact H2_) | (have H2_ := (Option.bind_some _ _).symm.trans H; with_reducible exact H2_) | with_reducible exact H | (rw [hy217]; exact H) | exact H
   have Ny217 := Aside0.mk hy217
   clear hy217
   replace H := Option.bind_eq_some_iff.mp H
   obtain ⟨⟨t220, t221, t222⟩, A70, H⟩ := H
   (try dsimp only at H)
   have A7 := Aside0.mk A70
   clear A70
   by_cases c8 : 0 ≤ t220
   ·rw [if_pos c8] at H
    have c8b0 : decide (0 ≤ t220) = true := decide_eq_true c8
    clear c8
    by_cases c9 : t220 < (y217.length : Int)
    ·rw [if_pos c9] at H
     have c9b0 : decide (t220 < (y217.length : Int)) = true := decide_eq_true c9
     clear c9
     replace H := Option.bind_eq_some_iff.mp H
     obtain ⟨⟨t225, t226, t227⟩, A100, H⟩ := H
     replace H : (spec_l03DrawFrame.l0 k 0 (wrap64 (1 + t225)) s0_0 t226 t227 (rd y204 t207) (wrap64 (1 + t211)) (wrap64 (1 + t214)) (rd y217 t220) ([] : List (S66))) = some (r1, r2, r3, r4, r5, r6, r7) := H
     have A10 := Aside0.mk A100
     clear A100
     have H' := Aside0.mk H
     clear H
     go_enter Try.func89, Try.ntmps89
     try go_wp2_with (first | ((with_reducible refine gate_dst (N := 2) rfl ?_); refine box_event ?hg (N := 2) ?hd (cs := #[.int .i64 0, .int .i64 0, .int .i64 0, .int .i64 0, .slice none 0 0]) (t := 29) ?hr ?_; (case hd => rfl); (case hg => rfl); (case hr => first | (go_simp; done) | (go_simp; rfl)); intro gb203 hg w11 hbox hb; have n0_ := Aside0.mk (IsS94.below (zq8 HI0.out) hb); have n1_ := Aside0.mk (KeepBut.trans (zq9 HK.out) (KeepBut.of_below hb g none) (.inl rfl)); have n2_ := Aside0.mk (below_step (zq11 HB.out (IsS94.ge HI0.out)) hb); have n3_ := Aside0.mk (hbox); have n4_ := Aside0.mk ((by rw [hg]; exact (keep_size (w := w) (g := g) (row := none) (zq9 HK.out)) : w.heap.size ≤ gb203)); have n5_ := Aside0.mk ((Nat.le_trans HW0.out (by rw [hg]; exact (keep_size (w := w) (g := g) (row := none) (zq9 HK.out)) : w.heap.size ≤ gb203) : w0.heap.size ≤ gb203)); have n6_ := Aside0.mk ((by rw [hg]; exact Nat.ne_of_lt (IsS94.lt (show IsS94 w0 _ g s0_0 s0_1 s0_2 from zq8 HI0.out)) : g ≠ gb203)); have n7_ := Aside0.mk ((by rw [hg]; exact Nat.ne_of_gt (IsS94.lt (show IsS94 w0 _ g s0_0 s0_1 s0_2 from zq8 HI0.out)) : gb203 ≠ g)); clear HI0; clear HK; clear HB; have HI0 := n0_; have HK := n1_; have HB := n2_; have BK203 := n3_; have GW203 := n4_; have GE203 := n5_; have NB0_203 := n6_; have NB203_0 := n7_; clear n0_ n1_ n2_ n3_ n4_ n5_ n6_ n7_; clear hb hbox hg))
     have pi210 : (0 ≤ (t207 : Int)) = True := eq_true (dT)
     have qi210 : (t207 < (y204.length : Int)) = True := eq_true (dT)
     have pi223 : (0 ≤ (t220 : Int)) = True := eq_true (dT)
     have qi223 : (t220 < (y217.length : Int)) = True := eq_true (dT)
     have n0_ := Aside0.mk (blk_drew BK203.out)
     have n1_ := Aside0.mk (IsS94.drew HI0.out)
     have n2_ := Aside0.mk (keep_drew HK.out)
     have n3_ := Aside0.mk (below_drew1 HB.out)
     clear BK203
     clear HI0
     clear HK
     clear HB
     have BK203 := n0_
     have HI0 := n1_
     have HK := n2_
     have HB := n3_
     clear n0_ n1_ n2_ n3_
     refine start_ (n := 19) (S := fun w' => True) (ds := []) (Array.replicate 19 false) (by kernel_rfl) rfl rfl trivial (fun hHeld => ?_); refine with_tabW spec_l03DrawFrame.tab1 spec_l03DrawFrame.bits1 (fun HT_ HW_ => ?_)
     generalize w11.drew = w12 at BK203 HI0 HK HB hHeld ⊢
     refine sV 1 8 (lbn 19 2) HT_.out ?_
     refine sV 5 12 (lbn 19 34) HT_.out ?_
     refine sV 8 15 (lbn 19 290) HT_.out ?_
     refine sV 12 19 (lbn 19 4386) HT_.out ?_
     have pi1_ : (0 ≤ (t207 : Int)) = True := eq_true (dT)
     have qi1_ : (t207 < (y204.length : Int)) = True := eq_true (dT)
     have pi4_ : (0 ≤ (t220 : Int)) = True := eq_true (dT)
     have qi4_ : (t220 < (y217.length : Int)) = True := eq_true (dT)
     have qj1_ : (t207 < 3) = True := eq_true (by have h_ : t207 < (y204.length : Int) := of_eq_true qi1_; rw [Ny204.out] at h_; simpa using h_)
     have qj4_ : (t220 < 5) = True := eq_true (by have h_ : t220 < (y217.length : Int) := of_eq_true qi4_; rw [Ny217.out] at h_; simpa using h_)
     refine join_ (σ := Addr × Addr × Nat) 1 (lb 262143) (fun s_ => [(7, .slice (some s_.1) 3 3), (9, .int .i64 t207), (10, .pointer (some (s_.1.add (t207).toNat))), (11, .int .i64 (rd y204 t207)), (13, .int .i64 t211), (14, .int .i64 (wrap64 (1 + t211))), (16, .int .i64 t214), (17, .int .i64 (wrap64 (1 + t214))), (18, .slice (some s_.2.1) 5 5), (20, .int .i64 t220), (21, .pointer (some (s_.2.1.add (t220).toNat))), (22, .int .i64 (rd y217 t220)), (23, .agg #[.int .i64 (rd y204 t207), .int .i64 (wrap64 (1 + t211)), .int .i64 (wrap64 (1 + t214)), .int .i64 (rd y217 t220), .slice none 0 0]), (3, .pointer (some ⟨s_.2.2, 0, none⟩))]) (fun s_ W_ => RgS w0 w W_ g gb203 s0_0 t221 t222 ∧ True ∧ True ∧ BoxF w0 w W_ g gb203 s_.2.2) ?_ (fun hJ_0_2_4_6_9_11_13_15_17 => ?_)
     ·rintro ⟨adA_, adB_, gb224⟩ w24 ⟨hR_, _, _, hC_⟩
      have BK224 := Aside0.mk hC_.h
      have GW224 := Aside0.mk hC_.hw
      have GE224 := Aside0.mk hC_.hw0
      have NB224_0 := Aside0.mk hC_.n1
      have NB0_224 := Aside0.mk (Ne.symm hC_.n1)
      have NB203_224 := Aside0.mk hC_.n2
      have NB224_203 := Aside0.mk (Ne.symm hC_.n2)
      clear HI0 HK HB BK203
      have HI0 := Aside0.mk hR_.hI
      have HK := Aside0.mk hR_.hK
      have HB := Aside0.mk hR_.hB
      have BK203 := Aside0.mk hR_.hb
      clear hR_ hC_
      have hHeld := trivial
      refine norm_ (a' := ?_) ?_ ?_
      rotate_left
      ·simp only [putAll, Act.put, List.setIfInBounds_toArray, List.set_cons_zero, List.set_cons_succ]
       rfl
      refine one_ (i := 18) (N := none) #[true, true, true, true, true, true, true, true, true, true, true, true, true, true, true, true, true, true, true] rfl rfl (one_of HT_.out (by kernel_rfl)) (by decide) (fun K hK => ?_)
      have hs27 : w24.cell? ⟨gb224, 0, none⟩ = some (.int .i64 0) := (blk_cell BK224.out 0).trans rfl
      have hfs27 := blk_frozen BK224.out 0
      have hns27_0 := NB203_224.out
      have hms27_0 := NB224_203.out
      have hs28 : w24.cell? ⟨gb224, 1, none⟩ = some (.int .i64 0) := (blk_cell BK224.out 1).trans rfl
      have hfs28 := blk_frozen BK224.out 1
      have hns28_0 := NB203_224.out
      have hms28_0 := NB224_203.out
      have hs29 : w24.cell? ⟨gb224, 2, none⟩ = some (.int .i64 0) := (blk_cell BK224.out 2).trans rfl
      have hfs29 := blk_frozen BK224.out 2
      have hns29_0 := NB203_224.out
      have hms29_0 := NB224_203.out
      have hs30 : w24.cell? ⟨gb224, 3, none⟩ = some (.int .i64 0) := (blk_cell BK224.out 3).trans rfl
      have hfs30 := blk_frozen BK224.out 3
      have hns30_0 := NB203_224.out
      have hms30_0 := NB224_203.out
      have hs31 : w24.cell? ⟨gb224, 4, none⟩ = some (.slice none 0 0) := (blk_cell BK224.out 4).trans rfl
      have hfs31 := blk_frozen BK224.out 4
      have hns31_0 := NB203_224.out
      have hms31_0 := NB224_203.out
      refine skip_ (w1 := ?_) (by rfl) rfl ?_ ?_
      rotate_left
      ·go_simp
       rfl
      refine hK.out _ _ trivial (fun hHeld => ?_)
      clear hK K
      refine done_ (done_of HT_.out (by kernel_rfl)) ?_
      try go_wp2_with (first | ((with_reducible refine gate_callee (f := 90) rfl ?_); refine goesL_ (some 25) rfl rfl Try.func90 (by kernel_rfl) rfl #[.pointer (some ⟨g, 0, none⟩), .int .i64 4] rfl zM ?_; (with_reducible refine (spec_l01Cur_pick.calls g s0_0 t221 t222 4 t225 t226 t227 w0 _ ?side1 ?side2 A10.out).mono ?_); (case side1 => exact zq2 HI0.out NB0_203.out NB0_224.out); (case side2 => exact zq6 HB.out (IsS94.ge HI0.out) GE203.out GE224.out); rintro e w32 ⟨rfl, hi, hb, hk⟩; refine ⟨_, rfl, ?_⟩; have n0_ := Aside0.mk (kF BK203.out NB203_224.out hk NB203_0.out); have n3_ := Aside0.mk (KeepBut.blk hk (g' := gb224) (o := .cells #[.int .i64 (rd y204 t207), .int .i64 (wrap64 (1 + t211)), .int .i64 (wrap64 (1 + t214)), .int .i64 (rd y217 t220), .slice none 0 0] 29 (0, 0)) (zP BK224.out) NB224_0.out (by simp)); have n4_ := Aside0.mk (KeepBut.trans (zq4 HK.out GW203.out GW224.out) hk (.inl rfl)); have n5_ := Aside0.mk (hb); have n6_ := Aside0.mk (hi); clear BK203; clear BK224; clear HK; clear HB; clear HI0; have BK203 := n0_; have BK224 := n3_; have HK := n4_; have HB := n5_; have HI0 := n6_; clear n0_ n3_ n4_ n5_ n6_; try clear hb))
      go_loopg [4, 5] k (fun kq v4 v5 w' => ∃ (x4_1 : Int) (x5_1 : Int) (x1001_1 : Int) (x1002_1 : Int) (x225004_1 : List (S66)) (u225004 : Value), v4 = .int .i64 x4_1 ∧ v5 = .int .i64 x5_1 ∧ Aside0 (spec_l03DrawFrame.l0 kq x4_1 x5_1 s0_0 x1001_1 x1002_1 (rd y204 t207) (wrap64 (1 + t211)) (wrap64 (1 + t214)) (rd y217 t220) x225004_1 = some (r1, r2, r3, r4, r5, r6, r7)) ∧ Aside0 (kq ≤ k) ∧ Aside0 (Kd.R k66 66 w' w.heap.size (fun _ => True) u225004 x225004_1) ∧ Aside0 (w'.heap[gb203]? = some (.cells #[.int .i64 0, .int .i64 0, .int .i64 0, .int .i64 0, (.slice none 0 0)] 29 (0, 0))) ∧ Aside0 (w'.heap[gb224]? = some (.cells #[.int .i64 (rd y204 t207), .int .i64 (wrap64 (1 + t211)), .int .i64 (wrap64 (1 + t214)), .int .i64 (rd y217 t220), u225004] 29 (0, 0))) ∧ Aside0 (IsS94 w0 w' g s0_0 x1001_1 x1002_1) ∧ Aside0 (KeepBut w w' g none) ∧ Aside0 (Below w0.heap.size w0 w'))
      case atStart => exact ⟨(0), (wrap64 (1 + t225)), (t226), (t227), (([] : List (S66))), (.slice none 0 0), (by first | rfl | (simp; done) | (simp [*]; done)), (by first | rfl | (simp; done) | (simp [*]; done)), H', ⟨Nat.le_refl _⟩, ⟨by first | exact Kd.R_nil _ _ _ _ _ | exact Kd.N_nil _ _ _ _ _ | exact Kd.V_nil _ _ _ _ _ | exact Kd.Q_nil _ _ _ _ _ | exact Kd.S_nil _ _ _ _ _⟩, ⟨zK BK203.out⟩, ⟨zK BK224.out⟩, ⟨zq2 HI0.out NB0_203.out NB0_224.out⟩, ⟨zq4 HK.out GW203.out GW224.out⟩, ⟨zq6 HB.out (IsS94.ge HI0.out) GE203.out GE224.out⟩⟩
      case round =>
       clear H'
       obtain ⟨x4_1, x5_1, x1001_1, x1002_1, x225004_1, u225004, rfl, rfl, HA, HK1, HO_225004, BK203, BK224, HI0, HK, HB⟩ := hrel
       cases gk with
       | zero => exact absurd HA.out (by simp [spec_l03DrawFrame.l0])
       | succ k1 =>
        have H := HA.out
        clear HA
        simp only [spec_l03DrawFrame.l0] at H
        by_cases c33 : x5_1 > 0
        ·rw [if_pos c33] at H
         have c33b0 : decide (0 < x5_1) = true := decide_eq_true c33
         clear c33
         replace H := Option.bind_eq_some_iff.mp H
         obtain ⟨⟨t228, t229, t230⟩, A340, H⟩ := H
         (try dsimp only at H)
         have A34 := Aside0.mk A340
         clear A340
         replace H := Option.bind_eq_some_iff.mp H
         obtain ⟨⟨t231, t232, t233⟩, A350, H⟩ := H
         (try dsimp only at H)
         have A35 := Aside0.mk A350
         clear A350
         replace H := Option.bind_eq_some_iff.mp H
         obtain ⟨⟨t234, t235, t236⟩, A360, H⟩ := H
         (try dsimp only at H)
         have A36 := Aside0.mk A360
         clear A360
         replace H := Option.bind_eq_some_iff.mp H
         obtain ⟨⟨t238, t239, t240⟩, A370, H⟩ := H
         (try dsimp only at H)
         have A37 := Aside0.mk A370
         clear A370
         by_cases c38 : t238 = true
         ·subst c38
          have H1 : ((spec_l01Cur_pick.f s0_0 t239 t240 4).bind fun bt241 => (if (wrap64 (x4_1 + (wrap64 ((wrap64 (1 + bt241.1)) * (wrap64 (1 + t231)))))) > 10 then (if x225004_1.length < 4398046511104 then (spec_l03DrawFrame.l0 k1 (wrap64 (x4_1 + (1 * 1))) (wrap64 (x5_1 - 1)) s0_0 bt241.2.1 bt241.2.2 (rd y204 t207) (wrap64 (1 + t211)) (wrap64 (1 + t214)) (rd y217 t220) (x225004_1 ++ [(⟨wrap64 (10 * x5_1), 1, 1, t234⟩ : S66)])) else (none)) else (if x225004_1.length < 4398046511104 then (spec_l03DrawFrame.l0 k1 (wrap64 (x4_1 + (wrap64 ((wrap64 (1 + bt241.1)) * (wrap64 (1 + t231)))))) (wrap64 (x5_1 - 1)) s0_0 bt241.2.1 bt241.2.2 (rd y204 t207) (wrap64 (1 + t211)) (wrap64 (1 + t214)) (rd y217 t220) (x225004_1 ++ [(⟨wrap64 (10 * x5_1), wrap64 (1 + bt241.1), wrap64 (1 + t231), t234⟩ : S66)])) else (none)))) = some (r1, r2, r3, r4, r5, r6, r7) := by rw [if_pos rfl] at H; exact H
          clear H
          have H := H1
          clear H1
          replace H := Option.bind_eq_some_iff.mp H
          obtain ⟨⟨t241, t242, t243⟩, A390, H⟩ := H
          (try dsimp only at H)
          have A39 := Aside0.mk A390
          clear A390
          by_cases c40 : (wrap64 (x4_1 + (wrap64 ((wrap64 (1 + t241)) * (wrap64 (1 + t231)))))) > 10
          ·rw [if_pos c40] at H
           have c40b0 : decide (10 < (wrap64 (x4_1 + (wrap64 ((wrap64 (1 + t241)) * (wrap64 (1 + t231))))))) = true := decide_eq_true c40
           clear c40
           by_cases c41 : x225004_1.length < 4398046511104
           ·rw [if_pos c41] at H
            have LMc41 := Aside0.mk c41
            clear c41
            obtain ⟨y244, hy244⟩ : ∃ y_ : List (S66), y_ = (x225004_1 ++ [(⟨wrap64 (10 * x5_1), 1, 1, t234⟩ : S66)]) := ⟨_, rfl⟩
            replace H : (spec_l03DrawFrame.l0 k1 (wrap64 (x4_1 + (1 * 1))) (wrap64 (x5_1 - 1)) s0_0 t242 t243 (rd y204 t207) (wrap64 (1 + t211)) (wrap64 (1 + t214)) (rd y217 t220) y244) = some (r1, r2, r3, r4, r5, r6, r7) := by first | (rw [hy244]; with_reducible exact H) | (have H2_ := (Option.bind_some _ _).symm.trans H; rw [hy244]; with_reducible exact H2_) | (have H2_ := (Option.bind_some _ _).symm.trans H; with_reducible exact H2_) | with_reducible exact H | (rw [hy244]; exact H) | exact H
            have Ny244 := Aside0.mk hy244
            clear hy244
            have H' := Aside0.mk H
            clear H
            go_wp2_with (first | ((with_reducible refine gate_callee (f := 90) rfl ?_); refine goesL_ (some 34) rfl rfl Try.func90 (by kernel_rfl) rfl #[.pointer (some ⟨g, 0, none⟩), .int .i64 2] rfl zM ?_; (with_reducible refine (spec_l01Cur_pick.calls g s0_0 x1001_1 x1002_1 2 t228 t229 t230 w0 _ ?side1 ?side2 A34.out).mono ?_); (case side1 => exact zq2 HI0.out NB0_203.out NB0_224.out); (case side2 => exact zq6 HB.out (IsS94.ge HI0.out) GE203.out GE224.out); rintro e w42 ⟨rfl, hi, hb, hk⟩; refine ⟨_, rfl, ?_⟩; have n0_ := Aside0.mk (Kd.R_mono (Kd.R_keep (IsS94.apart (show IsS94 w0 _ g s0_0 x1001_1 x1002_1 from zq2 HI0.out NB0_203.out NB0_224.out) (zR HO_225004.out) (by decide)) hk (fun _ h => h.2)) (fun _ h => h.1)); have n1_ := Aside0.mk (kP BK203.out hk NB203_0.out); have n2_ := Aside0.mk (kP BK224.out hk NB224_0.out); have n3_ := Aside0.mk (KeepBut.trans (zq4 HK.out GW203.out GW224.out) hk (.inl rfl)); have n4_ := Aside0.mk (hb); have n5_ := Aside0.mk (hi); clear HO_225004; clear BK203; clear BK224; clear HK; clear HB; clear HI0; have HO_225004 := n0_; have BK203 := n1_; have BK224 := n2_; have HK := n3_; have HB := n4_; have HI0 := n5_; clear n0_ n1_ n2_ n3_ n4_ n5_; try clear hb) | ((with_reducible refine gate_callee (f := 90) rfl ?_); refine goesL_ (some 37) rfl rfl Try.func90 (by kernel_rfl) rfl #[.pointer (some ⟨g, 0, none⟩), .int .i64 2] rfl zM ?_; (with_reducible refine (spec_l01Cur_pick.calls g s0_0 t229 t230 2 t231 t232 t233 w0 _ ?side1 ?side2 A35.out).mono ?_); (case side1 => exact zq2 HI0.out NB0_203.out NB0_224.out); (case side2 => exact zq6 HB.out (IsS94.ge HI0.out) GE203.out GE224.out); rintro e w43 ⟨rfl, hi, hb, hk⟩; refine ⟨_, rfl, ?_⟩; have n0_ := Aside0.mk (Kd.R_mono (Kd.R_keep (IsS94.apart (show IsS94 w0 _ g s0_0 t229 t230 from zq2 HI0.out NB0_203.out NB0_224.out) (zR HO_225004.out) (by decide)) hk (fun _ h => h.2)) (fun _ h => h.1)); have n1_ := Aside0.mk (kP BK203.out hk NB203_0.out); have n2_ := Aside0.mk (kP BK224.out hk NB224_0.out); have n3_ := Aside0.mk (KeepBut.trans (zq4 HK.out GW203.out GW224.out) hk (.inl rfl)); have n4_ := Aside0.mk (hb); have n5_ := Aside0.mk (hi); clear HO_225004; clear BK203; clear BK224; clear HK; clear HB; clear HI0; have HO_225004 := n0_; have BK203 := n1_; have BK224 := n2_; have HK := n3_; have HB := n4_; have HI0 := n5_; clear n0_ n1_ n2_ n3_ n4_ n5_; try clear hb) | ((with_reducible refine gate_callee (f := 90) rfl ?_); refine goesL_ (some 40) rfl rfl Try.func90 (by kernel_rfl) rfl #[.pointer (some ⟨g, 0, none⟩), .int .i64 4] rfl zM ?_; (with_reducible refine (spec_l01Cur_pick.calls g s0_0 t232 t233 4 t234 t235 t236 w0 _ ?side1 ?side2 A36.out).mono ?_); (case side1 => exact zq2 HI0.out NB0_203.out NB0_224.out); (case side2 => exact zq6 HB.out (IsS94.ge HI0.out) GE203.out GE224.out); rintro e w44 ⟨rfl, hi, hb, hk⟩; refine ⟨_, rfl, ?_⟩; have n0_ := Aside0.mk (Kd.R_mono (Kd.R_keep (IsS94.apart (show IsS94 w0 _ g s0_0 t232 t233 from zq2 HI0.out NB0_203.out NB0_224.out) (zR HO_225004.out) (by decide)) hk (fun _ h => h.2)) (fun _ h => h.1)); have n1_ := Aside0.mk (kP BK203.out hk NB203_0.out); have n2_ := Aside0.mk (kP BK224.out hk NB224_0.out); have n3_ := Aside0.mk (KeepBut.trans (zq4 HK.out GW203.out GW224.out) hk (.inl rfl)); have n4_ := Aside0.mk (hb); have n5_ := Aside0.mk (hi); clear HO_225004; clear BK203; clear BK224; clear HK; clear HB; clear HI0; have HO_225004 := n0_; have BK203 := n1_; have BK224 := n2_; have HK := n3_; have HB := n4_; have HI0 := n5_; clear n0_ n1_ n2_ n3_ n4_ n5_; try clear hb) | ((with_reducible refine gate_dst (N := 6) rfl ?_); refine box_event ?hg (N := 6) ?hd (cs := #[.int .i64 0, .int .i64 0, .int .i64 0, .int .i64 0]) (t := 66) ?hr ?_; (case hd => rfl); (case hg => rfl); (case hr => first | (go_simp; done) | (go_simp; rfl)); intro gb237 hg w45 hbox hb; have n0_ := Aside0.mk (Kd.R_below (Kd.R_elderB (zR HO_225004.out) gb237 (Nat.le_of_eq hg.symm)) hb); have n1_ := Aside0.mk (kB BK203.out hb); have n2_ := Aside0.mk (kB BK224.out hb); have n3_ := Aside0.mk (IsS94.below (zq2 HI0.out NB0_203.out NB0_224.out) hb); have n4_ := Aside0.mk (KeepBut.trans (zq4 HK.out GW203.out GW224.out) (KeepBut.of_below hb g none) (.inl rfl)); have n5_ := Aside0.mk (below_step (zq6 HB.out (IsS94.ge HI0.out) GE203.out GE224.out) hb); have n6_ := Aside0.mk (hbox); have n7_ := Aside0.mk ((by rw [hg]; exact (keep_size (w := w) (g := g) (row := none) (zq4 HK.out GW203.out GW224.out)) : w.heap.size ≤ gb237)); have n8_ := Aside0.mk ((Nat.le_trans HW0.out (by rw [hg]; exact (keep_size (w := w) (g := g) (row := none) (zq4 HK.out GW203.out GW224.out)) : w.heap.size ≤ gb237) : w0.heap.size ≤ gb237)); have n9_ := Aside0.mk (nL hg BK203.out); have n10_ := Aside0.mk (nG hg BK203.out); have n11_ := Aside0.mk (nL hg BK224.out); have n12_ := Aside0.mk (nG hg BK224.out); have n13_ := Aside0.mk ((by rw [hg]; exact Nat.ne_of_lt (IsS94.lt (show IsS94 w0 _ g s0_0 t235 t236 from zq2 HI0.out NB0_203.out NB0_224.out)) : g ≠ gb237)); have n14_ := Aside0.mk ((by rw [hg]; exact Nat.ne_of_gt (IsS94.lt (show IsS94 w0 _ g s0_0 t235 t236 from zq2 HI0.out NB0_203.out NB0_224.out)) : gb237 ≠ g)); clear HO_225004; clear BK203; clear BK224; clear HI0; clear HK; clear HB; have HO_225004 := n0_; have BK203 := n1_; have BK224 := n2_; have HI0 := n3_; have HK := n4_; have HB := n5_; have BK237 := n6_; have GW237 := n7_; have GE237 := n8_; have NB203_237 := n9_; have NB237_203 := n10_; have NB224_237 := n11_; have NB237_224 := n12_; have NB0_237 := n13_; have NB237_0 := n14_; clear n0_ n1_ n2_ n3_ n4_ n5_ n6_ n7_ n8_ n9_ n10_ n11_ n12_ n13_ n14_; clear hb hbox hg; have hnb46 := NB237_203.out; have hnc46 := NB203_237.out; have hnb47 := NB237_224.out; have hnc47 := NB224_237.out; have hnb48 := NB237_0.out; have hnc48 := NB0_237.out; obtain ⟨hcz49_0, hcz49_1, hcz49_2, hcz49_3, hfz49_0, hfz49_1, hfz49_2, hfz49_3⟩ := bf4 BK237.out) | ((with_reducible refine gate_callee (f := 75) rfl ?_); refine goesL_ (some 43) rfl rfl Try.func75 (by kernel_rfl) rfl #[.pointer (some ⟨g, 0, none⟩), .int .i64 12] rfl zM ?_; (with_reducible refine (spec_l01Cur_once.calls g s0_0 t235 t236 12 true t239 t240 w0 _ ?side1 ?side2 A37.out).mono ?_); (case side1 => exact zq0 HI0.out NB0_203.out NB0_224.out NB0_237.out); (case side2 => exact zq3 HB.out (IsS94.ge HI0.out) GE203.out GE224.out GE237.out); rintro e w50 ⟨rfl, hi, hb, hk⟩; refine ⟨_, rfl, ?_⟩; have n0_ := Aside0.mk (Kd.R_mono (Kd.R_keep (IsS94.apart (show IsS94 w0 _ g s0_0 t235 t236 from zq0 HI0.out NB0_203.out NB0_224.out NB0_237.out) (by (with_reducible repeat (first | apply Kd.R_alloc | apply Kd.R_drewN | apply Kd.R_drew)); exact (Kd.R_mono (Kd.R_far (p := ⟨gb237, 3, none⟩) (Kd.R_far (p := ⟨gb237, 2, none⟩) (Kd.R_far (p := ⟨gb237, 1, none⟩) (Kd.R_far (p := ⟨gb237, 0, none⟩) (Kd.R_mono HO_225004.out (fun k_ hk => (⟨hk, hk.2⟩ : _ ∧ k_ ≠ gb237))) (fun _ hk => hk.2) (.int .i64 (wrap64 (10 * x5_1)))) (fun _ hk => hk.2) (.int .i64 (wrap64 (1 + t228)))) (fun _ hk => hk.2) (.int .i64 (wrap64 (1 + t231)))) (fun _ hk => hk.2) (.int .i64 t234)) (fun _ h_ => h_.1))) (by decide)) hk (fun _ h => h.2)) (fun _ h => h.1)); have n1_ := Aside0.mk (kF BK203.out NB203_237.out hk NB203_0.out); have n2_ := Aside0.mk (kF BK224.out NB224_237.out hk NB224_0.out); have n3_ := Aside0.mk (KeepBut.blk hk (g' := gb237) (o := .cells #[.int .i64 (wrap64 (10 * x5_1)), .int .i64 (wrap64 (1 + t228)), .int .i64 (wrap64 (1 + t231)), .int .i64 t234] 66 (0, 0)) (zP BK237.out) NB237_0.out (by simp)); have n4_ := Aside0.mk (KeepBut.trans (zq1 HK.out GW203.out GW224.out GW237.out) hk (.inl rfl)); have n5_ := Aside0.mk (hb); have n6_ := Aside0.mk (hi); clear HO_225004; clear BK203; clear BK224; clear BK237; clear HK; clear HB; clear HI0; have HO_225004 := n0_; have BK203 := n1_; have BK224 := n2_; have BK237 := n3_; have HK := n4_; have HB := n5_; have HI0 := n6_; clear n0_ n1_ n2_ n3_ n4_ n5_ n6_; try clear hb) | ((with_reducible refine gate_callee (f := 90) rfl ?_); refine goesL_ (some 45) rfl rfl Try.func90 (by kernel_rfl) rfl #[.pointer (some ⟨g, 0, none⟩), .int .i64 4] rfl zM ?_; (with_reducible refine (spec_l01Cur_pick.calls g s0_0 t239 t240 4 t241 t242 t243 w0 _ ?side1 ?side2 A39.out).mono ?_); (case side1 => exact zq0 HI0.out NB0_203.out NB0_224.out NB0_237.out); (case side2 => exact zq3 HB.out (IsS94.ge HI0.out) GE203.out GE224.out GE237.out); rintro e w51 ⟨rfl, hi, hb, hk⟩; refine ⟨_, rfl, ?_⟩; have n0_ := Aside0.mk (Kd.R_mono (Kd.R_keep (IsS94.apart (show IsS94 w0 _ g s0_0 t239 t240 from zq0 HI0.out NB0_203.out NB0_224.out NB0_237.out) (zR HO_225004.out) (by decide)) hk (fun _ h => h.2)) (fun _ h => h.1)); have n1_ := Aside0.mk (kP BK203.out hk NB203_0.out); have n2_ := Aside0.mk (kP BK224.out hk NB224_0.out); have n3_ := Aside0.mk (kP BK237.out hk NB237_0.out); have n4_ := Aside0.mk (KeepBut.trans (zq1 HK.out GW203.out GW224.out GW237.out) hk (.inl rfl)); have n5_ := Aside0.mk (hb); have n6_ := Aside0.mk (hi); clear HO_225004; clear BK203; clear BK224; clear BK237; clear HK; clear HB; clear HI0; have HO_225004 := n0_; have BK203 := n1_; have BK224 := n2_; have BK237 := n3_; have HK := n4_; have HB := n5_; have HI0 := n6_; clear n0_ n1_ n2_ n3_ n4_ n5_ n6_; try clear hb; obtain ⟨hcz52_0, hcz52_1, hcz52_2, hcz52_3, hfz52_0, hfz52_1, hfz52_2, hfz52_3⟩ := bf4 BK237.out; have hnb53 := NB224_203.out; have hnc53 := NB203_224.out; have hnb54 := NB224_0.out; have hnc54 := NB0_224.out; obtain ⟨hcz55_0, hcz55_1, hcz55_2, hcz55_3, hcz55_4, hfz55_0, hfz55_1, hfz55_2, hfz55_3, hfz55_4⟩ := bf5 BK224.out) | ((with_reducible refine gate_builtin (b := .append) (xs := #[.tmp 66, .tmp 68]) rfl ?_); at_builtin; refine Kd.R_append k66 w.heap.size rfl (.tmp 66) (.tmp 68) 27 66 (.agg #[(.int .i64 0), (.int .i64 0), (.int .i64 0), (.int .i64 0)]) 32 rfl Try.underlying27 info66 rfl (by decide) (by omega) u225004 x225004_1 (⟨wrap64 (10 * x5_1), 1, 1, t234⟩ : S66) [.int .i64 (wrap64 (10 * x5_1)), .int .i64 1, .int .i64 1, .int .i64 t234] (fun k_ => k_ ≠ gb237) (fun _ => False) rfl (by first | (go_simp; done) | (go_simp; rfl)) ?aP (fun _ hk => hk.elim) ?aF ?aO (Below.refl _ _) ?aS ?aL ?_; (case aP => exact k66_mkM _ _ _ (⟨wrap64 (10 * x5_1), 1, 1, t234⟩ : S66)); (case aF => exact (fun k_ hk => Kd.freshB (g := gb237) (o := .cells #[.int .i64 (wrap64 (10 * x5_1)), .int .i64 1, .int .i64 1, .int .i64 t234] 66 (0, 0)) (zP BK237.out) k_ hk)); (case aO => exact (by (with_reducible repeat (first | apply Kd.R_alloc | apply Kd.R_drewN | apply Kd.R_drew)); exact Kd.R_mono (Kd.R_far (p := ⟨gb237, 2, none⟩) (Kd.R_far (p := ⟨gb237, 1, none⟩) (Kd.R_far (p := ⟨gb237, 1, none⟩) (Kd.R_mono HO_225004.out (fun k_ hk => (⟨hk, hk.2⟩ : _ ∧ k_ ≠ gb237))) (fun _ hk => hk.2) (.int .i64 (wrap64 (1 + t241)))) (fun _ hk => hk.2) (.int .i64 1)) (fun _ hk => hk.2) (.int .i64 1)) (fun _ hk => hk.1.2))); (case aS => exact (keep_size (w := w) (g := g) (row := none) (zq1 HK.out GW203.out GW224.out GW237.out))); (case aL => have := LMc41.out; omega); intro v245 w56 ho hb hg hat; rw [← Ny244.out] at ho; have n0_ := Aside0.mk (blk_grown (g := gb203) (o := .cells #[.int .i64 0, .int .i64 0, .int .i64 0, .int .i64 0, .slice none 0 0] 29 (0, 0)) (zF BK203.out NB203_237.out) hg (Kd.R_ne HO_225004.out BK203.out (by decide))); have n1_ := Aside0.mk (blk_grown (g := gb224) (o := .cells #[.int .i64 (rd y204 t207), .int .i64 (wrap64 (1 + t211)), .int .i64 (wrap64 (1 + t214)), .int .i64 (rd y217 t220), u225004] 29 (0, 0)) (zF BK224.out NB224_237.out) hg (Kd.R_ne HO_225004.out BK224.out (by decide))); have n2_ := Aside0.mk (IsS94.grown (show IsS94 w0 _ g s0_0 t242 t243 from zq0 HI0.out NB0_203.out NB0_224.out NB0_237.out) hg (IsS94.own_ne HI0.out HO_225004.out (by decide))); have n3_ := Aside0.mk (blk_grown (g := gb237) (o := .cells #[.int .i64 (wrap64 (10 * x5_1)), .int .i64 1, .int .i64 1, .int .i64 t234] 66 (0, 0)) (zP BK237.out) hg (Kd.R_away HO_225004.out (fun _ hk => hk.2))); have n4_ := Aside0.mk (below_weaken (zq3 HB.out (IsS94.ge HI0.out) GE203.out GE224.out GE237.out) HL.out hb); have n5_ := Aside0.mk (KeepBut.trans (zq1 HK.out GW203.out GW224.out GW237.out) (KeepBut.of_grown hg g) (Kd.R_base2 HO_225004.out)); have n6_ := Aside0.mk (ho); clear BK203; clear BK224; clear HI0; clear BK237; clear HB; clear HK; clear HO_225004; have BK203 := n0_; have BK224 := n1_; have HI0 := n2_; have BK237 := n3_; have HB := n4_; have HK := n5_; have HO246 := n6_; clear n0_ n1_ n2_ n3_ n4_ n5_ n6_; clear ho hb hg hat; obtain ⟨Ao57, co57, eo57⟩ := Kd.R_slice HO246.out; subst eo57; obtain ⟨hcz58_0, hcz58_1, hcz58_2, hcz58_3, hcz58_4, hfz58_0, hfz58_1, hfz58_2, hfz58_3, hfz58_4⟩ := bf5 BK224.out))
            go_roundg k1
            case measure => have := HK1.out; omega
            case rel => exact ⟨(wrap64 (x4_1 + (1 * 1))), (wrap64 (x5_1 - 1)), (t242), (t243), (y244), (.slice Ao57 y244.length co57), (by first | rfl | (simp; done) | (simp [*]; done)), (by first | rfl | (simp; done) | (simp [*]; done)), H', ⟨by have := HK1.out; omega⟩, ⟨by (with_reducible repeat (first | apply Kd.R_alloc | apply Kd.R_drewN | apply Kd.R_drew)); exact Kd.R_mono (Kd.R_far (p := ⟨gb224, 4, none⟩) (Kd.R_types HO246.out BK224.out (by decide)) (fun _ hk => hk.2) (.slice Ao57 y244.length co57)) (fun _ hk => trivial)⟩, ⟨zF BK203.out NB203_224.out⟩, ⟨zP BK224.out⟩, ⟨zq0 HI0.out NB0_203.out NB0_224.out NB0_237.out⟩, ⟨zq1 HK.out GW203.out GW224.out GW237.out⟩, ⟨zq3 HB.out (IsS94.ge HI0.out) GE203.out GE224.out GE237.out⟩⟩
           ·rw [if_neg c41] at H
            exact absurd H (by simp)
          ·rw [if_neg c40] at H
           have c40b0 : decide (10 < (wrap64 (x4_1 + (wrap64 ((wrap64 (1 + t241)) * (wrap64 (1 + t231))))))) = false := decide_eq_false c40
           clear c40
           by_cases c59 : x225004_1.length < 4398046511104
           ·rw [if_pos c59] at H
            have LMc59 := Aside0.mk c59
            clear c59
            obtain ⟨y247, hy247⟩ : ∃ y_ : List (S66), y_ = (x225004_1 ++ [(⟨wrap64 (10 * x5_1), wrap64 (1 + t241), wrap64 (1 + t231), t234⟩ : S66)]) := ⟨_, rfl⟩
            replace H : (spec_l03DrawFrame.l0 k1 (wrap64 (x4_1 + (wrap64 ((wrap64 (1 + t241)) * (wrap64 (1 + t231)))))) (wrap64 (x5_1 - 1)) s0_0 t242 t243 (rd y204 t207) (wrap64 (1 + t211)) (wrap64 (1 + t214)) (rd y217 t220) y247) = some (r1, r2, r3, r4, r5, r6, r7) := by first | (rw [hy247]; with_reducible exact H) | (have H2_ := (Option.bind_some _ _).symm.trans H; rw [hy247]; with_reducible exact H2_) | (have H2_ := (Option.bind_some _ _).symm.trans H; with_reducible exact H2_) | with_reducible exact H | (rw [hy247]; exact H) | exact H
            have Ny247 := Aside0.mk hy247
            clear hy247
            have H' := Aside0.mk H
            clear H
            go_wp2_with (first | ((with_reducible refine gate_callee (f := 90) rfl ?_); refine goesL_ (some 34) rfl rfl Try.func90 (by kernel_rfl) rfl #[.pointer (some ⟨g, 0, none⟩), .int .i64 2] rfl zM ?_; (with_reducible refine (spec_l01Cur_pick.calls g s0_0 x1001_1 x1002_1 2 t228 t229 t230 w0 _ ?side1 ?side2 A34.out).mono ?_); (case side1 => exact zq2 HI0.out NB0_203.out NB0_224.out); (case side2 => exact zq6 HB.out (IsS94.ge HI0.out) GE203.out GE224.out); rintro e w60 ⟨rfl, hi, hb, hk⟩; refine ⟨_, rfl, ?_⟩; have n0_ := Aside0.mk (Kd.R_mono (Kd.R_keep (IsS94.apart (show IsS94 w0 _ g s0_0 x1001_1 x1002_1 from zq2 HI0.out NB0_203.out NB0_224.out) (zR HO_225004.out) (by decide)) hk (fun _ h => h.2)) (fun _ h => h.1)); have n1_ := Aside0.mk (kP BK203.out hk NB203_0.out); have n2_ := Aside0.mk (kP BK224.out hk NB224_0.out); have n3_ := Aside0.mk (KeepBut.trans (zq4 HK.out GW203.out GW224.out) hk (.inl rfl)); have n4_ := Aside0.mk (hb); have n5_ := Aside0.mk (hi); clear HO_225004; clear BK203; clear BK224; clear HK; clear HB; clear HI0; have HO_225004 := n0_; have BK203 := n1_; have BK224 := n2_; have HK := n3_; have HB := n4_; have HI0 := n5_; clear n0_ n1_ n2_ n3_ n4_ n5_; try clear hb) | ((with_reducible refine gate_callee (f := 90) rfl ?_); refine goesL_ (some 37) rfl rfl Try.func90 (by kernel_rfl) rfl #[.pointer (some ⟨g, 0, none⟩), .int .i64 2] rfl zM ?_; (with_reducible refine (spec_l01Cur_pick.calls g s0_0 t229 t230 2 t231 t232 t233 w0 _ ?side1 ?side2 A35.out).mono ?_); (case side1 => exact zq2 HI0.out NB0_203.out NB0_224.out); (case side2 => exact zq6 HB.out (IsS94.ge HI0.out) GE203.out GE224.out); rintro e w61 ⟨rfl, hi, hb, hk⟩; refine ⟨_, rfl, ?_⟩; have n0_ := Aside0.mk (Kd.R_mono (Kd.R_keep (IsS94.apart (show IsS94 w0 _ g s0_0 t229 t230 from zq2 HI0.out NB0_203.out NB0_224.out) (zR HO_225004.out) (by decide)) hk (fun _ h => h.2)) (fun _ h => h.1)); have n1_ := Aside0.mk (kP BK203.out hk NB203_0.out); have n2_ := Aside0.mk (kP BK224.out hk NB224_0.out); have n3_ := Aside0.mk (KeepBut.trans (zq4 HK.out GW203.out GW224.out) hk (.inl rfl)); have n4_ := Aside0.mk (hb); have n5_ := Aside0.mk (hi); clear HO_225004; clear BK203; clear BK224; clear HK; clear HB; clear HI0; have HO_225004 := n0_; have BK203 := n1_; have BK224 := n2_; have HK := n3_; have HB := n4_; have HI0 := n5_; clear n0_ n1_ n2_ n3_ n4_ n5_; try clear hb) | ((with_reducible refine gate_callee (f := 90) rfl ?_); refine goesL_ (some 40) rfl rfl Try.func90 (by kernel_rfl) rfl #[.pointer (some ⟨g, 0, none⟩), .int .i64 4] rfl zM ?_; (with_reducible refine (spec_l01Cur_pick.calls g s0_0 t232 t233 4 t234 t235 t236 w0 _ ?side1 ?side2 A36.out).mono ?_); (case side1 => exact zq2 HI0.out NB0_203.out NB0_224.out); (case side2 => exact zq6 HB.out (IsS94.ge HI0.out) GE203.out GE224.out); rintro e w62 ⟨rfl, hi, hb, hk⟩; refine ⟨_, rfl, ?_⟩; have n0_ := Aside0.mk (Kd.R_mono (Kd.R_keep (IsS94.apart (show IsS94 w0 _ g s0_0 t232 t233 from zq2 HI0.out NB0_203.out NB0_224.out) (zR HO_225004.out) (by decide)) hk (fun _ h => h.2)) (fun _ h => h.1)); have n1_ := Aside0.mk (kP BK203.out hk NB203_0.out); have n2_ := Aside0.mk (kP BK224.out hk NB224_0.out); have n3_ := Aside0.mk (KeepBut.trans (zq4 HK.out GW203.out GW224.out) hk (.inl rfl)); have n4_ := Aside0.mk (hb); have n5_ := Aside0.mk (hi); clear HO_225004; clear BK203; clear BK224; clear HK; clear HB; clear HI0; have HO_225004 := n0_; have BK203 := n1_; have BK224 := n2_; have HK := n3_; have HB := n4_; have HI0 := n5_; clear n0_ n1_ n2_ n3_ n4_ n5_; try clear hb) | ((with_reducible refine gate_dst (N := 6) rfl ?_); refine box_event ?hg (N := 6) ?hd (cs := #[.int .i64 0, .int .i64 0, .int .i64 0, .int .i64 0]) (t := 66) ?hr ?_; (case hd => rfl); (case hg => rfl); (case hr => first | (go_simp; done) | (go_simp; rfl)); intro gb237 hg w63 hbox hb; have n0_ := Aside0.mk (Kd.R_below (Kd.R_elderB (zR HO_225004.out) gb237 (Nat.le_of_eq hg.symm)) hb); have n1_ := Aside0.mk (kB BK203.out hb); have n2_ := Aside0.mk (kB BK224.out hb); have n3_ := Aside0.mk (IsS94.below (zq2 HI0.out NB0_203.out NB0_224.out) hb); have n4_ := Aside0.mk (KeepBut.trans (zq4 HK.out GW203.out GW224.out) (KeepBut.of_below hb g none) (.inl rfl)); have n5_ := Aside0.mk (below_step (zq6 HB.out (IsS94.ge HI0.out) GE203.out GE224.out) hb); have n6_ := Aside0.mk (hbox); have n7_ := Aside0.mk ((by rw [hg]; exact (keep_size (w := w) (g := g) (row := none) (zq4 HK.out GW203.out GW224.out)) : w.heap.size ≤ gb237)); have n8_ := Aside0.mk ((Nat.le_trans HW0.out (by rw [hg]; exact (keep_size (w := w) (g := g) (row := none) (zq4 HK.out GW203.out GW224.out)) : w.heap.size ≤ gb237) : w0.heap.size ≤ gb237)); have n9_ := Aside0.mk (nL hg BK203.out); have n10_ := Aside0.mk (nG hg BK203.out); have n11_ := Aside0.mk (nL hg BK224.out); have n12_ := Aside0.mk (nG hg BK224.out); have n13_ := Aside0.mk ((by rw [hg]; exact Nat.ne_of_lt (IsS94.lt (show IsS94 w0 _ g s0_0 t235 t236 from zq2 HI0.out NB0_203.out NB0_224.out)) : g ≠ gb237)); have n14_ := Aside0.mk ((by rw [hg]; exact Nat.ne_of_gt (IsS94.lt (show IsS94 w0 _ g s0_0 t235 t236 from zq2 HI0.out NB0_203.out NB0_224.out)) : gb237 ≠ g)); clear HO_225004; clear BK203; clear BK224; clear HI0; clear HK; clear HB; have HO_225004 := n0_; have BK203 := n1_; have BK224 := n2_; have HI0 := n3_; have HK := n4_; have HB := n5_; have BK237 := n6_; have GW237 := n7_; have GE237 := n8_; have NB203_237 := n9_; have NB237_203 := n10_; have NB224_237 := n11_; have NB237_224 := n12_; have NB0_237 := n13_; have NB237_0 := n14_; clear n0_ n1_ n2_ n3_ n4_ n5_ n6_ n7_ n8_ n9_ n10_ n11_ n12_ n13_ n14_; clear hb hbox hg; have hnb64 := NB237_203.out; have hnc64 := NB203_237.out; have hnb65 := NB237_224.out; have hnc65 := NB224_237.out; have hnb66 := NB237_0.out; have hnc66 := NB0_237.out; obtain ⟨hcz67_0, hcz67_1, hcz67_2, hcz67_3, hfz67_0, hfz67_1, hfz67_2, hfz67_3⟩ := bf4 BK237.out) | ((with_reducible refine gate_callee (f := 75) rfl ?_); refine goesL_ (some 43) rfl rfl Try.func75 (by kernel_rfl) rfl #[.pointer (some ⟨g, 0, none⟩), .int .i64 12] rfl zM ?_; (with_reducible refine (spec_l01Cur_once.calls g s0_0 t235 t236 12 true t239 t240 w0 _ ?side1 ?side2 A37.out).mono ?_); (case side1 => exact zq0 HI0.out NB0_203.out NB0_224.out NB0_237.out); (case side2 => exact zq3 HB.out (IsS94.ge HI0.out) GE203.out GE224.out GE237.out); rintro e w68 ⟨rfl, hi, hb, hk⟩; refine ⟨_, rfl, ?_⟩; have n0_ := Aside0.mk (Kd.R_mono (Kd.R_keep (IsS94.apart (show IsS94 w0 _ g s0_0 t235 t236 from zq0 HI0.out NB0_203.out NB0_224.out NB0_237.out) (by (with_reducible repeat (first | apply Kd.R_alloc | apply Kd.R_drewN | apply Kd.R_drew)); exact (Kd.R_mono (Kd.R_far (p := ⟨gb237, 3, none⟩) (Kd.R_far (p := ⟨gb237, 2, none⟩) (Kd.R_far (p := ⟨gb237, 1, none⟩) (Kd.R_far (p := ⟨gb237, 0, none⟩) (Kd.R_mono HO_225004.out (fun k_ hk => (⟨hk, hk.2⟩ : _ ∧ k_ ≠ gb237))) (fun _ hk => hk.2) (.int .i64 (wrap64 (10 * x5_1)))) (fun _ hk => hk.2) (.int .i64 (wrap64 (1 + t228)))) (fun _ hk => hk.2) (.int .i64 (wrap64 (1 + t231)))) (fun _ hk => hk.2) (.int .i64 t234)) (fun _ h_ => h_.1))) (by decide)) hk (fun _ h => h.2)) (fun _ h => h.1)); have n1_ := Aside0.mk (kF BK203.out NB203_237.out hk NB203_0.out); have n2_ := Aside0.mk (kF BK224.out NB224_237.out hk NB224_0.out); have n3_ := Aside0.mk (KeepBut.blk hk (g' := gb237) (o := .cells #[.int .i64 (wrap64 (10 * x5_1)), .int .i64 (wrap64 (1 + t228)), .int .i64 (wrap64 (1 + t231)), .int .i64 t234] 66 (0, 0)) (zP BK237.out) NB237_0.out (by simp)); have n4_ := Aside0.mk (KeepBut.trans (zq1 HK.out GW203.out GW224.out GW237.out) hk (.inl rfl)); have n5_ := Aside0.mk (hb); have n6_ := Aside0.mk (hi); clear HO_225004; clear BK203; clear BK224; clear BK237; clear HK; clear HB; clear HI0; have HO_225004 := n0_; have BK203 := n1_; have BK224 := n2_; have BK237 := n3_; have HK := n4_; have HB := n5_; have HI0 := n6_; clear n0_ n1_ n2_ n3_ n4_ n5_ n6_; try clear hb) | ((with_reducible refine gate_callee (f := 90) rfl ?_); refine goesL_ (some 45) rfl rfl Try.func90 (by kernel_rfl) rfl #[.pointer (some ⟨g, 0, none⟩), .int .i64 4] rfl zM ?_; (with_reducible refine (spec_l01Cur_pick.calls g s0_0 t239 t240 4 t241 t242 t243 w0 _ ?side1 ?side2 A39.out).mono ?_); (case side1 => exact zq0 HI0.out NB0_203.out NB0_224.out NB0_237.out); (case side2 => exact zq3 HB.out (IsS94.ge HI0.out) GE203.out GE224.out GE237.out); rintro e w69 ⟨rfl, hi, hb, hk⟩; refine ⟨_, rfl, ?_⟩; have n0_ := Aside0.mk (Kd.R_mono (Kd.R_keep (IsS94.apart (show IsS94 w0 _ g s0_0 t239 t240 from zq0 HI0.out NB0_203.out NB0_224.out NB0_237.out) (zR HO_225004.out) (by decide)) hk (fun _ h => h.2)) (fun _ h => h.1)); have n1_ := Aside0.mk (kP BK203.out hk NB203_0.out); have n2_ := Aside0.mk (kP BK224.out hk NB224_0.out); have n3_ := Aside0.mk (kP BK237.out hk NB237_0.out); have n4_ := Aside0.mk (KeepBut.trans (zq1 HK.out GW203.out GW224.out GW237.out) hk (.inl rfl)); have n5_ := Aside0.mk (hb); have n6_ := Aside0.mk (hi); clear HO_225004; clear BK203; clear BK224; clear BK237; clear HK; clear HB; clear HI0; have HO_225004 := n0_; have BK203 := n1_; have BK224 := n2_; have BK237 := n3_; have HK := n4_; have HB := n5_; have HI0 := n6_; clear n0_ n1_ n2_ n3_ n4_ n5_ n6_; try clear hb; obtain ⟨hcz70_0, hcz70_1, hcz70_2, hcz70_3, hfz70_0, hfz70_1, hfz70_2, hfz70_3⟩ := bf4 BK237.out; have hnb71 := NB224_203.out; have hnc71 := NB203_224.out; have hnb72 := NB224_0.out; have hnc72 := NB0_224.out; obtain ⟨hcz73_0, hcz73_1, hcz73_2, hcz73_3, hcz73_4, hfz73_0, hfz73_1, hfz73_2, hfz73_3, hfz73_4⟩ := bf5 BK224.out) | ((with_reducible refine gate_builtin (b := .append) (xs := #[.tmp 66, .tmp 68]) rfl ?_); at_builtin; refine Kd.R_append k66 w.heap.size rfl (.tmp 66) (.tmp 68) 27 66 (.agg #[(.int .i64 0), (.int .i64 0), (.int .i64 0), (.int .i64 0)]) 32 rfl Try.underlying27 info66 rfl (by decide) (by omega) u225004 x225004_1 (⟨wrap64 (10 * x5_1), wrap64 (1 + t241), wrap64 (1 + t231), t234⟩ : S66) [.int .i64 (wrap64 (10 * x5_1)), .int .i64 (wrap64 (1 + t241)), .int .i64 (wrap64 (1 + t231)), .int .i64 t234] (fun k_ => k_ ≠ gb237) (fun _ => False) rfl (by first | (go_simp; done) | (go_simp; rfl)) ?aP (fun _ hk => hk.elim) ?aF ?aO (Below.refl _ _) ?aS ?aL ?_; (case aP => exact k66_mkM _ _ _ (⟨wrap64 (10 * x5_1), wrap64 (1 + t241), wrap64 (1 + t231), t234⟩ : S66)); (case aF => exact (fun k_ hk => Kd.freshB (g := gb237) (o := .cells #[.int .i64 (wrap64 (10 * x5_1)), .int .i64 (wrap64 (1 + t241)), .int .i64 (wrap64 (1 + t231)), .int .i64 t234] 66 (0, 0)) (zP BK237.out) k_ hk)); (case aO => exact (by (with_reducible repeat (first | apply Kd.R_alloc | apply Kd.R_drewN | apply Kd.R_drew)); exact Kd.R_mono (Kd.R_far (p := ⟨gb237, 1, none⟩) (Kd.R_mono HO_225004.out (fun k_ hk => (⟨hk, hk.2⟩ : _ ∧ k_ ≠ gb237))) (fun _ hk => hk.2) (.int .i64 (wrap64 (1 + t241)))) (fun _ hk => hk.1.2))); (case aS => exact (keep_size (w := w) (g := g) (row := none) (zq1 HK.out GW203.out GW224.out GW237.out))); (case aL => have := LMc59.out; omega); intro v248 w74 ho hb hg hat; rw [← Ny247.out] at ho; have n0_ := Aside0.mk (blk_grown (g := gb203) (o := .cells #[.int .i64 0, .int .i64 0, .int .i64 0, .int .i64 0, .slice none 0 0] 29 (0, 0)) (zF BK203.out NB203_237.out) hg (Kd.R_ne HO_225004.out BK203.out (by decide))); have n1_ := Aside0.mk (blk_grown (g := gb224) (o := .cells #[.int .i64 (rd y204 t207), .int .i64 (wrap64 (1 + t211)), .int .i64 (wrap64 (1 + t214)), .int .i64 (rd y217 t220), u225004] 29 (0, 0)) (zF BK224.out NB224_237.out) hg (Kd.R_ne HO_225004.out BK224.out (by decide))); have n2_ := Aside0.mk (IsS94.grown (show IsS94 w0 _ g s0_0 t242 t243 from zq0 HI0.out NB0_203.out NB0_224.out NB0_237.out) hg (IsS94.own_ne HI0.out HO_225004.out (by decide))); have n3_ := Aside0.mk (blk_grown (g := gb237) (o := .cells #[.int .i64 (wrap64 (10 * x5_1)), .int .i64 (wrap64 (1 + t241)), .int .i64 (wrap64 (1 + t231)), .int .i64 t234] 66 (0, 0)) (zP BK237.out) hg (Kd.R_away HO_225004.out (fun _ hk => hk.2))); have n4_ := Aside0.mk (below_weaken (zq3 HB.out (IsS94.ge HI0.out) GE203.out GE224.out GE237.out) HL.out hb); have n5_ := Aside0.mk (KeepBut.trans (zq1 HK.out GW203.out GW224.out GW237.out) (KeepBut.of_grown hg g) (Kd.R_base2 HO_225004.out)); have n6_ := Aside0.mk (ho); clear BK203; clear BK224; clear HI0; clear BK237; clear HB; clear HK; clear HO_225004; have BK203 := n0_; have BK224 := n1_; have HI0 := n2_; have BK237 := n3_; have HB := n4_; have HK := n5_; have HO249 := n6_; clear n0_ n1_ n2_ n3_ n4_ n5_ n6_; clear ho hb hg hat; obtain ⟨Ao75, co75, eo75⟩ := Kd.R_slice HO249.out; subst eo75; obtain ⟨hcz76_0, hcz76_1, hcz76_2, hcz76_3, hcz76_4, hfz76_0, hfz76_1, hfz76_2, hfz76_3, hfz76_4⟩ := bf5 BK224.out))
            go_roundg k1
            case measure => have := HK1.out; omega
            case rel => exact ⟨(wrap64 (x4_1 + (wrap64 ((wrap64 (1 + t241)) * (wrap64 (1 + t231)))))), (wrap64 (x5_1 - 1)), (t242), (t243), (y247), (.slice Ao75 y247.length co75), (by first | rfl | (simp; done) | (simp [*]; done)), (by first | rfl | (simp; done) | (simp [*]; done)), H', ⟨by have := HK1.out; omega⟩, ⟨by (with_reducible repeat (first | apply Kd.R_alloc | apply Kd.R_drewN | apply Kd.R_drew)); exact Kd.R_mono (Kd.R_far (p := ⟨gb224, 4, none⟩) (Kd.R_types HO249.out BK224.out (by decide)) (fun _ hk => hk.2) (.slice Ao75 y247.length co75)) (fun _ hk => trivial)⟩, ⟨zF BK203.out NB203_224.out⟩, ⟨zP BK224.out⟩, ⟨zq0 HI0.out NB0_203.out NB0_224.out NB0_237.out⟩, ⟨zq1 HK.out GW203.out GW224.out GW237.out⟩, ⟨zq3 HB.out (IsS94.ge HI0.out) GE203.out GE224.out GE237.out⟩⟩
           ·rw [if_neg c59] at H
            exact absurd H (by simp)
         ·replace c38 := Bool.eq_false_iff.mpr c38
          subst c38
          have H1 : (if (wrap64 (x4_1 + (wrap64 ((wrap64 (1 + t228)) * (wrap64 (1 + t231)))))) > 10 then (if x225004_1.length < 4398046511104 then (spec_l03DrawFrame.l0 k1 (wrap64 (x4_1 + (1 * 1))) (wrap64 (x5_1 - 1)) s0_0 t239 t240 (rd y204 t207) (wrap64 (1 + t211)) (wrap64 (1 + t214)) (rd y217 t220) (x225004_1 ++ [(⟨wrap64 (10 * x5_1), 1, 1, t234⟩ : S66)])) else (none)) else (if x225004_1.length < 4398046511104 then (spec_l03DrawFrame.l0 k1 (wrap64 (x4_1 + (wrap64 ((wrap64 (1 + t228)) * (wrap64 (1 + t231)))))) (wrap64 (x5_1 - 1)) s0_0 t239 t240 (rd y204 t207) (wrap64 (1 + t211)) (wrap64 (1 + t214)) (rd y217 t220) (x225004_1 ++ [(⟨wrap64 (10 * x5_1), wrap64 (1 + t228), wrap64 (1 + t231), t234⟩ : S66)])) else (none))) = some (r1, r2, r3, r4, r5, r6, r7) := by rw [if_neg (show ¬ (false = true) by decide)] at H; exact H
          clear H
          have H := H1
          clear H1
          by_cases c77 : (wrap64 (x4_1 + (wrap64 ((wrap64 (1 + t228)) * (wrap64 (1 + t231)))))) > 10
          ·rw [if_pos c77] at H
           have c77b0 : decide (10 < (wrap64 (x4_1 + (wrap64 ((wrap64 (1 + t228)) * (wrap64 (1 + t231))))))) = true := decide_eq_true c77
           clear c77
           by_cases c78 : x225004_1.length < 4398046511104
           ·rw [if_pos c78] at H
            have LMc78 := Aside0.mk c78
            clear c78
            obtain ⟨y250, hy250⟩ : ∃ y_ : List (S66), y_ = (x225004_1 ++ [(⟨wrap64 (10 * x5_1), 1, 1, t234⟩ : S66)]) := ⟨_, rfl⟩
            replace H : (spec_l03DrawFrame.l0 k1 (wrap64 (x4_1 + (1 * 1))) (wrap64 (x5_1 - 1)) s0_0 t239 t240 (rd y204 t207) (wrap64 (1 + t211)) (wrap64 (1 + t214)) (rd y217 t220) y250) = some (r1, r2, r3, r4, r5, r6, r7) := by first | (rw [hy250]; with_reducible exact H) | (have H2_ := (Option.bind_some _ _).symm.trans H; rw [hy250]; with_reducible exact H2_) | (have H2_ := (Option.bind_some _ _).symm.trans H; with_reducible exact H2_) | with_reducible exact H | (rw [hy250]; exact H) | exact H
            have Ny250 := Aside0.mk hy250
            clear hy250
            have H' := Aside0.mk H
            clear H
            go_wp2_with (first | ((with_reducible refine gate_callee (f := 90) rfl ?_); refine goesL_ (some 34) rfl rfl Try.func90 (by kernel_rfl) rfl #[.pointer (some ⟨g, 0, none⟩), .int .i64 2] rfl zM ?_; (with_reducible refine (spec_l01Cur_pick.calls g s0_0 x1001_1 x1002_1 2 t228 t229 t230 w0 _ ?side1 ?side2 A34.out).mono ?_); (case side1 => exact zq2 HI0.out NB0_203.out NB0_224.out); (case side2 => exact zq6 HB.out (IsS94.ge HI0.out) GE203.out GE224.out); rintro e w79 ⟨rfl, hi, hb, hk⟩; refine ⟨_, rfl, ?_⟩; have n0_ := Aside0.mk (Kd.R_mono (Kd.R_keep (IsS94.apart (show IsS94 w0 _ g s0_0 x1001_1 x1002_1 from zq2 HI0.out NB0_203.out NB0_224.out) (zR HO_225004.out) (by decide)) hk (fun _ h => h.2)) (fun _ h => h.1)); have n1_ := Aside0.mk (kP BK203.out hk NB203_0.out); have n2_ := Aside0.mk (kP BK224.out hk NB224_0.out); have n3_ := Aside0.mk (KeepBut.trans (zq4 HK.out GW203.out GW224.out) hk (.inl rfl)); have n4_ := Aside0.mk (hb); have n5_ := Aside0.mk (hi); clear HO_225004; clear BK203; clear BK224; clear HK; clear HB; clear HI0; have HO_225004 := n0_; have BK203 := n1_; have BK224 := n2_; have HK := n3_; have HB := n4_; have HI0 := n5_; clear n0_ n1_ n2_ n3_ n4_ n5_; try clear hb) | ((with_reducible refine gate_callee (f := 90) rfl ?_); refine goesL_ (some 37) rfl rfl Try.func90 (by kernel_rfl) rfl #[.pointer (some ⟨g, 0, none⟩), .int .i64 2] rfl zM ?_; (with_reducible refine (spec_l01Cur_pick.calls g s0_0 t229 t230 2 t231 t232 t233 w0 _ ?side1 ?side2 A35.out).mono ?_); (case side1 => exact zq2 HI0.out NB0_203.out NB0_224.out); (case side2 => exact zq6 HB.out (IsS94.ge HI0.out) GE203.out GE224.out); rintro e w80 ⟨rfl, hi, hb, hk⟩; refine ⟨_, rfl, ?_⟩; have n0_ := Aside0.mk (Kd.R_mono (Kd.R_keep (IsS94.apart (show IsS94 w0 _ g s0_0 t229 t230 from zq2 HI0.out NB0_203.out NB0_224.out) (zR HO_225004.out) (by decide)) hk (fun _ h => h.2)) (fun _ h => h.1)); have n1_ := Aside0.mk (kP BK203.out hk NB203_0.out); have n2_ := Aside0.mk (kP BK224.out hk NB224_0.out); have n3_ := Aside0.mk (KeepBut.trans (zq4 HK.out GW203.out GW224.out) hk (.inl rfl)); have n4_ := Aside0.mk (hb); have n5_ := Aside0.mk (hi); clear HO_225004; clear BK203; clear BK224; clear HK; clear HB; clear HI0; have HO_225004 := n0_; have BK203 := n1_; have BK224 := n2_; have HK := n3_; have HB := n4_; have HI0 := n5_; clear n0_ n1_ n2_ n3_ n4_ n5_; try clear hb) | ((with_reducible refine gate_callee (f := 90) rfl ?_); refine goesL_ (some 40) rfl rfl Try.func90 (by kernel_rfl) rfl #[.pointer (some ⟨g, 0, none⟩), .int .i64 4] rfl zM ?_; (with_reducible refine (spec_l01Cur_pick.calls g s0_0 t232 t233 4 t234 t235 t236 w0 _ ?side1 ?side2 A36.out).mono ?_); (case side1 => exact zq2 HI0.out NB0_203.out NB0_224.out); (case side2 => exact zq6 HB.out (IsS94.ge HI0.out) GE203.out GE224.out); rintro e w81 ⟨rfl, hi, hb, hk⟩; refine ⟨_, rfl, ?_⟩; have n0_ := Aside0.mk (Kd.R_mono (Kd.R_keep (IsS94.apart (show IsS94 w0 _ g s0_0 t232 t233 from zq2 HI0.out NB0_203.out NB0_224.out) (zR HO_225004.out) (by decide)) hk (fun _ h => h.2)) (fun _ h => h.1)); have n1_ := Aside0.mk (kP BK203.out hk NB203_0.out); have n2_ := Aside0.mk (kP BK224.out hk NB224_0.out); have n3_ := Aside0.mk (KeepBut.trans (zq4 HK.out GW203.out GW224.out) hk (.inl rfl)); have n4_ := Aside0.mk (hb); have n5_ := Aside0.mk (hi); clear HO_225004; clear BK203; clear BK224; clear HK; clear HB; clear HI0; have HO_225004 := n0_; have BK203 := n1_; have BK224 := n2_; have HK := n3_; have HB := n4_; have HI0 := n5_; clear n0_ n1_ n2_ n3_ n4_ n5_; try clear hb) | ((with_reducible refine gate_dst (N := 6) rfl ?_); refine box_event ?hg (N := 6) ?hd (cs := #[.int .i64 0, .int .i64 0, .int .i64 0, .int .i64 0]) (t := 66) ?hr ?_; (case hd => rfl); (case hg => rfl); (case hr => first | (go_simp; done) | (go_simp; rfl)); intro gb237 hg w82 hbox hb; have n0_ := Aside0.mk (Kd.R_below (Kd.R_elderB (zR HO_225004.out) gb237 (Nat.le_of_eq hg.symm)) hb); have n1_ := Aside0.mk (kB BK203.out hb); have n2_ := Aside0.mk (kB BK224.out hb); have n3_ := Aside0.mk (IsS94.below (zq2 HI0.out NB0_203.out NB0_224.out) hb); have n4_ := Aside0.mk (KeepBut.trans (zq4 HK.out GW203.out GW224.out) (KeepBut.of_below hb g none) (.inl rfl)); have n5_ := Aside0.mk (below_step (zq6 HB.out (IsS94.ge HI0.out) GE203.out GE224.out) hb); have n6_ := Aside0.mk (hbox); have n7_ := Aside0.mk ((by rw [hg]; exact (keep_size (w := w) (g := g) (row := none) (zq4 HK.out GW203.out GW224.out)) : w.heap.size ≤ gb237)); have n8_ := Aside0.mk ((Nat.le_trans HW0.out (by rw [hg]; exact (keep_size (w := w) (g := g) (row := none) (zq4 HK.out GW203.out GW224.out)) : w.heap.size ≤ gb237) : w0.heap.size ≤ gb237)); have n9_ := Aside0.mk (nL hg BK203.out); have n10_ := Aside0.mk (nG hg BK203.out); have n11_ := Aside0.mk (nL hg BK224.out); have n12_ := Aside0.mk (nG hg BK224.out); have n13_ := Aside0.mk ((by rw [hg]; exact Nat.ne_of_lt (IsS94.lt (show IsS94 w0 _ g s0_0 t235 t236 from zq2 HI0.out NB0_203.out NB0_224.out)) : g ≠ gb237)); have n14_ := Aside0.mk ((by rw [hg]; exact Nat.ne_of_gt (IsS94.lt (show IsS94 w0 _ g s0_0 t235 t236 from zq2 HI0.out NB0_203.out NB0_224.out)) : gb237 ≠ g)); clear HO_225004; clear BK203; clear BK224; clear HI0; clear HK; clear HB; have HO_225004 := n0_; have BK203 := n1_; have BK224 := n2_; have HI0 := n3_; have HK := n4_; have HB := n5_; have BK237 := n6_; have GW237 := n7_; have GE237 := n8_; have NB203_237 := n9_; have NB237_203 := n10_; have NB224_237 := n11_; have NB237_224 := n12_; have NB0_237 := n13_; have NB237_0 := n14_; clear n0_ n1_ n2_ n3_ n4_ n5_ n6_ n7_ n8_ n9_ n10_ n11_ n12_ n13_ n14_; clear hb hbox hg; have hnb83 := NB237_203.out; have hnc83 := NB203_237.out; have hnb84 := NB237_224.out; have hnc84 := NB224_237.out; have hnb85 := NB237_0.out; have hnc85 := NB0_237.out; obtain ⟨hcz86_0, hcz86_1, hcz86_2, hcz86_3, hfz86_0, hfz86_1, hfz86_2, hfz86_3⟩ := bf4 BK237.out) | ((with_reducible refine gate_callee (f := 75) rfl ?_); refine goesL_ (some 43) rfl rfl Try.func75 (by kernel_rfl) rfl #[.pointer (some ⟨g, 0, none⟩), .int .i64 12] rfl zM ?_; (with_reducible refine (spec_l01Cur_once.calls g s0_0 t235 t236 12 false t239 t240 w0 _ ?side1 ?side2 A37.out).mono ?_); (case side1 => exact zq0 HI0.out NB0_203.out NB0_224.out NB0_237.out); (case side2 => exact zq3 HB.out (IsS94.ge HI0.out) GE203.out GE224.out GE237.out); rintro e w87 ⟨rfl, hi, hb, hk⟩; refine ⟨_, rfl, ?_⟩; have n0_ := Aside0.mk (Kd.R_mono (Kd.R_keep (IsS94.apart (show IsS94 w0 _ g s0_0 t235 t236 from zq0 HI0.out NB0_203.out NB0_224.out NB0_237.out) (by (with_reducible repeat (first | apply Kd.R_alloc | apply Kd.R_drewN | apply Kd.R_drew)); exact (Kd.R_mono (Kd.R_far (p := ⟨gb237, 3, none⟩) (Kd.R_far (p := ⟨gb237, 2, none⟩) (Kd.R_far (p := ⟨gb237, 1, none⟩) (Kd.R_far (p := ⟨gb237, 0, none⟩) (Kd.R_mono HO_225004.out (fun k_ hk => (⟨hk, hk.2⟩ : _ ∧ k_ ≠ gb237))) (fun _ hk => hk.2) (.int .i64 (wrap64 (10 * x5_1)))) (fun _ hk => hk.2) (.int .i64 (wrap64 (1 + t228)))) (fun _ hk => hk.2) (.int .i64 (wrap64 (1 + t231)))) (fun _ hk => hk.2) (.int .i64 t234)) (fun _ h_ => h_.1))) (by decide)) hk (fun _ h => h.2)) (fun _ h => h.1)); have n1_ := Aside0.mk (kF BK203.out NB203_237.out hk NB203_0.out); have n2_ := Aside0.mk (kF BK224.out NB224_237.out hk NB224_0.out); have n3_ := Aside0.mk (KeepBut.blk hk (g' := gb237) (o := .cells #[.int .i64 (wrap64 (10 * x5_1)), .int .i64 (wrap64 (1 + t228)), .int .i64 (wrap64 (1 + t231)), .int .i64 t234] 66 (0, 0)) (zP BK237.out) NB237_0.out (by simp)); have n4_ := Aside0.mk (KeepBut.trans (zq1 HK.out GW203.out GW224.out GW237.out) hk (.inl rfl)); have n5_ := Aside0.mk (hb); have n6_ := Aside0.mk (hi); clear HO_225004; clear BK203; clear BK224; clear BK237; clear HK; clear HB; clear HI0; have HO_225004 := n0_; have BK203 := n1_; have BK224 := n2_; have BK237 := n3_; have HK := n4_; have HB := n5_; have HI0 := n6_; clear n0_ n1_ n2_ n3_ n4_ n5_ n6_; try clear hb; obtain ⟨hcz88_0, hcz88_1, hcz88_2, hcz88_3, hfz88_0, hfz88_1, hfz88_2, hfz88_3⟩ := bf4 BK237.out; have hnb89 := NB224_203.out; have hnc89 := NB203_224.out; have hnb90 := NB224_0.out; have hnc90 := NB0_224.out; obtain ⟨hcz91_0, hcz91_1, hcz91_2, hcz91_3, hcz91_4, hfz91_0, hfz91_1, hfz91_2, hfz91_3, hfz91_4⟩ := bf5 BK224.out) | ((with_reducible refine gate_builtin (b := .append) (xs := #[.tmp 66, .tmp 68]) rfl ?_); at_builtin; refine Kd.R_append k66 w.heap.size rfl (.tmp 66) (.tmp 68) 27 66 (.agg #[(.int .i64 0), (.int .i64 0), (.int .i64 0), (.int .i64 0)]) 32 rfl Try.underlying27 info66 rfl (by decide) (by omega) u225004 x225004_1 (⟨wrap64 (10 * x5_1), 1, 1, t234⟩ : S66) [.int .i64 (wrap64 (10 * x5_1)), .int .i64 1, .int .i64 1, .int .i64 t234] (fun k_ => k_ ≠ gb237) (fun _ => False) rfl (by first | (go_simp; done) | (go_simp; rfl)) ?aP (fun _ hk => hk.elim) ?aF ?aO (Below.refl _ _) ?aS ?aL ?_; (case aP => exact k66_mkM _ _ _ (⟨wrap64 (10 * x5_1), 1, 1, t234⟩ : S66)); (case aF => exact (fun k_ hk => Kd.freshB (g := gb237) (o := .cells #[.int .i64 (wrap64 (10 * x5_1)), .int .i64 1, .int .i64 1, .int .i64 t234] 66 (0, 0)) (zP BK237.out) k_ hk)); (case aO => exact (by (with_reducible repeat (first | apply Kd.R_alloc | apply Kd.R_drewN | apply Kd.R_drew)); exact Kd.R_mono (Kd.R_far (p := ⟨gb237, 2, none⟩) (Kd.R_far (p := ⟨gb237, 1, none⟩) (Kd.R_mono HO_225004.out (fun k_ hk => (⟨hk, hk.2⟩ : _ ∧ k_ ≠ gb237))) (fun _ hk => hk.2) (.int .i64 1)) (fun _ hk => hk.2) (.int .i64 1)) (fun _ hk => hk.1.2))); (case aS => exact (keep_size (w := w) (g := g) (row := none) (zq1 HK.out GW203.out GW224.out GW237.out))); (case aL => have := LMc78.out; omega); intro v251 w92 ho hb hg hat; rw [← Ny250.out] at ho; have n0_ := Aside0.mk (blk_grown (g := gb203) (o := .cells #[.int .i64 0, .int .i64 0, .int .i64 0, .int .i64 0, .slice none 0 0] 29 (0, 0)) (zF BK203.out NB203_237.out) hg (Kd.R_ne HO_225004.out BK203.out (by decide))); have n1_ := Aside0.mk (blk_grown (g := gb224) (o := .cells #[.int .i64 (rd y204 t207), .int .i64 (wrap64 (1 + t211)), .int .i64 (wrap64 (1 + t214)), .int .i64 (rd y217 t220), u225004] 29 (0, 0)) (zF BK224.out NB224_237.out) hg (Kd.R_ne HO_225004.out BK224.out (by decide))); have n2_ := Aside0.mk (IsS94.grown (show IsS94 w0 _ g s0_0 t239 t240 from zq0 HI0.out NB0_203.out NB0_224.out NB0_237.out) hg (IsS94.own_ne HI0.out HO_225004.out (by decide))); have n3_ := Aside0.mk (blk_grown (g := gb237) (o := .cells #[.int .i64 (wrap64 (10 * x5_1)), .int .i64 1, .int .i64 1, .int .i64 t234] 66 (0, 0)) (zP BK237.out) hg (Kd.R_away HO_225004.out (fun _ hk => hk.2))); have n4_ := Aside0.mk (below_weaken (zq3 HB.out (IsS94.ge HI0.out) GE203.out GE224.out GE237.out) HL.out hb); have n5_ := Aside0.mk (KeepBut.trans (zq1 HK.out GW203.out GW224.out GW237.out) (KeepBut.of_grown hg g) (Kd.R_base2 HO_225004.out)); have n6_ := Aside0.mk (ho); clear BK203; clear BK224; clear HI0; clear BK237; clear HB; clear HK; clear HO_225004; have BK203 := n0_; have BK224 := n1_; have HI0 := n2_; have BK237 := n3_; have HB := n4_; have HK := n5_; have HO252 := n6_; clear n0_ n1_ n2_ n3_ n4_ n5_ n6_; clear ho hb hg hat; obtain ⟨Ao93, co93, eo93⟩ := Kd.R_slice HO252.out; subst eo93; obtain ⟨hcz94_0, hcz94_1, hcz94_2, hcz94_3, hcz94_4, hfz94_0, hfz94_1, hfz94_2, hfz94_3, hfz94_4⟩ := bf5 BK224.out))
            go_roundg k1
            case measure => have := HK1.out; omega
            case rel => exact ⟨(wrap64 (x4_1 + (1 * 1))), (wrap64 (x5_1 - 1)), (t239), (t240), (y250), (.slice Ao93 y250.length co93), (by first | rfl | (simp; done) | (simp [*]; done)), (by first | rfl | (simp; done) | (simp [*]; done)), H', ⟨by have := HK1.out; omega⟩, ⟨by (with_reducible repeat (first | apply Kd.R_alloc | apply Kd.R_drewN | apply Kd.R_drew)); exact Kd.R_mono (Kd.R_far (p := ⟨gb224, 4, none⟩) (Kd.R_types HO252.out BK224.out (by decide)) (fun _ hk => hk.2) (.slice Ao93 y250.length co93)) (fun _ hk => trivial)⟩, ⟨zF BK203.out NB203_224.out⟩, ⟨zP BK224.out⟩, ⟨zq0 HI0.out NB0_203.out NB0_224.out NB0_237.out⟩, ⟨zq1 HK.out GW203.out GW224.out GW237.out⟩, ⟨zq3 HB.out (IsS94.ge HI0.out) GE203.out GE224.out GE237.out⟩⟩
           ·rw [if_neg c78] at H
            exact absurd H (by simp)
          ·rw [if_neg c77] at H
           have c77b0 : decide (10 < (wrap64 (x4_1 + (wrap64 ((wrap64 (1 + t228)) * (wrap64 (1 + t231))))))) = false := decide_eq_false c77
           clear c77
           by_cases c95 : x225004_1.length < 4398046511104
           ·rw [if_pos c95] at H
            have LMc95 := Aside0.mk c95
            clear c95
            obtain ⟨y253, hy253⟩ : ∃ y_ : List (S66), y_ = (x225004_1 ++ [(⟨wrap64 (10 * x5_1), wrap64 (1 + t228), wrap64 (1 + t231), t234⟩ : S66)]) := ⟨_, rfl⟩
            replace H : (spec_l03DrawFrame.l0 k1 (wrap64 (x4_1 + (wrap64 ((wrap64 (1 + t228)) * (wrap64 (1 + t231)))))) (wrap64 (x5_1 - 1)) s0_0 t239 t240 (rd y204 t207) (wrap64 (1 + t211)) (wrap64 (1 + t214)) (rd y217 t220) y253) = some (r1, r2, r3, r4, r5, r6, r7) := by first | (rw [hy253]; with_reducible exact H) | (have H2_ := (Option.bind_some _ _).symm.trans H; rw [hy253]; with_reducible exact H2_) | (have H2_ := (Option.bind_some _ _).symm.trans H; with_reducible exact H2_) | with_reducible exact H | (rw [hy253]; exact H) | exact H
            have Ny253 := Aside0.mk hy253
            clear hy253
            have H' := Aside0.mk H
            clear H
            go_wp2_with (first | ((with_reducible refine gate_callee (f := 90) rfl ?_); refine goesL_ (some 34) rfl rfl Try.func90 (by kernel_rfl) rfl #[.pointer (some ⟨g, 0, none⟩), .int .i64 2] rfl zM ?_; (with_reducible refine (spec_l01Cur_pick.calls g s0_0 x1001_1 x1002_1 2 t228 t229 t230 w0 _ ?side1 ?side2 A34.out).mono ?_); (case side1 => exact zq2 HI0.out NB0_203.out NB0_224.out); (case side2 => exact zq6 HB.out (IsS94.ge HI0.out) GE203.out GE224.out); rintro e w96 ⟨rfl, hi, hb, hk⟩; refine ⟨_, rfl, ?_⟩; have n0_ := Aside0.mk (Kd.R_mono (Kd.R_keep (IsS94.apart (show IsS94 w0 _ g s0_0 x1001_1 x1002_1 from zq2 HI0.out NB0_203.out NB0_224.out) (zR HO_225004.out) (by decide)) hk (fun _ h => h.2)) (fun _ h => h.1)); have n1_ := Aside0.mk (kP BK203.out hk NB203_0.out); have n2_ := Aside0.mk (kP BK224.out hk NB224_0.out); have n3_ := Aside0.mk (KeepBut.trans (zq4 HK.out GW203.out GW224.out) hk (.inl rfl)); have n4_ := Aside0.mk (hb); have n5_ := Aside0.mk (hi); clear HO_225004; clear BK203; clear BK224; clear HK; clear HB; clear HI0; have HO_225004 := n0_; have BK203 := n1_; have BK224 := n2_; have HK := n3_; have HB := n4_; have HI0 := n5_; clear n0_ n1_ n2_ n3_ n4_ n5_; try clear hb) | ((with_reducible refine gate_callee (f := 90) rfl ?_); refine goesL_ (some 37) rfl rfl Try.func90 (by kernel_rfl) rfl #[.pointer (some ⟨g, 0, none⟩), .int .i64 2] rfl zM ?_; (with_reducible refine (spec_l01Cur_pick.calls g s0_0 t229 t230 2 t231 t232 t233 w0 _ ?side1 ?side2 A35.out).mono ?_); (case side1 => exact zq2 HI0.out NB0_203.out NB0_224.out); (case side2 => exact zq6 HB.out (IsS94.ge HI0.out) GE203.out GE224.out); rintro e w97 ⟨rfl, hi, hb, hk⟩; refine ⟨_, rfl, ?_⟩; have n0_ := Aside0.mk (Kd.R_mono (Kd.R_keep (IsS94.apart (show IsS94 w0 _ g s0_0 t229 t230 from zq2 HI0.out NB0_203.out NB0_224.out) (zR HO_225004.out) (by decide)) hk (fun _ h => h.2)) (fun _ h => h.1)); have n1_ := Aside0.mk (kP BK203.out hk NB203_0.out); have n2_ := Aside0.mk (kP BK224.out hk NB224_0.out); have n3_ := Aside0.mk (KeepBut.trans (zq4 HK.out GW203.out GW224.out) hk (.inl rfl)); have n4_ := Aside0.mk (hb); have n5_ := Aside0.mk (hi); clear HO_225004; clear BK203; clear BK224; clear HK; clear HB; clear HI0; have HO_225004 := n0_; have BK203 := n1_; have BK224 := n2_; have HK := n3_; have HB := n4_; have HI0 := n5_; clear n0_ n1_ n2_ n3_ n4_ n5_; try clear hb) | ((with_reducible refine gate_callee (f := 90) rfl ?_); refine goesL_ (some 40) rfl rfl Try.func90 (by kernel_rfl) rfl #[.pointer (some ⟨g, 0, none⟩), .int .i64 4] rfl zM ?_; (with_reducible refine (spec_l01Cur_pick.calls g s0_0 t232 t233 4 t234 t235 t236 w0 _ ?side1 ?side2 A36.out).mono ?_); (case side1 => exact zq2 HI0.out NB0_203.out NB0_224.out); (case side2 => exact zq6 HB.out (IsS94.ge HI0.out) GE203.out GE224.out); rintro e w98 ⟨rfl, hi, hb, hk⟩; refine ⟨_, rfl, ?_⟩; have n0_ := Aside0.mk (Kd.R_mono (Kd.R_keep (IsS94.apart (show IsS94 w0 _ g s0_0 t232 t233 from zq2 HI0.out NB0_203.out NB0_224.out) (zR HO_225004.out) (by decide)) hk (fun _ h => h.2)) (fun _ h => h.1)); have n1_ := Aside0.mk (kP BK203.out hk NB203_0.out); have n2_ := Aside0.mk (kP BK224.out hk NB224_0.out); have n3_ := Aside0.mk (KeepBut.trans (zq4 HK.out GW203.out GW224.out) hk (.inl rfl)); have n4_ := Aside0.mk (hb); have n5_ := Aside0.mk (hi); clear HO_225004; clear BK203; clear BK224; clear HK; clear HB; clear HI0; have HO_225004 := n0_; have BK203 := n1_; have BK224 := n2_; have HK := n3_; have HB := n4_; have HI0 := n5_; clear n0_ n1_ n2_ n3_ n4_ n5_; try clear hb) | ((with_reducible refine gate_dst (N := 6) rfl ?_); refine box_event ?hg (N := 6) ?hd (cs := #[.int .i64 0, .int .i64 0, .int .i64 0, .int .i64 0]) (t := 66) ?hr ?_; (case hd => rfl); (case hg => rfl); (case hr => first | (go_simp; done) | (go_simp; rfl)); intro gb237 hg w99 hbox hb; have n0_ := Aside0.mk (Kd.R_below (Kd.R_elderB (zR HO_225004.out) gb237 (Nat.le_of_eq hg.symm)) hb); have n1_ := Aside0.mk (kB BK203.out hb); have n2_ := Aside0.mk (kB BK224.out hb); have n3_ := Aside0.mk (IsS94.below (zq2 HI0.out NB0_203.out NB0_224.out) hb); have n4_ := Aside0.mk (KeepBut.trans (zq4 HK.out GW203.out GW224.out) (KeepBut.of_below hb g none) (.inl rfl)); have n5_ := Aside0.mk (below_step (zq6 HB.out (IsS94.ge HI0.out) GE203.out GE224.out) hb); have n6_ := Aside0.mk (hbox); have n7_ := Aside0.mk ((by rw [hg]; exact (keep_size (w := w) (g := g) (row := none) (zq4 HK.out GW203.out GW224.out)) : w.heap.size ≤ gb237)); have n8_ := Aside0.mk ((Nat.le_trans HW0.out (by rw [hg]; exact (keep_size (w := w) (g := g) (row := none) (zq4 HK.out GW203.out GW224.out)) : w.heap.size ≤ gb237) : w0.heap.size ≤ gb237)); have n9_ := Aside0.mk (nL hg BK203.out); have n10_ := Aside0.mk (nG hg BK203.out); have n11_ := Aside0.mk (nL hg BK224.out); have n12_ := Aside0.mk (nG hg BK224.out); have n13_ := Aside0.mk ((by rw [hg]; exact Nat.ne_of_lt (IsS94.lt (show IsS94 w0 _ g s0_0 t235 t236 from zq2 HI0.out NB0_203.out NB0_224.out)) : g ≠ gb237)); have n14_ := Aside0.mk ((by rw [hg]; exact Nat.ne_of_gt (IsS94.lt (show IsS94 w0 _ g s0_0 t235 t236 from zq2 HI0.out NB0_203.out NB0_224.out)) : gb237 ≠ g)); clear HO_225004; clear BK203; clear BK224; clear HI0; clear HK; clear HB; have HO_225004 := n0_; have BK203 := n1_; have BK224 := n2_; have HI0 := n3_; have HK := n4_; have HB := n5_; have BK237 := n6_; have GW237 := n7_; have GE237 := n8_; have NB203_237 := n9_; have NB237_203 := n10_; have NB224_237 := n11_; have NB237_224 := n12_; have NB0_237 := n13_; have NB237_0 := n14_; clear n0_ n1_ n2_ n3_ n4_ n5_ n6_ n7_ n8_ n9_ n10_ n11_ n12_ n13_ n14_; clear hb hbox hg; have hnb100 := NB237_203.out; have hnc100 := NB203_237.out; have hnb101 := NB237_224.out; have hnc101 := NB224_237.out; have hnb102 := NB237_0.out; have hnc102 := NB0_237.out; obtain ⟨hcz103_0, hcz103_1, hcz103_2, hcz103_3, hfz103_0, hfz103_1, hfz103_2, hfz103_3⟩ := bf4 BK237.out) | ((with_reducible refine gate_callee (f := 75) rfl ?_); refine goesL_ (some 43) rfl rfl Try.func75 (by kernel_rfl) rfl #[.pointer (some ⟨g, 0, none⟩), .int .i64 12] rfl zM ?_; (with_reducible refine (spec_l01Cur_once.calls g s0_0 t235 t236 12 false t239 t240 w0 _ ?side1 ?side2 A37.out).mono ?_); (case side1 => exact zq0 HI0.out NB0_203.out NB0_224.out NB0_237.out); (case side2 => exact zq3 HB.out (IsS94.ge HI0.out) GE203.out GE224.out GE237.out); rintro e w104 ⟨rfl, hi, hb, hk⟩; refine ⟨_, rfl, ?_⟩; have n0_ := Aside0.mk (Kd.R_mono (Kd.R_keep (IsS94.apart (show IsS94 w0 _ g s0_0 t235 t236 from zq0 HI0.out NB0_203.out NB0_224.out NB0_237.out) (by (with_reducible repeat (first | apply Kd.R_alloc | apply Kd.R_drewN | apply Kd.R_drew)); exact (Kd.R_mono (Kd.R_far (p := ⟨gb237, 3, none⟩) (Kd.R_far (p := ⟨gb237, 2, none⟩) (Kd.R_far (p := ⟨gb237, 1, none⟩) (Kd.R_far (p := ⟨gb237, 0, none⟩) (Kd.R_mono HO_225004.out (fun k_ hk => (⟨hk, hk.2⟩ : _ ∧ k_ ≠ gb237))) (fun _ hk => hk.2) (.int .i64 (wrap64 (10 * x5_1)))) (fun _ hk => hk.2) (.int .i64 (wrap64 (1 + t228)))) (fun _ hk => hk.2) (.int .i64 (wrap64 (1 + t231)))) (fun _ hk => hk.2) (.int .i64 t234)) (fun _ h_ => h_.1))) (by decide)) hk (fun _ h => h.2)) (fun _ h => h.1)); have n1_ := Aside0.mk (kF BK203.out NB203_237.out hk NB203_0.out); have n2_ := Aside0.mk (kF BK224.out NB224_237.out hk NB224_0.out); have n3_ := Aside0.mk (KeepBut.blk hk (g' := gb237) (o := .cells #[.int .i64 (wrap64 (10 * x5_1)), .int .i64 (wrap64 (1 + t228)), .int .i64 (wrap64 (1 + t231)), .int .i64 t234] 66 (0, 0)) (zP BK237.out) NB237_0.out (by simp)); have n4_ := Aside0.mk (KeepBut.trans (zq1 HK.out GW203.out GW224.out GW237.out) hk (.inl rfl)); have n5_ := Aside0.mk (hb); have n6_ := Aside0.mk (hi); clear HO_225004; clear BK203; clear BK224; clear BK237; clear HK; clear HB; clear HI0; have HO_225004 := n0_; have BK203 := n1_; have BK224 := n2_; have BK237 := n3_; have HK := n4_; have HB := n5_; have HI0 := n6_; clear n0_ n1_ n2_ n3_ n4_ n5_ n6_; try clear hb; obtain ⟨hcz105_0, hcz105_1, hcz105_2, hcz105_3, hfz105_0, hfz105_1, hfz105_2, hfz105_3⟩ := bf4 BK237.out; have hnb106 := NB224_203.out; have hnc106 := NB203_224.out; have hnb107 := NB224_0.out; have hnc107 := NB0_224.out; obtain ⟨hcz108_0, hcz108_1, hcz108_2, hcz108_3, hcz108_4, hfz108_0, hfz108_1, hfz108_2, hfz108_3, hfz108_4⟩ := bf5 BK224.out) | ((with_reducible refine gate_builtin (b := .append) (xs := #[.tmp 66, .tmp 68]) rfl ?_); at_builtin; refine Kd.R_append k66 w.heap.size rfl (.tmp 66) (.tmp 68) 27 66 (.agg #[(.int .i64 0), (.int .i64 0), (.int .i64 0), (.int .i64 0)]) 32 rfl Try.underlying27 info66 rfl (by decide) (by omega) u225004 x225004_1 (⟨wrap64 (10 * x5_1), wrap64 (1 + t228), wrap64 (1 + t231), t234⟩ : S66) [.int .i64 (wrap64 (10 * x5_1)), .int .i64 (wrap64 (1 + t228)), .int .i64 (wrap64 (1 + t231)), .int .i64 t234] (fun k_ => k_ ≠ gb237) (fun _ => False) rfl rfl ?aP (fun _ hk => hk.elim) ?aF ?aO (Below.refl _ _) ?aS ?aL ?_; (case aP => exact k66_mkM _ _ _ (⟨wrap64 (10 * x5_1), wrap64 (1 + t228), wrap64 (1 + t231), t234⟩ : S66)); (case aF => exact (fun k_ hk => Kd.freshB (g := gb237) (o := .cells #[.int .i64 (wrap64 (10 * x5_1)), .int .i64 (wrap64 (1 + t228)), .int .i64 (wrap64 (1 + t231)), .int .i64 t234] 66 (0, 0)) (zK BK237.out) k_ hk)); (case aO => exact (by (with_reducible repeat (first | apply Kd.R_alloc | apply Kd.R_drewN | apply Kd.R_drew)); exact Kd.R_mono HO_225004.out (fun _ hk => hk.2))); (case aS => exact (keep_size (w := w) (g := g) (row := none) (zq1 HK.out GW203.out GW224.out GW237.out))); (case aL => have := LMc95.out; omega); intro v254 w109 ho hb hg hat; rw [← Ny253.out] at ho; have n0_ := Aside0.mk (kG BK203.out hg (Kd.R_ne HO_225004.out BK203.out (by decide))); have n1_ := Aside0.mk (kG BK224.out hg (Kd.R_ne HO_225004.out BK224.out (by decide))); have n2_ := Aside0.mk (IsS94.grown (show IsS94 w0 _ g s0_0 t239 t240 from zq0 HI0.out NB0_203.out NB0_224.out NB0_237.out) hg (IsS94.own_ne HI0.out HO_225004.out (by decide))); have n3_ := Aside0.mk (kG BK237.out hg (Kd.R_away HO_225004.out (fun _ hk => hk.2))); have n4_ := Aside0.mk (below_weaken (zq3 HB.out (IsS94.ge HI0.out) GE203.out GE224.out GE237.out) HL.out hb); have n5_ := Aside0.mk (KeepBut.trans (zq1 HK.out GW203.out GW224.out GW237.out) (KeepBut.of_grown hg g) (Kd.R_base2 HO_225004.out)); have n6_ := Aside0.mk (ho); clear BK203; clear BK224; clear HI0; clear BK237; clear HB; clear HK; clear HO_225004; have BK203 := n0_; have BK224 := n1_; have HI0 := n2_; have BK237 := n3_; have HB := n4_; have HK := n5_; have HO255 := n6_; clear n0_ n1_ n2_ n3_ n4_ n5_ n6_; clear ho hb hg hat; obtain ⟨Ao110, co110, eo110⟩ := Kd.R_slice HO255.out; subst eo110; obtain ⟨hcz111_0, hcz111_1, hcz111_2, hcz111_3, hcz111_4, hfz111_0, hfz111_1, hfz111_2, hfz111_3, hfz111_4⟩ := bf5 BK224.out))
            go_roundg k1
            case measure => have := HK1.out; omega
            case rel => exact ⟨(wrap64 (x4_1 + (wrap64 ((wrap64 (1 + t228)) * (wrap64 (1 + t231)))))), (wrap64 (x5_1 - 1)), (t239), (t240), (y253), (.slice Ao110 y253.length co110), (by first | rfl | (simp; done) | (simp [*]; done)), (by first | rfl | (simp; done) | (simp [*]; done)), H', ⟨by have := HK1.out; omega⟩, ⟨by (with_reducible repeat (first | apply Kd.R_alloc | apply Kd.R_drewN | apply Kd.R_drew)); exact Kd.R_mono (Kd.R_far (p := ⟨gb224, 4, none⟩) (Kd.R_types HO255.out BK224.out (by decide)) (fun _ hk => hk.2) (.slice Ao110 y253.length co110)) (fun _ hk => trivial)⟩, ⟨zF BK203.out NB203_224.out⟩, ⟨zP BK224.out⟩, ⟨zq0 HI0.out NB0_203.out NB0_224.out NB0_237.out⟩, ⟨zq1 HK.out GW203.out GW224.out GW237.out⟩, ⟨zq3 HB.out (IsS94.ge HI0.out) GE203.out GE224.out GE237.out⟩⟩
           ·rw [if_neg c95] at H
            exact absurd H (by simp)
        ·rw [if_neg c33] at H
         have c33b0 : decide (0 < x5_1) = false := decide_eq_false c33
         clear c33
         simp only [Option.some.injEq, Prod.mk.injEq] at H
         obtain ⟨rfl, rfl, rfl, rfl, rfl, rfl, rfl⟩ := H
         have hnb112 := NB224_203.out
         have hnc112 := NB203_224.out
         have hnb113 := NB224_0.out
         have hnc113 := NB0_224.out
         obtain ⟨hcz114_0, hcz114_1, hcz114_2, hcz114_3, hcz114_4, hfz114_0, hfz114_1, hfz114_2, hfz114_3, hfz114_4⟩ := bf5 BK224.out
         have hnb115 := NB203_0.out
         have hnc115 := NB0_203.out
         obtain ⟨hcz116_0, hcz116_1, hcz116_2, hcz116_3, hcz116_4, hfz116_0, hfz116_1, hfz116_2, hfz116_3, hfz116_4⟩ := bf5 BK203.out
         obtain ⟨Ao117, co117, eo117⟩ := Kd.R_slice HO_225004.out
         subst eo117
         go_wp2
         refine bodyPost_ret (results_cell_row rfl _ _ gb203 29 #[.int .i64 (rd y204 t207), .int .i64 (wrap64 (1 + t211)), .int .i64 (wrap64 (1 + t214)), .int .i64 (rd y217 t220), .slice Ao117 x225004_1.length co117] (0, 0) _ rfl (zP BK203.out) Try.underlying29 rfl (by kernel_rfl)) rfl ?_
         exact ⟨_, by first | rfl | (simp [errW_none, errW_some] <;> rfl) | (simp [*, errW_none, errW_some] <;> rfl), by (with_reducible repeat (first | apply Kd.R_alloc | apply Kd.R_drewN | apply Kd.R_drew)); exact Kd.R_mono (Kd.R_far (p := ⟨gb203, 4, none⟩) (Kd.R_far (p := ⟨gb203, 3, none⟩) (Kd.R_far (p := ⟨gb203, 2, none⟩) (Kd.R_far (p := ⟨gb203, 1, none⟩) (Kd.R_far (p := ⟨gb203, 0, none⟩) (Kd.R_types HO_225004.out BK203.out (by decide)) (fun _ hk => hk.2) (.int .i64 (rd y204 t207))) (fun _ hk => hk.2) (.int .i64 (wrap64 (1 + t211)))) (fun _ hk => hk.2) (.int .i64 (wrap64 (1 + t214)))) (fun _ hk => hk.2) (.int .i64 (rd y217 t220))) (fun _ hk => hk.2) (.slice Ao117 x225004_1.length co117)) (fun _ hk => trivial), zq2 HI0.out NB0_203.out NB0_224.out, zq6 HB.out (IsS94.ge HI0.out) GE203.out GE224.out, zq4 HK.out GW203.out GW224.out⟩
     refine join_ (σ := Addr × Addr × Nat) 2 (lb 131071) (fun s_ => [(7, .slice (some s_.1) 3 3), (9, .int .i64 t207), (10, .pointer (some (s_.1.add (t207).toNat))), (11, .int .i64 (rd y204 t207)), (13, .int .i64 t211), (14, .int .i64 (wrap64 (1 + t211))), (16, .int .i64 t214), (17, .int .i64 (wrap64 (1 + t214))), (18, .slice (some s_.2.1) 5 5), (20, .int .i64 t220), (21, .pointer (some (s_.2.1.add (t220).toNat))), (22, .int .i64 (rd y217 t220)), (23, .agg #[.int .i64 (rd y204 t207), .int .i64 (wrap64 (1 + t211)), .int .i64 (wrap64 (1 + t214)), .int .i64 (rd y217 t220), .slice none 0 0])]) (fun s_ W_ => RgS w0 w W_ g gb203 s0_0 t221 t222 ∧ True ∧ True ∧ True) ?_ (fun hJ_0_2_4_6_9_11_13_15 => ?_)
     ·rintro s_ W_ ⟨hR, hA, hB, hC⟩
      refine norm_ (a' := ?_) ?_ ?_
      rotate_left
      ·simp only [putAll, Act.put, List.setIfInBounds_toArray, List.set_cons_zero, List.set_cons_succ, i64_w, i32_w]
       rfl
      refine one_ (i := 17) (N := some 3) (lb 262143) rfl rfl (one_of HT_.out (by kernel_rfl)) (by decide) (fun K hK => ?_)
      ·refine stB_ (by rfl) rfl zG hR (fun hN_ => ?_)
       refine hK.out _ _ trivial (fun hHeld => ?_)
       exact norm2_ (hJ_0_2_4_6_9_11_13_15_17 (s_.1, s_.2.1, W_.heap.size) _ ⟨hR.alloc _, trivial, trivial, hN_⟩)
     refine join_ (σ := Addr × Addr × Nat) 3 (lb 196591) (fun s_ => [(7, .slice (some s_.1) 3 3), (9, .int .i64 t207), (10, .pointer (some (s_.1.add (t207).toNat))), (13, .int .i64 t211), (14, .int .i64 (wrap64 (1 + t211))), (16, .int .i64 t214), (17, .int .i64 (wrap64 (1 + t214))), (18, .slice (some s_.2.1) 5 5), (20, .int .i64 t220), (21, .pointer (some (s_.2.1.add (t220).toNat))), (22, .int .i64 (rd y217 t220)), (3, .pointer (some ⟨s_.2.2, 0, none⟩))]) (fun s_ W_ => RgS w0 w W_ g gb203 s0_0 t221 t222 ∧ CellF W_ g (s_.1.add (t207).toNat) (.int .i64 (rd y204 t207)) ∧ True ∧ BoxF w0 w W_ g gb203 s_.2.2) ?_ (fun hJ_0_2_6_9_11_13_15_17 => ?_)
     ·rintro s_ W_ ⟨hR, hA, hB, hC⟩
      refine norm_ (a' := ?_) ?_ ?_
      rotate_left
      ·simp only [putAll, Act.put, List.setIfInBounds_toArray, List.set_cons_zero, List.set_cons_succ, i64_w, i32_w]
       rfl
      refine one_ (i := 4) (N := some 11) (lb 196607) rfl rfl (one_of HT_.out (by kernel_rfl)) (by decide) (fun K hK => ?_)
      ·have hx_ := hA.1
       refine value_ (v := .int .i64 (rd y204 t207)) (w1 := W_) (by rfl) rfl zG ?_
       clear hx_
       refine hK.out _ _ trivial (fun hHeld => ?_)
       refine pure_ (i := 16) (N := some 23) (v := .agg #[.int .i64 (rd y204 t207), .int .i64 (wrap64 (1 + t211)), .int .i64 (wrap64 (1 + t214)), .int .i64 (rd y217 t220), .slice none 0 0]) (lb 262143) rfl rfl (any_of HT_.out (by kernel_rfl)) (fun _ _ _ h => h) zY rfl ?_
       exact norm2_ (hJ_0_2_4_6_9_11_13_15_17 (s_.1, s_.2.1, s_.2.2) _ ⟨hR, trivial, trivial, hC⟩)
     refine join_ (σ := Addr × Addr × Nat) 3 (lb 163839) (fun s_ => [(7, .slice (some s_.1) 3 3), (9, .int .i64 t207), (10, .pointer (some (s_.1.add (t207).toNat))), (11, .int .i64 (rd y204 t207)), (13, .int .i64 t211), (14, .int .i64 (wrap64 (1 + t211))), (16, .int .i64 t214), (17, .int .i64 (wrap64 (1 + t214))), (18, .slice (some s_.2.1) 5 5), (20, .int .i64 t220), (21, .pointer (some (s_.2.1.add (t220).toNat))), (3, .pointer (some ⟨s_.2.2, 0, none⟩))]) (fun s_ W_ => RgS w0 w W_ g gb203 s0_0 t221 t222 ∧ True ∧ CellF W_ g (s_.2.1.add (t220).toNat) (.int .i64 (rd y217 t220)) ∧ BoxF w0 w W_ g gb203 s_.2.2) ?_ (fun hJ_0_2_4_6_9_11_13_17 => ?_)
     ·rintro s_ W_ ⟨hR, hA, hB, hC⟩
      refine norm_ (a' := ?_) ?_ ?_
      rotate_left
      ·simp only [putAll, Act.put, List.setIfInBounds_toArray, List.set_cons_zero, List.set_cons_succ, i64_w, i32_w]
       rfl
      refine one_ (i := 15) (N := some 22) (lb 196607) rfl rfl (one_of HT_.out (by kernel_rfl)) (by decide) (fun K hK => ?_)
      ·have hx_ := hB.1
       refine value_ (v := .int .i64 (rd y217 t220)) (w1 := W_) (by rfl) rfl zG ?_
       clear hx_
       refine hK.out _ _ trivial (fun hHeld => ?_)
       refine pure_ (i := 16) (N := some 23) (v := .agg #[.int .i64 (rd y204 t207), .int .i64 (wrap64 (1 + t211)), .int .i64 (wrap64 (1 + t214)), .int .i64 (rd y217 t220), .slice none 0 0]) (lb 262143) rfl rfl (any_of HT_.out (by kernel_rfl)) (fun _ _ _ h => h) zY rfl ?_
       exact norm2_ (hJ_0_2_4_6_9_11_13_15_17 (s_.1, s_.2.1, s_.2.2) _ ⟨hR, trivial, trivial, hC⟩)
     refine join_ (σ := Addr × Addr × Nat) 4 (lb 163823) (fun s_ => [(7, .slice (some s_.1) 3 3), (9, .int .i64 t207), (10, .pointer (some (s_.1.add (t207).toNat))), (13, .int .i64 t211), (14, .int .i64 (wrap64 (1 + t211))), (16, .int .i64 t214), (17, .int .i64 (wrap64 (1 + t214))), (18, .slice (some s_.2.1) 5 5), (20, .int .i64 t220), (21, .pointer (some (s_.2.1.add (t220).toNat))), (3, .pointer (some ⟨s_.2.2, 0, none⟩))]) (fun s_ W_ => RgS w0 w W_ g gb203 s0_0 t221 t222 ∧ CellF W_ g (s_.1.add (t207).toNat) (.int .i64 (rd y204 t207)) ∧ CellF W_ g (s_.2.1.add (t220).toNat) (.int .i64 (rd y217 t220)) ∧ BoxF w0 w W_ g gb203 s_.2.2) ?_ (fun hJ_0_2_6_9_11_13_17 => ?_)
     ·rintro s_ W_ ⟨hR, hA, hB, hC⟩
      refine norm_ (a' := ?_) ?_ ?_
      rotate_left
      ·simp only [putAll, Act.put, List.setIfInBounds_toArray, List.set_cons_zero, List.set_cons_succ, i64_w, i32_w]
       rfl
      refine two_ (i := 4) (j := 15) (Ni := some 11) (Nj := some 22) (lb 163839) (lb 196591) rfl rfl rfl rfl (two_of HT_.out (by kernel_rfl)) (by decide) (by decide) (fun K hK => ?_) (fun K hK => ?_)
      ·have hx_ := hA.1
       refine value_ (v := .int .i64 (rd y204 t207)) (w1 := W_) (by rfl) rfl zG ?_
       clear hx_
       refine hK.out _ _ trivial (fun hHeld => ?_)
       exact norm2_ (hJ_0_2_4_6_9_11_13_17 (s_.1, s_.2.1, s_.2.2) _ ⟨hR, trivial, hB, hC⟩)
      ·have hx_ := hB.1
       refine value_ (v := .int .i64 (rd y217 t220)) (w1 := W_) (by rfl) rfl zG ?_
       clear hx_
       refine hK.out _ _ trivial (fun hHeld => ?_)
       exact norm2_ (hJ_0_2_6_9_11_13_15_17 (s_.1, s_.2.1, s_.2.2) _ ⟨hR, hA, trivial, hC⟩)
     refine join_ (σ := Addr × Addr × Nat) 4 (lb 65519) (fun s_ => [(7, .slice (some s_.1) 3 3), (9, .int .i64 t207), (10, .pointer (some (s_.1.add (t207).toNat))), (13, .int .i64 t211), (14, .int .i64 (wrap64 (1 + t211))), (16, .int .i64 t214), (17, .int .i64 (wrap64 (1 + t214))), (18, .slice (some s_.2.1) 5 5), (20, .int .i64 t220), (21, .pointer (some (s_.2.1.add (t220).toNat))), (22, .int .i64 (rd y217 t220))]) (fun s_ W_ => RgS w0 w W_ g gb203 s0_0 t221 t222 ∧ CellF W_ g (s_.1.add (t207).toNat) (.int .i64 (rd y204 t207)) ∧ True ∧ True) ?_ (fun hJ_0_2_6_9_11_13_15 => ?_)
     ·rintro s_ W_ ⟨hR, hA, hB, hC⟩
      refine norm_ (a' := ?_) ?_ ?_
      rotate_left
      ·simp only [putAll, Act.put, List.setIfInBounds_toArray, List.set_cons_zero, List.set_cons_succ, i64_w, i32_w]
       rfl
      refine two_ (i := 4) (j := 17) (Ni := some 11) (Nj := some 3) (lb 65535) (lb 196591) rfl rfl rfl rfl (two_of HT_.out (by kernel_rfl)) (by decide) (by decide) (fun K hK => ?_) (fun K hK => ?_)
      ·have hx_ := hA.1
       refine value_ (v := .int .i64 (rd y204 t207)) (w1 := W_) (by rfl) rfl zG ?_
       clear hx_
       refine hK.out _ _ trivial (fun hHeld => ?_)
       refine pure_ (i := 16) (N := some 23) (v := .agg #[.int .i64 (rd y204 t207), .int .i64 (wrap64 (1 + t211)), .int .i64 (wrap64 (1 + t214)), .int .i64 (rd y217 t220), .slice none 0 0]) (lb 131071) rfl rfl (any_of HT_.out (by kernel_rfl)) (fun _ _ _ h => h) zY rfl ?_
       exact norm2_ (hJ_0_2_4_6_9_11_13_15 (s_.1, s_.2.1, s_.2.2) _ ⟨hR, trivial, trivial, trivial⟩)
      ·refine stB_ (by rfl) rfl zG hR (fun hN_ => ?_)
       refine hK.out _ _ trivial (fun hHeld => ?_)
       exact norm2_ (hJ_0_2_6_9_11_13_15_17 (s_.1, s_.2.1, W_.heap.size) _ ⟨hR.alloc _, hA.alloc _, trivial, hN_⟩)
     refine join_ (σ := Addr × Addr × Nat) 4 (lb 32767) (fun s_ => [(7, .slice (some s_.1) 3 3), (9, .int .i64 t207), (10, .pointer (some (s_.1.add (t207).toNat))), (11, .int .i64 (rd y204 t207)), (13, .int .i64 t211), (14, .int .i64 (wrap64 (1 + t211))), (16, .int .i64 t214), (17, .int .i64 (wrap64 (1 + t214))), (18, .slice (some s_.2.1) 5 5), (20, .int .i64 t220), (21, .pointer (some (s_.2.1.add (t220).toNat)))]) (fun s_ W_ => RgS w0 w W_ g gb203 s0_0 t221 t222 ∧ True ∧ CellF W_ g (s_.2.1.add (t220).toNat) (.int .i64 (rd y217 t220)) ∧ True) ?_ (fun hJ_0_2_4_6_9_11_13 => ?_)
     ·rintro s_ W_ ⟨hR, hA, hB, hC⟩
      refine norm_ (a' := ?_) ?_ ?_
      rotate_left
      ·simp only [putAll, Act.put, List.setIfInBounds_toArray, List.set_cons_zero, List.set_cons_succ, i64_w, i32_w]
       rfl
      refine two_ (i := 15) (j := 17) (Ni := some 22) (Nj := some 3) (lb 65535) (lb 163839) rfl rfl rfl rfl (two_of HT_.out (by kernel_rfl)) (by decide) (by decide) (fun K hK => ?_) (fun K hK => ?_)
      ·have hx_ := hB.1
       refine value_ (v := .int .i64 (rd y217 t220)) (w1 := W_) (by rfl) rfl zG ?_
       clear hx_
       refine hK.out _ _ trivial (fun hHeld => ?_)
       refine pure_ (i := 16) (N := some 23) (v := .agg #[.int .i64 (rd y204 t207), .int .i64 (wrap64 (1 + t211)), .int .i64 (wrap64 (1 + t214)), .int .i64 (rd y217 t220), .slice none 0 0]) (lb 131071) rfl rfl (any_of HT_.out (by kernel_rfl)) (fun _ _ _ h => h) zY rfl ?_
       exact norm2_ (hJ_0_2_4_6_9_11_13_15 (s_.1, s_.2.1, s_.2.2) _ ⟨hR, trivial, trivial, trivial⟩)
      ·refine stB_ (by rfl) rfl zG hR (fun hN_ => ?_)
       refine hK.out _ _ trivial (fun hHeld => ?_)
       exact norm2_ (hJ_0_2_4_6_9_11_13_17 (s_.1, s_.2.1, W_.heap.size) _ ⟨hR.alloc _, trivial, hB.alloc _, hN_⟩)
     refine join_ (σ := Addr × Addr × Nat) 5 (lb 196582) (fun s_ => [(9, .int .i64 t207), (13, .int .i64 t211), (14, .int .i64 (wrap64 (1 + t211))), (16, .int .i64 t214), (17, .int .i64 (wrap64 (1 + t214))), (18, .slice (some s_.2.1) 5 5), (20, .int .i64 t220), (21, .pointer (some (s_.2.1.add (t220).toNat))), (22, .int .i64 (rd y217 t220)), (3, .pointer (some ⟨s_.2.2, 0, none⟩))]) (fun s_ W_ => RgS w0 w W_ g gb203 s0_0 t221 t222 ∧ True ∧ True ∧ BoxF w0 w W_ g gb203 s_.2.2) ?_ (fun hJ_2_6_9_11_13_15_17 => ?_)
     ·rintro s_ W_ ⟨hR, hA, hB, hC⟩
      refine norm_ (a' := ?_) ?_ ?_
      rotate_left
      ·simp only [putAll, Act.put, List.setIfInBounds_toArray, List.set_cons_zero, List.set_cons_succ, i64_w, i32_w]
       rfl
      refine one_ (i := 0) (N := some 7) (lb 196583) rfl rfl (one_of HT_.out (by kernel_rfl)) (by decide) (fun K hK => ?_)
      ·refine st3_ (by rfl) rfl zG hR t207 y204 Ny204.out (of_eq_true pi1_) (of_eq_true qi1_) (fun ad_ hN_ => ?_)
       refine hK.out _ _ trivial (fun hHeld => ?_)
       refine pure_ (i := 3) (N := some 10) (v := .pointer (some (ad_.add (t207).toNat))) (lb 196591) rfl rfl (any_of HT_.out (by kernel_rfl)) (fun _ _ _ h => h) zY rfl ?_
       exact norm2_ (hJ_0_2_6_9_11_13_15_17 (ad_, s_.2.1, s_.2.2) _ ⟨hR.alloc _, hN_, trivial, hC.alloc _⟩)
     refine join_ (σ := Addr × Addr × Nat) 5 (lb 139263) (fun s_ => [(7, .slice (some s_.1) 3 3), (9, .int .i64 t207), (10, .pointer (some (s_.1.add (t207).toNat))), (11, .int .i64 (rd y204 t207)), (13, .int .i64 t211), (14, .int .i64 (wrap64 (1 + t211))), (16, .int .i64 t214), (17, .int .i64 (wrap64 (1 + t214))), (18, .slice (some s_.2.1) 5 5), (3, .pointer (some ⟨s_.2.2, 0, none⟩))]) (fun s_ W_ => RgS w0 w W_ g gb203 s0_0 t215 t216 ∧ True ∧ CellF W_ g (s_.2.1.add (t220).toNat) (.int .i64 (rd y217 t220)) ∧ BoxF w0 w W_ g gb203 s_.2.2) ?_ (fun hJ_0_2_4_6_9_11_17 => ?_)
     ·rintro s_ W_ ⟨hR, hA, hB, hC⟩
      refine norm_ (a' := ?_) ?_ ?_
      rotate_left
      ·simp only [putAll, Act.put, List.setIfInBounds_toArray, List.set_cons_zero, List.set_cons_succ, i64_w, i32_w]
       rfl
      refine one_ (i := 13) (N := some 20) (lb 147455) rfl rfl (one_of HT_.out (by kernel_rfl)) (by decide) (fun K hK => ?_)
      ·refine stP_ (by rfl) rfl rfl zA hR A7.out (fun _ hR1_ hk => ?_)
       refine hK.out _ _ trivial (fun hHeld => ?_)
       refine pure_ (i := 14) (N := some 21) (v := .pointer (some (s_.2.1.add (t220).toNat))) (lb 163839) rfl rfl (any_of HT_.out (by kernel_rfl)) (fun _ _ _ h => h) zY rfl ?_
       exact norm2_ (hJ_0_2_4_6_9_11_13_17 (s_.1, s_.2.1, s_.2.2) _ ⟨hR1_, trivial, hB.pick hk, hC.pick hk⟩)
     refine join_ (σ := Addr × Addr × Nat) 5 (lb 145407) (fun s_ => [(7, .slice (some s_.1) 3 3), (9, .int .i64 t207), (10, .pointer (some (s_.1.add (t207).toNat))), (11, .int .i64 (rd y204 t207)), (13, .int .i64 t211), (14, .int .i64 (wrap64 (1 + t211))), (16, .int .i64 t214), (17, .int .i64 (wrap64 (1 + t214))), (20, .int .i64 t220), (3, .pointer (some ⟨s_.2.2, 0, none⟩))]) (fun s_ W_ => RgS w0 w W_ g gb203 s0_0 t221 t222 ∧ True ∧ True ∧ BoxF w0 w W_ g gb203 s_.2.2) ?_ (fun hJ_0_2_4_6_9_13_17 => ?_)
     ·rintro s_ W_ ⟨hR, hA, hB, hC⟩
      refine norm_ (a' := ?_) ?_ ?_
      rotate_left
      ·simp only [putAll, Act.put, List.setIfInBounds_toArray, List.set_cons_zero, List.set_cons_succ, i64_w, i32_w]
       rfl
      refine one_ (i := 11) (N := some 18) (lb 147455) rfl rfl (one_of HT_.out (by kernel_rfl)) (by decide) (fun K hK => ?_)
      ·refine st5_ (by rfl) rfl zG hR t220 y217 Ny217.out (of_eq_true pi4_) (of_eq_true qi4_) (fun ad_ hN_ => ?_)
       refine hK.out _ _ trivial (fun hHeld => ?_)
       refine pure_ (i := 14) (N := some 21) (v := .pointer (some (ad_.add (t220).toNat))) (lb 163839) rfl rfl (any_of HT_.out (by kernel_rfl)) (fun _ _ _ h => h) zY rfl ?_
       exact norm2_ (hJ_0_2_4_6_9_11_13_17 (s_.1, ad_, s_.2.2) _ ⟨hR.alloc _, trivial, hN_, hC.alloc _⟩)
     refine join_ (σ := Addr × Addr × Nat) 5 (lb 32751) (fun s_ => [(7, .slice (some s_.1) 3 3), (9, .int .i64 t207), (10, .pointer (some (s_.1.add (t207).toNat))), (13, .int .i64 t211), (14, .int .i64 (wrap64 (1 + t211))), (16, .int .i64 t214), (17, .int .i64 (wrap64 (1 + t214))), (18, .slice (some s_.2.1) 5 5), (20, .int .i64 t220), (21, .pointer (some (s_.2.1.add (t220).toNat)))]) (fun s_ W_ => RgS w0 w W_ g gb203 s0_0 t221 t222 ∧ CellF W_ g (s_.1.add (t207).toNat) (.int .i64 (rd y204 t207)) ∧ CellF W_ g (s_.2.1.add (t220).toNat) (.int .i64 (rd y217 t220)) ∧ True) ?_ (fun hJ_0_2_6_9_11_13 => ?_)
     ·rintro s_ W_ ⟨hR, hA, hB, hC⟩
      refine norm_ (a' := ?_) ?_ ?_
      rotate_left
      ·simp only [putAll, Act.put, List.setIfInBounds_toArray, List.set_cons_zero, List.set_cons_succ, i64_w, i32_w]
       rfl
      refine three_ (i := 4) (j := 15) (k := 17) (Ni := some 11) (Nj := some 22) (Nk := some 3) (lb 32767) (lb 65519) (lb 163823) rfl rfl rfl rfl rfl rfl (three_of HT_.out (by kernel_rfl)) (by decide) (by decide) (by decide) (fun K hK => ?_) (fun K hK => ?_) (fun K hK => ?_)
      ·have hx_ := hA.1
       refine value_ (v := .int .i64 (rd y204 t207)) (w1 := W_) (by rfl) rfl zG ?_
       clear hx_
       refine hK.out _ _ trivial (fun hHeld => ?_)
       exact norm2_ (hJ_0_2_4_6_9_11_13 (s_.1, s_.2.1, s_.2.2) _ ⟨hR, trivial, hB, trivial⟩)
      ·have hx_ := hB.1
       refine value_ (v := .int .i64 (rd y217 t220)) (w1 := W_) (by rfl) rfl zG ?_
       clear hx_
       refine hK.out _ _ trivial (fun hHeld => ?_)
       exact norm2_ (hJ_0_2_6_9_11_13_15 (s_.1, s_.2.1, s_.2.2) _ ⟨hR, hA, trivial, trivial⟩)
      ·refine stB_ (by rfl) rfl zG hR (fun hN_ => ?_)
       refine hK.out _ _ trivial (fun hHeld => ?_)
       exact norm2_ (hJ_0_2_6_9_11_13_17 (s_.1, s_.2.1, W_.heap.size) _ ⟨hR.alloc _, hA.alloc _, hB.alloc _, hN_⟩)
     refine join_ (σ := Addr × Addr × Nat) 6 (lb 163814) (fun s_ => [(9, .int .i64 t207), (13, .int .i64 t211), (14, .int .i64 (wrap64 (1 + t211))), (16, .int .i64 t214), (17, .int .i64 (wrap64 (1 + t214))), (18, .slice (some s_.2.1) 5 5), (20, .int .i64 t220), (21, .pointer (some (s_.2.1.add (t220).toNat))), (3, .pointer (some ⟨s_.2.2, 0, none⟩))]) (fun s_ W_ => RgS w0 w W_ g gb203 s0_0 t221 t222 ∧ True ∧ CellF W_ g (s_.2.1.add (t220).toNat) (.int .i64 (rd y217 t220)) ∧ BoxF w0 w W_ g gb203 s_.2.2) ?_ (fun hJ_2_6_9_11_13_17 => ?_)
     ·rintro s_ W_ ⟨hR, hA, hB, hC⟩
      refine norm_ (a' := ?_) ?_ ?_
      rotate_left
      ·simp only [putAll, Act.put, List.setIfInBounds_toArray, List.set_cons_zero, List.set_cons_succ, i64_w, i32_w]
       rfl
      refine two_ (i := 0) (j := 15) (Ni := some 7) (Nj := some 22) (lb 163815) (lb 196582) rfl rfl rfl rfl (two_of HT_.out (by kernel_rfl)) (by decide) (by decide) (fun K hK => ?_) (fun K hK => ?_)
      ·refine st3_ (by rfl) rfl zG hR t207 y204 Ny204.out (of_eq_true pi1_) (of_eq_true qi1_) (fun ad_ hN_ => ?_)
       refine hK.out _ _ trivial (fun hHeld => ?_)
       refine pure_ (i := 3) (N := some 10) (v := .pointer (some (ad_.add (t207).toNat))) (lb 163823) rfl rfl (any_of HT_.out (by kernel_rfl)) (fun _ _ _ h => h) zY rfl ?_
       exact norm2_ (hJ_0_2_6_9_11_13_17 (ad_, s_.2.1, s_.2.2) _ ⟨hR.alloc _, hN_, hB.alloc _, hC.alloc _⟩)
      ·have hx_ := hB.1
       refine value_ (v := .int .i64 (rd y217 t220)) (w1 := W_) (by rfl) rfl zG ?_
       clear hx_
       refine hK.out _ _ trivial (fun hHeld => ?_)
       exact norm2_ (hJ_2_6_9_11_13_15_17 (s_.1, s_.2.1, s_.2.2) _ ⟨hR, trivial, trivial, hC⟩)
     refine join_ (σ := Addr × Addr × Nat) 6 (lb 139247) (fun s_ => [(7, .slice (some s_.1) 3 3), (9, .int .i64 t207), (10, .pointer (some (s_.1.add (t207).toNat))), (13, .int .i64 t211), (14, .int .i64 (wrap64 (1 + t211))), (16, .int .i64 t214), (17, .int .i64 (wrap64 (1 + t214))), (18, .slice (some s_.2.1) 5 5), (3, .pointer (some ⟨s_.2.2, 0, none⟩))]) (fun s_ W_ => RgS w0 w W_ g gb203 s0_0 t215 t216 ∧ CellF W_ g (s_.1.add (t207).toNat) (.int .i64 (rd y204 t207)) ∧ CellF W_ g (s_.2.1.add (t220).toNat) (.int .i64 (rd y217 t220)) ∧ BoxF w0 w W_ g gb203 s_.2.2) ?_ (fun hJ_0_2_6_9_11_17 => ?_)
     ·rintro s_ W_ ⟨hR, hA, hB, hC⟩
      refine norm_ (a' := ?_) ?_ ?_
      rotate_left
      ·simp only [putAll, Act.put, List.setIfInBounds_toArray, List.set_cons_zero, List.set_cons_succ, i64_w, i32_w]
       rfl
      refine two_ (i := 4) (j := 13) (Ni := some 11) (Nj := some 20) (lb 139263) (lb 147439) rfl rfl rfl rfl (two_of HT_.out (by kernel_rfl)) (by decide) (by decide) (fun K hK => ?_) (fun K hK => ?_)
      ·have hx_ := hA.1
       refine value_ (v := .int .i64 (rd y204 t207)) (w1 := W_) (by rfl) rfl zG ?_
       clear hx_
       refine hK.out _ _ trivial (fun hHeld => ?_)
       exact norm2_ (hJ_0_2_4_6_9_11_17 (s_.1, s_.2.1, s_.2.2) _ ⟨hR, trivial, hB, hC⟩)
      ·refine stP_ (by rfl) rfl rfl zA hR A7.out (fun _ hR1_ hk => ?_)
       refine hK.out _ _ trivial (fun hHeld => ?_)
       refine pure_ (i := 14) (N := some 21) (v := .pointer (some (s_.2.1.add (t220).toNat))) (lb 163823) rfl rfl (any_of HT_.out (by kernel_rfl)) (fun _ _ _ h => h) zY rfl ?_
       exact norm2_ (hJ_0_2_6_9_11_13_17 (s_.1, s_.2.1, s_.2.2) _ ⟨hR1_, hA.pick hk, hB.pick hk, hC.pick hk⟩)
     refine join_ (σ := Addr × Addr × Nat) 6 (lb 145391) (fun s_ => [(7, .slice (some s_.1) 3 3), (9, .int .i64 t207), (10, .pointer (some (s_.1.add (t207).toNat))), (13, .int .i64 t211), (14, .int .i64 (wrap64 (1 + t211))), (16, .int .i64 t214), (17, .int .i64 (wrap64 (1 + t214))), (20, .int .i64 t220), (3, .pointer (some ⟨s_.2.2, 0, none⟩))]) (fun s_ W_ => RgS w0 w W_ g gb203 s0_0 t221 t222 ∧ CellF W_ g (s_.1.add (t207).toNat) (.int .i64 (rd y204 t207)) ∧ True ∧ BoxF w0 w W_ g gb203 s_.2.2) ?_ (fun hJ_0_2_6_9_13_17 => ?_)
     ·rintro s_ W_ ⟨hR, hA, hB, hC⟩
      refine norm_ (a' := ?_) ?_ ?_
      rotate_left
      ·simp only [putAll, Act.put, List.setIfInBounds_toArray, List.set_cons_zero, List.set_cons_succ, i64_w, i32_w]
       rfl
      refine two_ (i := 4) (j := 11) (Ni := some 11) (Nj := some 18) (lb 145407) (lb 147439) rfl rfl rfl rfl (two_of HT_.out (by kernel_rfl)) (by decide) (by decide) (fun K hK => ?_) (fun K hK => ?_)
      ·have hx_ := hA.1
       refine value_ (v := .int .i64 (rd y204 t207)) (w1 := W_) (by rfl) rfl zG ?_
       clear hx_
       refine hK.out _ _ trivial (fun hHeld => ?_)
       exact norm2_ (hJ_0_2_4_6_9_13_17 (s_.1, s_.2.1, s_.2.2) _ ⟨hR, trivial, trivial, hC⟩)
      ·refine st5_ (by rfl) rfl zG hR t220 y217 Ny217.out (of_eq_true pi4_) (of_eq_true qi4_) (fun ad_ hN_ => ?_)
       refine hK.out _ _ trivial (fun hHeld => ?_)
       refine pure_ (i := 14) (N := some 21) (v := .pointer (some (ad_.add (t220).toNat))) (lb 163823) rfl rfl (any_of HT_.out (by kernel_rfl)) (fun _ _ _ h => h) zY rfl ?_
       exact norm2_ (hJ_0_2_6_9_11_13_17 (s_.1, ad_, s_.2.2) _ ⟨hR.alloc _, hA.alloc _, hN_, hC.alloc _⟩)
     refine join_ (σ := Addr × Addr × Nat) 6 (lb 137215) (fun s_ => [(7, .slice (some s_.1) 3 3), (9, .int .i64 t207), (10, .pointer (some (s_.1.add (t207).toNat))), (11, .int .i64 (rd y204 t207)), (13, .int .i64 t211), (14, .int .i64 (wrap64 (1 + t211))), (16, .int .i64 t214), (17, .int .i64 (wrap64 (1 + t214))), (3, .pointer (some ⟨s_.2.2, 0, none⟩))]) (fun s_ W_ => RgS w0 w W_ g gb203 s0_0 t215 t216 ∧ True ∧ True ∧ BoxF w0 w W_ g gb203 s_.2.2) ?_ (fun hJ_0_2_4_6_9_17 => ?_)
     ·rintro s_ W_ ⟨hR, hA, hB, hC⟩
      refine norm_ (a' := ?_) ?_ ?_
      rotate_left
      ·simp only [putAll, Act.put, List.setIfInBounds_toArray, List.set_cons_zero, List.set_cons_succ, i64_w, i32_w]
       rfl
      refine two_ (i := 11) (j := 13) (Ni := some 18) (Nj := some 20) (lb 139263) (lb 145407) rfl rfl rfl rfl (two_of HT_.out (by kernel_rfl)) (by decide) (by decide) (fun K hK => ?_) (fun K hK => ?_)
      ·refine st5_ (by rfl) rfl zG hR t220 y217 Ny217.out (of_eq_true pi4_) (of_eq_true qi4_) (fun ad_ hN_ => ?_)
       refine hK.out _ _ trivial (fun hHeld => ?_)
       exact norm2_ (hJ_0_2_4_6_9_11_17 (s_.1, ad_, s_.2.2) _ ⟨hR.alloc _, trivial, hN_, hC.alloc _⟩)
      ·refine stP_ (by rfl) rfl rfl zA hR A7.out (fun _ hR1_ hk => ?_)
       refine hK.out _ _ trivial (fun hHeld => ?_)
       exact norm2_ (hJ_0_2_4_6_9_13_17 (s_.1, s_.2.1, s_.2.2) _ ⟨hR1_, trivial, trivial, hC.pick hk⟩)
     refine join_ (σ := Addr × Addr × Nat) 6 (lb 65510) (fun s_ => [(9, .int .i64 t207), (13, .int .i64 t211), (14, .int .i64 (wrap64 (1 + t211))), (16, .int .i64 t214), (17, .int .i64 (wrap64 (1 + t214))), (18, .slice (some s_.2.1) 5 5), (20, .int .i64 t220), (21, .pointer (some (s_.2.1.add (t220).toNat))), (22, .int .i64 (rd y217 t220))]) (fun s_ W_ => RgS w0 w W_ g gb203 s0_0 t221 t222 ∧ True ∧ True ∧ True) ?_ (fun hJ_2_6_9_11_13_15 => ?_)
     ·rintro s_ W_ ⟨hR, hA, hB, hC⟩
      refine norm_ (a' := ?_) ?_ ?_
      rotate_left
      ·simp only [putAll, Act.put, List.setIfInBounds_toArray, List.set_cons_zero, List.set_cons_succ, i64_w, i32_w]
       rfl
      refine two_ (i := 0) (j := 17) (Ni := some 7) (Nj := some 3) (lb 65511) (lb 196582) rfl rfl rfl rfl (two_of HT_.out (by kernel_rfl)) (by decide) (by decide) (fun K hK => ?_) (fun K hK => ?_)
      ·refine st3_ (by rfl) rfl zG hR t207 y204 Ny204.out (of_eq_true pi1_) (of_eq_true qi1_) (fun ad_ hN_ => ?_)
       refine hK.out _ _ trivial (fun hHeld => ?_)
       refine pure_ (i := 3) (N := some 10) (v := .pointer (some (ad_.add (t207).toNat))) (lb 65519) rfl rfl (any_of HT_.out (by kernel_rfl)) (fun _ _ _ h => h) zY rfl ?_
       exact norm2_ (hJ_0_2_6_9_11_13_15 (ad_, s_.2.1, s_.2.2) _ ⟨hR.alloc _, hN_, trivial, trivial⟩)
      ·refine stB_ (by rfl) rfl zG hR (fun hN_ => ?_)
       refine hK.out _ _ trivial (fun hHeld => ?_)
       exact norm2_ (hJ_2_6_9_11_13_15_17 (s_.1, s_.2.1, W_.heap.size) _ ⟨hR.alloc _, trivial, trivial, hN_⟩)
     refine join_ (σ := Addr × Addr × Nat) 6 (lb 8191) (fun s_ => [(7, .slice (some s_.1) 3 3), (9, .int .i64 t207), (10, .pointer (some (s_.1.add (t207).toNat))), (11, .int .i64 (rd y204 t207)), (13, .int .i64 t211), (14, .int .i64 (wrap64 (1 + t211))), (16, .int .i64 t214), (17, .int .i64 (wrap64 (1 + t214))), (18, .slice (some s_.2.1) 5 5)]) (fun s_ W_ => RgS w0 w W_ g gb203 s0_0 t215 t216 ∧ True ∧ CellF W_ g (s_.2.1.add (t220).toNat) (.int .i64 (rd y217 t220)) ∧ True) ?_ (fun hJ_0_2_4_6_9_11 => ?_)
     ·rintro s_ W_ ⟨hR, hA, hB, hC⟩
      refine norm_ (a' := ?_) ?_ ?_
      rotate_left
      ·simp only [putAll, Act.put, List.setIfInBounds_toArray, List.set_cons_zero, List.set_cons_succ, i64_w, i32_w]
       rfl
      refine two_ (i := 13) (j := 17) (Ni := some 20) (Nj := some 3) (lb 16383) (lb 139263) rfl rfl rfl rfl (two_of HT_.out (by kernel_rfl)) (by decide) (by decide) (fun K hK => ?_) (fun K hK => ?_)
      ·refine stP_ (by rfl) rfl rfl zA hR A7.out (fun _ hR1_ hk => ?_)
       refine hK.out _ _ trivial (fun hHeld => ?_)
       refine pure_ (i := 14) (N := some 21) (v := .pointer (some (s_.2.1.add (t220).toNat))) (lb 32767) rfl rfl (any_of HT_.out (by kernel_rfl)) (fun _ _ _ h => h) zY rfl ?_
       exact norm2_ (hJ_0_2_4_6_9_11_13 (s_.1, s_.2.1, s_.2.2) _ ⟨hR1_, trivial, hB.pick hk, trivial⟩)
      ·refine stB_ (by rfl) rfl zG hR (fun hN_ => ?_)
       refine hK.out _ _ trivial (fun hHeld => ?_)
       exact norm2_ (hJ_0_2_4_6_9_11_17 (s_.1, s_.2.1, W_.heap.size) _ ⟨hR.alloc _, trivial, hB.alloc _, hN_⟩)
     refine join_ (σ := Addr × Addr × Nat) 6 (lb 14335) (fun s_ => [(7, .slice (some s_.1) 3 3), (9, .int .i64 t207), (10, .pointer (some (s_.1.add (t207).toNat))), (11, .int .i64 (rd y204 t207)), (13, .int .i64 t211), (14, .int .i64 (wrap64 (1 + t211))), (16, .int .i64 t214), (17, .int .i64 (wrap64 (1 + t214))), (20, .int .i64 t220)]) (fun s_ W_ => RgS w0 w W_ g gb203 s0_0 t221 t222 ∧ True ∧ True ∧ True) ?_ (fun hJ_0_2_4_6_9_13 => ?_)
     ·rintro s_ W_ ⟨hR, hA, hB, hC⟩
      refine norm_ (a' := ?_) ?_ ?_
      rotate_left
      ·simp only [putAll, Act.put, List.setIfInBounds_toArray, List.set_cons_zero, List.set_cons_succ, i64_w, i32_w]
       rfl
      refine two_ (i := 11) (j := 17) (Ni := some 18) (Nj := some 3) (lb 16383) (lb 145407) rfl rfl rfl rfl (two_of HT_.out (by kernel_rfl)) (by decide) (by decide) (fun K hK => ?_) (fun K hK => ?_)
      ·refine st5_ (by rfl) rfl zG hR t220 y217 Ny217.out (of_eq_true pi4_) (of_eq_true qi4_) (fun ad_ hN_ => ?_)
       refine hK.out _ _ trivial (fun hHeld => ?_)
       refine pure_ (i := 14) (N := some 21) (v := .pointer (some (ad_.add (t220).toNat))) (lb 32767) rfl rfl (any_of HT_.out (by kernel_rfl)) (fun _ _ _ h => h) zY rfl ?_
       exact norm2_ (hJ_0_2_4_6_9_11_13 (s_.1, ad_, s_.2.2) _ ⟨hR.alloc _, trivial, hN_, trivial⟩)
      ·refine stB_ (by rfl) rfl zG hR (fun hN_ => ?_)
       refine hK.out _ _ trivial (fun hHeld => ?_)
       exact norm2_ (hJ_0_2_4_6_9_13_17 (s_.1, s_.2.1, W_.heap.size) _ ⟨hR.alloc _, trivial, trivial, hN_⟩)
     refine join_ (σ := Addr × Addr × Nat) 7 (lb 137727) (fun s_ => [(7, .slice (some s_.1) 3 3), (9, .int .i64 t207), (10, .pointer (some (s_.1.add (t207).toNat))), (11, .int .i64 (rd y204 t207)), (13, .int .i64 t211), (14, .int .i64 (wrap64 (1 + t211))), (18, .slice (some s_.2.1) 5 5), (3, .pointer (some ⟨s_.2.2, 0, none⟩))]) (fun s_ W_ => RgS w0 w W_ g gb203 s0_0 t212 t213 ∧ True ∧ CellF W_ g (s_.2.1.add (t220).toNat) (.int .i64 (rd y217 t220)) ∧ BoxF w0 w W_ g gb203 s_.2.2) ?_ (fun hJ_0_2_4_6_11_17 => ?_)
     ·rintro s_ W_ ⟨hR, hA, hB, hC⟩
      refine norm_ (a' := ?_) ?_ ?_
      rotate_left
      ·simp only [putAll, Act.put, List.setIfInBounds_toArray, List.set_cons_zero, List.set_cons_succ, i64_w, i32_w]
       rfl
      refine one_ (i := 9) (N := some 16) (lb 138239) rfl rfl (one_of HT_.out (by kernel_rfl)) (by decide) (fun K hK => ?_)
      ·refine stP_ (by rfl) rfl rfl zA hR A6.out (fun _ hR1_ hk => ?_)
       refine hK.out _ _ trivial (fun hHeld => ?_)
       refine pure_ (i := 10) (N := some 17) (v := .int .i64 (wrap64 (1 + t214))) (lb 139263) rfl rfl (any_of HT_.out (by kernel_rfl)) (fun _ _ _ h => h) zY rfl ?_
       exact norm2_ (hJ_0_2_4_6_9_11_17 (s_.1, s_.2.1, s_.2.2) _ ⟨hR1_, trivial, hB.pick hk, hC.pick hk⟩)
     refine join_ (σ := Addr × Addr × Nat) 7 (lb 137199) (fun s_ => [(7, .slice (some s_.1) 3 3), (9, .int .i64 t207), (10, .pointer (some (s_.1.add (t207).toNat))), (13, .int .i64 t211), (14, .int .i64 (wrap64 (1 + t211))), (16, .int .i64 t214), (17, .int .i64 (wrap64 (1 + t214))), (3, .pointer (some ⟨s_.2.2, 0, none⟩))]) (fun s_ W_ => RgS w0 w W_ g gb203 s0_0 t215 t216 ∧ CellF W_ g (s_.1.add (t207).toNat) (.int .i64 (rd y204 t207)) ∧ True ∧ BoxF w0 w W_ g gb203 s_.2.2) ?_ (fun hJ_0_2_6_9_17 => ?_)
     ·rintro s_ W_ ⟨hR, hA, hB, hC⟩
      refine norm_ (a' := ?_) ?_ ?_
      rotate_left
      ·simp only [putAll, Act.put, List.setIfInBounds_toArray, List.set_cons_zero, List.set_cons_succ, i64_w, i32_w]
       rfl
      refine three_ (i := 4) (j := 11) (k := 13) (Ni := some 11) (Nj := some 18) (Nk := some 20) (lb 137215) (lb 139247) (lb 145391) rfl rfl rfl rfl rfl rfl (three_of HT_.out (by kernel_rfl)) (by decide) (by decide) (by decide) (fun K hK => ?_) (fun K hK => ?_) (fun K hK => ?_)
      ·have hx_ := hA.1
       refine value_ (v := .int .i64 (rd y204 t207)) (w1 := W_) (by rfl) rfl zG ?_
       clear hx_
       refine hK.out _ _ trivial (fun hHeld => ?_)
       exact norm2_ (hJ_0_2_4_6_9_17 (s_.1, s_.2.1, s_.2.2) _ ⟨hR, trivial, trivial, hC⟩)
      ·refine st5_ (by rfl) rfl zG hR t220 y217 Ny217.out (of_eq_true pi4_) (of_eq_true qi4_) (fun ad_ hN_ => ?_)
       refine hK.out _ _ trivial (fun hHeld => ?_)
       exact norm2_ (hJ_0_2_6_9_11_17 (s_.1, ad_, s_.2.2) _ ⟨hR.alloc _, hA.alloc _, hN_, hC.alloc _⟩)
      ·refine stP_ (by rfl) rfl rfl zA hR A7.out (fun _ hR1_ hk => ?_)
       refine hK.out _ _ trivial (fun hHeld => ?_)
       exact norm2_ (hJ_0_2_6_9_13_17 (s_.1, s_.2.1, s_.2.2) _ ⟨hR1_, hA.pick hk, trivial, hC.pick hk⟩)
     refine join_ (σ := Addr × Addr × Nat) 7 (lb 32742) (fun s_ => [(9, .int .i64 t207), (13, .int .i64 t211), (14, .int .i64 (wrap64 (1 + t211))), (16, .int .i64 t214), (17, .int .i64 (wrap64 (1 + t214))), (18, .slice (some s_.2.1) 5 5), (20, .int .i64 t220), (21, .pointer (some (s_.2.1.add (t220).toNat)))]) (fun s_ W_ => RgS w0 w W_ g gb203 s0_0 t221 t222 ∧ True ∧ CellF W_ g (s_.2.1.add (t220).toNat) (.int .i64 (rd y217 t220)) ∧ True) ?_ (fun hJ_2_6_9_11_13 => ?_)
     ·rintro s_ W_ ⟨hR, hA, hB, hC⟩
      refine norm_ (a' := ?_) ?_ ?_
      rotate_left
      ·simp only [putAll, Act.put, List.setIfInBounds_toArray, List.set_cons_zero, List.set_cons_succ, i64_w, i32_w]
       rfl
      refine three_ (i := 0) (j := 15) (k := 17) (Ni := some 7) (Nj := some 22) (Nk := some 3) (lb 32743) (lb 65510) (lb 163814) rfl rfl rfl rfl rfl rfl (three_of HT_.out (by kernel_rfl)) (by decide) (by decide) (by decide) (fun K hK => ?_) (fun K hK => ?_) (fun K hK => ?_)
      ·refine st3_ (by rfl) rfl zG hR t207 y204 Ny204.out (of_eq_true pi1_) (of_eq_true qi1_) (fun ad_ hN_ => ?_)
       refine hK.out _ _ trivial (fun hHeld => ?_)
       refine pure_ (i := 3) (N := some 10) (v := .pointer (some (ad_.add (t207).toNat))) (lb 32751) rfl rfl (any_of HT_.out (by kernel_rfl)) (fun _ _ _ h => h) zY rfl ?_
       exact norm2_ (hJ_0_2_6_9_11_13 (ad_, s_.2.1, s_.2.2) _ ⟨hR.alloc _, hN_, hB.alloc _, trivial⟩)
      ·have hx_ := hB.1
       refine value_ (v := .int .i64 (rd y217 t220)) (w1 := W_) (by rfl) rfl zG ?_
       clear hx_
       refine hK.out _ _ trivial (fun hHeld => ?_)
       exact norm2_ (hJ_2_6_9_11_13_15 (s_.1, s_.2.1, s_.2.2) _ ⟨hR, trivial, trivial, trivial⟩)
      ·refine stB_ (by rfl) rfl zG hR (fun hN_ => ?_)
       refine hK.out _ _ trivial (fun hHeld => ?_)
       exact norm2_ (hJ_2_6_9_11_13_17 (s_.1, s_.2.1, W_.heap.size) _ ⟨hR.alloc _, trivial, hB.alloc _, hN_⟩)
     refine join_ (σ := Addr × Addr × Nat) 7 (lb 8175) (fun s_ => [(7, .slice (some s_.1) 3 3), (9, .int .i64 t207), (10, .pointer (some (s_.1.add (t207).toNat))), (13, .int .i64 t211), (14, .int .i64 (wrap64 (1 + t211))), (16, .int .i64 t214), (17, .int .i64 (wrap64 (1 + t214))), (18, .slice (some s_.2.1) 5 5)]) (fun s_ W_ => RgS w0 w W_ g gb203 s0_0 t215 t216 ∧ CellF W_ g (s_.1.add (t207).toNat) (.int .i64 (rd y204 t207)) ∧ CellF W_ g (s_.2.1.add (t220).toNat) (.int .i64 (rd y217 t220)) ∧ True) ?_ (fun hJ_0_2_6_9_11 => ?_)
     ·rintro s_ W_ ⟨hR, hA, hB, hC⟩
      refine norm_ (a' := ?_) ?_ ?_
      rotate_left
      ·simp only [putAll, Act.put, List.setIfInBounds_toArray, List.set_cons_zero, List.set_cons_succ, i64_w, i32_w]
       rfl
      refine three_ (i := 4) (j := 13) (k := 17) (Ni := some 11) (Nj := some 20) (Nk := some 3) (lb 8191) (lb 16367) (lb 139247) rfl rfl rfl rfl rfl rfl (three_of HT_.out (by kernel_rfl)) (by decide) (by decide) (by decide) (fun K hK => ?_) (fun K hK => ?_) (fun K hK => ?_)
      ·have hx_ := hA.1
       refine value_ (v := .int .i64 (rd y204 t207)) (w1 := W_) (by rfl) rfl zG ?_
       clear hx_
       refine hK.out _ _ trivial (fun hHeld => ?_)
       exact norm2_ (hJ_0_2_4_6_9_11 (s_.1, s_.2.1, s_.2.2) _ ⟨hR, trivial, hB, trivial⟩)
      ·refine stP_ (by rfl) rfl rfl zA hR A7.out (fun _ hR1_ hk => ?_)
       refine hK.out _ _ trivial (fun hHeld => ?_)
       refine pure_ (i := 14) (N := some 21) (v := .pointer (some (s_.2.1.add (t220).toNat))) (lb 32751) rfl rfl (any_of HT_.out (by kernel_rfl)) (fun _ _ _ h => h) zY rfl ?_
       exact norm2_ (hJ_0_2_6_9_11_13 (s_.1, s_.2.1, s_.2.2) _ ⟨hR1_, hA.pick hk, hB.pick hk, trivial⟩)
      ·refine stB_ (by rfl) rfl zG hR (fun hN_ => ?_)
       refine hK.out _ _ trivial (fun hHeld => ?_)
       exact norm2_ (hJ_0_2_6_9_11_17 (s_.1, s_.2.1, W_.heap.size) _ ⟨hR.alloc _, hA.alloc _, hB.alloc _, hN_⟩)
     refine join_ (σ := Addr × Addr × Nat) 7 (lb 14319) (fun s_ => [(7, .slice (some s_.1) 3 3), (9, .int .i64 t207), (10, .pointer (some (s_.1.add (t207).toNat))), (13, .int .i64 t211), (14, .int .i64 (wrap64 (1 + t211))), (16, .int .i64 t214), (17, .int .i64 (wrap64 (1 + t214))), (20, .int .i64 t220)]) (fun s_ W_ => RgS w0 w W_ g gb203 s0_0 t221 t222 ∧ CellF W_ g (s_.1.add (t207).toNat) (.int .i64 (rd y204 t207)) ∧ True ∧ True) ?_ (fun hJ_0_2_6_9_13 => ?_)
     ·rintro s_ W_ ⟨hR, hA, hB, hC⟩
      refine norm_ (a' := ?_) ?_ ?_
      rotate_left
      ·simp only [putAll, Act.put, List.setIfInBounds_toArray, List.set_cons_zero, List.set_cons_succ, i64_w, i32_w]
       rfl
      refine three_ (i := 4) (j := 11) (k := 17) (Ni := some 11) (Nj := some 18) (Nk := some 3) (lb 14335) (lb 16367) (lb 145391) rfl rfl rfl rfl rfl rfl (three_of HT_.out (by kernel_rfl)) (by decide) (by decide) (by decide) (fun K hK => ?_) (fun K hK => ?_) (fun K hK => ?_)
      ·have hx_ := hA.1
       refine value_ (v := .int .i64 (rd y204 t207)) (w1 := W_) (by rfl) rfl zG ?_
       clear hx_
       refine hK.out _ _ trivial (fun hHeld => ?_)
       exact norm2_ (hJ_0_2_4_6_9_13 (s_.1, s_.2.1, s_.2.2) _ ⟨hR, trivial, trivial, trivial⟩)
      ·refine st5_ (by rfl) rfl zG hR t220 y217 Ny217.out (of_eq_true pi4_) (of_eq_true qi4_) (fun ad_ hN_ => ?_)
       refine hK.out _ _ trivial (fun hHeld => ?_)
       refine pure_ (i := 14) (N := some 21) (v := .pointer (some (ad_.add (t220).toNat))) (lb 32751) rfl rfl (any_of HT_.out (by kernel_rfl)) (fun _ _ _ h => h) zY rfl ?_
       exact norm2_ (hJ_0_2_6_9_11_13 (s_.1, ad_, s_.2.2) _ ⟨hR.alloc _, hA.alloc _, hN_, trivial⟩)
      ·refine stB_ (by rfl) rfl zG hR (fun hN_ => ?_)
       refine hK.out _ _ trivial (fun hHeld => ?_)
       exact norm2_ (hJ_0_2_6_9_13_17 (s_.1, s_.2.1, W_.heap.size) _ ⟨hR.alloc _, hA.alloc _, trivial, hN_⟩)
     refine join_ (σ := Addr × Addr × Nat) 7 (lb 6143) (fun s_ => [(7, .slice (some s_.1) 3 3), (9, .int .i64 t207), (10, .pointer (some (s_.1.add (t207).toNat))), (11, .int .i64 (rd y204 t207)), (13, .int .i64 t211), (14, .int .i64 (wrap64 (1 + t211))), (16, .int .i64 t214), (17, .int .i64 (wrap64 (1 + t214)))]) (fun s_ W_ => RgS w0 w W_ g gb203 s0_0 t215 t216 ∧ True ∧ True ∧ True) ?_ (fun hJ_0_2_4_6_9 => ?_)
     ·rintro s_ W_ ⟨hR, hA, hB, hC⟩
      refine norm_ (a' := ?_) ?_ ?_
      rotate_left
      ·simp only [putAll, Act.put, List.setIfInBounds_toArray, List.set_cons_zero, List.set_cons_succ, i64_w, i32_w]
       rfl
      refine three_ (i := 11) (j := 13) (k := 17) (Ni := some 18) (Nj := some 20) (Nk := some 3) (lb 8191) (lb 14335) (lb 137215) rfl rfl rfl rfl rfl rfl (three_of HT_.out (by kernel_rfl)) (by decide) (by decide) (by decide) (fun K hK => ?_) (fun K hK => ?_) (fun K hK => ?_)
      ·refine st5_ (by rfl) rfl zG hR t220 y217 Ny217.out (of_eq_true pi4_) (of_eq_true qi4_) (fun ad_ hN_ => ?_)
       refine hK.out _ _ trivial (fun hHeld => ?_)
       exact norm2_ (hJ_0_2_4_6_9_11 (s_.1, ad_, s_.2.2) _ ⟨hR.alloc _, trivial, hN_, trivial⟩)
      ·refine stP_ (by rfl) rfl rfl zA hR A7.out (fun _ hR1_ hk => ?_)
       refine hK.out _ _ trivial (fun hHeld => ?_)
       exact norm2_ (hJ_0_2_4_6_9_13 (s_.1, s_.2.1, s_.2.2) _ ⟨hR1_, trivial, trivial, trivial⟩)
      ·refine stB_ (by rfl) rfl zG hR (fun hN_ => ?_)
       refine hK.out _ _ trivial (fun hHeld => ?_)
       exact norm2_ (hJ_0_2_4_6_9_17 (s_.1, s_.2.1, W_.heap.size) _ ⟨hR.alloc _, trivial, trivial, hN_⟩)
     refine join_ (σ := Addr × Addr × Nat) 8 (lb 139238) (fun s_ => [(9, .int .i64 t207), (13, .int .i64 t211), (14, .int .i64 (wrap64 (1 + t211))), (16, .int .i64 t214), (17, .int .i64 (wrap64 (1 + t214))), (18, .slice (some s_.2.1) 5 5), (3, .pointer (some ⟨s_.2.2, 0, none⟩))]) (fun s_ W_ => RgS w0 w W_ g gb203 s0_0 t215 t216 ∧ True ∧ CellF W_ g (s_.2.1.add (t220).toNat) (.int .i64 (rd y217 t220)) ∧ BoxF w0 w W_ g gb203 s_.2.2) ?_ (fun hJ_2_6_9_11_17 => ?_)
     ·rintro s_ W_ ⟨hR, hA, hB, hC⟩
      refine norm_ (a' := ?_) ?_ ?_
      rotate_left
      ·simp only [putAll, Act.put, List.setIfInBounds_toArray, List.set_cons_zero, List.set_cons_succ, i64_w, i32_w]
       rfl
      refine two_ (i := 0) (j := 13) (Ni := some 7) (Nj := some 20) (lb 139239) (lb 147430) rfl rfl rfl rfl (two_of HT_.out (by kernel_rfl)) (by decide) (by decide) (fun K hK => ?_) (fun K hK => ?_)
      ·refine st3_ (by rfl) rfl zG hR t207 y204 Ny204.out (of_eq_true pi1_) (of_eq_true qi1_) (fun ad_ hN_ => ?_)
       refine hK.out _ _ trivial (fun hHeld => ?_)
       refine pure_ (i := 3) (N := some 10) (v := .pointer (some (ad_.add (t207).toNat))) (lb 139247) rfl rfl (any_of HT_.out (by kernel_rfl)) (fun _ _ _ h => h) zY rfl ?_
       exact norm2_ (hJ_0_2_6_9_11_17 (ad_, s_.2.1, s_.2.2) _ ⟨hR.alloc _, hN_, hB.alloc _, hC.alloc _⟩)
      ·refine stP_ (by rfl) rfl rfl zA hR A7.out (fun _ hR1_ hk => ?_)
       refine hK.out _ _ trivial (fun hHeld => ?_)
       refine pure_ (i := 14) (N := some 21) (v := .pointer (some (s_.2.1.add (t220).toNat))) (lb 163814) rfl rfl (any_of HT_.out (by kernel_rfl)) (fun _ _ _ h => h) zY rfl ?_
       exact norm2_ (hJ_2_6_9_11_13_17 (s_.1, s_.2.1, s_.2.2) _ ⟨hR1_, trivial, hB.pick hk, hC.pick hk⟩)
     refine join_ (σ := Addr × Addr × Nat) 8 (lb 137711) (fun s_ => [(7, .slice (some s_.1) 3 3), (9, .int .i64 t207), (10, .pointer (some (s_.1.add (t207).toNat))), (13, .int .i64 t211), (14, .int .i64 (wrap64 (1 + t211))), (18, .slice (some s_.2.1) 5 5), (3, .pointer (some ⟨s_.2.2, 0, none⟩))]) (fun s_ W_ => RgS w0 w W_ g gb203 s0_0 t212 t213 ∧ CellF W_ g (s_.1.add (t207).toNat) (.int .i64 (rd y204 t207)) ∧ CellF W_ g (s_.2.1.add (t220).toNat) (.int .i64 (rd y217 t220)) ∧ BoxF w0 w W_ g gb203 s_.2.2) ?_ (fun hJ_0_2_6_11_17 => ?_)
     ·rintro s_ W_ ⟨hR, hA, hB, hC⟩
      refine norm_ (a' := ?_) ?_ ?_
      rotate_left
      ·simp only [putAll, Act.put, List.setIfInBounds_toArray, List.set_cons_zero, List.set_cons_succ, i64_w, i32_w]
       rfl
      refine two_ (i := 4) (j := 9) (Ni := some 11) (Nj := some 16) (lb 137727) (lb 138223) rfl rfl rfl rfl (two_of HT_.out (by kernel_rfl)) (by decide) (by decide) (fun K hK => ?_) (fun K hK => ?_)
      ·have hx_ := hA.1
       refine value_ (v := .int .i64 (rd y204 t207)) (w1 := W_) (by rfl) rfl zG ?_
       clear hx_
       refine hK.out _ _ trivial (fun hHeld => ?_)
       exact norm2_ (hJ_0_2_4_6_11_17 (s_.1, s_.2.1, s_.2.2) _ ⟨hR, trivial, hB, hC⟩)
      ·refine stP_ (by rfl) rfl rfl zA hR A6.out (fun _ hR1_ hk => ?_)
       refine hK.out _ _ trivial (fun hHeld => ?_)
       refine pure_ (i := 10) (N := some 17) (v := .int .i64 (wrap64 (1 + t214))) (lb 139247) rfl rfl (any_of HT_.out (by kernel_rfl)) (fun _ _ _ h => h) zY rfl ?_
       exact norm2_ (hJ_0_2_6_9_11_17 (s_.1, s_.2.1, s_.2.2) _ ⟨hR1_, hA.pick hk, hB.pick hk, hC.pick hk⟩)
     refine join_ (σ := Addr × Addr × Nat) 8 (lb 145382) (fun s_ => [(9, .int .i64 t207), (13, .int .i64 t211), (14, .int .i64 (wrap64 (1 + t211))), (16, .int .i64 t214), (17, .int .i64 (wrap64 (1 + t214))), (20, .int .i64 t220), (3, .pointer (some ⟨s_.2.2, 0, none⟩))]) (fun s_ W_ => RgS w0 w W_ g gb203 s0_0 t221 t222 ∧ True ∧ True ∧ BoxF w0 w W_ g gb203 s_.2.2) ?_ (fun hJ_2_6_9_13_17 => ?_)
     ·rintro s_ W_ ⟨hR, hA, hB, hC⟩
      refine norm_ (a' := ?_) ?_ ?_
      rotate_left
      ·simp only [putAll, Act.put, List.setIfInBounds_toArray, List.set_cons_zero, List.set_cons_succ, i64_w, i32_w]
       rfl
      refine two_ (i := 0) (j := 11) (Ni := some 7) (Nj := some 18) (lb 145383) (lb 147430) rfl rfl rfl rfl (two_of HT_.out (by kernel_rfl)) (by decide) (by decide) (fun K hK => ?_) (fun K hK => ?_)
      ·refine st3_ (by rfl) rfl zG hR t207 y204 Ny204.out (of_eq_true pi1_) (of_eq_true qi1_) (fun ad_ hN_ => ?_)
       refine hK.out _ _ trivial (fun hHeld => ?_)
       refine pure_ (i := 3) (N := some 10) (v := .pointer (some (ad_.add (t207).toNat))) (lb 145391) rfl rfl (any_of HT_.out (by kernel_rfl)) (fun _ _ _ h => h) zY rfl ?_
       exact norm2_ (hJ_0_2_6_9_13_17 (ad_, s_.2.1, s_.2.2) _ ⟨hR.alloc _, hN_, trivial, hC.alloc _⟩)
      ·refine st5_ (by rfl) rfl zG hR t220 y217 Ny217.out (of_eq_true pi4_) (of_eq_true qi4_) (fun ad_ hN_ => ?_)
       refine hK.out _ _ trivial (fun hHeld => ?_)
       refine pure_ (i := 14) (N := some 21) (v := .pointer (some (ad_.add (t220).toNat))) (lb 163814) rfl rfl (any_of HT_.out (by kernel_rfl)) (fun _ _ _ h => h) zY rfl ?_
       exact norm2_ (hJ_2_6_9_11_13_17 (s_.1, ad_, s_.2.2) _ ⟨hR.alloc _, trivial, hN_, hC.alloc _⟩)
     refine join_ (σ := Addr × Addr × Nat) 8 (lb 135679) (fun s_ => [(7, .slice (some s_.1) 3 3), (9, .int .i64 t207), (10, .pointer (some (s_.1.add (t207).toNat))), (11, .int .i64 (rd y204 t207)), (13, .int .i64 t211), (14, .int .i64 (wrap64 (1 + t211))), (3, .pointer (some ⟨s_.2.2, 0, none⟩))]) (fun s_ W_ => RgS w0 w W_ g gb203 s0_0 t212 t213 ∧ True ∧ True ∧ BoxF w0 w W_ g gb203 s_.2.2) ?_ (fun hJ_0_2_4_6_17 => ?_)
     ·rintro s_ W_ ⟨hR, hA, hB, hC⟩
      refine norm_ (a' := ?_) ?_ ?_
      rotate_left
      ·simp only [putAll, Act.put, List.setIfInBounds_toArray, List.set_cons_zero, List.set_cons_succ, i64_w, i32_w]
       rfl
      refine two_ (i := 9) (j := 11) (Ni := some 16) (Nj := some 18) (lb 136191) (lb 137727) rfl rfl rfl rfl (two_of HT_.out (by kernel_rfl)) (by decide) (by decide) (fun K hK => ?_) (fun K hK => ?_)
      ·refine stP_ (by rfl) rfl rfl zA hR A6.out (fun _ hR1_ hk => ?_)
       refine hK.out _ _ trivial (fun hHeld => ?_)
       refine pure_ (i := 10) (N := some 17) (v := .int .i64 (wrap64 (1 + t214))) (lb 137215) rfl rfl (any_of HT_.out (by kernel_rfl)) (fun _ _ _ h => h) zY rfl ?_
       exact norm2_ (hJ_0_2_4_6_9_17 (s_.1, s_.2.1, s_.2.2) _ ⟨hR1_, trivial, trivial, hC.pick hk⟩)
      ·refine st5_ (by rfl) rfl zG hR t220 y217 Ny217.out (of_eq_true pi4_) (of_eq_true qi4_) (fun ad_ hN_ => ?_)
       refine hK.out _ _ trivial (fun hHeld => ?_)
       exact norm2_ (hJ_0_2_4_6_11_17 (s_.1, ad_, s_.2.2) _ ⟨hR.alloc _, trivial, hN_, hC.alloc _⟩)
     refine join_ (σ := Addr × Addr × Nat) 8 (lb 6655) (fun s_ => [(7, .slice (some s_.1) 3 3), (9, .int .i64 t207), (10, .pointer (some (s_.1.add (t207).toNat))), (11, .int .i64 (rd y204 t207)), (13, .int .i64 t211), (14, .int .i64 (wrap64 (1 + t211))), (18, .slice (some s_.2.1) 5 5)]) (fun s_ W_ => RgS w0 w W_ g gb203 s0_0 t212 t213 ∧ True ∧ CellF W_ g (s_.2.1.add (t220).toNat) (.int .i64 (rd y217 t220)) ∧ True) ?_ (fun hJ_0_2_4_6_11 => ?_)
     ·rintro s_ W_ ⟨hR, hA, hB, hC⟩
      refine norm_ (a' := ?_) ?_ ?_
      rotate_left
      ·simp only [putAll, Act.put, List.setIfInBounds_toArray, List.set_cons_zero, List.set_cons_succ, i64_w, i32_w]
       rfl
      refine two_ (i := 9) (j := 17) (Ni := some 16) (Nj := some 3) (lb 7167) (lb 137727) rfl rfl rfl rfl (two_of HT_.out (by kernel_rfl)) (by decide) (by decide) (fun K hK => ?_) (fun K hK => ?_)
      ·refine stP_ (by rfl) rfl rfl zA hR A6.out (fun _ hR1_ hk => ?_)
       refine hK.out _ _ trivial (fun hHeld => ?_)
       refine pure_ (i := 10) (N := some 17) (v := .int .i64 (wrap64 (1 + t214))) (lb 8191) rfl rfl (any_of HT_.out (by kernel_rfl)) (fun _ _ _ h => h) zY rfl ?_
       exact norm2_ (hJ_0_2_4_6_9_11 (s_.1, s_.2.1, s_.2.2) _ ⟨hR1_, trivial, hB.pick hk, trivial⟩)
      ·refine stB_ (by rfl) rfl zG hR (fun hN_ => ?_)
       refine hK.out _ _ trivial (fun hHeld => ?_)
       exact norm2_ (hJ_0_2_4_6_11_17 (s_.1, s_.2.1, W_.heap.size) _ ⟨hR.alloc _, trivial, hB.alloc _, hN_⟩)
     refine join_ (σ := Addr × Addr × Nat) 8 (lb 6127) (fun s_ => [(7, .slice (some s_.1) 3 3), (9, .int .i64 t207), (10, .pointer (some (s_.1.add (t207).toNat))), (13, .int .i64 t211), (14, .int .i64 (wrap64 (1 + t211))), (16, .int .i64 t214), (17, .int .i64 (wrap64 (1 + t214)))]) (fun s_ W_ => RgS w0 w W_ g gb203 s0_0 t215 t216 ∧ CellF W_ g (s_.1.add (t207).toNat) (.int .i64 (rd y204 t207)) ∧ True ∧ True) ?_ (fun hJ_0_2_6_9 => ?_)
     ·rintro s_ W_ ⟨hR, hA, hB, hC⟩
      refine norm_ (a' := ?_) ?_ ?_
      rotate_left
      ·simp only [putAll, Act.put, List.setIfInBounds_toArray, List.set_cons_zero, List.set_cons_succ, i64_w, i32_w]
       rfl
      refine four_ (i := 4) (j := 11) (k := 13) (m := 17) (Ni := some 11) (Nj := some 18) (Nk := some 20) (Nm := some 3) (lb 6143) (lb 8175) (lb 14319) (lb 137199) rfl rfl rfl rfl rfl rfl rfl rfl (four_of HT_.out (by kernel_rfl)) (by decide) (by decide) (by decide) (by decide) (fun K hK => ?_) (fun K hK => ?_) (fun K hK => ?_) (fun K hK => ?_)
      ·have hx_ := hA.1
       refine value_ (v := .int .i64 (rd y204 t207)) (w1 := W_) (by rfl) rfl zG ?_
       clear hx_
       refine hK.out _ _ trivial (fun hHeld => ?_)
       exact norm2_ (hJ_0_2_4_6_9 (s_.1, s_.2.1, s_.2.2) _ ⟨hR, trivial, trivial, trivial⟩)
      ·refine st5_ (by rfl) rfl zG hR t220 y217 Ny217.out (of_eq_true pi4_) (of_eq_true qi4_) (fun ad_ hN_ => ?_)
       refine hK.out _ _ trivial (fun hHeld => ?_)
       exact norm2_ (hJ_0_2_6_9_11 (s_.1, ad_, s_.2.2) _ ⟨hR.alloc _, hA.alloc _, hN_, trivial⟩)
      ·refine stP_ (by rfl) rfl rfl zA hR A7.out (fun _ hR1_ hk => ?_)
       refine hK.out _ _ trivial (fun hHeld => ?_)
       exact norm2_ (hJ_0_2_6_9_13 (s_.1, s_.2.1, s_.2.2) _ ⟨hR1_, hA.pick hk, trivial, trivial⟩)
      ·refine stB_ (by rfl) rfl zG hR (fun hN_ => ?_)
       refine hK.out _ _ trivial (fun hHeld => ?_)
       exact norm2_ (hJ_0_2_6_9_17 (s_.1, s_.2.1, W_.heap.size) _ ⟨hR.alloc _, hA.alloc _, trivial, hN_⟩)
     refine join_ (σ := Addr × Addr × Nat) 9 (lb 137535) (fun s_ => [(7, .slice (some s_.1) 3 3), (9, .int .i64 t207), (10, .pointer (some (s_.1.add (t207).toNat))), (11, .int .i64 (rd y204 t207)), (18, .slice (some s_.2.1) 5 5), (3, .pointer (some ⟨s_.2.2, 0, none⟩))]) (fun s_ W_ => RgS w0 w W_ g gb203 s0_0 t208 t209 ∧ True ∧ CellF W_ g (s_.2.1.add (t220).toNat) (.int .i64 (rd y217 t220)) ∧ BoxF w0 w W_ g gb203 s_.2.2) ?_ (fun hJ_0_2_4_11_17 => ?_)
     ·rintro s_ W_ ⟨hR, hA, hB, hC⟩
      refine norm_ (a' := ?_) ?_ ?_
      rotate_left
      ·simp only [putAll, Act.put, List.setIfInBounds_toArray, List.set_cons_zero, List.set_cons_succ, i64_w, i32_w]
       rfl
      refine one_ (i := 6) (N := some 13) (lb 137599) rfl rfl (one_of HT_.out (by kernel_rfl)) (by decide) (fun K hK => ?_)
      ·refine stP_ (by rfl) rfl rfl zA hR A5.out (fun _ hR1_ hk => ?_)
       refine hK.out _ _ trivial (fun hHeld => ?_)
       refine pure_ (i := 7) (N := some 14) (v := .int .i64 (wrap64 (1 + t211))) (lb 137727) rfl rfl (any_of HT_.out (by kernel_rfl)) (fun _ _ _ h => h) zY rfl ?_
       exact norm2_ (hJ_0_2_4_6_11_17 (s_.1, s_.2.1, s_.2.2) _ ⟨hR1_, trivial, hB.pick hk, hC.pick hk⟩)
     refine join_ (σ := Addr × Addr × Nat) 9 (lb 137190) (fun s_ => [(9, .int .i64 t207), (13, .int .i64 t211), (14, .int .i64 (wrap64 (1 + t211))), (16, .int .i64 t214), (17, .int .i64 (wrap64 (1 + t214))), (3, .pointer (some ⟨s_.2.2, 0, none⟩))]) (fun s_ W_ => RgS w0 w W_ g gb203 s0_0 t215 t216 ∧ True ∧ True ∧ BoxF w0 w W_ g gb203 s_.2.2) ?_ (fun hJ_2_6_9_17 => ?_)
     ·rintro s_ W_ ⟨hR, hA, hB, hC⟩
      refine norm_ (a' := ?_) ?_ ?_
      rotate_left
      ·simp only [putAll, Act.put, List.setIfInBounds_toArray, List.set_cons_zero, List.set_cons_succ, i64_w, i32_w]
       rfl
      refine three_ (i := 0) (j := 11) (k := 13) (Ni := some 7) (Nj := some 18) (Nk := some 20) (lb 137191) (lb 139238) (lb 145382) rfl rfl rfl rfl rfl rfl (three_of HT_.out (by kernel_rfl)) (by decide) (by decide) (by decide) (fun K hK => ?_) (fun K hK => ?_) (fun K hK => ?_)
      ·refine st3_ (by rfl) rfl zG hR t207 y204 Ny204.out (of_eq_true pi1_) (of_eq_true qi1_) (fun ad_ hN_ => ?_)
       refine hK.out _ _ trivial (fun hHeld => ?_)
       refine pure_ (i := 3) (N := some 10) (v := .pointer (some (ad_.add (t207).toNat))) (lb 137199) rfl rfl (any_of HT_.out (by kernel_rfl)) (fun _ _ _ h => h) zY rfl ?_
       exact norm2_ (hJ_0_2_6_9_17 (ad_, s_.2.1, s_.2.2) _ ⟨hR.alloc _, hN_, trivial, hC.alloc _⟩)
      ·refine st5_ (by rfl) rfl zG hR t220 y217 Ny217.out (of_eq_true pi4_) (of_eq_true qi4_) (fun ad_ hN_ => ?_)
       refine hK.out _ _ trivial (fun hHeld => ?_)
       exact norm2_ (hJ_2_6_9_11_17 (s_.1, ad_, s_.2.2) _ ⟨hR.alloc _, trivial, hN_, hC.alloc _⟩)
      ·refine stP_ (by rfl) rfl rfl zA hR A7.out (fun _ hR1_ hk => ?_)
       refine hK.out _ _ trivial (fun hHeld => ?_)
       exact norm2_ (hJ_2_6_9_13_17 (s_.1, s_.2.1, s_.2.2) _ ⟨hR1_, trivial, trivial, hC.pick hk⟩)
     refine join_ (σ := Addr × Addr × Nat) 9 (lb 135663) (fun s_ => [(7, .slice (some s_.1) 3 3), (9, .int .i64 t207), (10, .pointer (some (s_.1.add (t207).toNat))), (13, .int .i64 t211), (14, .int .i64 (wrap64 (1 + t211))), (3, .pointer (some ⟨s_.2.2, 0, none⟩))]) (fun s_ W_ => RgS w0 w W_ g gb203 s0_0 t212 t213 ∧ CellF W_ g (s_.1.add (t207).toNat) (.int .i64 (rd y204 t207)) ∧ True ∧ BoxF w0 w W_ g gb203 s_.2.2) ?_ (fun hJ_0_2_6_17 => ?_)
     ·rintro s_ W_ ⟨hR, hA, hB, hC⟩
      refine norm_ (a' := ?_) ?_ ?_
      rotate_left
      ·simp only [putAll, Act.put, List.setIfInBounds_toArray, List.set_cons_zero, List.set_cons_succ, i64_w, i32_w]
       rfl
      refine three_ (i := 4) (j := 9) (k := 11) (Ni := some 11) (Nj := some 16) (Nk := some 18) (lb 135679) (lb 136175) (lb 137711) rfl rfl rfl rfl rfl rfl (three_of HT_.out (by kernel_rfl)) (by decide) (by decide) (by decide) (fun K hK => ?_) (fun K hK => ?_) (fun K hK => ?_)
      ·have hx_ := hA.1
       refine value_ (v := .int .i64 (rd y204 t207)) (w1 := W_) (by rfl) rfl zG ?_
       clear hx_
       refine hK.out _ _ trivial (fun hHeld => ?_)
       exact norm2_ (hJ_0_2_4_6_17 (s_.1, s_.2.1, s_.2.2) _ ⟨hR, trivial, trivial, hC⟩)
      ·refine stP_ (by rfl) rfl rfl zA hR A6.out (fun _ hR1_ hk => ?_)
       refine hK.out _ _ trivial (fun hHeld => ?_)
       refine pure_ (i := 10) (N := some 17) (v := .int .i64 (wrap64 (1 + t214))) (lb 137199) rfl rfl (any_of HT_.out (by kernel_rfl)) (fun _ _ _ h => h) zY rfl ?_
       exact norm2_ (hJ_0_2_6_9_17 (s_.1, s_.2.1, s_.2.2) _ ⟨hR1_, hA.pick hk, trivial, hC.pick hk⟩)
      ·refine st5_ (by rfl) rfl zG hR t220 y217 Ny217.out (of_eq_true pi4_) (of_eq_true qi4_) (fun ad_ hN_ => ?_)
       refine hK.out _ _ trivial (fun hHeld => ?_)
       exact norm2_ (hJ_0_2_6_11_17 (s_.1, ad_, s_.2.2) _ ⟨hR.alloc _, hA.alloc _, hN_, hC.alloc _⟩)
     refine join_ (σ := Addr × Addr × Nat) 9 (lb 8166) (fun s_ => [(9, .int .i64 t207), (13, .int .i64 t211), (14, .int .i64 (wrap64 (1 + t211))), (16, .int .i64 t214), (17, .int .i64 (wrap64 (1 + t214))), (18, .slice (some s_.2.1) 5 5)]) (fun s_ W_ => RgS w0 w W_ g gb203 s0_0 t215 t216 ∧ True ∧ CellF W_ g (s_.2.1.add (t220).toNat) (.int .i64 (rd y217 t220)) ∧ True) ?_ (fun hJ_2_6_9_11 => ?_)
     ·rintro s_ W_ ⟨hR, hA, hB, hC⟩
      refine norm_ (a' := ?_) ?_ ?_
      rotate_left
      ·simp only [putAll, Act.put, List.setIfInBounds_toArray, List.set_cons_zero, List.set_cons_succ, i64_w, i32_w]
       rfl
      refine three_ (i := 0) (j := 13) (k := 17) (Ni := some 7) (Nj := some 20) (Nk := some 3) (lb 8167) (lb 16358) (lb 139238) rfl rfl rfl rfl rfl rfl (three_of HT_.out (by kernel_rfl)) (by decide) (by decide) (by decide) (fun K hK => ?_) (fun K hK => ?_) (fun K hK => ?_)
      ·refine st3_ (by rfl) rfl zG hR t207 y204 Ny204.out (of_eq_true pi1_) (of_eq_true qi1_) (fun ad_ hN_ => ?_)
       refine hK.out _ _ trivial (fun hHeld => ?_)
       refine pure_ (i := 3) (N := some 10) (v := .pointer (some (ad_.add (t207).toNat))) (lb 8175) rfl rfl (any_of HT_.out (by kernel_rfl)) (fun _ _ _ h => h) zY rfl ?_
       exact norm2_ (hJ_0_2_6_9_11 (ad_, s_.2.1, s_.2.2) _ ⟨hR.alloc _, hN_, hB.alloc _, trivial⟩)
      ·refine stP_ (by rfl) rfl rfl zA hR A7.out (fun _ hR1_ hk => ?_)
       refine hK.out _ _ trivial (fun hHeld => ?_)
       refine pure_ (i := 14) (N := some 21) (v := .pointer (some (s_.2.1.add (t220).toNat))) (lb 32742) rfl rfl (any_of HT_.out (by kernel_rfl)) (fun _ _ _ h => h) zY rfl ?_
       exact norm2_ (hJ_2_6_9_11_13 (s_.1, s_.2.1, s_.2.2) _ ⟨hR1_, trivial, hB.pick hk, trivial⟩)
      ·refine stB_ (by rfl) rfl zG hR (fun hN_ => ?_)
       refine hK.out _ _ trivial (fun hHeld => ?_)
       exact norm2_ (hJ_2_6_9_11_17 (s_.1, s_.2.1, W_.heap.size) _ ⟨hR.alloc _, trivial, hB.alloc _, hN_⟩)
     refine join_ (σ := Addr × Addr × Nat) 9 (lb 6639) (fun s_ => [(7, .slice (some s_.1) 3 3), (9, .int .i64 t207), (10, .pointer (some (s_.1.add (t207).toNat))), (13, .int .i64 t211), (14, .int .i64 (wrap64 (1 + t211))), (18, .slice (some s_.2.1) 5 5)]) (fun s_ W_ => RgS w0 w W_ g gb203 s0_0 t212 t213 ∧ CellF W_ g (s_.1.add (t207).toNat) (.int .i64 (rd y204 t207)) ∧ CellF W_ g (s_.2.1.add (t220).toNat) (.int .i64 (rd y217 t220)) ∧ True) ?_ (fun hJ_0_2_6_11 => ?_)
     ·rintro s_ W_ ⟨hR, hA, hB, hC⟩
      refine norm_ (a' := ?_) ?_ ?_
      rotate_left
      ·simp only [putAll, Act.put, List.setIfInBounds_toArray, List.set_cons_zero, List.set_cons_succ, i64_w, i32_w]
       rfl
      refine three_ (i := 4) (j := 9) (k := 17) (Ni := some 11) (Nj := some 16) (Nk := some 3) (lb 6655) (lb 7151) (lb 137711) rfl rfl rfl rfl rfl rfl (three_of HT_.out (by kernel_rfl)) (by decide) (by decide) (by decide) (fun K hK => ?_) (fun K hK => ?_) (fun K hK => ?_)
      ·have hx_ := hA.1
       refine value_ (v := .int .i64 (rd y204 t207)) (w1 := W_) (by rfl) rfl zG ?_
       clear hx_
       refine hK.out _ _ trivial (fun hHeld => ?_)
       exact norm2_ (hJ_0_2_4_6_11 (s_.1, s_.2.1, s_.2.2) _ ⟨hR, trivial, hB, trivial⟩)
      ·refine stP_ (by rfl) rfl rfl zA hR A6.out (fun _ hR1_ hk => ?_)
       refine hK.out _ _ trivial (fun hHeld => ?_)
       refine pure_ (i := 10) (N := some 17) (v := .int .i64 (wrap64 (1 + t214))) (lb 8175) rfl rfl (any_of HT_.out (by kernel_rfl)) (fun _ _ _ h => h) zY rfl ?_
       exact norm2_ (hJ_0_2_6_9_11 (s_.1, s_.2.1, s_.2.2) _ ⟨hR1_, hA.pick hk, hB.pick hk, trivial⟩)
      ·refine stB_ (by rfl) rfl zG hR (fun hN_ => ?_)
       refine hK.out _ _ trivial (fun hHeld => ?_)
       exact norm2_ (hJ_0_2_6_11_17 (s_.1, s_.2.1, W_.heap.size) _ ⟨hR.alloc _, hA.alloc _, hB.alloc _, hN_⟩)
     refine join_ (σ := Addr × Addr × Nat) 9 (lb 14310) (fun s_ => [(9, .int .i64 t207), (13, .int .i64 t211), (14, .int .i64 (wrap64 (1 + t211))), (16, .int .i64 t214), (17, .int .i64 (wrap64 (1 + t214))), (20, .int .i64 t220)]) (fun s_ W_ => RgS w0 w W_ g gb203 s0_0 t221 t222 ∧ True ∧ True ∧ True) ?_ (fun hJ_2_6_9_13 => ?_)
     ·rintro s_ W_ ⟨hR, hA, hB, hC⟩
      refine norm_ (a' := ?_) ?_ ?_
      rotate_left
      ·simp only [putAll, Act.put, List.setIfInBounds_toArray, List.set_cons_zero, List.set_cons_succ, i64_w, i32_w]
       rfl
      refine three_ (i := 0) (j := 11) (k := 17) (Ni := some 7) (Nj := some 18) (Nk := some 3) (lb 14311) (lb 16358) (lb 145382) rfl rfl rfl rfl rfl rfl (three_of HT_.out (by kernel_rfl)) (by decide) (by decide) (by decide) (fun K hK => ?_) (fun K hK => ?_) (fun K hK => ?_)
      ·refine st3_ (by rfl) rfl zG hR t207 y204 Ny204.out (of_eq_true pi1_) (of_eq_true qi1_) (fun ad_ hN_ => ?_)
       refine hK.out _ _ trivial (fun hHeld => ?_)
       refine pure_ (i := 3) (N := some 10) (v := .pointer (some (ad_.add (t207).toNat))) (lb 14319) rfl rfl (any_of HT_.out (by kernel_rfl)) (fun _ _ _ h => h) zY rfl ?_
       exact norm2_ (hJ_0_2_6_9_13 (ad_, s_.2.1, s_.2.2) _ ⟨hR.alloc _, hN_, trivial, trivial⟩)
      ·refine st5_ (by rfl) rfl zG hR t220 y217 Ny217.out (of_eq_true pi4_) (of_eq_true qi4_) (fun ad_ hN_ => ?_)
       refine hK.out _ _ trivial (fun hHeld => ?_)
       refine pure_ (i := 14) (N := some 21) (v := .pointer (some (ad_.add (t220).toNat))) (lb 32742) rfl rfl (any_of HT_.out (by kernel_rfl)) (fun _ _ _ h => h) zY rfl ?_
       exact norm2_ (hJ_2_6_9_11_13 (s_.1, ad_, s_.2.2) _ ⟨hR.alloc _, trivial, hN_, trivial⟩)
      ·refine stB_ (by rfl) rfl zG hR (fun hN_ => ?_)
       refine hK.out _ _ trivial (fun hHeld => ?_)
       exact norm2_ (hJ_2_6_9_13_17 (s_.1, s_.2.1, W_.heap.size) _ ⟨hR.alloc _, trivial, trivial, hN_⟩)
     refine join_ (σ := Addr × Addr × Nat) 9 (lb 4607) (fun s_ => [(7, .slice (some s_.1) 3 3), (9, .int .i64 t207), (10, .pointer (some (s_.1.add (t207).toNat))), (11, .int .i64 (rd y204 t207)), (13, .int .i64 t211), (14, .int .i64 (wrap64 (1 + t211)))]) (fun s_ W_ => RgS w0 w W_ g gb203 s0_0 t212 t213 ∧ True ∧ True ∧ True) ?_ (fun hJ_0_2_4_6 => ?_)
     ·rintro s_ W_ ⟨hR, hA, hB, hC⟩
      refine norm_ (a' := ?_) ?_ ?_
      rotate_left
      ·simp only [putAll, Act.put, List.setIfInBounds_toArray, List.set_cons_zero, List.set_cons_succ, i64_w, i32_w]
       rfl
      refine three_ (i := 9) (j := 11) (k := 17) (Ni := some 16) (Nj := some 18) (Nk := some 3) (lb 5119) (lb 6655) (lb 135679) rfl rfl rfl rfl rfl rfl (three_of HT_.out (by kernel_rfl)) (by decide) (by decide) (by decide) (fun K hK => ?_) (fun K hK => ?_) (fun K hK => ?_)
      ·refine stP_ (by rfl) rfl rfl zA hR A6.out (fun _ hR1_ hk => ?_)
       refine hK.out _ _ trivial (fun hHeld => ?_)
       refine pure_ (i := 10) (N := some 17) (v := .int .i64 (wrap64 (1 + t214))) (lb 6143) rfl rfl (any_of HT_.out (by kernel_rfl)) (fun _ _ _ h => h) zY rfl ?_
       exact norm2_ (hJ_0_2_4_6_9 (s_.1, s_.2.1, s_.2.2) _ ⟨hR1_, trivial, trivial, trivial⟩)
      ·refine st5_ (by rfl) rfl zG hR t220 y217 Ny217.out (of_eq_true pi4_) (of_eq_true qi4_) (fun ad_ hN_ => ?_)
       refine hK.out _ _ trivial (fun hHeld => ?_)
       exact norm2_ (hJ_0_2_4_6_11 (s_.1, ad_, s_.2.2) _ ⟨hR.alloc _, trivial, hN_, trivial⟩)
      ·refine stB_ (by rfl) rfl zG hR (fun hN_ => ?_)
       refine hK.out _ _ trivial (fun hHeld => ?_)
       exact norm2_ (hJ_0_2_4_6_17 (s_.1, s_.2.1, W_.heap.size) _ ⟨hR.alloc _, trivial, trivial, hN_⟩)
     refine join_ (σ := Addr × Addr × Nat) 10 (lb 137702) (fun s_ => [(9, .int .i64 t207), (13, .int .i64 t211), (14, .int .i64 (wrap64 (1 + t211))), (18, .slice (some s_.2.1) 5 5), (3, .pointer (some ⟨s_.2.2, 0, none⟩))]) (fun s_ W_ => RgS w0 w W_ g gb203 s0_0 t212 t213 ∧ True ∧ CellF W_ g (s_.2.1.add (t220).toNat) (.int .i64 (rd y217 t220)) ∧ BoxF w0 w W_ g gb203 s_.2.2) ?_ (fun hJ_2_6_11_17 => ?_)
     ·rintro s_ W_ ⟨hR, hA, hB, hC⟩
      refine norm_ (a' := ?_) ?_ ?_
      rotate_left
      ·simp only [putAll, Act.put, List.setIfInBounds_toArray, List.set_cons_zero, List.set_cons_succ, i64_w, i32_w]
       rfl
      refine two_ (i := 0) (j := 9) (Ni := some 7) (Nj := some 16) (lb 137703) (lb 138214) rfl rfl rfl rfl (two_of HT_.out (by kernel_rfl)) (by decide) (by decide) (fun K hK => ?_) (fun K hK => ?_)
      ·refine st3_ (by rfl) rfl zG hR t207 y204 Ny204.out (of_eq_true pi1_) (of_eq_true qi1_) (fun ad_ hN_ => ?_)
       refine hK.out _ _ trivial (fun hHeld => ?_)
       refine pure_ (i := 3) (N := some 10) (v := .pointer (some (ad_.add (t207).toNat))) (lb 137711) rfl rfl (any_of HT_.out (by kernel_rfl)) (fun _ _ _ h => h) zY rfl ?_
       exact norm2_ (hJ_0_2_6_11_17 (ad_, s_.2.1, s_.2.2) _ ⟨hR.alloc _, hN_, hB.alloc _, hC.alloc _⟩)
      ·refine stP_ (by rfl) rfl rfl zA hR A6.out (fun _ hR1_ hk => ?_)
       refine hK.out _ _ trivial (fun hHeld => ?_)
       refine pure_ (i := 10) (N := some 17) (v := .int .i64 (wrap64 (1 + t214))) (lb 139238) rfl rfl (any_of HT_.out (by kernel_rfl)) (fun _ _ _ h => h) zY rfl ?_
       exact norm2_ (hJ_2_6_9_11_17 (s_.1, s_.2.1, s_.2.2) _ ⟨hR1_, trivial, hB.pick hk, hC.pick hk⟩)
     refine join_ (σ := Addr × Addr × Nat) 10 (lb 137519) (fun s_ => [(7, .slice (some s_.1) 3 3), (9, .int .i64 t207), (10, .pointer (some (s_.1.add (t207).toNat))), (18, .slice (some s_.2.1) 5 5), (3, .pointer (some ⟨s_.2.2, 0, none⟩))]) (fun s_ W_ => RgS w0 w W_ g gb203 s0_0 t208 t209 ∧ CellF W_ g (s_.1.add (t207).toNat) (.int .i64 (rd y204 t207)) ∧ CellF W_ g (s_.2.1.add (t220).toNat) (.int .i64 (rd y217 t220)) ∧ BoxF w0 w W_ g gb203 s_.2.2) ?_ (fun hJ_0_2_11_17 => ?_)
     ·rintro s_ W_ ⟨hR, hA, hB, hC⟩
      refine norm_ (a' := ?_) ?_ ?_
      rotate_left
      ·simp only [putAll, Act.put, List.setIfInBounds_toArray, List.set_cons_zero, List.set_cons_succ, i64_w, i32_w]
       rfl
      refine two_ (i := 4) (j := 6) (Ni := some 11) (Nj := some 13) (lb 137535) (lb 137583) rfl rfl rfl rfl (two_of HT_.out (by kernel_rfl)) (by decide) (by decide) (fun K hK => ?_) (fun K hK => ?_)
      ·have hx_ := hA.1
       refine value_ (v := .int .i64 (rd y204 t207)) (w1 := W_) (by rfl) rfl zG ?_
       clear hx_
       refine hK.out _ _ trivial (fun hHeld => ?_)
       exact norm2_ (hJ_0_2_4_11_17 (s_.1, s_.2.1, s_.2.2) _ ⟨hR, trivial, hB, hC⟩)
      ·refine stP_ (by rfl) rfl rfl zA hR A5.out (fun _ hR1_ hk => ?_)
       refine hK.out _ _ trivial (fun hHeld => ?_)
       refine pure_ (i := 7) (N := some 14) (v := .int .i64 (wrap64 (1 + t211))) (lb 137711) rfl rfl (any_of HT_.out (by kernel_rfl)) (fun _ _ _ h => h) zY rfl ?_
       exact norm2_ (hJ_0_2_6_11_17 (s_.1, s_.2.1, s_.2.2) _ ⟨hR1_, hA.pick hk, hB.pick hk, hC.pick hk⟩)
     refine join_ (σ := Addr × Addr × Nat) 10 (lb 135487) (fun s_ => [(7, .slice (some s_.1) 3 3), (9, .int .i64 t207), (10, .pointer (some (s_.1.add (t207).toNat))), (11, .int .i64 (rd y204 t207)), (3, .pointer (some ⟨s_.2.2, 0, none⟩))]) (fun s_ W_ => RgS w0 w W_ g gb203 s0_0 t208 t209 ∧ True ∧ True ∧ BoxF w0 w W_ g gb203 s_.2.2) ?_ (fun hJ_0_2_4_17 => ?_)
     ·rintro s_ W_ ⟨hR, hA, hB, hC⟩
      refine norm_ (a' := ?_) ?_ ?_
      rotate_left
      ·simp only [putAll, Act.put, List.setIfInBounds_toArray, List.set_cons_zero, List.set_cons_succ, i64_w, i32_w]
       rfl
      refine two_ (i := 6) (j := 11) (Ni := some 13) (Nj := some 18) (lb 135551) (lb 137535) rfl rfl rfl rfl (two_of HT_.out (by kernel_rfl)) (by decide) (by decide) (fun K hK => ?_) (fun K hK => ?_)
      ·refine stP_ (by rfl) rfl rfl zA hR A5.out (fun _ hR1_ hk => ?_)
       refine hK.out _ _ trivial (fun hHeld => ?_)
       refine pure_ (i := 7) (N := some 14) (v := .int .i64 (wrap64 (1 + t211))) (lb 135679) rfl rfl (any_of HT_.out (by kernel_rfl)) (fun _ _ _ h => h) zY rfl ?_
       exact norm2_ (hJ_0_2_4_6_17 (s_.1, s_.2.1, s_.2.2) _ ⟨hR1_, trivial, trivial, hC.pick hk⟩)
      ·refine st5_ (by rfl) rfl zG hR t220 y217 Ny217.out (of_eq_true pi4_) (of_eq_true qi4_) (fun ad_ hN_ => ?_)
       refine hK.out _ _ trivial (fun hHeld => ?_)
       exact norm2_ (hJ_0_2_4_11_17 (s_.1, ad_, s_.2.2) _ ⟨hR.alloc _, trivial, hN_, hC.alloc _⟩)
     refine join_ (σ := Addr × Addr × Nat) 10 (lb 6463) (fun s_ => [(7, .slice (some s_.1) 3 3), (9, .int .i64 t207), (10, .pointer (some (s_.1.add (t207).toNat))), (11, .int .i64 (rd y204 t207)), (18, .slice (some s_.2.1) 5 5)]) (fun s_ W_ => RgS w0 w W_ g gb203 s0_0 t208 t209 ∧ True ∧ CellF W_ g (s_.2.1.add (t220).toNat) (.int .i64 (rd y217 t220)) ∧ True) ?_ (fun hJ_0_2_4_11 => ?_)
     ·rintro s_ W_ ⟨hR, hA, hB, hC⟩
      refine norm_ (a' := ?_) ?_ ?_
      rotate_left
      ·simp only [putAll, Act.put, List.setIfInBounds_toArray, List.set_cons_zero, List.set_cons_succ, i64_w, i32_w]
       rfl
      refine two_ (i := 6) (j := 17) (Ni := some 13) (Nj := some 3) (lb 6527) (lb 137535) rfl rfl rfl rfl (two_of HT_.out (by kernel_rfl)) (by decide) (by decide) (fun K hK => ?_) (fun K hK => ?_)
      ·refine stP_ (by rfl) rfl rfl zA hR A5.out (fun _ hR1_ hk => ?_)
       refine hK.out _ _ trivial (fun hHeld => ?_)
       refine pure_ (i := 7) (N := some 14) (v := .int .i64 (wrap64 (1 + t211))) (lb 6655) rfl rfl (any_of HT_.out (by kernel_rfl)) (fun _ _ _ h => h) zY rfl ?_
       exact norm2_ (hJ_0_2_4_6_11 (s_.1, s_.2.1, s_.2.2) _ ⟨hR1_, trivial, hB.pick hk, trivial⟩)
      ·refine stB_ (by rfl) rfl zG hR (fun hN_ => ?_)
       refine hK.out _ _ trivial (fun hHeld => ?_)
       exact norm2_ (hJ_0_2_4_11_17 (s_.1, s_.2.1, W_.heap.size) _ ⟨hR.alloc _, trivial, hB.alloc _, hN_⟩)
     refine join_ (σ := Addr × Addr × Nat) 10 (lb 6118) (fun s_ => [(9, .int .i64 t207), (13, .int .i64 t211), (14, .int .i64 (wrap64 (1 + t211))), (16, .int .i64 t214), (17, .int .i64 (wrap64 (1 + t214)))]) (fun s_ W_ => RgS w0 w W_ g gb203 s0_0 t215 t216 ∧ True ∧ True ∧ True) ?_ (fun hJ_2_6_9 => ?_)
     ·rintro s_ W_ ⟨hR, hA, hB, hC⟩
      refine norm_ (a' := ?_) ?_ ?_
      rotate_left
      ·simp only [putAll, Act.put, List.setIfInBounds_toArray, List.set_cons_zero, List.set_cons_succ, i64_w, i32_w]
       rfl
      refine four_ (i := 0) (j := 11) (k := 13) (m := 17) (Ni := some 7) (Nj := some 18) (Nk := some 20) (Nm := some 3) (lb 6119) (lb 8166) (lb 14310) (lb 137190) rfl rfl rfl rfl rfl rfl rfl rfl (four_of HT_.out (by kernel_rfl)) (by decide) (by decide) (by decide) (by decide) (fun K hK => ?_) (fun K hK => ?_) (fun K hK => ?_) (fun K hK => ?_)
      ·refine st3_ (by rfl) rfl zG hR t207 y204 Ny204.out (of_eq_true pi1_) (of_eq_true qi1_) (fun ad_ hN_ => ?_)
       refine hK.out _ _ trivial (fun hHeld => ?_)
       refine pure_ (i := 3) (N := some 10) (v := .pointer (some (ad_.add (t207).toNat))) (lb 6127) rfl rfl (any_of HT_.out (by kernel_rfl)) (fun _ _ _ h => h) zY rfl ?_
       exact norm2_ (hJ_0_2_6_9 (ad_, s_.2.1, s_.2.2) _ ⟨hR.alloc _, hN_, trivial, trivial⟩)
      ·refine st5_ (by rfl) rfl zG hR t220 y217 Ny217.out (of_eq_true pi4_) (of_eq_true qi4_) (fun ad_ hN_ => ?_)
       refine hK.out _ _ trivial (fun hHeld => ?_)
       exact norm2_ (hJ_2_6_9_11 (s_.1, ad_, s_.2.2) _ ⟨hR.alloc _, trivial, hN_, trivial⟩)
      ·refine stP_ (by rfl) rfl rfl zA hR A7.out (fun _ hR1_ hk => ?_)
       refine hK.out _ _ trivial (fun hHeld => ?_)
       exact norm2_ (hJ_2_6_9_13 (s_.1, s_.2.1, s_.2.2) _ ⟨hR1_, trivial, trivial, trivial⟩)
      ·refine stB_ (by rfl) rfl zG hR (fun hN_ => ?_)
       refine hK.out _ _ trivial (fun hHeld => ?_)
       exact norm2_ (hJ_2_6_9_17 (s_.1, s_.2.1, W_.heap.size) _ ⟨hR.alloc _, trivial, trivial, hN_⟩)
     refine join_ (σ := Addr × Addr × Nat) 10 (lb 4591) (fun s_ => [(7, .slice (some s_.1) 3 3), (9, .int .i64 t207), (10, .pointer (some (s_.1.add (t207).toNat))), (13, .int .i64 t211), (14, .int .i64 (wrap64 (1 + t211)))]) (fun s_ W_ => RgS w0 w W_ g gb203 s0_0 t212 t213 ∧ CellF W_ g (s_.1.add (t207).toNat) (.int .i64 (rd y204 t207)) ∧ True ∧ True) ?_ (fun hJ_0_2_6 => ?_)
     ·rintro s_ W_ ⟨hR, hA, hB, hC⟩
      refine norm_ (a' := ?_) ?_ ?_
      rotate_left
      ·simp only [putAll, Act.put, List.setIfInBounds_toArray, List.set_cons_zero, List.set_cons_succ, i64_w, i32_w]
       rfl
      refine four_ (i := 4) (j := 9) (k := 11) (m := 17) (Ni := some 11) (Nj := some 16) (Nk := some 18) (Nm := some 3) (lb 4607) (lb 5103) (lb 6639) (lb 135663) rfl rfl rfl rfl rfl rfl rfl rfl (four_of HT_.out (by kernel_rfl)) (by decide) (by decide) (by decide) (by decide) (fun K hK => ?_) (fun K hK => ?_) (fun K hK => ?_) (fun K hK => ?_)
      ·have hx_ := hA.1
       refine value_ (v := .int .i64 (rd y204 t207)) (w1 := W_) (by rfl) rfl zG ?_
       clear hx_
       refine hK.out _ _ trivial (fun hHeld => ?_)
       exact norm2_ (hJ_0_2_4_6 (s_.1, s_.2.1, s_.2.2) _ ⟨hR, trivial, trivial, trivial⟩)
      ·refine stP_ (by rfl) rfl rfl zA hR A6.out (fun _ hR1_ hk => ?_)
       refine hK.out _ _ trivial (fun hHeld => ?_)
       refine pure_ (i := 10) (N := some 17) (v := .int .i64 (wrap64 (1 + t214))) (lb 6127) rfl rfl (any_of HT_.out (by kernel_rfl)) (fun _ _ _ h => h) zY rfl ?_
       exact norm2_ (hJ_0_2_6_9 (s_.1, s_.2.1, s_.2.2) _ ⟨hR1_, hA.pick hk, trivial, trivial⟩)
      ·refine st5_ (by rfl) rfl zG hR t220 y217 Ny217.out (of_eq_true pi4_) (of_eq_true qi4_) (fun ad_ hN_ => ?_)
       refine hK.out _ _ trivial (fun hHeld => ?_)
       exact norm2_ (hJ_0_2_6_11 (s_.1, ad_, s_.2.2) _ ⟨hR.alloc _, hA.alloc _, hN_, trivial⟩)
      ·refine stB_ (by rfl) rfl zG hR (fun hN_ => ?_)
       refine hK.out _ _ trivial (fun hHeld => ?_)
       exact norm2_ (hJ_0_2_6_17 (s_.1, s_.2.1, W_.heap.size) _ ⟨hR.alloc _, hA.alloc _, trivial, hN_⟩)
     refine join_ (σ := Addr × Addr × Nat) 11 (lb 135654) (fun s_ => [(9, .int .i64 t207), (13, .int .i64 t211), (14, .int .i64 (wrap64 (1 + t211))), (3, .pointer (some ⟨s_.2.2, 0, none⟩))]) (fun s_ W_ => RgS w0 w W_ g gb203 s0_0 t212 t213 ∧ True ∧ True ∧ BoxF w0 w W_ g gb203 s_.2.2) ?_ (fun hJ_2_6_17 => ?_)
     ·rintro s_ W_ ⟨hR, hA, hB, hC⟩
      refine norm_ (a' := ?_) ?_ ?_
      rotate_left
      ·simp only [putAll, Act.put, List.setIfInBounds_toArray, List.set_cons_zero, List.set_cons_succ, i64_w, i32_w]
       rfl
      refine three_ (i := 0) (j := 9) (k := 11) (Ni := some 7) (Nj := some 16) (Nk := some 18) (lb 135655) (lb 136166) (lb 137702) rfl rfl rfl rfl rfl rfl (three_of HT_.out (by kernel_rfl)) (by decide) (by decide) (by decide) (fun K hK => ?_) (fun K hK => ?_) (fun K hK => ?_)
      ·refine st3_ (by rfl) rfl zG hR t207 y204 Ny204.out (of_eq_true pi1_) (of_eq_true qi1_) (fun ad_ hN_ => ?_)
       refine hK.out _ _ trivial (fun hHeld => ?_)
       refine pure_ (i := 3) (N := some 10) (v := .pointer (some (ad_.add (t207).toNat))) (lb 135663) rfl rfl (any_of HT_.out (by kernel_rfl)) (fun _ _ _ h => h) zY rfl ?_
       exact norm2_ (hJ_0_2_6_17 (ad_, s_.2.1, s_.2.2) _ ⟨hR.alloc _, hN_, trivial, hC.alloc _⟩)
      ·refine stP_ (by rfl) rfl rfl zA hR A6.out (fun _ hR1_ hk => ?_)
       refine hK.out _ _ trivial (fun hHeld => ?_)
       refine pure_ (i := 10) (N := some 17) (v := .int .i64 (wrap64 (1 + t214))) (lb 137190) rfl rfl (any_of HT_.out (by kernel_rfl)) (fun _ _ _ h => h) zY rfl ?_
       exact norm2_ (hJ_2_6_9_17 (s_.1, s_.2.1, s_.2.2) _ ⟨hR1_, trivial, trivial, hC.pick hk⟩)
      ·refine st5_ (by rfl) rfl zG hR t220 y217 Ny217.out (of_eq_true pi4_) (of_eq_true qi4_) (fun ad_ hN_ => ?_)
       refine hK.out _ _ trivial (fun hHeld => ?_)
       exact norm2_ (hJ_2_6_11_17 (s_.1, ad_, s_.2.2) _ ⟨hR.alloc _, trivial, hN_, hC.alloc _⟩)
     refine join_ (σ := Addr × Addr × Nat) 11 (lb 135471) (fun s_ => [(7, .slice (some s_.1) 3 3), (9, .int .i64 t207), (10, .pointer (some (s_.1.add (t207).toNat))), (3, .pointer (some ⟨s_.2.2, 0, none⟩))]) (fun s_ W_ => RgS w0 w W_ g gb203 s0_0 t208 t209 ∧ CellF W_ g (s_.1.add (t207).toNat) (.int .i64 (rd y204 t207)) ∧ True ∧ BoxF w0 w W_ g gb203 s_.2.2) ?_ (fun hJ_0_2_17 => ?_)
     ·rintro s_ W_ ⟨hR, hA, hB, hC⟩
      refine norm_ (a' := ?_) ?_ ?_
      rotate_left
      ·simp only [putAll, Act.put, List.setIfInBounds_toArray, List.set_cons_zero, List.set_cons_succ, i64_w, i32_w]
       rfl
      refine three_ (i := 4) (j := 6) (k := 11) (Ni := some 11) (Nj := some 13) (Nk := some 18) (lb 135487) (lb 135535) (lb 137519) rfl rfl rfl rfl rfl rfl (three_of HT_.out (by kernel_rfl)) (by decide) (by decide) (by decide) (fun K hK => ?_) (fun K hK => ?_) (fun K hK => ?_)
      ·have hx_ := hA.1
       refine value_ (v := .int .i64 (rd y204 t207)) (w1 := W_) (by rfl) rfl zG ?_
       clear hx_
       refine hK.out _ _ trivial (fun hHeld => ?_)
       exact norm2_ (hJ_0_2_4_17 (s_.1, s_.2.1, s_.2.2) _ ⟨hR, trivial, trivial, hC⟩)
      ·refine stP_ (by rfl) rfl rfl zA hR A5.out (fun _ hR1_ hk => ?_)
       refine hK.out _ _ trivial (fun hHeld => ?_)
       refine pure_ (i := 7) (N := some 14) (v := .int .i64 (wrap64 (1 + t211))) (lb 135663) rfl rfl (any_of HT_.out (by kernel_rfl)) (fun _ _ _ h => h) zY rfl ?_
       exact norm2_ (hJ_0_2_6_17 (s_.1, s_.2.1, s_.2.2) _ ⟨hR1_, hA.pick hk, trivial, hC.pick hk⟩)
      ·refine st5_ (by rfl) rfl zG hR t220 y217 Ny217.out (of_eq_true pi4_) (of_eq_true qi4_) (fun ad_ hN_ => ?_)
       refine hK.out _ _ trivial (fun hHeld => ?_)
       exact norm2_ (hJ_0_2_11_17 (s_.1, ad_, s_.2.2) _ ⟨hR.alloc _, hA.alloc _, hN_, hC.alloc _⟩)
     refine join_ (σ := Addr × Addr × Nat) 11 (lb 6630) (fun s_ => [(9, .int .i64 t207), (13, .int .i64 t211), (14, .int .i64 (wrap64 (1 + t211))), (18, .slice (some s_.2.1) 5 5)]) (fun s_ W_ => RgS w0 w W_ g gb203 s0_0 t212 t213 ∧ True ∧ CellF W_ g (s_.2.1.add (t220).toNat) (.int .i64 (rd y217 t220)) ∧ True) ?_ (fun hJ_2_6_11 => ?_)
     ·rintro s_ W_ ⟨hR, hA, hB, hC⟩
      refine norm_ (a' := ?_) ?_ ?_
      rotate_left
      ·simp only [putAll, Act.put, List.setIfInBounds_toArray, List.set_cons_zero, List.set_cons_succ, i64_w, i32_w]
       rfl
      refine three_ (i := 0) (j := 9) (k := 17) (Ni := some 7) (Nj := some 16) (Nk := some 3) (lb 6631) (lb 7142) (lb 137702) rfl rfl rfl rfl rfl rfl (three_of HT_.out (by kernel_rfl)) (by decide) (by decide) (by decide) (fun K hK => ?_) (fun K hK => ?_) (fun K hK => ?_)
      ·refine st3_ (by rfl) rfl zG hR t207 y204 Ny204.out (of_eq_true pi1_) (of_eq_true qi1_) (fun ad_ hN_ => ?_)
       refine hK.out _ _ trivial (fun hHeld => ?_)
       refine pure_ (i := 3) (N := some 10) (v := .pointer (some (ad_.add (t207).toNat))) (lb 6639) rfl rfl (any_of HT_.out (by kernel_rfl)) (fun _ _ _ h => h) zY rfl ?_
       exact norm2_ (hJ_0_2_6_11 (ad_, s_.2.1, s_.2.2) _ ⟨hR.alloc _, hN_, hB.alloc _, trivial⟩)
      ·refine stP_ (by rfl) rfl rfl zA hR A6.out (fun _ hR1_ hk => ?_)
       refine hK.out _ _ trivial (fun hHeld => ?_)
       refine pure_ (i := 10) (N := some 17) (v := .int .i64 (wrap64 (1 + t214))) (lb 8166) rfl rfl (any_of HT_.out (by kernel_rfl)) (fun _ _ _ h => h) zY rfl ?_
       exact norm2_ (hJ_2_6_9_11 (s_.1, s_.2.1, s_.2.2) _ ⟨hR1_, trivial, hB.pick hk, trivial⟩)
      ·refine stB_ (by rfl) rfl zG hR (fun hN_ => ?_)
       refine hK.out _ _ trivial (fun hHeld => ?_)
       exact norm2_ (hJ_2_6_11_17 (s_.1, s_.2.1, W_.heap.size) _ ⟨hR.alloc _, trivial, hB.alloc _, hN_⟩)
     refine join_ (σ := Addr × Addr × Nat) 11 (lb 6447) (fun s_ => [(7, .slice (some s_.1) 3 3), (9, .int .i64 t207), (10, .pointer (some (s_.1.add (t207).toNat))), (18, .slice (some s_.2.1) 5 5)]) (fun s_ W_ => RgS w0 w W_ g gb203 s0_0 t208 t209 ∧ CellF W_ g (s_.1.add (t207).toNat) (.int .i64 (rd y204 t207)) ∧ CellF W_ g (s_.2.1.add (t220).toNat) (.int .i64 (rd y217 t220)) ∧ True) ?_ (fun hJ_0_2_11 => ?_)
     ·rintro s_ W_ ⟨hR, hA, hB, hC⟩
      refine norm_ (a' := ?_) ?_ ?_
      rotate_left
      ·simp only [putAll, Act.put, List.setIfInBounds_toArray, List.set_cons_zero, List.set_cons_succ, i64_w, i32_w]
       rfl
      refine three_ (i := 4) (j := 6) (k := 17) (Ni := some 11) (Nj := some 13) (Nk := some 3) (lb 6463) (lb 6511) (lb 137519) rfl rfl rfl rfl rfl rfl (three_of HT_.out (by kernel_rfl)) (by decide) (by decide) (by decide) (fun K hK => ?_) (fun K hK => ?_) (fun K hK => ?_)
      ·have hx_ := hA.1
       refine value_ (v := .int .i64 (rd y204 t207)) (w1 := W_) (by rfl) rfl zG ?_
       clear hx_
       refine hK.out _ _ trivial (fun hHeld => ?_)
       exact norm2_ (hJ_0_2_4_11 (s_.1, s_.2.1, s_.2.2) _ ⟨hR, trivial, hB, trivial⟩)
      ·refine stP_ (by rfl) rfl rfl zA hR A5.out (fun _ hR1_ hk => ?_)
       refine hK.out _ _ trivial (fun hHeld => ?_)
       refine pure_ (i := 7) (N := some 14) (v := .int .i64 (wrap64 (1 + t211))) (lb 6639) rfl rfl (any_of HT_.out (by kernel_rfl)) (fun _ _ _ h => h) zY rfl ?_
       exact norm2_ (hJ_0_2_6_11 (s_.1, s_.2.1, s_.2.2) _ ⟨hR1_, hA.pick hk, hB.pick hk, trivial⟩)
      ·refine stB_ (by rfl) rfl zG hR (fun hN_ => ?_)
       refine hK.out _ _ trivial (fun hHeld => ?_)
       exact norm2_ (hJ_0_2_11_17 (s_.1, s_.2.1, W_.heap.size) _ ⟨hR.alloc _, hA.alloc _, hB.alloc _, hN_⟩)
     refine join_ (σ := Addr × Addr × Nat) 11 (lb 4415) (fun s_ => [(7, .slice (some s_.1) 3 3), (9, .int .i64 t207), (10, .pointer (some (s_.1.add (t207).toNat))), (11, .int .i64 (rd y204 t207))]) (fun s_ W_ => RgS w0 w W_ g gb203 s0_0 t208 t209 ∧ True ∧ True ∧ True) ?_ (fun hJ_0_2_4 => ?_)
     ·rintro s_ W_ ⟨hR, hA, hB, hC⟩
      refine norm_ (a' := ?_) ?_ ?_
      rotate_left
      ·simp only [putAll, Act.put, List.setIfInBounds_toArray, List.set_cons_zero, List.set_cons_succ, i64_w, i32_w]
       rfl
      refine three_ (i := 6) (j := 11) (k := 17) (Ni := some 13) (Nj := some 18) (Nk := some 3) (lb 4479) (lb 6463) (lb 135487) rfl rfl rfl rfl rfl rfl (three_of HT_.out (by kernel_rfl)) (by decide) (by decide) (by decide) (fun K hK => ?_) (fun K hK => ?_) (fun K hK => ?_)
      ·refine stP_ (by rfl) rfl rfl zA hR A5.out (fun _ hR1_ hk => ?_)
       refine hK.out _ _ trivial (fun hHeld => ?_)
       refine pure_ (i := 7) (N := some 14) (v := .int .i64 (wrap64 (1 + t211))) (lb 4607) rfl rfl (any_of HT_.out (by kernel_rfl)) (fun _ _ _ h => h) zY rfl ?_
       exact norm2_ (hJ_0_2_4_6 (s_.1, s_.2.1, s_.2.2) _ ⟨hR1_, trivial, trivial, trivial⟩)
      ·refine st5_ (by rfl) rfl zG hR t220 y217 Ny217.out (of_eq_true pi4_) (of_eq_true qi4_) (fun ad_ hN_ => ?_)
       refine hK.out _ _ trivial (fun hHeld => ?_)
       exact norm2_ (hJ_0_2_4_11 (s_.1, ad_, s_.2.2) _ ⟨hR.alloc _, trivial, hN_, trivial⟩)
      ·refine stB_ (by rfl) rfl zG hR (fun hN_ => ?_)
       refine hK.out _ _ trivial (fun hHeld => ?_)
       exact norm2_ (hJ_0_2_4_17 (s_.1, s_.2.1, W_.heap.size) _ ⟨hR.alloc _, trivial, trivial, hN_⟩)
     refine join_ (σ := Addr × Addr × Nat) 12 (lb 137510) (fun s_ => [(9, .int .i64 t207), (18, .slice (some s_.2.1) 5 5), (3, .pointer (some ⟨s_.2.2, 0, none⟩))]) (fun s_ W_ => RgS w0 w W_ g gb203 s0_0 t208 t209 ∧ True ∧ CellF W_ g (s_.2.1.add (t220).toNat) (.int .i64 (rd y217 t220)) ∧ BoxF w0 w W_ g gb203 s_.2.2) ?_ (fun hJ_2_11_17 => ?_)
     ·rintro s_ W_ ⟨hR, hA, hB, hC⟩
      refine norm_ (a' := ?_) ?_ ?_
      rotate_left
      ·simp only [putAll, Act.put, List.setIfInBounds_toArray, List.set_cons_zero, List.set_cons_succ, i64_w, i32_w]
       rfl
      refine two_ (i := 0) (j := 6) (Ni := some 7) (Nj := some 13) (lb 137511) (lb 137574) rfl rfl rfl rfl (two_of HT_.out (by kernel_rfl)) (by decide) (by decide) (fun K hK => ?_) (fun K hK => ?_)
      ·refine st3_ (by rfl) rfl zG hR t207 y204 Ny204.out (of_eq_true pi1_) (of_eq_true qi1_) (fun ad_ hN_ => ?_)
       refine hK.out _ _ trivial (fun hHeld => ?_)
       refine pure_ (i := 3) (N := some 10) (v := .pointer (some (ad_.add (t207).toNat))) (lb 137519) rfl rfl (any_of HT_.out (by kernel_rfl)) (fun _ _ _ h => h) zY rfl ?_
       exact norm2_ (hJ_0_2_11_17 (ad_, s_.2.1, s_.2.2) _ ⟨hR.alloc _, hN_, hB.alloc _, hC.alloc _⟩)
      ·refine stP_ (by rfl) rfl rfl zA hR A5.out (fun _ hR1_ hk => ?_)
       refine hK.out _ _ trivial (fun hHeld => ?_)
       refine pure_ (i := 7) (N := some 14) (v := .int .i64 (wrap64 (1 + t211))) (lb 137702) rfl rfl (any_of HT_.out (by kernel_rfl)) (fun _ _ _ h => h) zY rfl ?_
       exact norm2_ (hJ_2_6_11_17 (s_.1, s_.2.1, s_.2.2) _ ⟨hR1_, trivial, hB.pick hk, hC.pick hk⟩)
     refine join_ (σ := Addr × Addr × Nat) 12 (lb 137507) (fun s_ => [(7, .slice (some s_.1) 3 3), (18, .slice (some s_.2.1) 5 5), (3, .pointer (some ⟨s_.2.2, 0, none⟩))]) (fun s_ W_ => RgS w0 w W_ g gb203 s0_0 s0_1 s0_2 ∧ CellF W_ g (s_.1.add (t207).toNat) (.int .i64 (rd y204 t207)) ∧ CellF W_ g (s_.2.1.add (t220).toNat) (.int .i64 (rd y217 t220)) ∧ BoxF w0 w W_ g gb203 s_.2.2) ?_ (fun hJ_0_11_17 => ?_)
     ·rintro s_ W_ ⟨hR, hA, hB, hC⟩
      refine norm_ (a' := ?_) ?_ ?_
      rotate_left
      ·simp only [putAll, Act.put, List.setIfInBounds_toArray, List.set_cons_zero, List.set_cons_succ, i64_w, i32_w]
       rfl
      refine one_ (i := 2) (N := some 9) (lb 137511) rfl rfl (one_of HT_.out (by kernel_rfl)) (by decide) (fun K hK => ?_)
      ·refine stP_ (by rfl) rfl rfl zA hR A2.out (fun _ hR1_ hk => ?_)
       refine hK.out _ _ trivial (fun hHeld => ?_)
       refine pure_ (i := 3) (N := some 10) (v := .pointer (some (s_.1.add (t207).toNat))) (lb 137519) rfl rfl (any_of HT_.out (by kernel_rfl)) (fun _ _ _ h => h) zY rfl ?_
       exact norm2_ (hJ_0_2_11_17 (s_.1, s_.2.1, s_.2.2) _ ⟨hR1_, hA.pick hk, hB.pick hk, hC.pick hk⟩)
     refine join_ (σ := Addr × Addr × Nat) 12 (lb 4582) (fun s_ => [(9, .int .i64 t207), (13, .int .i64 t211), (14, .int .i64 (wrap64 (1 + t211)))]) (fun s_ W_ => RgS w0 w W_ g gb203 s0_0 t212 t213 ∧ True ∧ True ∧ True) ?_ (fun hJ_2_6 => ?_)
     ·rintro s_ W_ ⟨hR, hA, hB, hC⟩
      refine norm_ (a' := ?_) ?_ ?_
      rotate_left
      ·simp only [putAll, Act.put, List.setIfInBounds_toArray, List.set_cons_zero, List.set_cons_succ, i64_w, i32_w]
       rfl
      refine four_ (i := 0) (j := 9) (k := 11) (m := 17) (Ni := some 7) (Nj := some 16) (Nk := some 18) (Nm := some 3) (lb 4583) (lb 5094) (lb 6630) (lb 135654) rfl rfl rfl rfl rfl rfl rfl rfl (four_of HT_.out (by kernel_rfl)) (by decide) (by decide) (by decide) (by decide) (fun K hK => ?_) (fun K hK => ?_) (fun K hK => ?_) (fun K hK => ?_)
      ·refine st3_ (by rfl) rfl zG hR t207 y204 Ny204.out (of_eq_true pi1_) (of_eq_true qi1_) (fun ad_ hN_ => ?_)
       refine hK.out _ _ trivial (fun hHeld => ?_)
       refine pure_ (i := 3) (N := some 10) (v := .pointer (some (ad_.add (t207).toNat))) (lb 4591) rfl rfl (any_of HT_.out (by kernel_rfl)) (fun _ _ _ h => h) zY rfl ?_
       exact norm2_ (hJ_0_2_6 (ad_, s_.2.1, s_.2.2) _ ⟨hR.alloc _, hN_, trivial, trivial⟩)
      ·refine stP_ (by rfl) rfl rfl zA hR A6.out (fun _ hR1_ hk => ?_)
       refine hK.out _ _ trivial (fun hHeld => ?_)
       refine pure_ (i := 10) (N := some 17) (v := .int .i64 (wrap64 (1 + t214))) (lb 6118) rfl rfl (any_of HT_.out (by kernel_rfl)) (fun _ _ _ h => h) zY rfl ?_
       exact norm2_ (hJ_2_6_9 (s_.1, s_.2.1, s_.2.2) _ ⟨hR1_, trivial, trivial, trivial⟩)
      ·refine st5_ (by rfl) rfl zG hR t220 y217 Ny217.out (of_eq_true pi4_) (of_eq_true qi4_) (fun ad_ hN_ => ?_)
       refine hK.out _ _ trivial (fun hHeld => ?_)
       exact norm2_ (hJ_2_6_11 (s_.1, ad_, s_.2.2) _ ⟨hR.alloc _, trivial, hN_, trivial⟩)
      ·refine stB_ (by rfl) rfl zG hR (fun hN_ => ?_)
       refine hK.out _ _ trivial (fun hHeld => ?_)
       exact norm2_ (hJ_2_6_17 (s_.1, s_.2.1, W_.heap.size) _ ⟨hR.alloc _, trivial, trivial, hN_⟩)
     refine join_ (σ := Addr × Addr × Nat) 12 (lb 4399) (fun s_ => [(7, .slice (some s_.1) 3 3), (9, .int .i64 t207), (10, .pointer (some (s_.1.add (t207).toNat)))]) (fun s_ W_ => RgS w0 w W_ g gb203 s0_0 t208 t209 ∧ CellF W_ g (s_.1.add (t207).toNat) (.int .i64 (rd y204 t207)) ∧ True ∧ True) ?_ (fun hJ_0_2 => ?_)
     ·rintro s_ W_ ⟨hR, hA, hB, hC⟩
      refine norm_ (a' := ?_) ?_ ?_
      rotate_left
      ·simp only [putAll, Act.put, List.setIfInBounds_toArray, List.set_cons_zero, List.set_cons_succ, i64_w, i32_w]
       rfl
      refine four_ (i := 4) (j := 6) (k := 11) (m := 17) (Ni := some 11) (Nj := some 13) (Nk := some 18) (Nm := some 3) (lb 4415) (lb 4463) (lb 6447) (lb 135471) rfl rfl rfl rfl rfl rfl rfl rfl (four_of HT_.out (by kernel_rfl)) (by decide) (by decide) (by decide) (by decide) (fun K hK => ?_) (fun K hK => ?_) (fun K hK => ?_) (fun K hK => ?_)
      ·have hx_ := hA.1
       refine value_ (v := .int .i64 (rd y204 t207)) (w1 := W_) (by rfl) rfl zG ?_
       clear hx_
       refine hK.out _ _ trivial (fun hHeld => ?_)
       exact norm2_ (hJ_0_2_4 (s_.1, s_.2.1, s_.2.2) _ ⟨hR, trivial, trivial, trivial⟩)
      ·refine stP_ (by rfl) rfl rfl zA hR A5.out (fun _ hR1_ hk => ?_)
       refine hK.out _ _ trivial (fun hHeld => ?_)
       refine pure_ (i := 7) (N := some 14) (v := .int .i64 (wrap64 (1 + t211))) (lb 4591) rfl rfl (any_of HT_.out (by kernel_rfl)) (fun _ _ _ h => h) zY rfl ?_
       exact norm2_ (hJ_0_2_6 (s_.1, s_.2.1, s_.2.2) _ ⟨hR1_, hA.pick hk, trivial, trivial⟩)
      ·refine st5_ (by rfl) rfl zG hR t220 y217 Ny217.out (of_eq_true pi4_) (of_eq_true qi4_) (fun ad_ hN_ => ?_)
       refine hK.out _ _ trivial (fun hHeld => ?_)
       exact norm2_ (hJ_0_2_11 (s_.1, ad_, s_.2.2) _ ⟨hR.alloc _, hA.alloc _, hN_, trivial⟩)
      ·refine stB_ (by rfl) rfl zG hR (fun hN_ => ?_)
       refine hK.out _ _ trivial (fun hHeld => ?_)
       exact norm2_ (hJ_0_2_17 (s_.1, s_.2.1, W_.heap.size) _ ⟨hR.alloc _, hA.alloc _, trivial, hN_⟩)
     refine join_ (σ := Addr × Addr × Nat) 13 (lb 137506) (fun s_ => [(18, .slice (some s_.2.1) 5 5), (3, .pointer (some ⟨s_.2.2, 0, none⟩))]) (fun s_ W_ => RgS w0 w W_ g gb203 s0_0 s0_1 s0_2 ∧ True ∧ CellF W_ g (s_.2.1.add (t220).toNat) (.int .i64 (rd y217 t220)) ∧ BoxF w0 w W_ g gb203 s_.2.2) ?_ (fun hJ_11_17 => ?_)
     ·rintro s_ W_ ⟨hR, hA, hB, hC⟩
      refine norm_ (a' := ?_) ?_ ?_
      rotate_left
      ·simp only [putAll, Act.put, List.setIfInBounds_toArray, List.set_cons_zero, List.set_cons_succ, i64_w, i32_w]
       rfl
      refine two_ (i := 0) (j := 2) (Ni := some 7) (Nj := some 9) (lb 137507) (lb 137510) rfl rfl rfl rfl (two_of HT_.out (by kernel_rfl)) (by decide) (by decide) (fun K hK => ?_) (fun K hK => ?_)
      ·refine st3_ (by rfl) rfl zG hR t207 y204 Ny204.out (of_eq_true pi1_) (of_eq_true qi1_) (fun ad_ hN_ => ?_)
       refine hK.out _ _ trivial (fun hHeld => ?_)
       exact norm2_ (hJ_0_11_17 (ad_, s_.2.1, s_.2.2) _ ⟨hR.alloc _, hN_, hB.alloc _, hC.alloc _⟩)
      ·refine stP_ (by rfl) rfl rfl zA hR A2.out (fun _ hR1_ hk => ?_)
       refine hK.out _ _ trivial (fun hHeld => ?_)
       exact norm2_ (hJ_2_11_17 (s_.1, s_.2.1, s_.2.2) _ ⟨hR1_, trivial, hB.pick hk, hC.pick hk⟩)
     refine join_ (σ := Addr × Addr × Nat) 13 (lb 135462) (fun s_ => [(9, .int .i64 t207), (3, .pointer (some ⟨s_.2.2, 0, none⟩))]) (fun s_ W_ => RgS w0 w W_ g gb203 s0_0 t208 t209 ∧ True ∧ True ∧ BoxF w0 w W_ g gb203 s_.2.2) ?_ (fun hJ_2_17 => ?_)
     ·rintro s_ W_ ⟨hR, hA, hB, hC⟩
      refine norm_ (a' := ?_) ?_ ?_
      rotate_left
      ·simp only [putAll, Act.put, List.setIfInBounds_toArray, List.set_cons_zero, List.set_cons_succ, i64_w, i32_w]
       rfl
      refine three_ (i := 0) (j := 6) (k := 11) (Ni := some 7) (Nj := some 13) (Nk := some 18) (lb 135463) (lb 135526) (lb 137510) rfl rfl rfl rfl rfl rfl (three_of HT_.out (by kernel_rfl)) (by decide) (by decide) (by decide) (fun K hK => ?_) (fun K hK => ?_) (fun K hK => ?_)
      ·refine st3_ (by rfl) rfl zG hR t207 y204 Ny204.out (of_eq_true pi1_) (of_eq_true qi1_) (fun ad_ hN_ => ?_)
       refine hK.out _ _ trivial (fun hHeld => ?_)
       refine pure_ (i := 3) (N := some 10) (v := .pointer (some (ad_.add (t207).toNat))) (lb 135471) rfl rfl (any_of HT_.out (by kernel_rfl)) (fun _ _ _ h => h) zY rfl ?_
       exact norm2_ (hJ_0_2_17 (ad_, s_.2.1, s_.2.2) _ ⟨hR.alloc _, hN_, trivial, hC.alloc _⟩)
      ·refine stP_ (by rfl) rfl rfl zA hR A5.out (fun _ hR1_ hk => ?_)
       refine hK.out _ _ trivial (fun hHeld => ?_)
       refine pure_ (i := 7) (N := some 14) (v := .int .i64 (wrap64 (1 + t211))) (lb 135654) rfl rfl (any_of HT_.out (by kernel_rfl)) (fun _ _ _ h => h) zY rfl ?_
       exact norm2_ (hJ_2_6_17 (s_.1, s_.2.1, s_.2.2) _ ⟨hR1_, trivial, trivial, hC.pick hk⟩)
      ·refine st5_ (by rfl) rfl zG hR t220 y217 Ny217.out (of_eq_true pi4_) (of_eq_true qi4_) (fun ad_ hN_ => ?_)
       refine hK.out _ _ trivial (fun hHeld => ?_)
       exact norm2_ (hJ_2_11_17 (s_.1, ad_, s_.2.2) _ ⟨hR.alloc _, trivial, hN_, hC.alloc _⟩)
     refine join_ (σ := Addr × Addr × Nat) 13 (lb 135459) (fun s_ => [(7, .slice (some s_.1) 3 3), (3, .pointer (some ⟨s_.2.2, 0, none⟩))]) (fun s_ W_ => RgS w0 w W_ g gb203 s0_0 s0_1 s0_2 ∧ CellF W_ g (s_.1.add (t207).toNat) (.int .i64 (rd y204 t207)) ∧ True ∧ BoxF w0 w W_ g gb203 s_.2.2) ?_ (fun hJ_0_17 => ?_)
     ·rintro s_ W_ ⟨hR, hA, hB, hC⟩
      refine norm_ (a' := ?_) ?_ ?_
      rotate_left
      ·simp only [putAll, Act.put, List.setIfInBounds_toArray, List.set_cons_zero, List.set_cons_succ, i64_w, i32_w]
       rfl
      refine two_ (i := 2) (j := 11) (Ni := some 9) (Nj := some 18) (lb 135463) (lb 137507) rfl rfl rfl rfl (two_of HT_.out (by kernel_rfl)) (by decide) (by decide) (fun K hK => ?_) (fun K hK => ?_)
      ·refine stP_ (by rfl) rfl rfl zA hR A2.out (fun _ hR1_ hk => ?_)
       refine hK.out _ _ trivial (fun hHeld => ?_)
       refine pure_ (i := 3) (N := some 10) (v := .pointer (some (s_.1.add (t207).toNat))) (lb 135471) rfl rfl (any_of HT_.out (by kernel_rfl)) (fun _ _ _ h => h) zY rfl ?_
       exact norm2_ (hJ_0_2_17 (s_.1, s_.2.1, s_.2.2) _ ⟨hR1_, hA.pick hk, trivial, hC.pick hk⟩)
      ·refine st5_ (by rfl) rfl zG hR t220 y217 Ny217.out (of_eq_true pi4_) (of_eq_true qi4_) (fun ad_ hN_ => ?_)
       refine hK.out _ _ trivial (fun hHeld => ?_)
       exact norm2_ (hJ_0_11_17 (s_.1, ad_, s_.2.2) _ ⟨hR.alloc _, hA.alloc _, hN_, hC.alloc _⟩)
     refine join_ (σ := Addr × Addr × Nat) 13 (lb 6438) (fun s_ => [(9, .int .i64 t207), (18, .slice (some s_.2.1) 5 5)]) (fun s_ W_ => RgS w0 w W_ g gb203 s0_0 t208 t209 ∧ True ∧ CellF W_ g (s_.2.1.add (t220).toNat) (.int .i64 (rd y217 t220)) ∧ True) ?_ (fun hJ_2_11 => ?_)
     ·rintro s_ W_ ⟨hR, hA, hB, hC⟩
      refine norm_ (a' := ?_) ?_ ?_
      rotate_left
      ·simp only [putAll, Act.put, List.setIfInBounds_toArray, List.set_cons_zero, List.set_cons_succ, i64_w, i32_w]
       rfl
      refine three_ (i := 0) (j := 6) (k := 17) (Ni := some 7) (Nj := some 13) (Nk := some 3) (lb 6439) (lb 6502) (lb 137510) rfl rfl rfl rfl rfl rfl (three_of HT_.out (by kernel_rfl)) (by decide) (by decide) (by decide) (fun K hK => ?_) (fun K hK => ?_) (fun K hK => ?_)
      ·refine st3_ (by rfl) rfl zG hR t207 y204 Ny204.out (of_eq_true pi1_) (of_eq_true qi1_) (fun ad_ hN_ => ?_)
       refine hK.out _ _ trivial (fun hHeld => ?_)
       refine pure_ (i := 3) (N := some 10) (v := .pointer (some (ad_.add (t207).toNat))) (lb 6447) rfl rfl (any_of HT_.out (by kernel_rfl)) (fun _ _ _ h => h) zY rfl ?_
       exact norm2_ (hJ_0_2_11 (ad_, s_.2.1, s_.2.2) _ ⟨hR.alloc _, hN_, hB.alloc _, trivial⟩)
      ·refine stP_ (by rfl) rfl rfl zA hR A5.out (fun _ hR1_ hk => ?_)
       refine hK.out _ _ trivial (fun hHeld => ?_)
       refine pure_ (i := 7) (N := some 14) (v := .int .i64 (wrap64 (1 + t211))) (lb 6630) rfl rfl (any_of HT_.out (by kernel_rfl)) (fun _ _ _ h => h) zY rfl ?_
       exact norm2_ (hJ_2_6_11 (s_.1, s_.2.1, s_.2.2) _ ⟨hR1_, trivial, hB.pick hk, trivial⟩)
      ·refine stB_ (by rfl) rfl zG hR (fun hN_ => ?_)
       refine hK.out _ _ trivial (fun hHeld => ?_)
       exact norm2_ (hJ_2_11_17 (s_.1, s_.2.1, W_.heap.size) _ ⟨hR.alloc _, trivial, hB.alloc _, hN_⟩)
     refine join_ (σ := Addr × Addr × Nat) 13 (lb 6435) (fun s_ => [(7, .slice (some s_.1) 3 3), (18, .slice (some s_.2.1) 5 5)]) (fun s_ W_ => RgS w0 w W_ g gb203 s0_0 s0_1 s0_2 ∧ CellF W_ g (s_.1.add (t207).toNat) (.int .i64 (rd y204 t207)) ∧ CellF W_ g (s_.2.1.add (t220).toNat) (.int .i64 (rd y217 t220)) ∧ True) ?_ (fun hJ_0_11 => ?_)
     ·rintro s_ W_ ⟨hR, hA, hB, hC⟩
      refine norm_ (a' := ?_) ?_ ?_
      rotate_left
      ·simp only [putAll, Act.put, List.setIfInBounds_toArray, List.set_cons_zero, List.set_cons_succ, i64_w, i32_w]
       rfl
      refine two_ (i := 2) (j := 17) (Ni := some 9) (Nj := some 3) (lb 6439) (lb 137507) rfl rfl rfl rfl (two_of HT_.out (by kernel_rfl)) (by decide) (by decide) (fun K hK => ?_) (fun K hK => ?_)
      ·refine stP_ (by rfl) rfl rfl zA hR A2.out (fun _ hR1_ hk => ?_)
       refine hK.out _ _ trivial (fun hHeld => ?_)
       refine pure_ (i := 3) (N := some 10) (v := .pointer (some (s_.1.add (t207).toNat))) (lb 6447) rfl rfl (any_of HT_.out (by kernel_rfl)) (fun _ _ _ h => h) zY rfl ?_
       exact norm2_ (hJ_0_2_11 (s_.1, s_.2.1, s_.2.2) _ ⟨hR1_, hA.pick hk, hB.pick hk, trivial⟩)
      ·refine stB_ (by rfl) rfl zG hR (fun hN_ => ?_)
       refine hK.out _ _ trivial (fun hHeld => ?_)
       exact norm2_ (hJ_0_11_17 (s_.1, s_.2.1, W_.heap.size) _ ⟨hR.alloc _, hA.alloc _, hB.alloc _, hN_⟩)
     refine join_ (σ := Addr × Addr × Nat) 14 (lb 135458) (fun s_ => [(3, .pointer (some ⟨s_.2.2, 0, none⟩))]) (fun s_ W_ => RgS w0 w W_ g gb203 s0_0 s0_1 s0_2 ∧ True ∧ True ∧ BoxF w0 w W_ g gb203 s_.2.2) ?_ (fun hJ_17 => ?_)
     ·rintro s_ W_ ⟨hR, hA, hB, hC⟩
      refine norm_ (a' := ?_) ?_ ?_
      rotate_left
      ·simp only [putAll, Act.put, List.setIfInBounds_toArray, List.set_cons_zero, List.set_cons_succ, i64_w, i32_w]
       rfl
      refine three_ (i := 0) (j := 2) (k := 11) (Ni := some 7) (Nj := some 9) (Nk := some 18) (lb 135459) (lb 135462) (lb 137506) rfl rfl rfl rfl rfl rfl (three_of HT_.out (by kernel_rfl)) (by decide) (by decide) (by decide) (fun K hK => ?_) (fun K hK => ?_) (fun K hK => ?_)
      ·refine st3_ (by rfl) rfl zG hR t207 y204 Ny204.out (of_eq_true pi1_) (of_eq_true qi1_) (fun ad_ hN_ => ?_)
       refine hK.out _ _ trivial (fun hHeld => ?_)
       exact norm2_ (hJ_0_17 (ad_, s_.2.1, s_.2.2) _ ⟨hR.alloc _, hN_, trivial, hC.alloc _⟩)
      ·refine stP_ (by rfl) rfl rfl zA hR A2.out (fun _ hR1_ hk => ?_)
       refine hK.out _ _ trivial (fun hHeld => ?_)
       exact norm2_ (hJ_2_17 (s_.1, s_.2.1, s_.2.2) _ ⟨hR1_, trivial, trivial, hC.pick hk⟩)
      ·refine st5_ (by rfl) rfl zG hR t220 y217 Ny217.out (of_eq_true pi4_) (of_eq_true qi4_) (fun ad_ hN_ => ?_)
       refine hK.out _ _ trivial (fun hHeld => ?_)
       exact norm2_ (hJ_11_17 (s_.1, ad_, s_.2.2) _ ⟨hR.alloc _, trivial, hN_, hC.alloc _⟩)
     refine join_ (σ := Addr × Addr × Nat) 14 (lb 6434) (fun s_ => [(18, .slice (some s_.2.1) 5 5)]) (fun s_ W_ => RgS w0 w W_ g gb203 s0_0 s0_1 s0_2 ∧ True ∧ CellF W_ g (s_.2.1.add (t220).toNat) (.int .i64 (rd y217 t220)) ∧ True) ?_ (fun hJ_11 => ?_)
     ·rintro s_ W_ ⟨hR, hA, hB, hC⟩
      refine norm_ (a' := ?_) ?_ ?_
      rotate_left
      ·simp only [putAll, Act.put, List.setIfInBounds_toArray, List.set_cons_zero, List.set_cons_succ, i64_w, i32_w]
       rfl
      refine three_ (i := 0) (j := 2) (k := 17) (Ni := some 7) (Nj := some 9) (Nk := some 3) (lb 6435) (lb 6438) (lb 137506) rfl rfl rfl rfl rfl rfl (three_of HT_.out (by kernel_rfl)) (by decide) (by decide) (by decide) (fun K hK => ?_) (fun K hK => ?_) (fun K hK => ?_)
      ·refine st3_ (by rfl) rfl zG hR t207 y204 Ny204.out (of_eq_true pi1_) (of_eq_true qi1_) (fun ad_ hN_ => ?_)
       refine hK.out _ _ trivial (fun hHeld => ?_)
       exact norm2_ (hJ_0_11 (ad_, s_.2.1, s_.2.2) _ ⟨hR.alloc _, hN_, hB.alloc _, trivial⟩)
      ·refine stP_ (by rfl) rfl rfl zA hR A2.out (fun _ hR1_ hk => ?_)
       refine hK.out _ _ trivial (fun hHeld => ?_)
       exact norm2_ (hJ_2_11 (s_.1, s_.2.1, s_.2.2) _ ⟨hR1_, trivial, hB.pick hk, trivial⟩)
      ·refine stB_ (by rfl) rfl zG hR (fun hN_ => ?_)
       refine hK.out _ _ trivial (fun hHeld => ?_)
       exact norm2_ (hJ_11_17 (s_.1, s_.2.1, W_.heap.size) _ ⟨hR.alloc _, trivial, hB.alloc _, hN_⟩)
     refine join_ (σ := Addr × Addr × Nat) 14 (lb 4390) (fun s_ => [(9, .int .i64 t207)]) (fun s_ W_ => RgS w0 w W_ g gb203 s0_0 t208 t209 ∧ True ∧ True ∧ True) ?_ (fun hJ_2 => ?_)
     ·rintro s_ W_ ⟨hR, hA, hB, hC⟩
      refine norm_ (a' := ?_) ?_ ?_
      rotate_left
      ·simp only [putAll, Act.put, List.setIfInBounds_toArray, List.set_cons_zero, List.set_cons_succ, i64_w, i32_w]
       rfl
      refine four_ (i := 0) (j := 6) (k := 11) (m := 17) (Ni := some 7) (Nj := some 13) (Nk := some 18) (Nm := some 3) (lb 4391) (lb 4454) (lb 6438) (lb 135462) rfl rfl rfl rfl rfl rfl rfl rfl (four_of HT_.out (by kernel_rfl)) (by decide) (by decide) (by decide) (by decide) (fun K hK => ?_) (fun K hK => ?_) (fun K hK => ?_) (fun K hK => ?_)
      ·refine st3_ (by rfl) rfl zG hR t207 y204 Ny204.out (of_eq_true pi1_) (of_eq_true qi1_) (fun ad_ hN_ => ?_)
       refine hK.out _ _ trivial (fun hHeld => ?_)
       refine pure_ (i := 3) (N := some 10) (v := .pointer (some (ad_.add (t207).toNat))) (lb 4399) rfl rfl (any_of HT_.out (by kernel_rfl)) (fun _ _ _ h => h) zY rfl ?_
       exact norm2_ (hJ_0_2 (ad_, s_.2.1, s_.2.2) _ ⟨hR.alloc _, hN_, trivial, trivial⟩)
      ·refine stP_ (by rfl) rfl rfl zA hR A5.out (fun _ hR1_ hk => ?_)
       refine hK.out _ _ trivial (fun hHeld => ?_)
       refine pure_ (i := 7) (N := some 14) (v := .int .i64 (wrap64 (1 + t211))) (lb 4582) rfl rfl (any_of HT_.out (by kernel_rfl)) (fun _ _ _ h => h) zY rfl ?_
       exact norm2_ (hJ_2_6 (s_.1, s_.2.1, s_.2.2) _ ⟨hR1_, trivial, trivial, trivial⟩)
      ·refine st5_ (by rfl) rfl zG hR t220 y217 Ny217.out (of_eq_true pi4_) (of_eq_true qi4_) (fun ad_ hN_ => ?_)
       refine hK.out _ _ trivial (fun hHeld => ?_)
       exact norm2_ (hJ_2_11 (s_.1, ad_, s_.2.2) _ ⟨hR.alloc _, trivial, hN_, trivial⟩)
      ·refine stB_ (by rfl) rfl zG hR (fun hN_ => ?_)
       refine hK.out _ _ trivial (fun hHeld => ?_)
       exact norm2_ (hJ_2_17 (s_.1, s_.2.1, W_.heap.size) _ ⟨hR.alloc _, trivial, trivial, hN_⟩)
     refine join_ (σ := Addr × Addr × Nat) 14 (lb 4387) (fun s_ => [(7, .slice (some s_.1) 3 3)]) (fun s_ W_ => RgS w0 w W_ g gb203 s0_0 s0_1 s0_2 ∧ CellF W_ g (s_.1.add (t207).toNat) (.int .i64 (rd y204 t207)) ∧ True ∧ True) ?_ (fun hJ_0 => ?_)
     ·rintro s_ W_ ⟨hR, hA, hB, hC⟩
      refine norm_ (a' := ?_) ?_ ?_
      rotate_left
      ·simp only [putAll, Act.put, List.setIfInBounds_toArray, List.set_cons_zero, List.set_cons_succ, i64_w, i32_w]
       rfl
      refine three_ (i := 2) (j := 11) (k := 17) (Ni := some 9) (Nj := some 18) (Nk := some 3) (lb 4391) (lb 6435) (lb 135459) rfl rfl rfl rfl rfl rfl (three_of HT_.out (by kernel_rfl)) (by decide) (by decide) (by decide) (fun K hK => ?_) (fun K hK => ?_) (fun K hK => ?_)
      ·refine stP_ (by rfl) rfl rfl zA hR A2.out (fun _ hR1_ hk => ?_)
       refine hK.out _ _ trivial (fun hHeld => ?_)
       refine pure_ (i := 3) (N := some 10) (v := .pointer (some (s_.1.add (t207).toNat))) (lb 4399) rfl rfl (any_of HT_.out (by kernel_rfl)) (fun _ _ _ h => h) zY rfl ?_
       exact norm2_ (hJ_0_2 (s_.1, s_.2.1, s_.2.2) _ ⟨hR1_, hA.pick hk, trivial, trivial⟩)
      ·refine st5_ (by rfl) rfl zG hR t220 y217 Ny217.out (of_eq_true pi4_) (of_eq_true qi4_) (fun ad_ hN_ => ?_)
       refine hK.out _ _ trivial (fun hHeld => ?_)
       exact norm2_ (hJ_0_11 (s_.1, ad_, s_.2.2) _ ⟨hR.alloc _, hA.alloc _, hN_, trivial⟩)
      ·refine stB_ (by rfl) rfl zG hR (fun hN_ => ?_)
       refine hK.out _ _ trivial (fun hHeld => ?_)
       exact norm2_ (hJ_0_17 (s_.1, s_.2.1, W_.heap.size) _ ⟨hR.alloc _, hA.alloc _, trivial, hN_⟩)
     have hR : RgS w0 w w12 g gb203 s0_0 s0_1 s0_2 := ⟨HI0.out, HB.out, HK.out, BK203.out, NB203_0.out⟩
     obtain ⟨s_, hs_⟩ : ∃ s_ : Addr × Addr × Nat, s_ = ((⟨0, 0, none⟩ : Addr), (⟨0, 0, none⟩ : Addr), 0) := ⟨_, rfl⟩
     generalize w12 = W_ at hR ⊢
     clear HI0 HB HK BK203 hs_
     refine four_ (i := 0) (j := 2) (k := 11) (m := 17) (Ni := some 7) (Nj := some 9) (Nk := some 18) (Nm := some 3) (lb 4387) (lb 4390) (lb 6434) (lb 135458) rfl rfl rfl rfl rfl rfl rfl rfl (four_of HT_.out (by kernel_rfl)) (by decide) (by decide) (by decide) (by decide) (fun K hK => ?_) (fun K hK => ?_) (fun K hK => ?_) (fun K hK => ?_)
     ·refine st3_ (by rfl) rfl zG hR t207 y204 Ny204.out (of_eq_true pi1_) (of_eq_true qi1_) (fun ad_ hN_ => ?_)
      refine hK.out _ _ trivial (fun hHeld => ?_)
      exact norm2_ (hJ_0 (ad_, s_.2.1, s_.2.2) _ ⟨hR.alloc _, hN_, trivial, trivial⟩)
     ·refine stP_ (by rfl) rfl rfl zA hR A2.out (fun _ hR1_ hk => ?_)
      refine hK.out _ _ trivial (fun hHeld => ?_)
      exact norm2_ (hJ_2 (s_.1, s_.2.1, s_.2.2) _ ⟨hR1_, trivial, trivial, trivial⟩)
     ·refine st5_ (by rfl) rfl zG hR t220 y217 Ny217.out (of_eq_true pi4_) (of_eq_true qi4_) (fun ad_ hN_ => ?_)
      refine hK.out _ _ trivial (fun hHeld => ?_)
      exact norm2_ (hJ_11 (s_.1, ad_, s_.2.2) _ ⟨hR.alloc _, trivial, hN_, trivial⟩)
     ·refine stB_ (by rfl) rfl zG hR (fun hN_ => ?_)
      refine hK.out _ _ trivial (fun hHeld => ?_)
      exact norm2_ (hJ_17 (s_.1, s_.2.1, W_.heap.size) _ ⟨hR.alloc _, trivial, trivial, hN_⟩)
    ·rw [if_neg c9] at H
     exact absurd H (by simp)
   ·rw [if_neg c8] at H
    exact absurd H (by simp)
  ·rw [if_neg c4] at H
   exact absurd H (by simp)
 ·rw [if_neg c3] at H
  exact absurd H (by simp)

end Go.Proofs.Ytbhfimbikooccaa.PFnPlaces
