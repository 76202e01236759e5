/- At every list of segments WriteSegs answers as the specification, for all inputs that the law's guard lets in. -/
import Derived.Test.YticlmpkbcmanfaaPFnExactWriteSegsx6
import Derived.Test.YticlmpkbcmanfaaWSized
-- The printed row names this word without its seat: the same fact under that name.
namespace Go.Proofs.PrintWords
theorem sized_ints {H : Type} {enc : TypeId × Value → H} {P : Program} {W : World} {base : Nat} {spare : Nat → Bool} {held : Bool} {t e : TypeId} {k : IntKind} {a : Option Addr} {len cap : Nat} {d : DataW H} {ps : List MemPlace} {ts : List TypeId} {ds : List (DataW H)} {j : Nat} (hsz : (DataW.weightsEach P ts ds).all (· ≤ reachBytes) = true) (ht : ts[j]? = some t) (hd : ds[j]? = some d) (hu : P.underlying t = some (.slice e)) (he : P.underlying e = some (.int k)) (hc : P.cellsOf e = 1) {B : Nat} (hB : P.bytesOf e = B) (h : DataW.Trod enc P W base spare held t (.slice a len cap) d ps) : len * B ≤ 140737488351232 := Go.Proofs.YticlmpkbcmanfaaW.PrintWords.sized_ints hsz ht hd hu he hc hB h
end Go.Proofs.PrintWords
namespace Go.Proofs.Yticlmpkbcmanfaa.Pure
open Go.RowKit Go.Proofs.Yticlmpkbcmanfaa.PFnExactWriteSegs Go.Proofs.YticlmpkbcmanfaaW.PrintWords Go.Proofs.YticlmpkbcmanfaaW.PrintLast Go.Proofs.YticlmpkbcmanfaaW.PrintMore
set_option linter.unusedVariables false
set_option linter.unusedSimpArgs false
set_option maxRecDepth 4000

theorem w64 {x : Int} (h1 : -9223372036854775808 ≤ x) (h2 : x ≤ 9223372036854775807) : wrap64 x = x := by unfold wrap64; omega
theorem wsucc {i : Nat} (h : i ≤ 4611686018427387904) : wrap64 ((i : Int) + 1) = ((i + 1 : Nat) : Int) := by unfold wrap64; omega
theorem rd_nat (l : List Int) (i : Nat) (h : i < l.length) : rd l (i : Int) = l[i] := by simp [rd, List.getD_eq_getElem?_getD, h]
theorem drop_at {α : Type} (l : List α) (i : Nat) (h : i < l.length) : l.drop i = l[i] :: l.drop (i + 1) := List.drop_eq_getElem_cons h
theorem wf64 {x : Int} (h : (Lit.int .i64 x).wf = true) : -9223372036854775808 ≤ x ∧ x ≤ 9223372036854775807 := by
  simp [Lit.wf, IntKind.min, IntKind.max, IntKind.bits, IntKind.signed] at h; omega
theorem wfu8 {x : Int} (h : (Lit.int .u8 x).wf = true) : 0 ≤ x ∧ x ≤ 255 := by
  simp [Lit.wf, IntKind.min, IntKind.max, IntKind.bits, IntKind.signed] at h; omega

theorem between_eq (a lo hi : Int) : spec_l01Between.f a lo hi = some (decide (lo ≤ a ∧ a ≤ hi)) := by
  unfold spec_l01Between.f
  by_cases h : a ≥ lo
  · rw [if_pos h]; congr 1; simp; omega
  · rw [if_neg h]; congr 1; simp; omega

theorem within_eq (a lo hi : Int) : impl_within.f a lo hi = some (decide (lo ≤ a ∧ a ≤ hi)) := by
  unfold impl_within.f
  by_cases h : a ≥ lo
  · rw [if_pos h]; congr 1; simp; omega
  · rw [if_neg h]; congr 1; simp; omega

theorem toByteS_loop (l : List Int) (hl : l.length ≤ 4611686018427387904) : ∀ (d k i : Nat) (x : List Int), i + d = l.length → d < k → x.length = l.length → (∀ j, j < i → x[j]? = l[j]?) → laws_toByteS.l0 k l x (i : Int) = some l := by
  intro d
  induction d with
  | zero =>
    intro k i x hi hk hx he
    obtain ⟨k, rfl⟩ : ∃ m, k = m + 1 := ⟨k - 1, by omega⟩
    rw [laws_toByteS.l0, if_neg (by omega)]
    congr 1
    apply List.ext_getElem? 
    intro j
    by_cases hj : j < i
    · exact he j hj
    · rw [List.getElem?_eq_none (by omega), List.getElem?_eq_none (by omega)]
  | succ d ih =>
    intro k i x hi hk hx he
    obtain ⟨k, rfl⟩ : ∃ m, k = m + 1 := ⟨k - 1, by omega⟩
    rw [laws_toByteS.l0, if_pos (by omega), if_pos (by omega), if_pos (by omega), wsucc (by omega)]
    refine ih k (i + 1) _ (by omega) (by omega) (by simpa using hx) ?_
    intro j hj
    rw [rd_nat l i (by omega), Int.toNat_natCast, List.getElem?_set]
    by_cases e : i = j
    · subst e; simp [show i < x.length by omega, List.getElem?_eq_getElem (show i < l.length by omega)]
    · rw [if_neg e]; exact he j (by omega)
theorem toByteS_eq (l : List Int) (hl : l.length ≤ 281474976710656) (k : Nat) (hk : l.length < k) : laws_toByteS.f k l = some l := by
  unfold laws_toByteS.f
  rw [if_pos (by omega), if_pos (by omega)]
  exact toByteS_loop l (by omega) l.length k 0 _ (by omega) hk (by simp) (by intro j hj; omega)

theorem eqByteS_loop (l : List Int) (hl : l.length ≤ 4611686018427387904) : ∀ (d k i : Nat), i + d = l.length → d < k → laws_eqByteS.l0 k l l (i : Int) = some true := by
  intro d
  induction d with
  | zero =>
    intro k i hi hk
    obtain ⟨k, rfl⟩ : ∃ m, k = m + 1 := ⟨k - 1, by omega⟩
    rw [laws_eqByteS.l0, if_neg (by omega)]
  | succ d ih =>
    intro k i hi hk
    obtain ⟨k, rfl⟩ : ∃ m, k = m + 1 := ⟨k - 1, by omega⟩
    rw [laws_eqByteS.l0, if_pos (by omega), if_pos (by omega), if_pos (by omega), if_pos rfl, wsucc (by omega)]
    exact ih k (i + 1) (by omega) (by omega)
theorem eqByteS_refl (l : List Int) (hl : l.length ≤ 4611686018427387904) (k : Nat) (hk : l.length < k) : laws_eqByteS.f k l l = some true := by
  unfold laws_eqByteS.f
  rw [if_pos rfl]
  exact eqByteS_loop l hl l.length k 0 (by omega) hk

theorem rdL_nat (l : List S93) (i : Nat) (h : i < l.length) : rd_T93 l (i : Int) = l[i] := by simp [rd_T93, List.getD_eq_getElem?_getD, h]
theorem rdG_nat (l : List S95) (i : Nat) (h : i < l.length) : rd_T95 l (i : Int) = l[i] := by simp [rd_T95, List.getD_eq_getElem?_getD, h]
theorem szSeg_eq (a0 : Int) (b : List Int) (a : Int) (ha : 0 ≤ a ∧ a ≤ 1048576) (hb : b.length ≤ 9223372036854775807) : laws_szSeg.f a0 b a = some (if a - (b.length : Int) < 0 then -1 else a - (b.length : Int)) := by
  unfold laws_szSeg.f laws_szByteS.f
  rw [w64 (by omega) (by omega)]
  by_cases h : a - (b.length : Int) < 0
  · rw [if_pos h, if_pos h]; rfl
  · rw [if_neg h, if_neg h, Option.bind_some, if_neg h]
theorem szSegS_loop (l : List S93) (hl : l.length ≤ 1048576) (hQ : ∀ x ∈ l, x.f1.length ≤ 9223372036854775807) : ∀ (d k i : Nat) (a : Int), i + d = l.length → d < k → 0 ≤ a → a ≤ 1048576 → ∃ v, laws_szSegS.l0 k l a (i : Int) = some v ∧ (0 ≤ v → ∀ x ∈ l.drop i, x.f1.length ≤ 1048576) := by
  intro d
  induction d with
  | zero =>
    intro k i a hi hk h0 h1
    obtain ⟨k, rfl⟩ : ∃ m, k = m + 1 := ⟨k - 1, by omega⟩
    refine ⟨a, by rw [laws_szSegS.l0, if_neg (by omega)], fun _ => ?_⟩
    rw [List.drop_eq_nil_of_le (by omega)]
    intro x hx; cases hx
  | succ d ih =>
    intro k i a hi hk h0 h1
    obtain ⟨k, rfl⟩ : ∃ m, k = m + 1 := ⟨k - 1, by omega⟩
    have hil : i < l.length := by omega
    rw [laws_szSegS.l0, if_pos (by omega), if_pos (by omega), rdL_nat l i hil, szSeg_eq _ _ a ⟨h0, h1⟩ (hQ _ (List.getElem_mem hil)), Option.bind_some]
    by_cases h : a - (l[i].f1.length : Int) < 0
    · rw [if_pos h]
      exact ⟨-1, by rfl, fun h' => by omega⟩
    · rw [if_neg h, if_neg h, wsucc (by omega)]
      obtain ⟨v, e, hv⟩ := ih k (i + 1) _ (by omega) (by omega) (show 0 ≤ a - (l[i].f1.length : Int) by omega) (by omega)
      refine ⟨v, e, fun h' x hx => ?_⟩
      rw [drop_at l i hil] at hx
      rcases List.mem_cons.1 hx with hx | hx
      · rw [hx]; omega
      · exact hv h' x hx
def toG (x : S93) : S95 := ⟨x.f0, x.f1⟩
theorem toSegS_loop (l : List S93) (hl : l.length ≤ 1048576) (hQ : ∀ x ∈ l, x.f1.length ≤ 1048576) : ∀ (d k i : Nat) (x : List S95), i + d = l.length → d + 1048580 < k → x.length = l.length → (∀ j, j < i → x[j]? = (l[j]?).map toG) → laws_toSegS.l0 k l x (i : Int) = some (l.map toG) := by
  intro d
  induction d with
  | zero =>
    intro k i x hi hk hx he
    obtain ⟨k, rfl⟩ : ∃ m, k = m + 1 := ⟨k - 1, by omega⟩
    rw [laws_toSegS.l0, if_neg (by omega)]
    congr 1
    apply List.ext_getElem?
    intro j
    by_cases hj : j < i
    · rw [he j hj, List.getElem?_map]
    · rw [List.getElem?_eq_none (by omega), List.getElem?_eq_none (by simp; omega)]
  | succ d ih =>
    intro k i x hi hk hx he
    obtain ⟨k, rfl⟩ : ∃ m, k = m + 1 := ⟨k - 1, by omega⟩
    have hil : i < l.length := by omega
    have hq := hQ _ (List.getElem_mem hil)
    rw [laws_toSegS.l0, if_pos (by omega), if_pos (by omega), rdL_nat l i hil, laws_toSeg.f, toByteS_eq _ (by omega) k (by omega), Option.bind_some, Option.bind_some, if_pos (by omega), wsucc (by omega)]
    refine ih k (i + 1) _ (by omega) (by omega) (by simpa using hx) ?_
    intro j hj
    rw [Int.toNat_natCast, List.getElem?_set]
    by_cases e : i = j
    · subst e; simp [show i < x.length by omega, List.getElem?_eq_getElem hil, toG]
    · rw [if_neg e]; exact he j (by omega)
theorem toSegS_eq (l : List S93) (hl : l.length ≤ 1048576) (hQ : ∀ x ∈ l, x.f1.length ≤ 1048576) (k : Nat) (hk : l.length + 1048580 < k) : laws_toSegS.f k l = some (l.map toG) := by
  unfold laws_toSegS.f
  rw [if_pos (by omega), if_pos (by omega)]
  exact toSegS_loop l hl hQ l.length k 0 _ (by omega) hk (by simp) (by intro j hj; omega)
theorem eqSegS_loop (l : List S95) (hl : l.length ≤ 1048576) (hQ : ∀ x ∈ l, x.f1.length ≤ 1048576) : ∀ (d k i : Nat), i + d = l.length → d + 1048580 < k → laws_eqSegS.l0 k l l (i : Int) = some true := by
  intro d
  induction d with
  | zero =>
    intro k i hi hk
    obtain ⟨k, rfl⟩ : ∃ m, k = m + 1 := ⟨k - 1, by omega⟩
    rw [laws_eqSegS.l0, if_neg (by omega)]
  | succ d ih =>
    intro k i hi hk
    obtain ⟨k, rfl⟩ : ∃ m, k = m + 1 := ⟨k - 1, by omega⟩
    have hil : i < l.length := by omega
    have hq := hQ _ (List.getElem_mem hil)
    rw [laws_eqSegS.l0, if_pos (by omega), if_pos (by omega), if_pos (by omega), rdG_nat l i hil, laws_eqSeg.f, if_pos rfl, eqByteS_refl _ (by omega) k (by omega), Option.bind_some, if_pos rfl, Option.bind_some, if_pos rfl, wsucc (by omega)]
    exact ih k (i + 1) (by omega) (by omega)
theorem eqSegS_refl (l : List S95) (hl : l.length ≤ 1048576) (hQ : ∀ x ∈ l, x.f1.length ≤ 1048576) (k : Nat) (hk : l.length + 1048580 < k) : laws_eqSegS.f k l l = some true := by
  unfold laws_eqSegS.f
  rw [if_pos rfl]
  exact eqSegS_loop l hl hQ l.length k 0 (by omega) hk
def kindV (f : Int) : Int := if f = 0 then 3 else if 1 ≤ f ∧ f ≤ 239 then 1 else if 240 ≤ f ∧ f ≤ 247 then 2 else 0
theorem kind_eq (f : Int) : spec_l02Kind.f f = some (kindV f) := by
  unfold spec_l02Kind.f kindV
  by_cases h0 : f = 0
  · rw [if_pos h0, if_pos h0]
  · rw [if_neg h0, if_neg h0, between_eq, Option.bind_some]
    by_cases h1 : 1 ≤ f ∧ f ≤ 239
    · rw [if_pos (by simpa using h1), if_pos h1]
    · rw [if_neg (by simpa using h1), if_neg h1, between_eq, Option.bind_some]
      by_cases h2 : 240 ≤ f ∧ f ≤ 247
      · rw [if_pos (by simpa using h2), if_pos h2]
      · rw [if_neg (by simpa using h2), if_neg h2]
def segOne (p : Int) (x : S95) : Bool := decide ((0 ≤ x.f0 ∧ x.f0 ≤ 247) ∧ (x.f1.length : Int) ≤ 20000 ∧ (x.f0 = 0 → (x.f1.length : Int) ≠ 0 ∧ (p = 1 ∨ p = 2)) ∧ (240 ≤ x.f0 → (x.f1.length : Int) = 0 ∧ p = 3))
def segsB : Int → List S95 → Bool
  | _, [] => true
  | p, x :: xs => segOne p x && segsB (kindV x.f0) xs
theorem fits_eq (p f : Int) : spec_l02Fits.f p (kindV f) = some (decide ((0 ≤ f ∧ f ≤ 247) ∧ (f = 0 → p = 1 ∨ p = 2) ∧ (240 ≤ f → p = 3))) := by
  unfold spec_l02Fits.f kindV
  by_cases h0 : f = 0
  · subst h0
    simp
    by_cases h : p = 1
    · simp [h]
    · by_cases h2 : p = 2 <;> simp [h, h2]
  · by_cases h1 : 1 ≤ f ∧ f ≤ 239
    · simp only [if_neg h0, if_pos h1, if_true]
      congr 1; symm; rw [decide_eq_true_eq]; omega
    · by_cases h2 : 240 ≤ f ∧ f ≤ 247
      · simp only [if_neg h0, if_neg h1, if_pos h2]
        simp only [show ¬ (2 : Int) = 1 by decide, if_false, if_true]
        congr 1
        by_cases hp : p = 3
        · rw [hp]; symm; simp; omega
        · rw [beq_false_of_ne hp]; symm; rw [decide_eq_false_iff_not]; omega
      · simp only [if_neg h0, if_neg h1, if_neg h2]
        simp only [show ¬ (0 : Int) = 1 by decide, show ¬ (0 : Int) = 2 by decide, show ¬ (0 : Int) = 3 by decide, if_false]
        congr 1; symm; rw [decide_eq_false_iff_not]; omega
theorem specSegs_loop (l : List S95) (hl : l.length ≤ 300) : ∀ (d k i : Nat) (p : Int), i + d = l.length → d < k → spec_SegsOk.l0 k l p (i : Int) = some (segsB p (l.drop i)) := by
  intro d
  induction d with
  | zero =>
    intro k i p hi hk
    obtain ⟨k, rfl⟩ : ∃ m, k = m + 1 := ⟨k - 1, by omega⟩
    rw [spec_SegsOk.l0, if_neg (by omega), List.drop_eq_nil_of_le (by omega), segsB]
  | succ d ih =>
    intro k i p hi hk
    obtain ⟨k, rfl⟩ : ∃ m, k = m + 1 := ⟨k - 1, by omega⟩
    have hil : i < l.length := by omega
    rw [spec_SegsOk.l0, if_pos (by omega), if_pos (by omega), rdG_nat l i hil, kind_eq, Option.bind_some, fits_eq, Option.bind_some, wsucc (by omega), ih k (i + 1) _ (by omega) (by omega), drop_at l i hil, segsB]
    have k3 : kindV l[i].f0 = 3 ↔ l[i].f0 = 0 := by unfold kindV; (repeat' split) <;> omega
    have k2 : kindV l[i].f0 = 2 ↔ 240 ≤ l[i].f0 ∧ l[i].f0 ≤ 247 := by unfold kindV; (repeat' split) <;> omega
    by_cases hf : (0 ≤ l[i].f0 ∧ l[i].f0 ≤ 247) ∧ (l[i].f0 = 0 → p = 1 ∨ p = 2) ∧ (240 ≤ l[i].f0 → p = 3)
    · rw [if_pos (decide_eq_true hf)]
      have fail : ¬ ((0 ≤ l[i].f0 ∧ l[i].f0 ≤ 247) ∧ (l[i].f1.length : Int) ≤ 20000 ∧ (l[i].f0 = 0 → (l[i].f1.length : Int) ≠ 0 ∧ (p = 1 ∨ p = 2)) ∧ (240 ≤ l[i].f0 → (l[i].f1.length : Int) = 0 ∧ p = 3)) → segOne p l[i] = false := fun h => decide_eq_false h
      have good : ((0 ≤ l[i].f0 ∧ l[i].f0 ≤ 247) ∧ (l[i].f1.length : Int) ≤ 20000 ∧ (l[i].f0 = 0 → (l[i].f1.length : Int) ≠ 0 ∧ (p = 1 ∨ p = 2)) ∧ (240 ≤ l[i].f0 → (l[i].f1.length : Int) = 0 ∧ p = 3)) → segOne p l[i] = true := fun h => decide_eq_true h
      by_cases h1 : (l[i].f1.length : Int) > 20000
      · rw [if_pos h1, fail (by omega), Bool.false_and]
      · rw [if_neg h1]
        by_cases h2 : kindV l[i].f0 = 2
        · rw [if_pos h2, if_neg (show ¬ kindV l[i].f0 = 3 by omega)]
          by_cases h4 : (l[i].f1.length : Int) > 0
          · rw [if_pos h4, fail (by omega), Bool.false_and]
          · rw [if_neg h4, good (by omega), Bool.true_and]
        · rw [if_neg h2]
          by_cases h3 : kindV l[i].f0 = 3
          · rw [if_pos h3]
            by_cases h4 : (l[i].f1.length : Int) = 0
            · rw [if_pos h4, fail (by omega), Bool.false_and]
            · rw [if_neg h4, good (by omega), Bool.true_and]
          · rw [if_neg h3, good (by omega), Bool.true_and]
    · rw [if_neg (by rw [decide_eq_false hf]; decide), segOne, decide_eq_false (by omega), Bool.false_and]
theorem specSegs_eq (l : List S95) (k : Nat) (hk : 400 < k) : spec_SegsOk.f k l = some (decide ((l.length : Int) ≤ 300) && segsB 0 l) := by
  unfold spec_SegsOk.f
  by_cases h : (l.length : Int) > 300
  · rw [if_pos h, decide_eq_false (by omega)]; rfl
  · rw [if_neg h, decide_eq_true (by omega), Bool.true_and]
    exact specSegs_loop l (by omega) l.length k 0 0 (by omega) (by omega)
def prevK (l : List S95) (i : Nat) : Int := if h : 0 < i ∧ i ≤ l.length then kindV (l[i - 1]'(by omega)).f0 else 0
theorem last_take (l : List S95) (i : Nat) (h0 : 0 < i) (h1 : i ≤ l.length) (h2 : l.length ≤ 300) : rd_T95 (l.take i) (wrap64 (((l.take i).length : Int) - 1)) = l[i - 1]'(by omega) := by
  have e : (l.take i).length = i := by rw [List.length_take]; omega
  rw [e, w64 (by omega) (by omega), show (i : Int) - 1 = ((i - 1 : Nat) : Int) by omega, rdG_nat _ _ (by omega)]
  simp
theorem mayRun_eq (l : List S95) (i : Nat) (h1 : i ≤ l.length) (h2 : l.length ≤ 300) (hv : ∀ h : 0 < i, 0 ≤ (l[i - 1]'(by omega)).f0 ∧ (l[i - 1]'(by omega)).f0 ≤ 247) : impl_mayRun.f (l.take i) = some (decide (prevK l i = 1 ∨ prevK l i = 2)) := by
  have e : (l.take i).length = i := by rw [List.length_take]; omega
  unfold impl_mayRun.f
  by_cases h0 : 0 < i
  · have hv := hv h0
    rw [if_pos (by omega), last_take l i h0 h1 h2, e, w64 (by omega) (by omega), if_pos (by omega), if_pos (by omega)]
    have hp : prevK l i = kindV (l[i - 1]'(by omega)).f0 := dif_pos ⟨h0, h1⟩
    rw [hp]
    congr 1
    by_cases hz : (l[i - 1]'(by omega)).f0 = 0
    · rw [hz]; decide
    · rw [bne_iff_ne.2 hz]
      symm; rw [decide_eq_true_eq]; unfold kindV; (repeat' split) <;> omega
  · have hp : prevK l i = 0 := dif_neg (fun h => h0 h.1)
    rw [if_neg (by omega), hp]; rfl
theorem mayRestart_eq (l : List S95) (i : Nat) (h1 : i ≤ l.length) (h2 : l.length ≤ 300) : impl_mayRestart.f (l.take i) = some (decide (prevK l i = 3)) := by
  have e : (l.take i).length = i := by rw [List.length_take]; omega
  unfold impl_mayRestart.f
  by_cases h0 : 0 < i
  · rw [if_pos (by omega), last_take l i h0 h1 h2, e, w64 (by omega) (by omega), if_pos (by omega), if_pos (by omega)]
    have hp : prevK l i = kindV (l[i - 1]'(by omega)).f0 := dif_pos ⟨h0, h1⟩
    rw [hp]
    congr 1
    by_cases hz : (l[i - 1]'(by omega)).f0 = 0
    · rw [hz]; decide
    · rw [beq_false_of_ne hz]
      symm; rw [decide_eq_false_iff_not]; unfold kindV; (repeat' split) <;> omega
  · have hp : prevK l i = 0 := dif_neg (fun h => h0 h.1)
    rw [if_neg (by omega), hp]; rfl
theorem implSegs_loop (l : List S95) (hl : l.length ≤ 300) : ∀ (d k i : Nat) (hi : i + d = l.length), 3 * d < k → (∀ h : 0 < i, 0 ≤ (l[i - 1]'(by omega)).f0 ∧ (l[i - 1]'(by omega)).f0 ≤ 247) → impl_SegsOk.l0 k l l (l.length : Int) (i : Int) = some (segsB (prevK l i) (l.drop i)) := by
  intro d
  induction d with
  | zero =>
    intro k i hi hk hv
    obtain ⟨k, rfl⟩ : ∃ m, k = m + 1 := ⟨k - 1, by omega⟩
    rw [impl_SegsOk.l0, if_neg (by omega), List.drop_eq_nil_of_le (by omega), segsB]
  | succ d ih =>
    intro k i hi hk hv
    obtain ⟨k, rfl⟩ : ∃ m, k = m + 3 := ⟨k - 3, by omega⟩
    have hil : i < l.length := by omega
    have hm := mayRun_eq l i (by omega) hl hv
    have hs := mayRestart_eq l i (by omega) hl
    have hp : prevK l (i + 1) = kindV l[i].f0 := dif_pos (show 0 < i + 1 ∧ i + 1 ≤ l.length by omega)
    rw [impl_SegsOk.l0, if_pos (by omega), if_pos (by omega), if_pos (by omega), rdG_nat l i hil, within_eq, Option.bind_some, drop_at l i hil, segsB, ← hp]
    obtain ⟨p, hpe⟩ : ∃ p, p = prevK l i := ⟨_, rfl⟩
    rw [← hpe] at hm hs ⊢
    have fail : ¬ ((0 ≤ l[i].f0 ∧ l[i].f0 ≤ 247) ∧ (l[i].f1.length : Int) ≤ 20000 ∧ (l[i].f0 = 0 → (l[i].f1.length : Int) ≠ 0 ∧ (p = 1 ∨ p = 2)) ∧ (240 ≤ l[i].f0 → (l[i].f1.length : Int) = 0 ∧ p = 3)) → segOne p l[i] = false := fun h => decide_eq_false h
    have good : ((0 ≤ l[i].f0 ∧ l[i].f0 ≤ 247) ∧ (l[i].f1.length : Int) ≤ 20000 ∧ (l[i].f0 = 0 → (l[i].f1.length : Int) ≠ 0 ∧ (p = 1 ∨ p = 2)) ∧ (240 ≤ l[i].f0 → (l[i].f1.length : Int) = 0 ∧ p = 3)) → segOne p l[i] = true := fun h => decide_eq_true h
    by_cases hr : 0 ≤ l[i].f0 ∧ l[i].f0 ≤ 247
    · rw [if_pos (by simpa using hr)]
      have next : impl_SegsOk.l0 k l l (l.length : Int) (wrap64 ((i : Int) + 1)) = some (segsB (prevK l (i + 1)) (l.drop (i + 1))) := by
        rw [wsucc (by omega)]
        refine ih k (i + 1) (by omega) (by omega) fun _ => ?_
        simpa using hr
      have next1 : impl_SegsOk.l0 (k + 1) l l (l.length : Int) (wrap64 ((i : Int) + 1)) = some (segsB (prevK l (i + 1)) (l.drop (i + 1))) := by
        rw [wsucc (by omega)]
        refine ih (k + 1) (i + 1) (by omega) (by omega) fun _ => ?_
        simpa using hr
      rw [impl_SegsOk.j1]
      by_cases h1 : (l[i].f1.length : Int) > 20000
      · rw [if_pos (by simpa using h1), fail (by omega), Bool.false_and]
      · rw [if_neg (by simpa using h1)]
        by_cases h0 : l[i].f0 = 0
        · rw [if_pos h0]
          by_cases h4 : (l[i].f1.length : Int) = 0
          · rw [if_pos h4, impl_SegsOk.j2, if_pos rfl, fail (by omega), Bool.false_and]
          · rw [if_neg h4, if_pos (by omega), if_pos (by omega), Int.toNat_natCast, hm, Option.bind_some, impl_SegsOk.j2]
            by_cases h5 : p = 1 ∨ p = 2
            · rw [decide_eq_true h5, if_neg (by decide), impl_isRestart.f, within_eq, Option.bind_some, Option.bind_some, if_neg (by simp; omega), next, good (by omega), Bool.true_and]
            · rw [decide_eq_false h5, if_pos (by decide), fail (by omega), Bool.false_and]
        · rw [if_neg h0, impl_SegsOk.j2, if_neg (by decide), impl_isRestart.f, within_eq, Option.bind_some, Option.bind_some]
          by_cases h6 : 240 ≤ l[i].f0 ∧ l[i].f0 ≤ 247
          · rw [if_pos (by simpa using h6)]
            by_cases h4 : (l[i].f1.length : Int) > 0
            · rw [if_pos h4, fail (by omega), Bool.false_and]
            · rw [if_neg h4, if_pos (by omega), if_pos (by omega), Int.toNat_natCast, hs, Option.bind_some]
              by_cases h5 : p = 3
              · rw [if_pos (by simpa using h5), next, good (by omega), Bool.true_and]
              · rw [if_neg (by simpa using h5), fail (by omega), Bool.false_and]
          · rw [if_neg (by simpa using h6), next, good (by omega), Bool.true_and]
    · rw [if_neg (by simpa using hr), impl_SegsOk.j1, if_pos rfl, fail (by omega), Bool.false_and]
theorem implSegs_eq (l : List S95) (k : Nat) (hk : 1000 < k) : impl_SegsOk.f k l = some (decide ((l.length : Int) ≤ 300) && segsB 0 l) := by
  unfold impl_SegsOk.f
  by_cases h : (l.length : Int) > 300
  · rw [if_pos h, decide_eq_false (by omega)]; rfl
  · rw [if_neg h, decide_eq_true (by omega), Bool.true_and]
    exact implSegs_loop l (by omega) l.length k 0 (by omega) (by omega) (fun h => by omega)

def stuffL : List Int → List Int
  | [] => []
  | x :: xs => if x = 255 then x :: 0 :: stuffL xs else x :: stuffL xs
theorem stuffL_len : ∀ l : List Int, (stuffL l).length ≤ 2 * l.length
  | [] => by simp [stuffL]
  | x :: xs => by
    have := stuffL_len xs
    unfold stuffL; split <;> simp <;> omega
theorem specStuff_loop (l : List Int) (hl : l.length ≤ 1048576) : ∀ (d k i : Nat) (a : List Int), i + d = l.length → d < k → a.length ≤ 2 * i → spec_Stuff.l0 k l a (i : Int) = some (a ++ stuffL (l.drop i)) := by
  intro d
  induction d with
  | zero =>
    intro k i a h1 hk ha
    obtain ⟨k, rfl⟩ : ∃ m, k = m + 1 := ⟨k - 1, by omega⟩
    rw [spec_Stuff.l0, if_neg (by omega), List.drop_eq_nil_of_le (by omega)]; simp [stuffL]
  | succ d ih =>
    intro k i a h1 hk ha
    obtain ⟨k, rfl⟩ : ∃ m, k = m + 1 := ⟨k - 1, by omega⟩
    rw [spec_Stuff.l0, if_pos (by omega), if_pos (by omega), if_pos (by omega), drop_at l i (by omega), stuffL, Option.bind_some, rd_nat l i (by omega), wsucc (by omega)]
    by_cases h : l[i] = 255
    · rw [if_pos h, if_pos (by simp; omega), if_pos h, ih k (i + 1) _ (by omega) (by omega) (by simp; omega)]; simp
    · rw [if_neg h, if_neg h, ih k (i + 1) _ (by omega) (by omega) (by simp; omega)]; simp
theorem specStuff_eq (l : List Int) (hl : l.length ≤ 1048576) (k : Nat) (hk : l.length < k) : spec_Stuff.f k l = some (if (l.length : Int) > 60000 then [] else stuffL l) := by
  unfold spec_Stuff.f
  rw [Option.bind_some]
  split
  · rfl
  · exact specStuff_loop l hl l.length k 0 [] (by omega) hk (by simp)
theorem stuffed_loop (l : List Int) (hl : l.length ≤ 1048576) : ∀ (d k i : Nat) (a : List Int), i + d = l.length → d < k → a.length ≤ 2 * i → impl_stuffed.l0 k a l (l.length : Int) (i : Int) = some (a ++ stuffL (l.drop i)) := by
  intro d
  induction d with
  | zero =>
    intro k i a h1 hk ha
    obtain ⟨k, rfl⟩ : ∃ m, k = m + 1 := ⟨k - 1, by omega⟩
    rw [impl_stuffed.l0, if_neg (by omega), List.drop_eq_nil_of_le (by omega)]; simp [stuffL]
  | succ d ih =>
    intro k i a h1 hk ha
    obtain ⟨k, rfl⟩ : ∃ m, k = m + 1 := ⟨k - 1, by omega⟩
    rw [impl_stuffed.l0, if_pos (by omega), if_pos (by omega), if_pos (by omega), if_pos (by omega), drop_at l i (by omega), stuffL, Option.bind_some, rd_nat l i (by omega), wsucc (by omega)]
    by_cases h : l[i] = 255
    · rw [if_pos h, if_pos (by simp; omega), if_pos h, ih k (i + 1) _ (by omega) (by omega) (by simp; omega)]; simp
    · rw [if_neg h, if_neg h, ih k (i + 1) _ (by omega) (by omega) (by simp; omega)]; simp
theorem stuffed_eq (l : List Int) (hl : l.length ≤ 1048576) (k : Nat) (hk : l.length < k) : impl_stuffed.f k l = some (stuffL l) := by
  unfold impl_stuffed.f
  exact stuffed_loop l hl l.length k 0 [] (by omega) hk (by simp)
def inR (lo hi : Int) (l : List Int) : Bool := l.all fun x => decide (lo ≤ x ∧ x ≤ hi)
theorem inR_nil (lo hi : Int) : inR lo hi [] = true := rfl
theorem inR_cons (lo hi x : Int) (l : List Int) : inR lo hi (x :: l) = (decide (lo ≤ x ∧ x ≤ hi) && inR lo hi l) := rfl
theorem inR_at {lo hi : Int} {l : List Int} (h : inR lo hi l = true) (i : Nat) (hi' : i < l.length) : lo ≤ l[i] ∧ l[i] ≤ hi := by
  unfold inR at h; rw [List.all_eq_true] at h; simpa using h l[i] (List.getElem_mem hi')

theorem rd_getD (l : List Int) (i : Nat) : rd l (i : Int) = l.getD i 0 := by simp [rd]
theorem push_loop {α β : Type} (F : Nat → List α → Int → Option β) (g : Nat → α) (n : Nat) (res : β)
    (hstep : ∀ (k i : Nat) (a : List α), i < n → a.length = i → F (k + 1) a (i : Int) = F k (a ++ [g i]) ((i + 1 : Nat) : Int))
    (hend : ∀ k : Nat, F (k + 1) ((List.range n).map g) (n : Int) = some res) : ∀ k : Nat, n < k → F k [] 0 = some res := by
  have main : ∀ (d k i : Nat), i + d = n → d < k → F k ((List.range i).map g) (i : Int) = some res := by
    intro d
    induction d with
    | zero =>
      intro k i h1 hk
      obtain ⟨k, rfl⟩ : ∃ m, k = m + 1 := ⟨k - 1, by omega⟩
      obtain rfl : i = n := by omega
      exact hend k
    | succ d ih =>
      intro k i h1 hk
      obtain ⟨k, rfl⟩ : ∃ m, k = m + 1 := ⟨k - 1, by omega⟩
      rw [hstep k i _ (by omega) (by simp)]
      have e : (List.range (i + 1)).map g = (List.range i).map g ++ [g i] := by rw [List.range_succ, List.map_append]; rfl
      rw [← e]
      exact ih k (i + 1) (by omega) (by omega)
  intro k hk
  exact main n k 0 (by omega) hk
theorem state_loop {σ β : Type} (F : Nat → σ → Int → Option β) (s : Nat → σ) (n : Nat) (res : β)
    (hstep : ∀ (k i : Nat), i < n → F (k + 1) (s i) (i : Int) = F k (s (i + 1)) ((i + 1 : Nat) : Int))
    (hend : ∀ k : Nat, F (k + 1) (s n) (n : Int) = some res) : ∀ k : Nat, n < k → F k (s 0) 0 = some res := by
  have main : ∀ (d k i : Nat), i + d = n → d < k → F k (s i) (i : Int) = some res := by
    intro d
    induction d with
    | zero =>
      intro k i h1 hk
      obtain ⟨k, rfl⟩ : ∃ m, k = m + 1 := ⟨k - 1, by omega⟩
      obtain rfl : i = n := by omega
      exact hend k
    | succ d ih =>
      intro k i h1 hk
      obtain ⟨k, rfl⟩ : ∃ m, k = m + 1 := ⟨k - 1, by omega⟩
      rw [hstep k i (by omega)]
      exact ih k (i + 1) (by omega) (by omega)
  intro k hk
  exact main n k 0 (by omega) hk
theorem inR_getD {lo hi : Int} {l : List Int} (h : inR lo hi l = true) (i : Nat) (h' : i < l.length) : lo ≤ l.getD i 0 ∧ l.getD i 0 ≤ hi := by
  have := inR_at h i h'
  simpa [List.getD_eq_getElem?_getD, h'] using this

def segL (x : S95) : List Int := if x.f0 = 0 then stuffL x.f1 else if 240 ≤ x.f0 ∧ x.f0 ≤ 247 then [255, x.f0 % 256] else [255, x.f0 % 256, ((x.f1.length : Int) / 256) % 256, (x.f1.length : Int) % 256] ++ x.f1
def segsL (l : List S95) : List Int := l.flatMap segL
theorem segsL_cons (x : S95) (l : List S95) : segsL (x :: l) = segL x ++ segsL l := rfl
theorem segL_len (x : S95) (h : x.f1.length ≤ 20000) : (segL x).length ≤ 40010 := by
  have := stuffL_len x.f1
  unfold segL
  (repeat' split) <;> simp <;> omega
def finL (o : List Int) : List Int := if ((o ++ [255, 254]).length : Int) > 60000 then [] else o ++ [255, 254]
theorem finL_big (o p : List Int) (h : (o.length : Int) > 60000) : finL (o ++ p) = [] := by
  unfold finL; rw [if_pos (by simp; omega)]
theorem segsB_all : ∀ (l : List S95) (p : Int), segsB p l = true → ∀ x ∈ l, (0 ≤ x.f0 ∧ x.f0 ≤ 247) ∧ x.f1.length ≤ 20000
  | [], _, _ => by simp
  | y :: ys, p, h => by
    rw [segsB, Bool.and_eq_true] at h
    intro x hx
    rcases List.mem_cons.1 hx with hx | hx
    · subst hx
      have h1 := of_decide_eq_true h.1
      exact ⟨h1.1, by omega⟩
    · exact segsB_all ys _ h.2 x hx
theorem implWrite_loop (l : List S95) (hl : l.length ≤ 300) (hok : ∀ x ∈ l, (0 ≤ x.f0 ∧ x.f0 ≤ 247) ∧ x.f1.length ≤ 20000) : ∀ (d k i : Nat) (a : List Int), i + d = l.length → d + 20010 < k → a.length ≤ 40010 * (i + 1) →
    impl_WriteSegs.l0 k a l (l.length : Int) (i : Int) = some (finL (a ++ segsL (l.drop i))) := by
  intro d
  induction d with
  | zero =>
    intro k i a hi hk ha
    obtain ⟨k, rfl⟩ : ∃ m, k = m + 1 := ⟨k - 1, by omega⟩
    rw [impl_WriteSegs.l0, if_neg (by omega), Option.bind_some, if_pos (by simp; omega), Option.bind_some, List.drop_eq_nil_of_le (by omega), show segsL [] = [] from rfl, List.append_nil]
    unfold finL
    split <;> rfl
  | succ d ih =>
    intro k i a hi hk ha
    obtain ⟨k, rfl⟩ : ∃ m, k = m + 1 := ⟨k - 1, by omega⟩
    have hil : i < l.length := by omega
    obtain ⟨h1, h2⟩ := hok _ (List.getElem_mem hil)
    have hs := segL_len l[i] h2
    have next : impl_WriteSegs.l0 k (a ++ segL l[i]) l (l.length : Int) (wrap64 ((i : Int) + 1)) = some (finL (a ++ segsL (l.drop i))) := by
      rw [wsucc (by omega), ih k (i + 1) (a ++ segL l[i]) (by omega) (by omega) (by rw [List.length_append]; omega), drop_at l i hil, segsL_cons, List.append_assoc]
    rw [impl_WriteSegs.l0, if_pos (by omega), if_pos (by omega), if_pos (by omega), rdG_nat l i hil]
    by_cases c0 : l[i].f0 = 0
    · have e : segL l[i] = stuffL l[i].f1 := by unfold segL; rw [if_pos c0]
      rw [e] at next hs
      rw [if_pos c0, stuffed_eq _ (by omega) k (by omega), Option.bind_some, if_pos (by omega)]
      exact next
    · rw [if_neg c0, impl_isRestart.f, within_eq, Option.bind_some, Option.bind_some]
      by_cases c1 : 240 ≤ l[i].f0 ∧ l[i].f0 ≤ 247
      · have e : segL l[i] = [255, l[i].f0 % 256] := by unfold segL; rw [if_neg c0, if_pos c1]
        rw [e] at next hs
        rw [if_pos (by simpa using c1), Option.bind_some, if_pos (by simp; omega)]
        exact next
      · have e : segL l[i] = [255, l[i].f0 % 256, ((l[i].f1.length : Int) / 256) % 256, (l[i].f1.length : Int) % 256] ++ l[i].f1 := by unfold segL; rw [if_neg c0, if_neg c1]
        rw [e] at next hs
        rw [if_neg (by simpa using c1), Option.bind_some, if_pos (by simp; omega), Option.bind_some, if_pos (by simp; omega), List.append_assoc]
        exact next
theorem specWrite_loop (l : List S95) (hl : l.length ≤ 300) (hok : ∀ x ∈ l, (0 ≤ x.f0 ∧ x.f0 ≤ 247) ∧ x.f1.length ≤ 20000) : ∀ (d k i : Nat) (a : List Int), i + d = l.length → d + 20010 < k → a.length ≤ 60000 →
    spec_WriteSegs.l0 k l a (i : Int) = some (finL (a ++ segsL (l.drop i))) := by
  intro d
  induction d with
  | zero =>
    intro k i a hi hk ha
    obtain ⟨k, rfl⟩ : ∃ m, k = m + 1 := ⟨k - 1, by omega⟩
    rw [spec_WriteSegs.l0, if_neg (by omega), Option.bind_some, if_pos (by simp; omega), Option.bind_some, List.drop_eq_nil_of_le (by omega), show segsL [] = [] from rfl, List.append_nil]
    unfold finL
    split <;> rfl
  | succ d ih =>
    intro k i a hi hk ha
    obtain ⟨k, rfl⟩ : ∃ m, k = m + 1 := ⟨k - 1, by omega⟩
    have hil : i < l.length := by omega
    obtain ⟨h1, h2⟩ := hok _ (List.getElem_mem hil)
    have hs := segL_len l[i] h2
    have next : (if ((a ++ segL l[i]).length : Int) > 60000 then some ([] : List Int) else spec_WriteSegs.l0 k l (a ++ segL l[i]) (wrap64 ((i : Int) + 1))) = some (finL (a ++ segsL (l.drop i))) := by
      rw [drop_at l i hil, segsL_cons, ← List.append_assoc]
      by_cases c : ((a ++ segL l[i]).length : Int) > 60000
      · rw [if_pos c, finL_big _ _ c]
      · rw [if_neg c, wsucc (by omega), ih k (i + 1) (a ++ segL l[i]) (by omega) (by omega) (by omega)]
    rw [spec_WriteSegs.l0, if_pos (by omega), if_pos (by omega), rdG_nat l i hil, kind_eq, Option.bind_some]
    by_cases c0 : l[i].f0 = 0
    · have e : segL l[i] = stuffL l[i].f1 := by unfold segL; rw [if_pos c0]
      have ek : kindV l[i].f0 = 3 := by rw [c0]; rfl
      rw [e] at next hs
      have es : spec_Stuff.f k l[i].f1 = some (stuffL l[i].f1) := by rw [specStuff_eq _ (by omega) k (by omega), if_neg (by omega)]
      rw [ek, if_neg (by decide), if_neg (by decide), es, Option.bind_some, if_pos (by omega), Option.bind_some]
      exact next
    · by_cases c1 : 240 ≤ l[i].f0 ∧ l[i].f0 ≤ 247
      · have e : segL l[i] = [255, l[i].f0 % 256] := by unfold segL; rw [if_neg c0, if_pos c1]
        have ek : kindV l[i].f0 = 2 := by unfold kindV; rw [if_neg c0, if_neg (by omega), if_pos c1]
        rw [e] at next hs
        rw [ek, if_neg (by decide), if_pos rfl, Option.bind_some, if_pos (by simp; omega), Option.bind_some]
        exact next
      · have e : segL l[i] = [255, l[i].f0 % 256, ((l[i].f1.length : Int) / 256) % 256, (l[i].f1.length : Int) % 256] ++ l[i].f1 := by unfold segL; rw [if_neg c0, if_neg c1]
        have ek : kindV l[i].f0 = 1 := by unfold kindV; rw [if_neg c0, if_pos (by omega)]
        rw [e, ← List.append_assoc] at next
        rw [ek, if_pos rfl, w64 (x := (l[i].f1.length : Int) / 256) (by omega) (by omega), Option.bind_some, if_pos (by simp; omega), Option.bind_some, if_pos (by simp; omega), Option.bind_some]
        exact next
def writeR (l : List S95) : List Int := if decide ((l.length : Int) ≤ 300) && segsB 0 l then finL ([84, 83] ++ segsL l) else []
theorem writeR_len (l : List S95) : (writeR l).length ≤ 60000 := by
  unfold writeR finL; (repeat' split) <;> simp_all <;> omega
theorem specWrite_eq (l : List S95) (k : Nat) (hk : 30000 < k) : spec_WriteSegs.f k l = some (writeR l) := by
  unfold spec_WriteSegs.f writeR
  rw [specSegs_eq l k (by omega), Option.bind_some]
  by_cases h : (decide ((l.length : Int) ≤ 300) && segsB 0 l) = true
  · rw [if_pos h, if_pos h]
    rw [Bool.and_eq_true] at h
    have h1 := of_decide_eq_true h.1
    exact specWrite_loop l (by omega) (segsB_all l 0 h.2) l.length k 0 [84, 83] (by omega) (by omega) (by simp)
  · rw [if_neg h, if_neg h]
theorem implWrite_eq (l : List S95) (k : Nat) (hk : 30000 < k) : impl_WriteSegs.f k l = some (writeR l) := by
  unfold impl_WriteSegs.f writeR
  rw [implSegs_eq l k (by omega), Option.bind_some]
  by_cases h : (decide ((l.length : Int) ≤ 300) && segsB 0 l) = true
  · rw [if_pos h, if_pos h]
    rw [Bool.and_eq_true] at h
    have h1 := of_decide_eq_true h.1
    exact implWrite_loop l (by omega) (segsB_all l 0 h.2) l.length k 0 [84, 83] (by omega) (by omega) (by simp)
  · rw [if_neg h, if_neg h]
theorem markB_ex (n : Nat) (hn : n ≤ 1048576) : ∀ (d k i : Nat) (m : Int) (x : List Int), i + d = n → d < k → x.length = n → 0 ≤ m → m + (d : Int) ≤ 2305843009213693952 → ∃ t, laws_markByteS.l0 k x m (i : Int) = some (m + (d : Int), t) := by
  intro d
  induction d with
  | zero =>
    intro k i m x hi hk hx h0 h1
    obtain ⟨k, rfl⟩ : ∃ m, k = m + 1 := ⟨k - 1, by omega⟩
    exact ⟨x, by rw [laws_markByteS.l0, if_neg (by omega)]; simp⟩
  | succ d ih =>
    intro k i m x hi hk hx h0 h1
    obtain ⟨k, rfl⟩ : ∃ m, k = m + 1 := ⟨k - 1, by omega⟩
    rw [laws_markByteS.l0, if_pos (by omega), if_pos (by omega), wsucc (by omega), w64 (x := m + 1) (by omega) (by omega)]
    obtain ⟨t, e⟩ := ih k (i + 1) (m + 1) (x.set (i : Int).toNat (m % 256)) (by omega) (by omega) (by simpa using hx) (by omega) (by omega)
    exact ⟨t, by rw [e]; congr 2; omega⟩
theorem markSeg_ex (n : Nat) (hn : n ≤ 1048576) : ∀ (d k i : Nat) (m : Int) (x : List S95), i + d = n → d + 1048580 < k → x.length = n → (∀ y ∈ x.drop i, y.f1.length ≤ 1048576) → 0 ≤ m → m ≤ 1048577 * (i : Int) + 1 → ∃ r, laws_markSegS.l0 k x m (i : Int) = some r ∧ 0 ≤ r.1 := by
  intro d
  induction d with
  | zero =>
    intro k i m x hi hk hx hq h0 h1
    obtain ⟨k, rfl⟩ : ∃ m, k = m + 1 := ⟨k - 1, by omega⟩
    exact ⟨(m, x), by rw [laws_markSegS.l0, if_neg (by omega)], h0⟩
  | succ d ih =>
    intro k i m x hi hk hx hq h0 h1
    obtain ⟨k, rfl⟩ : ∃ m, k = m + 1 := ⟨k - 1, by omega⟩
    have hil : i < x.length := by omega
    rw [drop_at x i hil] at hq
    have hb := hq x[i] (List.mem_cons_self)
    obtain ⟨t, e⟩ := markB_ex x[i].f1.length (by omega) x[i].f1.length k 0 (m + 1) x[i].f1 (by omega) (by omega) rfl (by omega) (by omega)
    have e' : laws_markByteS.f k x[i].f1 (m + 1) = some (m + 1 + (x[i].f1.length : Int), t) := e
    rw [laws_markSegS.l0, if_pos (by omega), if_pos (by omega), rdG_nat x i hil, w64 (x := m + 1) (by omega) (by omega), e', Option.bind_some, wsucc (by omega)]
    refine ih k (i + 1) (m + 1 + (x[i].f1.length : Int)) _ (by omega) (by omega) (by simpa using hx) (fun y hy => ?_) (by omega) (by omega)
    rw [Int.toNat_natCast, List.drop_set_of_lt (by omega)] at hy
    exact hq y (List.mem_cons_of_mem _ hy)

def bmarks (n : Nat) : List Int := (List.range n).map fun j : Nat => ((j : Int) + 1) % 256
theorem bmarks_len (n : Nat) : (bmarks n).length = n := by simp [bmarks]
theorem markByteS_loop (n : Nat) (hn : n ≤ 4611686018427387904) : ∀ (d k i : Nat) (x : List Int), i + d = n → d < k → x.length = n → (∀ j, j < i → x[j]? = some (((j : Int) + 1) % 256)) → laws_markByteS.l0 k x ((i : Int) + 1) (i : Int) = some ((n : Int) + 1, bmarks n) := by
  intro d
  induction d with
  | zero =>
    intro k i x h1 hk hx he
    obtain ⟨k, rfl⟩ : ∃ m, k = m + 1 := ⟨k - 1, by omega⟩
    rw [laws_markByteS.l0, if_neg (by omega)]
    have e : x = bmarks n := by
      apply List.ext_getElem?
      intro j
      by_cases hj : j < n
      · rw [he j (by omega)]; simp [bmarks, hj]
      · rw [List.getElem?_eq_none (by omega), List.getElem?_eq_none (by rw [bmarks_len]; omega)]
    rw [e, show i = n by omega]
  | succ d ih =>
    intro k i x h1 hk hx he
    obtain ⟨k, rfl⟩ : ∃ m, k = m + 1 := ⟨k - 1, by omega⟩
    rw [laws_markByteS.l0, if_pos (by omega), if_pos (by omega), wsucc (by omega), w64 (by omega) (by omega), show (i : Int) + 1 + 1 = ((i + 1 : Nat) : Int) + 1 by omega]
    refine ih k (i + 1) _ (by omega) (by omega) (by simpa using hx) ?_
    intro j hj
    rw [Int.toNat_natCast, List.getElem?_set]
    by_cases e : i = j
    · subst e; simp [show i < x.length by omega]
    · rw [if_neg e]; exact he j (by omega)
theorem markByteS_eq (l : List Int) (hn : l.length ≤ 4611686018427387904) (k : Nat) (hk : l.length < k) : laws_markByteS.f k l 1 = some ((l.length : Int) + 1, bmarks l.length) := by
  unfold laws_markByteS.f
  exact markByteS_loop l.length hn l.length k 0 l (by omega) hk rfl (by intro j hj; omega)
theorem heldByteS_loop (n : Nat) (hn : n ≤ 4611686018427387904) : ∀ (d k i : Nat), i + d = n → d < k → laws_heldByteS.l0 k (bmarks n) ((i : Int) + 1) (i : Int) = some ((n : Int) + 1) := by
  intro d
  have hl := bmarks_len n
  induction d with
  | zero =>
    intro k i h1 hk
    obtain ⟨k, rfl⟩ : ∃ m, k = m + 1 := ⟨k - 1, by omega⟩
    rw [laws_heldByteS.l0, if_neg (by omega), show i = n by omega]
  | succ d ih =>
    intro k i h1 hk
    obtain ⟨k, rfl⟩ : ∃ m, k = m + 1 := ⟨k - 1, by omega⟩
    rw [laws_heldByteS.l0, if_pos (by omega), if_pos (by omega), rd_nat (bmarks n) i (by omega), if_pos (by simp [bmarks]), wsucc (by omega), w64 (by omega) (by omega), show (i : Int) + 1 + 1 = ((i + 1 : Nat) : Int) + 1 by omega]
    exact ih k (i + 1) (by omega) (by omega)
theorem heldByteS_eq (n : Nat) (hn : n ≤ 4611686018427387904) (k : Nat) (hk : n < k) : laws_heldByteS.f k (bmarks n) 1 = some ((n : Int) + 1) := by
  unfold laws_heldByteS.f
  exact heldByteS_loop n hn n k 0 (by omega) hk

theorem FnExactWriteSegs (l : List S93) (hm : l.length ≤ maxLen) (hQ : ∀ x ∈ l, x.f1.length ≤ 9223372036854775807) : ∃ k, laws_FnExactWriteSegs.f k l = some true := by
  unfold maxLen at hm
  obtain ⟨K, hK⟩ : ∃ K, K = l.length + 4000000 := ⟨_, rfl⟩
  refine ⟨K + 1, ?_⟩
  unfold laws_FnExactWriteSegs.f laws_szSegS.f
  rw [w64 (by omega) (by omega)]
  by_cases h : 1048576 - (l.length : Int) < 0
  · rw [if_pos h]; rfl
  rw [if_neg h]
  obtain ⟨v, e0, hv⟩ := szSegS_loop l (by omega) hQ l.length (K + 1) 0 (1048576 - (l.length : Int)) (by omega) (by omega) (by omega) (by omega)
  rw [show ((0 : Nat) : Int) = 0 from rfl] at e0
  rw [e0, Option.bind_some]
  by_cases h2 : v < 0
  · rw [if_pos h2]
  rw [if_neg h2]
  have hq : ∀ x ∈ l, x.f1.length ≤ 1048576 := by simpa using hv (by omega)
  have hq2 : ∀ x ∈ l.map toG, x.f1.length ≤ 1048576 := by
    intro x hx
    obtain ⟨y, hy, rfl⟩ := List.mem_map.1 hx
    exact hq y hy
  have hml : (l.map toG).length = l.length := by simp
  have hrl := writeR_len (l.map toG)
  have e1 := toSegS_eq l (by omega) hq
  have e2 := specWrite_eq (l.map toG)
  have e3 := implWrite_eq (l.map toG)
  obtain ⟨r, hr⟩ : ∃ r, r = writeR (l.map toG) := ⟨_, rfl⟩
  rw [← hr] at e2 e3 hrl
  have e4 := eqSegS_refl (l.map toG) (by omega) hq2
  have e5 := eqByteS_refl r (by omega)
  obtain ⟨⟨m1, m2⟩, e6, g1⟩ := markSeg_ex l.length (by omega) l.length (K + 1) 0 1 (l.map toG) (by omega) (by omega) hml (by simpa using hq2) (by omega) (by omega)
  have e6' : laws_markSegS.f (K + 1) (l.map toG) 1 = some m1 := by
    unfold laws_markSegS.f
    rw [show (0 : Int) = ((0 : Nat) : Int) from rfl, e6]; rfl
  have e7 := markByteS_eq r (by omega)
  have e8 := heldByteS_eq r.length (by omega)
  have g1' : ¬ (m1 < 0) := by have : 0 ≤ m1 := g1; omega
  have g2 : ¬ ((r.length : Int) + 1 < 0) := by omega
  simp (disch := omega) only [e1, e2, e3, e4, e5, e6', Option.bind_some, if_true, if_neg g1']
  rw [laws_FnExactWriteSegs.j0]
  simp (disch := omega) only [e1, e3, e5, e7, e8, Option.bind_some, if_true, if_neg g2, Bool.not_true, Bool.false_eq_true, if_false]

end Go.Proofs.Yticlmpkbcmanfaa.Pure
