/- The pure statement of the law FnExactBitsOf, for every input that its guards let in. -/
import Derived.Test.YtbiamhmjcnmjgaaPFnExactBitsOfx1
import Derived.Test.YtbiamhmjcnmjgaaWSized
-- The printed row names this word without its seat: the same fact under that name.
namespace Go.Proofs.PrintWords
theorem sized_ints {H : Type} {enc : TypeId × Value → H} {P : Program} {W : World} {base : Nat} {spare : Nat → Bool} {held : Bool} {t e : TypeId} {k : IntKind} {a : Option Addr} {len cap : Nat} {d : DataW H} {ps : List MemPlace} {ts : List TypeId} {ds : List (DataW H)} {j : Nat} (hsz : (DataW.weightsEach P ts ds).all (· ≤ reachBytes) = true) (ht : ts[j]? = some t) (hd : ds[j]? = some d) (hu : P.underlying t = some (.slice e)) (he : P.underlying e = some (.int k)) (hc : P.cellsOf e = 1) {B : Nat} (hB : P.bytesOf e = B) (h : DataW.Trod enc P W base spare held t (.slice a len cap) d ps) : len * B ≤ 140737488351232 := Go.Proofs.YtbiamhmjcnmjgaaW.PrintWords.sized_ints hsz ht hd hu he hc hB h
end Go.Proofs.PrintWords
namespace Go.Proofs.Ytbiamhmjcnmjgaa.Pure
open Go.RowKit Go.Proofs.Ytbiamhmjcnmjgaa.PFnExactBitsOf Go.Proofs.YtbiamhmjcnmjgaaW.PrintWords Go.Proofs.YtbiamhmjcnmjgaaW.PrintLast Go.Proofs.YtbiamhmjcnmjgaaW.PrintMore
set_option linter.unusedVariables false
set_option linter.unusedSimpArgs false
set_option maxRecDepth 4000

theorem w64 {x : Int} (h1 : -9223372036854775808 ≤ x) (h2 : x ≤ 9223372036854775807) : wrap64 x = x := by unfold wrap64; omega
theorem wsucc {i : Nat} (h : i ≤ 4611686018427387904) : wrap64 ((i : Int) + 1) = ((i + 1 : Nat) : Int) := by unfold wrap64; omega
theorem rd_nat (l : List Int) (i : Nat) (h : i < l.length) : rd l (i : Int) = l[i] := by simp [rd, List.getD_eq_getElem?_getD, h]
theorem drop_at {α : Type} (l : List α) (i : Nat) (h : i < l.length) : l.drop i = l[i] :: l.drop (i + 1) := List.drop_eq_getElem_cons h
theorem wf64 {x : Int} (h : (Lit.int .i64 x).wf = true) : -9223372036854775808 ≤ x ∧ x ≤ 9223372036854775807 := by
  simp [Lit.wf, IntKind.min, IntKind.max, IntKind.bits, IntKind.signed] at h; omega
theorem wfu8 {x : Int} (h : (Lit.int .u8 x).wf = true) : 0 ≤ x ∧ x ≤ 255 := by
  simp [Lit.wf, IntKind.min, IntKind.max, IntKind.bits, IntKind.signed] at h; omega

theorem between_eq (a lo hi : Int) : spec_l01Between.f a lo hi = some (decide (lo ≤ a ∧ a ≤ hi)) := by
  unfold spec_l01Between.f
  by_cases h : a ≥ lo
  · rw [if_pos h]; congr 1; simp; omega
  · rw [if_neg h]; congr 1; simp; omega

theorem within_eq (a lo hi : Int) : impl_within.f a lo hi = some (decide (lo ≤ a ∧ a ≤ hi)) := by
  unfold impl_within.f
  by_cases h : a ≥ lo
  · rw [if_pos h]; congr 1; simp; omega
  · rw [if_neg h]; congr 1; simp; omega

theorem tdw {x y : Int} (h0 : 0 ≤ x) (h1 : x ≤ 4611686018427387904) (hy : 0 < y) : wrap64 (Int.tdiv x y) = x / y := by
  rw [Int.tdiv_eq_ediv_of_nonneg h0]
  have a := Int.ediv_nonneg h0 (Int.le_of_lt hy)
  have b := Int.ediv_le_self y h0
  exact w64 (by omega) (by omega)
theorem div_bd {x y : Int} (h0 : 0 ≤ x) (hy : 0 < y) : 0 ≤ x / y ∧ x / y ≤ x := ⟨Int.ediv_nonneg h0 (Int.le_of_lt hy), Int.ediv_le_self y h0⟩

def isLen (x : Int) (m : Nat) : Prop := (m = 0 ∧ x = 0) ∨ (1 ≤ m ∧ (2 : Int) ^ (m - 1) ≤ x ∧ x < (2 : Int) ^ m)
theorem two_pow (m : Nat) : (2 : Int) ^ (m + 1) = 2 * (2 : Int) ^ m := by rw [Int.pow_succ, Int.mul_comm]
theorem two_pos (m : Nat) : 1 ≤ (2 : Int) ^ m := by
  induction m with
  | zero => simp
  | succ m ih => rw [two_pow]; omega
theorem specClass_loop : ∀ (m k : Nat) (c x : Int), 0 ≤ c → c + m ≤ 1000 → x ≤ 4294967296 → isLen x m → m < k → spec_ClassOf.l0 k c x = some (c + m) := by
  intro m
  induction m with
  | zero =>
    intro k c x h0 h1 hx h hk
    obtain ⟨k, rfl⟩ : ∃ m, k = m + 1 := ⟨k - 1, by omega⟩
    rcases h with ⟨_, h⟩ | ⟨h, _⟩
    · rw [spec_ClassOf.l0, if_neg (by omega)]; simp
    · omega
  | succ m ih =>
    intro k c x h0 h1 hx h hk
    obtain ⟨k, rfl⟩ : ∃ m, k = m + 1 := ⟨k - 1, by omega⟩
    rcases h with ⟨h, _⟩ | ⟨_, hlo, hhi⟩
    · omega
    · rw [Nat.add_sub_cancel] at hlo
      have hp := two_pos m
      rw [two_pow] at hhi
      have hl : isLen (x / 2) m := by
        cases m with
        | zero => exact .inl ⟨rfl, by simp at hlo hhi; omega⟩
        | succ m =>
          refine .inr ⟨by omega, ?_, by omega⟩
          rw [two_pow] at hlo
          rw [Nat.add_sub_cancel]
          omega
      rw [spec_ClassOf.l0, if_pos (by omega), tdw (by omega) (by omega) (by omega), w64 (by omega) (by omega), ih k (c + 1) (x / 2) (by omega) (by omega) (by omega) hl (by omega)]
      congr 1; omega
def tab : ByteArray := ⟨#[0, 1, 2, 2, 3, 3, 3, 3, 4, 4, 4, 4, 4, 4, 4, 4, 5, 5, 5, 5, 5, 5, 5, 5, 5, 5, 5, 5, 5, 5, 5, 5, 6, 6, 6, 6, 6, 6, 6, 6, 6, 6, 6, 6, 6, 6, 6, 6, 6, 6, 6, 6, 6, 6, 6, 6, 6, 6, 6, 6, 6, 6, 6, 6, 7, 7, 7, 7, 7, 7, 7, 7, 7, 7, 7, 7, 7, 7, 7, 7, 7, 7, 7, 7, 7, 7, 7, 7, 7, 7, 7, 7, 7, 7, 7, 7, 7, 7, 7, 7, 7, 7, 7, 7, 7, 7, 7, 7, 7, 7, 7, 7, 7, 7, 7, 7, 7, 7, 7, 7, 7, 7, 7, 7, 7, 7, 7, 7, 8, 8, 8, 8, 8, 8, 8, 8, 8, 8, 8, 8, 8, 8, 8, 8, 8, 8, 8, 8, 8, 8, 8, 8, 8, 8, 8, 8, 8, 8, 8, 8, 8, 8, 8, 8, 8, 8, 8, 8, 8, 8, 8, 8, 8, 8, 8, 8, 8, 8, 8, 8, 8, 8, 8, 8, 8, 8, 8, 8, 8, 8, 8, 8, 8, 8, 8, 8, 8, 8, 8, 8, 8, 8, 8, 8, 8, 8, 8, 8, 8, 8, 8, 8, 8, 8, 8, 8, 8, 8, 8, 8, 8, 8, 8, 8, 8, 8, 8, 8, 8, 8, 8, 8, 8, 8, 8, 8, 8, 8, 8, 8, 8, 8, 8, 8, 8, 8, 8, 8, 8, 8, 8, 8, 8, 8, 8, 8]⟩
theorem tab_small (y : Int) (h0 : 0 ≤ y) (h1 : y < 256) : ∃ m : Nat, m ≤ 8 ∧ bt tab y = (m : Int) ∧ isLen y m := by
  have key : ∀ j : Fin 256, ((bt tab (j.val : Int)) = 0 ∧ j.val = 0) ∨ (1 ≤ (bt tab (j.val : Int)).toNat ∧ (bt tab (j.val : Int)).toNat ≤ 8 ∧ 0 ≤ bt tab (j.val : Int) ∧ (2 : Int) ^ ((bt tab (j.val : Int)).toNat - 1) ≤ (j.val : Int) ∧ (j.val : Int) < (2 : Int) ^ (bt tab (j.val : Int)).toNat) := by decide +kernel
  obtain ⟨n, rfl⟩ := Int.eq_ofNat_of_zero_le h0
  rcases key ⟨n, by omega⟩ with ⟨h, hn⟩ | ⟨ha, hb, hc, hd, he⟩
  · simp only at h hn
    subst hn
    exact ⟨0, by omega, h, .inl ⟨rfl, rfl⟩⟩
  · simp only at ha hb hc hd he
    exact ⟨(bt tab (n : Int)).toNat, hb, (Int.toNat_of_nonneg hc).symm, .inr ⟨ha, hd, he⟩⟩
theorem len64_eq (x : Int) (h0 : 0 ≤ x) (h1 : x < 65536) : ∃ m : Nat, m ≤ 16 ∧ isLen x m ∧ ∀ k : Nat, 0 < k → bits_Len64.f k x = some (m : Int) := by
  by_cases h : x ≥ 256
  · obtain ⟨m, hm, hb, hl⟩ := tab_small (x / 256) (by omega) (by omega)
    refine ⟨m + 8, by omega, ?_, fun k hk => ?_⟩
    · rcases hl with ⟨_, hl⟩ | ⟨ha, hc, hd⟩
      · omega
      · refine .inr ⟨by omega, ?_, ?_⟩
        · rw [show m + 8 - 1 = m - 1 + 8 by omega, Int.pow_add]
          have : (2 : Int) ^ 8 = 256 := by decide
          omega
        · rw [Int.pow_add]
          have : (2 : Int) ^ 8 = 256 := by decide
          omega
    · obtain ⟨k, rfl⟩ : ∃ m, k = m + 1 := ⟨k - 1, by omega⟩
      unfold bits_Len64.f
      rw [if_neg (by omega), bits_Len64.j0, if_neg (by omega), if_pos h, if_pos (by omega), if_pos (by omega)]
      show some (wrap64 (wrap64 (0 + 8) + wrap64 (bt tab (x / 256 % 256)))) = _
      rw [show x / 256 % 256 = x / 256 by omega, hb, w64 (x := 0 + 8) (by omega) (by omega), w64 (x := (m : Int)) (by omega) (by omega), w64 (by omega) (by omega)]
      congr 1; omega
  · obtain ⟨m, hm, hb, hl⟩ := tab_small x (by omega) (by omega)
    refine ⟨m, by omega, hl, fun k hk => ?_⟩
    obtain ⟨k, rfl⟩ : ∃ m, k = m + 1 := ⟨k - 1, by omega⟩
    unfold bits_Len64.f
    rw [if_neg (by omega), bits_Len64.j0, if_neg (by omega), if_neg h, if_pos (by omega), if_pos (by omega)]
    show some (wrap64 (0 + wrap64 (bt tab (x % 256)))) = _
    rw [show x % 256 = x by omega, hb, w64 (x := (m : Int)) (by omega) (by omega), w64 (by omega) (by omega)]
    congr 1; omega
theorem absW (n : Int) (h : -32767 ≤ n ∧ n ≤ 32767) : IntKind.u64.wrap (mx n (wrap64 (-n))) = (if n < 0 then -n else n) := by
  have e : mx n (wrap64 (-n)) = (if n < 0 then -n else n) := by
    rw [w64 (by omega) (by omega)]; unfold mx; (repeat' split) <;> omega
  rw [e]
  simp only [IntKind.wrap, IntKind.bits, IntKind.signed]
  split <;> simp <;> omega
/-- The class: of a number's own size; -1 where the number is too great. -/
theorem class_eq (n : Int) : ∃ c : Int, (∀ k : Nat, 40 ≤ k → spec_ClassOf.f k n = some c) ∧ (∀ k : Nat, 40 ≤ k → impl_ClassOf.f k n = some c) ∧ ((c = -1 ∧ ¬ (-32767 ≤ n ∧ n ≤ 32767)) ∨ ((-32767 ≤ n ∧ n ≤ 32767) ∧ ∃ m : Nat, c = (m : Int) ∧ m ≤ 16 ∧ isLen (if n < 0 then -n else n) m)) := by
  by_cases h : -32767 ≤ n ∧ n ≤ 32767
  · obtain ⟨m, hm, hl, hf⟩ := len64_eq (if n < 0 then -n else n) (by split <;> omega) (by split <;> omega)
    refine ⟨m, fun k hk => ?_, fun k hk => ?_, .inr ⟨h, m, rfl, hm, hl⟩⟩
    · unfold spec_ClassOf.f spec_l07Abs.f
      rw [between_eq, decide_eq_true h, Option.bind_some, if_pos rfl]
      have e : (if n < 0 then some (wrap64 (-n)) else some n) = some (if n < 0 then -n else n) := by
        split
        · rw [w64 (by omega) (by omega)]
        · rfl
      rw [e, Option.bind_some, specClass_loop m k 0 _ (by omega) (by omega) (by split <;> omega) hl (by omega)]
      congr 1; omega
    · unfold impl_ClassOf.f impl_isCoef.f bits_Len.f
      rw [within_eq, decide_eq_true h, Option.bind_some, Option.bind_some, if_pos rfl, absW n h, hf k (by omega)]; rfl
  · refine ⟨-1, fun k hk => ?_, fun k hk => ?_, .inl ⟨rfl, h⟩⟩
    · unfold spec_ClassOf.f
      rw [between_eq, decide_eq_false h]; rfl
    · unfold impl_ClassOf.f impl_isCoef.f
      rw [within_eq, decide_eq_false h]; rfl

theorem bits_eq (n : Int) (c : Int) (e1 : ∀ k : Nat, 40 ≤ k → spec_ClassOf.f k n = some c) (e2 : ∀ k : Nat, 40 ≤ k → impl_ClassOf.f k n = some c) (hc : (c = -1 ∧ ¬ (-32767 ≤ n ∧ n ≤ 32767)) ∨ ((-32767 ≤ n ∧ n ≤ 32767) ∧ ∃ m : Nat, c = (m : Int) ∧ m ≤ 16 ∧ isLen (if n < 0 then -n else n) m)) :
    ∃ v, (∀ k : Nat, 40 ≤ k → spec_BitsOf.f k n = some v) ∧ (∀ k : Nat, 40 ≤ k → impl_BitsOf.f k n = some v) ∧ ((c = -1 ∧ v = -1) ∨ (0 ≤ c ∧ v = if n < 0 then wrap64 (wrap64 (n + shl .i64 1 c) - 1) else n)) := by
  rcases hc with ⟨rfl, h⟩ | ⟨h, m, rfl, hm, hl⟩
  · refine ⟨-1, fun k hk => ?_, fun k hk => ?_, .inl ⟨rfl, rfl⟩⟩
    · unfold spec_BitsOf.f spec_l07Most.f
      rw [e1 k hk]; rfl
    · unfold impl_BitsOf.f impl_isCoef.f
      rw [within_eq, decide_eq_false h]; rfl
  · refine ⟨if n < 0 then wrap64 (wrap64 (n + shl .i64 1 (m : Int)) - 1) else n, fun k hk => ?_, fun k hk => ?_, .inr ⟨by omega, rfl⟩⟩
    · unfold spec_BitsOf.f spec_l07Most.f
      rw [e1 k hk, Option.bind_some, if_neg (by omega)]
      by_cases hn : n < 0
      · rw [if_neg (by omega), if_pos (by omega), if_pos hn]
      · rw [if_pos (by omega), if_neg (by omega), if_neg hn]; rfl
    · unfold impl_BitsOf.f impl_isCoef.f
      rw [within_eq, decide_eq_true h, Option.bind_some, Option.bind_some, if_pos rfl, e2 k hk, Option.bind_some]
      by_cases hn : n < 0
      · rw [if_pos hn, if_pos (by omega), if_pos hn]
      · rw [if_neg hn, if_neg hn]

theorem FnExactBitsOf : laws_FnExactBitsOf.Pure := by
  intro n hn
  obtain ⟨c, e1, e2, hc⟩ := class_eq n
  obtain ⟨v, f1, f2, _⟩ := bits_eq n c e1 e2 hc
  refine ⟨40, ?_⟩
  unfold laws_FnExactBitsOf.f
  rw [f1 40 (by omega), f2 40 (by omega)]
  simp

end Go.Proofs.Ytbiamhmjcnmjgaa.Pure
