/- The pure statement of the law FnNumsBack, for every input that its guards let in. -/
import Derived.Test.YtbiamhmjcnmjgaaPFnNumsBackx2
import Derived.Test.YtbiamhmjcnmjgaaWSized
-- The printed row names this word without its seat: the same fact under that name.
namespace Go.Proofs.PrintWords
theorem sized_ints {H : Type} {enc : TypeId × Value → H} {P : Program} {W : World} {base : Nat} {spare : Nat → Bool} {held : Bool} {t e : TypeId} {k : IntKind} {a : Option Addr} {len cap : Nat} {d : DataW H} {ps : List MemPlace} {ts : List TypeId} {ds : List (DataW H)} {j : Nat} (hsz : (DataW.weightsEach P ts ds).all (· ≤ reachBytes) = true) (ht : ts[j]? = some t) (hd : ds[j]? = some d) (hu : P.underlying t = some (.slice e)) (he : P.underlying e = some (.int k)) (hc : P.cellsOf e = 1) {B : Nat} (hB : P.bytesOf e = B) (h : DataW.Trod enc P W base spare held t (.slice a len cap) d ps) : len * B ≤ 140737488351232 := Go.Proofs.YtbiamhmjcnmjgaaW.PrintWords.sized_ints hsz ht hd hu he hc hB h
end Go.Proofs.PrintWords
namespace Go.Proofs.Ytbiamhmjcnmjgaa.Pure
open Go.RowKit Go.Proofs.Ytbiamhmjcnmjgaa.PFnNumsBack Go.Proofs.YtbiamhmjcnmjgaaW.PrintWords Go.Proofs.YtbiamhmjcnmjgaaW.PrintLast Go.Proofs.YtbiamhmjcnmjgaaW.PrintMore
set_option linter.unusedVariables false
set_option linter.unusedSimpArgs false
set_option maxRecDepth 4000

theorem w64 {x : Int} (h1 : -9223372036854775808 ≤ x) (h2 : x ≤ 9223372036854775807) : wrap64 x = x := by unfold wrap64; omega
theorem wsucc {i : Nat} (h : i ≤ 4611686018427387904) : wrap64 ((i : Int) + 1) = ((i + 1 : Nat) : Int) := by unfold wrap64; omega
theorem rd_nat (l : List Int) (i : Nat) (h : i < l.length) : rd l (i : Int) = l[i] := by simp [rd, List.getD_eq_getElem?_getD, h]
theorem drop_at {α : Type} (l : List α) (i : Nat) (h : i < l.length) : l.drop i = l[i] :: l.drop (i + 1) := List.drop_eq_getElem_cons h
theorem wf64 {x : Int} (h : (Lit.int .i64 x).wf = true) : -9223372036854775808 ≤ x ∧ x ≤ 9223372036854775807 := by
  simp [Lit.wf, IntKind.min, IntKind.max, IntKind.bits, IntKind.signed] at h; omega
theorem wfu8 {x : Int} (h : (Lit.int .u8 x).wf = true) : 0 ≤ x ∧ x ≤ 255 := by
  simp [Lit.wf, IntKind.min, IntKind.max, IntKind.bits, IntKind.signed] at h; omega

theorem between_eq (a lo hi : Int) : spec_l01Between.f a lo hi = some (decide (lo ≤ a ∧ a ≤ hi)) := by
  unfold spec_l01Between.f
  by_cases h : a ≥ lo
  · rw [if_pos h]; congr 1; simp; omega
  · rw [if_neg h]; congr 1; simp; omega

theorem within_eq (a lo hi : Int) : impl_within.f a lo hi = some (decide (lo ≤ a ∧ a ≤ hi)) := by
  unfold impl_within.f
  by_cases h : a ≥ lo
  · rw [if_pos h]; congr 1; simp; omega
  · rw [if_neg h]; congr 1; simp; omega

theorem tdw {x y : Int} (h0 : 0 ≤ x) (h1 : x ≤ 4611686018427387904) (hy : 0 < y) : wrap64 (Int.tdiv x y) = x / y := by
  rw [Int.tdiv_eq_ediv_of_nonneg h0]
  have a := Int.ediv_nonneg h0 (Int.le_of_lt hy)
  have b := Int.ediv_le_self y h0
  exact w64 (by omega) (by omega)
theorem div_bd {x y : Int} (h0 : 0 ≤ x) (hy : 0 < y) : 0 ≤ x / y ∧ x / y ≤ x := ⟨Int.ediv_nonneg h0 (Int.le_of_lt hy), Int.ediv_le_self y h0⟩

def isLen (x : Int) (m : Nat) : Prop := (m = 0 ∧ x = 0) ∨ (1 ≤ m ∧ (2 : Int) ^ (m - 1) ≤ x ∧ x < (2 : Int) ^ m)
theorem two_pow (m : Nat) : (2 : Int) ^ (m + 1) = 2 * (2 : Int) ^ m := by rw [Int.pow_succ, Int.mul_comm]
theorem two_pos (m : Nat) : 1 ≤ (2 : Int) ^ m := by
  induction m with
  | zero => simp
  | succ m ih => rw [two_pow]; omega
theorem specClass_loop : ∀ (m k : Nat) (c x : Int), 0 ≤ c → c + m ≤ 1000 → x ≤ 4294967296 → isLen x m → m < k → spec_ClassOf.l0 k c x = some (c + m) := by
  intro m
  induction m with
  | zero =>
    intro k c x h0 h1 hx h hk
    obtain ⟨k, rfl⟩ : ∃ m, k = m + 1 := ⟨k - 1, by omega⟩
    rcases h with ⟨_, h⟩ | ⟨h, _⟩
    · rw [spec_ClassOf.l0, if_neg (by omega)]; simp
    · omega
  | succ m ih =>
    intro k c x h0 h1 hx h hk
    obtain ⟨k, rfl⟩ : ∃ m, k = m + 1 := ⟨k - 1, by omega⟩
    rcases h with ⟨h, _⟩ | ⟨_, hlo, hhi⟩
    · omega
    · rw [Nat.add_sub_cancel] at hlo
      have hp := two_pos m
      rw [two_pow] at hhi
      have hl : isLen (x / 2) m := by
        cases m with
        | zero => exact .inl ⟨rfl, by simp at hlo hhi; omega⟩
        | succ m =>
          refine .inr ⟨by omega, ?_, by omega⟩
          rw [two_pow] at hlo
          rw [Nat.add_sub_cancel]
          omega
      rw [spec_ClassOf.l0, if_pos (by omega), tdw (by omega) (by omega) (by omega), w64 (by omega) (by omega), ih k (c + 1) (x / 2) (by omega) (by omega) (by omega) hl (by omega)]
      congr 1; omega
def tab : ByteArray := ⟨#[0, 1, 2, 2, 3, 3, 3, 3, 4, 4, 4, 4, 4, 4, 4, 4, 5, 5, 5, 5, 5, 5, 5, 5, 5, 5, 5, 5, 5, 5, 5, 5, 6, 6, 6, 6, 6, 6, 6, 6, 6, 6, 6, 6, 6, 6, 6, 6, 6, 6, 6, 6, 6, 6, 6, 6, 6, 6, 6, 6, 6, 6, 6, 6, 7, 7, 7, 7, 7, 7, 7, 7, 7, 7, 7, 7, 7, 7, 7, 7, 7, 7, 7, 7, 7, 7, 7, 7, 7, 7, 7, 7, 7, 7, 7, 7, 7, 7, 7, 7, 7, 7, 7, 7, 7, 7, 7, 7, 7, 7, 7, 7, 7, 7, 7, 7, 7, 7, 7, 7, 7, 7, 7, 7, 7, 7, 7, 7, 8, 8, 8, 8, 8, 8, 8, 8, 8, 8, 8, 8, 8, 8, 8, 8, 8, 8, 8, 8, 8, 8, 8, 8, 8, 8, 8, 8, 8, 8, 8, 8, 8, 8, 8, 8, 8, 8, 8, 8, 8, 8, 8, 8, 8, 8, 8, 8, 8, 8, 8, 8, 8, 8, 8, 8, 8, 8, 8, 8, 8, 8, 8, 8, 8, 8, 8, 8, 8, 8, 8, 8, 8, 8, 8, 8, 8, 8, 8, 8, 8, 8, 8, 8, 8, 8, 8, 8, 8, 8, 8, 8, 8, 8, 8, 8, 8, 8, 8, 8, 8, 8, 8, 8, 8, 8, 8, 8, 8, 8, 8, 8, 8, 8, 8, 8, 8, 8, 8, 8, 8, 8, 8, 8, 8, 8, 8, 8]⟩
theorem tab_small (y : Int) (h0 : 0 ≤ y) (h1 : y < 256) : ∃ m : Nat, m ≤ 8 ∧ bt tab y = (m : Int) ∧ isLen y m := by
  have key : ∀ j : Fin 256, ((bt tab (j.val : Int)) = 0 ∧ j.val = 0) ∨ (1 ≤ (bt tab (j.val : Int)).toNat ∧ (bt tab (j.val : Int)).toNat ≤ 8 ∧ 0 ≤ bt tab (j.val : Int) ∧ (2 : Int) ^ ((bt tab (j.val : Int)).toNat - 1) ≤ (j.val : Int) ∧ (j.val : Int) < (2 : Int) ^ (bt tab (j.val : Int)).toNat) := by decide +kernel
  obtain ⟨n, rfl⟩ := Int.eq_ofNat_of_zero_le h0
  rcases key ⟨n, by omega⟩ with ⟨h, hn⟩ | ⟨ha, hb, hc, hd, he⟩
  · simp only at h hn
    subst hn
    exact ⟨0, by omega, h, .inl ⟨rfl, rfl⟩⟩
  · simp only at ha hb hc hd he
    exact ⟨(bt tab (n : Int)).toNat, hb, (Int.toNat_of_nonneg hc).symm, .inr ⟨ha, hd, he⟩⟩
theorem len64_eq (x : Int) (h0 : 0 ≤ x) (h1 : x < 65536) : ∃ m : Nat, m ≤ 16 ∧ isLen x m ∧ ∀ k : Nat, 0 < k → bits_Len64.f k x = some (m : Int) := by
  by_cases h : x ≥ 256
  · obtain ⟨m, hm, hb, hl⟩ := tab_small (x / 256) (by omega) (by omega)
    refine ⟨m + 8, by omega, ?_, fun k hk => ?_⟩
    · rcases hl with ⟨_, hl⟩ | ⟨ha, hc, hd⟩
      · omega
      · refine .inr ⟨by omega, ?_, ?_⟩
        · rw [show m + 8 - 1 = m - 1 + 8 by omega, Int.pow_add]
          have : (2 : Int) ^ 8 = 256 := by decide
          omega
        · rw [Int.pow_add]
          have : (2 : Int) ^ 8 = 256 := by decide
          omega
    · obtain ⟨k, rfl⟩ : ∃ m, k = m + 1 := ⟨k - 1, by omega⟩
      unfold bits_Len64.f
      rw [if_neg (by omega), bits_Len64.j0, if_neg (by omega), if_pos h, if_pos (by omega), if_pos (by omega)]
      show some (wrap64 (wrap64 (0 + 8) + wrap64 (bt tab (x / 256 % 256)))) = _
      rw [show x / 256 % 256 = x / 256 by omega, hb, w64 (x := 0 + 8) (by omega) (by omega), w64 (x := (m : Int)) (by omega) (by omega), w64 (by omega) (by omega)]
      congr 1; omega
  · obtain ⟨m, hm, hb, hl⟩ := tab_small x (by omega) (by omega)
    refine ⟨m, by omega, hl, fun k hk => ?_⟩
    obtain ⟨k, rfl⟩ : ∃ m, k = m + 1 := ⟨k - 1, by omega⟩
    unfold bits_Len64.f
    rw [if_neg (by omega), bits_Len64.j0, if_neg (by omega), if_neg h, if_pos (by omega), if_pos (by omega)]
    show some (wrap64 (0 + wrap64 (bt tab (x % 256)))) = _
    rw [show x % 256 = x by omega, hb, w64 (x := (m : Int)) (by omega) (by omega), w64 (by omega) (by omega)]
    congr 1; omega
theorem absW (n : Int) (h : -32767 ≤ n ∧ n ≤ 32767) : IntKind.u64.wrap (mx n (wrap64 (-n))) = (if n < 0 then -n else n) := by
  have e : mx n (wrap64 (-n)) = (if n < 0 then -n else n) := by
    rw [w64 (by omega) (by omega)]; unfold mx; (repeat' split) <;> omega
  rw [e]
  simp only [IntKind.wrap, IntKind.bits, IntKind.signed]
  split <;> simp <;> omega
/-- The class: of a number's own size; -1 where the number is too great. -/
theorem class_eq (n : Int) : ∃ c : Int, (∀ k : Nat, 40 ≤ k → spec_ClassOf.f k n = some c) ∧ (∀ k : Nat, 40 ≤ k → impl_ClassOf.f k n = some c) ∧ ((c = -1 ∧ ¬ (-32767 ≤ n ∧ n ≤ 32767)) ∨ ((-32767 ≤ n ∧ n ≤ 32767) ∧ ∃ m : Nat, c = (m : Int) ∧ m ≤ 16 ∧ isLen (if n < 0 then -n else n) m)) := by
  by_cases h : -32767 ≤ n ∧ n ≤ 32767
  · obtain ⟨m, hm, hl, hf⟩ := len64_eq (if n < 0 then -n else n) (by split <;> omega) (by split <;> omega)
    refine ⟨m, fun k hk => ?_, fun k hk => ?_, .inr ⟨h, m, rfl, hm, hl⟩⟩
    · unfold spec_ClassOf.f spec_l07Abs.f
      rw [between_eq, decide_eq_true h, Option.bind_some, if_pos rfl]
      have e : (if n < 0 then some (wrap64 (-n)) else some n) = some (if n < 0 then -n else n) := by
        split
        · rw [w64 (by omega) (by omega)]
        · rfl
      rw [e, Option.bind_some, specClass_loop m k 0 _ (by omega) (by omega) (by split <;> omega) hl (by omega)]
      congr 1; omega
    · unfold impl_ClassOf.f impl_isCoef.f bits_Len.f
      rw [within_eq, decide_eq_true h, Option.bind_some, Option.bind_some, if_pos rfl, absW n h, hf k (by omega)]; rfl
  · refine ⟨-1, fun k hk => ?_, fun k hk => ?_, .inl ⟨rfl, h⟩⟩
    · unfold spec_ClassOf.f
      rw [between_eq, decide_eq_false h]; rfl
    · unfold impl_ClassOf.f impl_isCoef.f
      rw [within_eq, decide_eq_false h]; rfl

theorem bits_eq (n : Int) (c : Int) (e1 : ∀ k : Nat, 40 ≤ k → spec_ClassOf.f k n = some c) (e2 : ∀ k : Nat, 40 ≤ k → impl_ClassOf.f k n = some c) (hc : (c = -1 ∧ ¬ (-32767 ≤ n ∧ n ≤ 32767)) ∨ ((-32767 ≤ n ∧ n ≤ 32767) ∧ ∃ m : Nat, c = (m : Int) ∧ m ≤ 16 ∧ isLen (if n < 0 then -n else n) m)) :
    ∃ v, (∀ k : Nat, 40 ≤ k → spec_BitsOf.f k n = some v) ∧ (∀ k : Nat, 40 ≤ k → impl_BitsOf.f k n = some v) ∧ ((c = -1 ∧ v = -1) ∨ (0 ≤ c ∧ v = if n < 0 then wrap64 (wrap64 (n + shl .i64 1 c) - 1) else n)) := by
  rcases hc with ⟨rfl, h⟩ | ⟨h, m, rfl, hm, hl⟩
  · refine ⟨-1, fun k hk => ?_, fun k hk => ?_, .inl ⟨rfl, rfl⟩⟩
    · unfold spec_BitsOf.f spec_l07Most.f
      rw [e1 k hk]; rfl
    · unfold impl_BitsOf.f impl_isCoef.f
      rw [within_eq, decide_eq_false h]; rfl
  · refine ⟨if n < 0 then wrap64 (wrap64 (n + shl .i64 1 (m : Int)) - 1) else n, fun k hk => ?_, fun k hk => ?_, .inr ⟨by omega, rfl⟩⟩
    · unfold spec_BitsOf.f spec_l07Most.f
      rw [e1 k hk, Option.bind_some, if_neg (by omega)]
      by_cases hn : n < 0
      · rw [if_neg (by omega), if_pos (by omega), if_pos hn]
      · rw [if_pos (by omega), if_neg (by omega), if_neg hn]; rfl
    · unfold impl_BitsOf.f impl_isCoef.f
      rw [within_eq, decide_eq_true h, Option.bind_some, Option.bind_some, if_pos rfl, e2 k hk, Option.bind_some]
      by_cases hn : n < 0
      · rw [if_pos hn, if_pos (by omega), if_pos hn]
      · rw [if_neg hn, if_neg hn]

def BytesL (l : List Int) : Prop := l.length ≤ 1048576 ∧ ∀ x ∈ l, 0 ≤ x ∧ x ≤ 255
theorem rd_byte {l : List Int} (h : BytesL l) (i : Int) (h0 : 0 ≤ i) (h1 : i < (l.length : Int)) : 0 ≤ rd l i ∧ rd l i ≤ 255 := by
  obtain ⟨n, rfl⟩ := Int.eq_ofNat_of_zero_le h0
  have hn : n < l.length := by omega
  rw [rd_nat l n hn]
  exact h.2 _ (List.getElem_mem hn)
def CurOk (a s b : Int) : Prop := 0 ≤ a ∧ a ≤ b ∧ b ≤ 1152921504606846976 ∧ 0 ≤ s ∧ s ≤ 65521
theorem tmodw {x y : Int} (h0 : 0 ≤ x) (hy : 0 < y) : 0 ≤ Int.tmod x y ∧ Int.tmod x y < y := by
  rw [Int.tmod_eq_emod_of_nonneg h0]
  exact ⟨Int.emod_nonneg _ (by omega), Int.emod_lt_of_pos _ hy⟩
theorem pick_ok {l : List Int} (hl : BytesL l) {a s b : Int} (n : Int) (hc : CurOk a s b) (hb : b + 2 ≤ 1152921504606846976) (hn : 1 ≤ n) : ∃ r a' s', spec_l01Cur_pick.f l a s n = some (r, a', s') ∧ 0 ≤ r ∧ r < n ∧ CurOk a' s' (b + 2) := by
  obtain ⟨h1, h2, h3, h4, h5⟩ := hc
  have hll := hl.1
  unfold spec_l01Cur_pick.f
  by_cases c1 : n < 2
  · exact ⟨0, a, s, by rw [if_pos c1], by omega, by omega, by omega, by omega, hb, h4, h5⟩
  rw [if_neg c1]
  by_cases c2 : a < (l.length : Int)
  · rw [if_pos c2, if_pos h1, w64 (x := a + 1) (by omega) (by omega)]
    have r1 := rd_byte hl a h1 c2
    have t1 := tmodw (x := rd l a) (y := n) (by omega) (by omega)
    by_cases c3 : n > 256
    · rw [if_pos c3]
      by_cases c4 : a + 1 < (l.length : Int)
      · have r2 := rd_byte hl (a + 1) (by omega) c4
        have t2 := tmodw (x := 256 * rd l a + rd l (a + 1)) (y := n) (by omega) (by omega)
        rw [if_pos c4, if_pos (by omega), if_neg (by omega)]
        refine ⟨_, _, _, rfl, ?_, ?_, ?_⟩
        · rw [w64 (x := rd l a) (by omega) (by omega), w64 (x := 256 * rd l a) (by omega) (by omega), w64 (x := rd l (a + 1)) (by omega) (by omega), w64 (by omega) (by omega)]; exact t2.1
        · rw [w64 (x := rd l a) (by omega) (by omega), w64 (x := 256 * rd l a) (by omega) (by omega), w64 (x := rd l (a + 1)) (by omega) (by omega), w64 (by omega) (by omega)]; exact t2.2
        · rw [w64 (x := a + 1 + 1) (by omega) (by omega)]; exact ⟨by omega, by omega, hb, h4, h5⟩
      · rw [if_neg c4, if_neg (by omega), w64 (x := rd l a) (by omega) (by omega)]
        exact ⟨_, _, _, rfl, t1.1, t1.2, by omega, by omega, hb, h4, h5⟩
    · rw [if_neg c3, if_neg (by omega), w64 (x := rd l a) (by omega) (by omega)]
      exact ⟨_, _, _, rfl, t1.1, t1.2, by omega, by omega, hb, h4, h5⟩
  · rw [if_neg c2, w64 (x := s * 1103) (by omega) (by omega), w64 (x := s * 1103 + 12345) (by omega) (by omega), w64 (x := a + 1) (by omega) (by omega)]
    have t3 := tmodw (x := s * 1103 + 12345) (y := 65521) (by omega) (by omega)
    rw [tdw (x := Int.tmod (s * 1103 + 12345) 65521) (by omega) (by omega) (by omega)]
    have d3 := div_bd (x := Int.tmod (s * 1103 + 12345) 65521) (y := 3) (by omega) (by omega)
    by_cases c5 : (l.length : Int) > 0
    · have t4 := tmodw (x := a) (y := (l.length : Int)) h1 c5
      have r4 := rd_byte hl (Int.tmod a (l.length : Int)) t4.1 t4.2
      rw [if_pos c5, if_neg (by omega), if_pos t4.1, if_pos t4.2, if_neg (by omega), w64 (x := rd l (Int.tmod a (l.length : Int))) (by omega) (by omega), w64 (x := Int.tmod (s * 1103 + 12345) 65521 / 3 + rd l (Int.tmod a (l.length : Int))) (by omega) (by omega)]
      have t5 := tmodw (x := Int.tmod (s * 1103 + 12345) 65521 / 3 + rd l (Int.tmod a (l.length : Int))) (y := n) (by omega) (by omega)
      exact ⟨_, _, _, rfl, t5.1, t5.2, by omega, by omega, hb, t3.1, by omega⟩
    · rw [if_neg c5, if_neg (by omega)]
      have t5 := tmodw (x := Int.tmod (s * 1103 + 12345) 65521 / 3) (y := n) (by omega) (by omega)
      exact ⟨_, _, _, rfl, t5.1, t5.2, by omega, by omega, hb, t3.1, by omega⟩
theorem open_ok {l : List Int} (hl : BytesL l) : ∃ s, spec_l01Open.f l = some (l, 0, s) ∧ CurOk 0 s 0 := by
  refine ⟨13 + ((l.length : Int) % 1000), rfl, by omega, by omega, by omega, by omega, by omega⟩

theorem big_no {l : List Int} (h : ¬ (l.length : Int) > 1048576) : laws_big.f l = some false := by unfold laws_big.f; rw [decide_eq_false h]
theorem big_yes {l : List Int} (h : (l.length : Int) > 1048576) : laws_big.f l = some true := by unfold laws_big.f; rw [decide_eq_true h]
theorem bytes_of {l : List Int} (h : ¬ (l.length : Int) > 1048576) (hw : ∀ x ∈ l, (Lit.int .u8 x).wf = true) : BytesL l := ⟨by omega, fun x hx => wfu8 (hw x hx)⟩

theorem once_ok {l : List Int} (hl : BytesL l) {a s b : Int} (n : Int) (hc : CurOk a s b) (hb : b + 2 ≤ 1152921504606846976) (hn : 1 ≤ n) : ∃ r a' s', spec_l01Cur_once.f l a s n = some (r, a', s') ∧ CurOk a' s' (b + 2) := by
  obtain ⟨r, a', s', h, _, _, h'⟩ := pick_ok hl n hc hb hn
  unfold spec_l01Cur_once.f
  rw [h]
  exact ⟨_, _, _, rfl, h'⟩

def inR (lo hi : Int) (l : List Int) : Bool := l.all fun x => decide (lo ≤ x ∧ x ≤ hi)
theorem inR_nil (lo hi : Int) : inR lo hi [] = true := rfl
theorem inR_cons (lo hi x : Int) (l : List Int) : inR lo hi (x :: l) = (decide (lo ≤ x ∧ x ≤ hi) && inR lo hi l) := rfl
theorem inR_at {lo hi : Int} {l : List Int} (h : inR lo hi l = true) (i : Nat) (hi' : i < l.length) : lo ≤ l[i] ∧ l[i] ≤ hi := by
  unfold inR at h; rw [List.all_eq_true] at h; simpa using h l[i] (List.getElem_mem hi')

theorem rd_getD (l : List Int) (i : Nat) : rd l (i : Int) = l.getD i 0 := by simp [rd]
theorem push_loop {α β : Type} (F : Nat → List α → Int → Option β) (g : Nat → α) (n : Nat) (res : β)
    (hstep : ∀ (k i : Nat) (a : List α), i < n → a.length = i → F (k + 1) a (i : Int) = F k (a ++ [g i]) ((i + 1 : Nat) : Int))
    (hend : ∀ k : Nat, F (k + 1) ((List.range n).map g) (n : Int) = some res) : ∀ k : Nat, n < k → F k [] 0 = some res := by
  have main : ∀ (d k i : Nat), i + d = n → d < k → F k ((List.range i).map g) (i : Int) = some res := by
    intro d
    induction d with
    | zero =>
      intro k i h1 hk
      obtain ⟨k, rfl⟩ : ∃ m, k = m + 1 := ⟨k - 1, by omega⟩
      obtain rfl : i = n := by omega
      exact hend k
    | succ d ih =>
      intro k i h1 hk
      obtain ⟨k, rfl⟩ : ∃ m, k = m + 1 := ⟨k - 1, by omega⟩
      rw [hstep k i _ (by omega) (by simp)]
      have e : (List.range (i + 1)).map g = (List.range i).map g ++ [g i] := by rw [List.range_succ, List.map_append]; rfl
      rw [← e]
      exact ih k (i + 1) (by omega) (by omega)
  intro k hk
  exact main n k 0 (by omega) hk
theorem state_loop {σ β : Type} (F : Nat → σ → Int → Option β) (s : Nat → σ) (n : Nat) (res : β)
    (hstep : ∀ (k i : Nat), i < n → F (k + 1) (s i) (i : Int) = F k (s (i + 1)) ((i + 1 : Nat) : Int))
    (hend : ∀ k : Nat, F (k + 1) (s n) (n : Int) = some res) : ∀ k : Nat, n < k → F k (s 0) 0 = some res := by
  have main : ∀ (d k i : Nat), i + d = n → d < k → F k (s i) (i : Int) = some res := by
    intro d
    induction d with
    | zero =>
      intro k i h1 hk
      obtain ⟨k, rfl⟩ : ∃ m, k = m + 1 := ⟨k - 1, by omega⟩
      obtain rfl : i = n := by omega
      exact hend k
    | succ d ih =>
      intro k i h1 hk
      obtain ⟨k, rfl⟩ : ∃ m, k = m + 1 := ⟨k - 1, by omega⟩
      rw [hstep k i (by omega)]
      exact ih k (i + 1) (by omega) (by omega)
  intro k hk
  exact main n k 0 (by omega) hk
theorem inR_getD {lo hi : Int} {l : List Int} (h : inR lo hi l = true) (i : Nat) (h' : i < l.length) : lo ≤ l.getD i 0 ∧ l.getD i 0 ≤ hi := by
  have := inR_at h i h'
  simpa [List.getD_eq_getElem?_getD, h'] using this

def oddsL : List Int := [(-1), 0, 1, 2, 255, 256, 65535, 9223372036854775807, (-9223372036854775808), 17, 8, 12]
theorem odd_ok {l : List Int} (hl : BytesL l) {a s b : Int} (hc : CurOk a s b) (hb : b + 2 ≤ 1152921504606846976) : ∃ r a' s', spec_l01Cur_odd.f l a s = some (r, a', s') ∧ (-9223372036854775808 ≤ r ∧ r ≤ 9223372036854775807) ∧ CurOk a' s' (b + 2) := by
  obtain ⟨r, a', s', h, h0, h1, h'⟩ := pick_ok hl 12 hc hb (by omega)
  unfold spec_l01Cur_odd.f
  rw [Option.bind_some, h, Option.bind_some]
  show ∃ r0 a0 s0, (if 0 ≤ r then if r < (oddsL.length : Int) then some (rd oddsL r, a', s') else none else none) = _ ∧ _
  rw [if_pos h0, if_pos (show r < (oddsL.length : Int) by simp [oddsL]; omega)]
  refine ⟨_, _, _, rfl, ?_, h'⟩
  obtain ⟨n, rfl⟩ := Int.eq_ofNat_of_zero_le h0
  have key : ∀ j : Fin 12, -9223372036854775808 ≤ oddsL.getD j.val 0 ∧ oddsL.getD j.val 0 ≤ 9223372036854775807 := by decide +kernel
  rw [rd_getD]
  exact key ⟨n, by omega⟩

theorem draw_class {l : List Int} (hl : BytesL l) : ∃ n, spec_DrawClassOf.f l = some n := by
  unfold spec_DrawClassOf.f
  obtain ⟨s0, e0, c0⟩ := open_ok hl
  obtain ⟨r1, a1, s1, e1, c1⟩ := once_ok hl 5 c0 (by omega) (by omega)
  simp only [e0, e1, Option.bind_some]
  by_cases h : r1 = true
  · obtain ⟨r2, a2, s2, e2, _, c2⟩ := odd_ok hl c1 (by omega)
    obtain ⟨r3, a3, s3, e3, h0, h1, c3⟩ := pick_ok hl 4 c2 (by omega) (by omega)
    simp only [if_pos h, e2, e3, Option.bind_some]
    rw [if_pos h0, if_pos (by simpa using h1)]
    exact ⟨_, rfl⟩
  · obtain ⟨r3, a3, s3, e3, h0, h1, c3⟩ := pick_ok hl 4001 c1 (by omega) (by omega)
    simp only [if_neg h, e3, Option.bind_some]
    exact ⟨_, rfl⟩
theorem numof_back (n : Int) (m : Nat) (h : -32767 ≤ n ∧ n ≤ 32767) (hm : m ≤ 16) (hl : isLen (if n < 0 then -n else n) m) (v : Int) (hv : v = if n < 0 then wrap64 (wrap64 (n + shl .i64 1 (m : Int)) - 1) else n) :
    m < 16 ∧ 0 ≤ v ∧ v < shl .i64 1 (m : Int) ∧ impl_NumOf.f 2 (m : Int) v = some n ∧ ((n == 0) == ((m : Int) == 0)) = true := by
  have hm' : m < 16 := by
    rcases Nat.lt_or_ge m 16 with h' | h'
    · exact h'
    · obtain rfl : m = 16 := by omega
      rcases hl with ⟨h', _⟩ | ⟨_, h', _⟩
      · omega
      · have : (2 : Int) ^ (16 - 1) = 32768 := by decide
        split at h' <;> omega
  refine ⟨hm', ?_⟩
  have hs : shl .i64 1 (m : Int) = (2 : Int) ^ m := by
    have key : ∀ j : Fin 16, shl .i64 1 (j.val : Int) = (2 : Int) ^ j.val := by decide +kernel
    exact key ⟨m, hm'⟩
  have hp2 : (2 : Int) ^ m ≤ 32768 := by
    have key : ∀ j : Fin 16, (2 : Int) ^ j.val ≤ 32768 := by decide +kernel
    exact key ⟨m, hm'⟩
  have hp1 := two_pos m
  rw [hs] at hv ⊢
  have hv' : v = if n < 0 then n + (2 : Int) ^ m - 1 else n := by
    rw [hv]
    split
    · rw [w64 (x := n + (2 : Int) ^ m) (by omega) (by omega), w64 (by omega) (by omega)]
    · rfl
  unfold impl_NumOf.f
  rw [within_eq]
  cases m with
  | zero =>
    rcases hl with ⟨_, hx⟩ | ⟨hx, _⟩
    · have hn : n = 0 := by split at hx <;> omega
      subst hn
      have : v = 0 := by simpa using hv'
      subst this
      refine ⟨by omega, by decide, by decide +kernel, rfl⟩
    · omega
  | succ m =>
    rcases hl with ⟨hx, _⟩ | ⟨_, h1, h2⟩
    · omega
    · rw [Nat.add_sub_cancel] at h1
      have hq1 := two_pos m
      have hsm : shl .i64 1 ((m + 1 : Nat) : Int) = (2 : Int) ^ (m + 1) := hs
      rw [two_pow] at h2 hv' hp2 hsm ⊢
      have hmin : min ((m : Int)).toNat (IntKind.bits .i64) = m := by simp [IntKind.bits]; omega
      have hw1 : wrap64 (((m + 1 : Nat) : Int) - 1) = (m : Int) := by rw [w64 (by omega) (by omega)]; omega
      have hb : 0 ≤ v ∧ v < 2 * (2 : Int) ^ m := by
        rw [hv']; split at h1 <;> (split <;> first | omega | (exfalso; omega))
      refine ⟨hb.1, hb.2, ?_, ?_⟩
      · rw [decide_eq_true (by omega), Option.bind_some, if_pos rfl, if_pos (by omega), within_eq, hsm, w64 (x := 2 * (2 : Int) ^ m - 1) (by omega) (by omega), decide_eq_true (by omega), Option.bind_some, impl_NumOf.j0, if_neg (by decide), hw1, if_pos (by omega), shr, hmin, hsm]
        by_cases hn : n < 0
        · rw [if_pos hn] at h1 h2 hv'
          rw [Int.ediv_eq_zero_of_lt hb.1 (by omega), if_neg (by omega), if_pos (by omega), w64 (x := v - 2 * (2 : Int) ^ m) (by omega) (by omega), w64 (by omega) (by omega)]
          congr 1; omega
        · rw [if_neg hn] at h1 h2 hv'
          have hd : v / (2 : Int) ^ m = 1 := by
            rw [show v = (v - (2 : Int) ^ m) + 1 * (2 : Int) ^ m by omega, Int.add_mul_ediv_right _ _ (by omega), Int.ediv_eq_zero_of_lt (by omega) (by omega)]; rfl
          rw [hd, if_pos rfl, hv']
      · have : ¬ n = 0 := by split at h1 <;> omega
        have h' : ¬ ((m + 1 : Nat) : Int) = 0 := by omega
        rw [show (n == 0) = false from beq_eq_false_iff_ne.mpr this, show (((m + 1 : Nat) : Int) == 0) = false from beq_eq_false_iff_ne.mpr h']; rfl
theorem FnNumsBack : laws_FnNumsBack.Pure := by
  intro l hm hr hw
  unfold laws_FnNumsBack.f
  by_cases hbig : (l.length : Int) > 1048576
  · exact ⟨0, by rw [big_yes hbig]; rfl⟩
  rw [big_no hbig]
  obtain ⟨n, hd⟩ := draw_class (bytes_of hbig hw)
  obtain ⟨c, e1, e2, hc⟩ := class_eq n
  obtain ⟨v, f1, f2, hv⟩ := bits_eq n c e1 e2 hc
  refine ⟨43, ?_⟩
  simp only [hd, e1 43 (by omega), e2 43 (by omega), f1 43 (by omega), f2 43 (by omega), Option.bind_some, if_true, Bool.false_eq_true, if_false, bne_self_eq_false]
  rw [laws_FnNumsBack.j0, if_neg (by decide)]
  rcases hc with ⟨rfl, h⟩ | ⟨h, m, rfl, hm, hl⟩
  · rcases hv with ⟨_, rfl⟩ | ⟨hx, _⟩
    · rfl
    · omega
  · rcases hv with ⟨hx, _⟩ | ⟨_, hv⟩
    · omega
    · obtain ⟨g1, g2, g3, g4, g5⟩ := numof_back n m h hm hl v hv
      rw [if_neg (by omega), if_pos (by omega), if_pos (by omega), if_pos (by omega), if_pos g3, at_rounds (impl_NumOf.mono _ _) (show 2 ≤ 42 by omega) g4, Option.bind_some, if_pos rfl, g5]

end Go.Proofs.Ytbiamhmjcnmjgaa.Pure
