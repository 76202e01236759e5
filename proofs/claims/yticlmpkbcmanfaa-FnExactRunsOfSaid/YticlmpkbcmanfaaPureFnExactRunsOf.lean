/- The pure statement of the law FnExactRunsOf, for every input that its guards let in. -/
import Derived.Test.YticlmpkbcmanfaaPFnExactRunsOfx5
import Derived.Test.YticlmpkbcmanfaaWSized
-- The printed row names this word without its seat: the same fact under that name.
namespace Go.Proofs.PrintWords
theorem sized_ints {H : Type} {enc : TypeId × Value → H} {P : Program} {W : World} {base : Nat} {spare : Nat → Bool} {held : Bool} {t e : TypeId} {k : IntKind} {a : Option Addr} {len cap : Nat} {d : DataW H} {ps : List MemPlace} {ts : List TypeId} {ds : List (DataW H)} {j : Nat} (hsz : (DataW.weightsEach P ts ds).all (· ≤ reachBytes) = true) (ht : ts[j]? = some t) (hd : ds[j]? = some d) (hu : P.underlying t = some (.slice e)) (he : P.underlying e = some (.int k)) (hc : P.cellsOf e = 1) {B : Nat} (hB : P.bytesOf e = B) (h : DataW.Trod enc P W base spare held t (.slice a len cap) d ps) : len * B ≤ 140737488351232 := Go.Proofs.YticlmpkbcmanfaaW.PrintWords.sized_ints hsz ht hd hu he hc hB h
end Go.Proofs.PrintWords
namespace Go.Proofs.Yticlmpkbcmanfaa.Pure
open Go.RowKit Go.Proofs.Yticlmpkbcmanfaa.PFnExactRunsOf Go.Proofs.YticlmpkbcmanfaaW.PrintWords Go.Proofs.YticlmpkbcmanfaaW.PrintLast Go.Proofs.YticlmpkbcmanfaaW.PrintMore
set_option linter.unusedVariables false
set_option linter.unusedSimpArgs false
set_option maxRecDepth 4000

theorem w64 {x : Int} (h1 : -9223372036854775808 ≤ x) (h2 : x ≤ 9223372036854775807) : wrap64 x = x := by unfold wrap64; omega
theorem wsucc {i : Nat} (h : i ≤ 4611686018427387904) : wrap64 ((i : Int) + 1) = ((i + 1 : Nat) : Int) := by unfold wrap64; omega
theorem rd_nat (l : List Int) (i : Nat) (h : i < l.length) : rd l (i : Int) = l[i] := by simp [rd, List.getD_eq_getElem?_getD, h]
theorem drop_at {α : Type} (l : List α) (i : Nat) (h : i < l.length) : l.drop i = l[i] :: l.drop (i + 1) := List.drop_eq_getElem_cons h
theorem wf64 {x : Int} (h : (Lit.int .i64 x).wf = true) : -9223372036854775808 ≤ x ∧ x ≤ 9223372036854775807 := by
  simp [Lit.wf, IntKind.min, IntKind.max, IntKind.bits, IntKind.signed] at h; omega
theorem wfu8 {x : Int} (h : (Lit.int .u8 x).wf = true) : 0 ≤ x ∧ x ≤ 255 := by
  simp [Lit.wf, IntKind.min, IntKind.max, IntKind.bits, IntKind.signed] at h; omega

theorem between_eq (a lo hi : Int) : spec_l01Between.f a lo hi = some (decide (lo ≤ a ∧ a ≤ hi)) := by
  unfold spec_l01Between.f
  by_cases h : a ≥ lo
  · rw [if_pos h]; congr 1; simp; omega
  · rw [if_neg h]; congr 1; simp; omega

theorem within_eq (a lo hi : Int) : impl_within.f a lo hi = some (decide (lo ≤ a ∧ a ≤ hi)) := by
  unfold impl_within.f
  by_cases h : a ≥ lo
  · rw [if_pos h]; congr 1; simp; omega
  · rw [if_neg h]; congr 1; simp; omega

theorem tdw {x y : Int} (h0 : 0 ≤ x) (h1 : x ≤ 4611686018427387904) (hy : 0 < y) : wrap64 (Int.tdiv x y) = x / y := by
  rw [Int.tdiv_eq_ediv_of_nonneg h0]
  have a := Int.ediv_nonneg h0 (Int.le_of_lt hy)
  have b := Int.ediv_le_self y h0
  exact w64 (by omega) (by omega)
theorem div_bd {x y : Int} (h0 : 0 ≤ x) (hy : 0 < y) : 0 ≤ x / y ∧ x / y ≤ x := ⟨Int.ediv_nonneg h0 (Int.le_of_lt hy), Int.ediv_le_self y h0⟩

def isLen (x : Int) (m : Nat) : Prop := (m = 0 ∧ x = 0) ∨ (1 ≤ m ∧ (2 : Int) ^ (m - 1) ≤ x ∧ x < (2 : Int) ^ m)
theorem two_pow (m : Nat) : (2 : Int) ^ (m + 1) = 2 * (2 : Int) ^ m := by rw [Int.pow_succ, Int.mul_comm]
theorem two_pos (m : Nat) : 1 ≤ (2 : Int) ^ m := by
  induction m with
  | zero => simp
  | succ m ih => rw [two_pow]; omega
theorem specClass_loop : ∀ (m k : Nat) (c x : Int), 0 ≤ c → c + m ≤ 1000 → x ≤ 4294967296 → isLen x m → m < k → spec_ClassOf.l0 k c x = some (c + m) := by
  intro m
  induction m with
  | zero =>
    intro k c x h0 h1 hx h hk
    obtain ⟨k, rfl⟩ : ∃ m, k = m + 1 := ⟨k - 1, by omega⟩
    rcases h with ⟨_, h⟩ | ⟨h, _⟩
    · rw [spec_ClassOf.l0, if_neg (by omega)]; simp
    · omega
  | succ m ih =>
    intro k c x h0 h1 hx h hk
    obtain ⟨k, rfl⟩ : ∃ m, k = m + 1 := ⟨k - 1, by omega⟩
    rcases h with ⟨h, _⟩ | ⟨_, hlo, hhi⟩
    · omega
    · rw [Nat.add_sub_cancel] at hlo
      have hp := two_pos m
      rw [two_pow] at hhi
      have hl : isLen (x / 2) m := by
        cases m with
        | zero => exact .inl ⟨rfl, by simp at hlo hhi; omega⟩
        | succ m =>
          refine .inr ⟨by omega, ?_, by omega⟩
          rw [two_pow] at hlo
          rw [Nat.add_sub_cancel]
          omega
      rw [spec_ClassOf.l0, if_pos (by omega), tdw (by omega) (by omega) (by omega), w64 (by omega) (by omega), ih k (c + 1) (x / 2) (by omega) (by omega) (by omega) hl (by omega)]
      congr 1; omega
def tab : ByteArray := ⟨#[0, 1, 2, 2, 3, 3, 3, 3, 4, 4, 4, 4, 4, 4, 4, 4, 5, 5, 5, 5, 5, 5, 5, 5, 5, 5, 5, 5, 5, 5, 5, 5, 6, 6, 6, 6, 6, 6, 6, 6, 6, 6, 6, 6, 6, 6, 6, 6, 6, 6, 6, 6, 6, 6, 6, 6, 6, 6, 6, 6, 6, 6, 6, 6, 7, 7, 7, 7, 7, 7, 7, 7, 7, 7, 7, 7, 7, 7, 7, 7, 7, 7, 7, 7, 7, 7, 7, 7, 7, 7, 7, 7, 7, 7, 7, 7, 7, 7, 7, 7, 7, 7, 7, 7, 7, 7, 7, 7, 7, 7, 7, 7, 7, 7, 7, 7, 7, 7, 7, 7, 7, 7, 7, 7, 7, 7, 7, 7, 8, 8, 8, 8, 8, 8, 8, 8, 8, 8, 8, 8, 8, 8, 8, 8, 8, 8, 8, 8, 8, 8, 8, 8, 8, 8, 8, 8, 8, 8, 8, 8, 8, 8, 8, 8, 8, 8, 8, 8, 8, 8, 8, 8, 8, 8, 8, 8, 8, 8, 8, 8, 8, 8, 8, 8, 8, 8, 8, 8, 8, 8, 8, 8, 8, 8, 8, 8, 8, 8, 8, 8, 8, 8, 8, 8, 8, 8, 8, 8, 8, 8, 8, 8, 8, 8, 8, 8, 8, 8, 8, 8, 8, 8, 8, 8, 8, 8, 8, 8, 8, 8, 8, 8, 8, 8, 8, 8, 8, 8, 8, 8, 8, 8, 8, 8, 8, 8, 8, 8, 8, 8, 8, 8, 8, 8, 8, 8]⟩
theorem tab_small (y : Int) (h0 : 0 ≤ y) (h1 : y < 256) : ∃ m : Nat, m ≤ 8 ∧ bt tab y = (m : Int) ∧ isLen y m := by
  have key : ∀ j : Fin 256, ((bt tab (j.val : Int)) = 0 ∧ j.val = 0) ∨ (1 ≤ (bt tab (j.val : Int)).toNat ∧ (bt tab (j.val : Int)).toNat ≤ 8 ∧ 0 ≤ bt tab (j.val : Int) ∧ (2 : Int) ^ ((bt tab (j.val : Int)).toNat - 1) ≤ (j.val : Int) ∧ (j.val : Int) < (2 : Int) ^ (bt tab (j.val : Int)).toNat) := by decide +kernel
  obtain ⟨n, rfl⟩ := Int.eq_ofNat_of_zero_le h0
  rcases key ⟨n, by omega⟩ with ⟨h, hn⟩ | ⟨ha, hb, hc, hd, he⟩
  · simp only at h hn
    subst hn
    exact ⟨0, by omega, h, .inl ⟨rfl, rfl⟩⟩
  · simp only at ha hb hc hd he
    exact ⟨(bt tab (n : Int)).toNat, hb, (Int.toNat_of_nonneg hc).symm, .inr ⟨ha, hd, he⟩⟩
theorem len64_eq (x : Int) (h0 : 0 ≤ x) (h1 : x < 65536) : ∃ m : Nat, m ≤ 16 ∧ isLen x m ∧ ∀ k : Nat, 0 < k → bits_Len64.f k x = some (m : Int) := by
  by_cases h : x ≥ 256
  · obtain ⟨m, hm, hb, hl⟩ := tab_small (x / 256) (by omega) (by omega)
    refine ⟨m + 8, by omega, ?_, fun k hk => ?_⟩
    · rcases hl with ⟨_, hl⟩ | ⟨ha, hc, hd⟩
      · omega
      · refine .inr ⟨by omega, ?_, ?_⟩
        · rw [show m + 8 - 1 = m - 1 + 8 by omega, Int.pow_add]
          have : (2 : Int) ^ 8 = 256 := by decide
          omega
        · rw [Int.pow_add]
          have : (2 : Int) ^ 8 = 256 := by decide
          omega
    · obtain ⟨k, rfl⟩ : ∃ m, k = m + 1 := ⟨k - 1, by omega⟩
      unfold bits_Len64.f
      rw [if_neg (by omega), bits_Len64.j0, if_neg (by omega), if_pos h, if_pos (by omega), if_pos (by omega)]
      show some (wrap64 (wrap64 (0 + 8) + wrap64 (bt tab (x / 256 % 256)))) = _
      rw [show x / 256 % 256 = x / 256 by omega, hb, w64 (x := 0 + 8) (by omega) (by omega), w64 (x := (m : Int)) (by omega) (by omega), w64 (by omega) (by omega)]
      congr 1; omega
  · obtain ⟨m, hm, hb, hl⟩ := tab_small x (by omega) (by omega)
    refine ⟨m, by omega, hl, fun k hk => ?_⟩
    obtain ⟨k, rfl⟩ : ∃ m, k = m + 1 := ⟨k - 1, by omega⟩
    unfold bits_Len64.f
    rw [if_neg (by omega), bits_Len64.j0, if_neg (by omega), if_neg h, if_pos (by omega), if_pos (by omega)]
    show some (wrap64 (0 + wrap64 (bt tab (x % 256)))) = _
    rw [show x % 256 = x by omega, hb, w64 (x := (m : Int)) (by omega) (by omega), w64 (by omega) (by omega)]
    congr 1; omega
theorem absW (n : Int) (h : -32767 ≤ n ∧ n ≤ 32767) : IntKind.u64.wrap (mx n (wrap64 (-n))) = (if n < 0 then -n else n) := by
  have e : mx n (wrap64 (-n)) = (if n < 0 then -n else n) := by
    rw [w64 (by omega) (by omega)]; unfold mx; (repeat' split) <;> omega
  rw [e]
  simp only [IntKind.wrap, IntKind.bits, IntKind.signed]
  split <;> simp <;> omega
/-- The class: of a number's own size; -1 where the number is too great. -/
theorem class_eq (n : Int) : ∃ c : Int, (∀ k : Nat, 40 ≤ k → spec_ClassOf.f k n = some c) ∧ (∀ k : Nat, 40 ≤ k → impl_ClassOf.f k n = some c) ∧ ((c = -1 ∧ ¬ (-32767 ≤ n ∧ n ≤ 32767)) ∨ ((-32767 ≤ n ∧ n ≤ 32767) ∧ ∃ m : Nat, c = (m : Int) ∧ m ≤ 16 ∧ isLen (if n < 0 then -n else n) m)) := by
  by_cases h : -32767 ≤ n ∧ n ≤ 32767
  · obtain ⟨m, hm, hl, hf⟩ := len64_eq (if n < 0 then -n else n) (by split <;> omega) (by split <;> omega)
    refine ⟨m, fun k hk => ?_, fun k hk => ?_, .inr ⟨h, m, rfl, hm, hl⟩⟩
    · unfold spec_ClassOf.f spec_l07Abs.f
      rw [between_eq, decide_eq_true h, Option.bind_some, if_pos rfl]
      have e : (if n < 0 then some (wrap64 (-n)) else some n) = some (if n < 0 then -n else n) := by
        split
        · rw [w64 (by omega) (by omega)]
        · rfl
      rw [e, Option.bind_some, specClass_loop m k 0 _ (by omega) (by omega) (by split <;> omega) hl (by omega)]
      congr 1; omega
    · unfold impl_ClassOf.f impl_isCoef.f bits_Len.f
      rw [within_eq, decide_eq_true h, Option.bind_some, Option.bind_some, if_pos rfl, absW n h, hf k (by omega)]; rfl
  · refine ⟨-1, fun k hk => ?_, fun k hk => ?_, .inl ⟨rfl, h⟩⟩
    · unfold spec_ClassOf.f
      rw [between_eq, decide_eq_false h]; rfl
    · unfold impl_ClassOf.f impl_isCoef.f
      rw [within_eq, decide_eq_false h]; rfl

theorem bits_eq (n : Int) (c : Int) (e1 : ∀ k : Nat, 40 ≤ k → spec_ClassOf.f k n = some c) (e2 : ∀ k : Nat, 40 ≤ k → impl_ClassOf.f k n = some c) (hc : (c = -1 ∧ ¬ (-32767 ≤ n ∧ n ≤ 32767)) ∨ ((-32767 ≤ n ∧ n ≤ 32767) ∧ ∃ m : Nat, c = (m : Int) ∧ m ≤ 16 ∧ isLen (if n < 0 then -n else n) m)) :
    ∃ v, (∀ k : Nat, 40 ≤ k → spec_BitsOf.f k n = some v) ∧ (∀ k : Nat, 40 ≤ k → impl_BitsOf.f k n = some v) ∧ ((c = -1 ∧ v = -1) ∨ (0 ≤ c ∧ v = if n < 0 then wrap64 (wrap64 (n + shl .i64 1 c) - 1) else n)) := by
  rcases hc with ⟨rfl, h⟩ | ⟨h, m, rfl, hm, hl⟩
  · refine ⟨-1, fun k hk => ?_, fun k hk => ?_, .inl ⟨rfl, rfl⟩⟩
    · unfold spec_BitsOf.f spec_l07Most.f
      rw [e1 k hk]; rfl
    · unfold impl_BitsOf.f impl_isCoef.f
      rw [within_eq, decide_eq_false h]; rfl
  · refine ⟨if n < 0 then wrap64 (wrap64 (n + shl .i64 1 (m : Int)) - 1) else n, fun k hk => ?_, fun k hk => ?_, .inr ⟨by omega, rfl⟩⟩
    · unfold spec_BitsOf.f spec_l07Most.f
      rw [e1 k hk, Option.bind_some, if_neg (by omega)]
      by_cases hn : n < 0
      · rw [if_neg (by omega), if_pos (by omega), if_pos hn]
      · rw [if_pos (by omega), if_neg (by omega), if_neg hn]; rfl
    · unfold impl_BitsOf.f impl_isCoef.f
      rw [within_eq, decide_eq_true h, Option.bind_some, Option.bind_some, if_pos rfl, e2 k hk, Option.bind_some]
      by_cases hn : n < 0
      · rw [if_pos hn, if_pos (by omega), if_pos hn]
      · rw [if_neg hn, if_neg hn]

def inR (lo hi : Int) (l : List Int) : Bool := l.all fun x => decide (lo ≤ x ∧ x ≤ hi)
theorem inR_nil (lo hi : Int) : inR lo hi [] = true := rfl
theorem inR_cons (lo hi x : Int) (l : List Int) : inR lo hi (x :: l) = (decide (lo ≤ x ∧ x ≤ hi) && inR lo hi l) := rfl
theorem inR_at {lo hi : Int} {l : List Int} (h : inR lo hi l = true) (i : Nat) (hi' : i < l.length) : lo ≤ l[i] ∧ l[i] ≤ hi := by
  unfold inR at h; rw [List.all_eq_true] at h; simpa using h l[i] (List.getElem_mem hi')

theorem allWithin_loop (l : List Int) (lo hi : Int) (hl : l.length ≤ 4611686018427387904) : ∀ (d k i : Nat), i + d = l.length → d < k → impl_allWithin.l0 k lo hi l (l.length : Int) (i : Int) = some (inR lo hi (l.drop i)) := by
  intro d
  induction d with
  | zero =>
    intro k i h1 hk
    obtain ⟨k, rfl⟩ : ∃ m, k = m + 1 := ⟨k - 1, by omega⟩
    rw [impl_allWithin.l0, if_neg (by omega), List.drop_eq_nil_of_le (by omega), inR_nil]
  | succ d ih =>
    intro k i h1 hk
    obtain ⟨k, rfl⟩ : ∃ m, k = m + 1 := ⟨k - 1, by omega⟩
    rw [impl_allWithin.l0, if_pos (by omega), if_pos (by omega), if_pos (by omega), within_eq, rd_nat l i (by omega), wsucc (by omega), ih k (i + 1) (by omega) (by omega), drop_at l i (by omega), inR_cons]
    simp only [Option.bind_some]
    by_cases h : lo ≤ l[i] ∧ l[i] ≤ hi <;> simp [h]
theorem allWithin_eq (l : List Int) (lo hi : Int) (hl : l.length ≤ 4611686018427387904) (k : Nat) (hk : l.length < k) : impl_allWithin.f k l lo hi = some (inR lo hi l) := by
  unfold impl_allWithin.f
  exact allWithin_loop l lo hi hl l.length k 0 (by omega) hk

theorem rd_getD (l : List Int) (i : Nat) : rd l (i : Int) = l.getD i 0 := by simp [rd]
theorem push_loop {α β : Type} (F : Nat → List α → Int → Option β) (g : Nat → α) (n : Nat) (res : β)
    (hstep : ∀ (k i : Nat) (a : List α), i < n → a.length = i → F (k + 1) a (i : Int) = F k (a ++ [g i]) ((i + 1 : Nat) : Int))
    (hend : ∀ k : Nat, F (k + 1) ((List.range n).map g) (n : Int) = some res) : ∀ k : Nat, n < k → F k [] 0 = some res := by
  have main : ∀ (d k i : Nat), i + d = n → d < k → F k ((List.range i).map g) (i : Int) = some res := by
    intro d
    induction d with
    | zero =>
      intro k i h1 hk
      obtain ⟨k, rfl⟩ : ∃ m, k = m + 1 := ⟨k - 1, by omega⟩
      obtain rfl : i = n := by omega
      exact hend k
    | succ d ih =>
      intro k i h1 hk
      obtain ⟨k, rfl⟩ : ∃ m, k = m + 1 := ⟨k - 1, by omega⟩
      rw [hstep k i _ (by omega) (by simp)]
      have e : (List.range (i + 1)).map g = (List.range i).map g ++ [g i] := by rw [List.range_succ, List.map_append]; rfl
      rw [← e]
      exact ih k (i + 1) (by omega) (by omega)
  intro k hk
  exact main n k 0 (by omega) hk
theorem state_loop {σ β : Type} (F : Nat → σ → Int → Option β) (s : Nat → σ) (n : Nat) (res : β)
    (hstep : ∀ (k i : Nat), i < n → F (k + 1) (s i) (i : Int) = F k (s (i + 1)) ((i + 1 : Nat) : Int))
    (hend : ∀ k : Nat, F (k + 1) (s n) (n : Int) = some res) : ∀ k : Nat, n < k → F k (s 0) 0 = some res := by
  have main : ∀ (d k i : Nat), i + d = n → d < k → F k (s i) (i : Int) = some res := by
    intro d
    induction d with
    | zero =>
      intro k i h1 hk
      obtain ⟨k, rfl⟩ : ∃ m, k = m + 1 := ⟨k - 1, by omega⟩
      obtain rfl : i = n := by omega
      exact hend k
    | succ d ih =>
      intro k i h1 hk
      obtain ⟨k, rfl⟩ : ∃ m, k = m + 1 := ⟨k - 1, by omega⟩
      rw [hstep k i (by omega)]
      exact ih k (i + 1) (by omega) (by omega)
  intro k hk
  exact main n k 0 (by omega) hk
theorem inR_getD {lo hi : Int} {l : List Int} (h : inR lo hi l = true) (i : Nat) (h' : i < l.length) : lo ≤ l.getD i 0 ∧ l.getD i 0 ≤ hi := by
  have := inR_at h i h'
  simpa [List.getD_eq_getElem?_getD, h'] using this

def clsV (n : Int) : Int := (spec_ClassOf.f 40 n).getD 0
def btsV (n : Int) : Int := (spec_BitsOf.f 40 n).getD 0
theorem class_full (n : Int) : (∀ k : Nat, 40 ≤ k → spec_ClassOf.f k n = some (clsV n)) ∧ (∀ k : Nat, 40 ≤ k → impl_ClassOf.f k n = some (clsV n)) ∧ (∀ k : Nat, 40 ≤ k → spec_BitsOf.f k n = some (btsV n)) ∧ (∀ k : Nat, 40 ≤ k → impl_BitsOf.f k n = some (btsV n)) ∧ ((clsV n = -1 ∧ ¬ (-32767 ≤ n ∧ n ≤ 32767)) ∨ ((-32767 ≤ n ∧ n ≤ 32767) ∧ ∃ m : Nat, clsV n = (m : Int) ∧ m ≤ 16 ∧ isLen (if n < 0 then -n else n) m ∧ btsV n = if n < 0 then wrap64 (wrap64 (n + shl .i64 1 (m : Int)) - 1) else n)) := by
  obtain ⟨c, e1, e2, hc⟩ := class_eq n
  obtain ⟨v, f1, f2, hv⟩ := bits_eq n c e1 e2 hc
  have hcv : clsV n = c := by unfold clsV; rw [e1 40 (by omega)]; rfl
  have hbv : btsV n = v := by unfold btsV; rw [f1 40 (by omega)]; rfl
  rw [hcv, hbv]
  refine ⟨e1, e2, f1, f2, ?_⟩
  rcases hc with ⟨h, h'⟩ | ⟨h, m, h1, h2, h3⟩
  · exact .inl ⟨h, h'⟩
  · refine .inr ⟨h, m, h1, h2, h3, ?_⟩
    rcases hv with ⟨hx, _⟩ | ⟨_, hv⟩
    · omega
    · rw [hv, h1]
def runsG : Nat → List Int → List S83
  | r, [] => if 0 < r then [⟨0, 0, 0⟩] else []
  | r, x :: xs => if x = 0 then runsG (r + 1) xs else List.replicate (r / 16) ⟨15, 0, 0⟩ ++ ⟨((r % 16 : Nat) : Int), clsV x, btsV x⟩ :: runsG 0 xs
theorem runsG_len : ∀ (l : List Int) (r : Nat), (runsG r l).length ≤ l.length + (r + 15) / 16
  | [], r => by
    unfold runsG
    split <;> simp <;> omega
  | x :: xs, r => by
    have h1 := runsG_len xs (r + 1)
    have h2 := runsG_len xs 0
    unfold runsG
    split
    · simp only [List.length_cons]; omega
    · simp only [List.length_append, List.length_replicate, List.length_cons]; omega
theorem specRuns_l1 (l : List Int) (i : Nat) (hi : i < l.length) (hl : l.length ≤ 64) : ∀ (q k : Nat) (a : List S83) (s : Nat), s < 16 → q ≤ 1000 → 40 ≤ k → a.length + q ≤ 2000 → spec_RunsOf.l1 (k + q + 1) l a ((16 * q + s : Nat) : Int) (i : Int) = spec_RunsOf.l0 k l (a ++ (List.replicate q ⟨15, 0, 0⟩ ++ [⟨(s : Int), clsV l[i], btsV l[i]⟩])) 0 ((i + 1 : Nat) : Int) := by
  intro q
  induction q with
  | zero =>
    intro k a s hs hq hk ha
    obtain ⟨c1, _, c3, _, _⟩ := class_full l[i]
    rw [spec_RunsOf.l1, if_neg (by omega), if_pos (by omega), if_pos (by omega), rd_nat l i hi, c1 _ (by omega), Option.bind_some, c3 _ (by omega), Option.bind_some, if_pos (by omega), wsucc (by omega)]
    simp
  | succ q ih =>
    intro k a s hs hq hk ha
    rw [show k + (q + 1) + 1 = (k + q + 1) + 1 by omega, spec_RunsOf.l1, if_pos (by omega), if_pos (by omega), w64 (by omega) (by omega), show ((16 * (q + 1) + s : Nat) : Int) - 16 = ((16 * q + s : Nat) : Int) by omega, ih k _ s hs (by omega) hk (by simp; omega)]
    simp [List.replicate_succ]
theorem specRuns_l0 (l : List Int) (hl : l.length ≤ 64) : ∀ (d k i r : Nat) (a : List S83), i + d = l.length → r ≤ i → 41 + 10 * d ≤ k → a.length ≤ 10 * i → spec_RunsOf.l0 k l a (r : Int) (i : Int) = some (a ++ runsG r (l.drop i)) := by
  intro d
  induction d with
  | zero =>
    intro k i r a h1 hr hk ha
    obtain ⟨k, rfl⟩ : ∃ m, k = m + 1 := ⟨k - 1, by omega⟩
    rw [spec_RunsOf.l0, if_neg (by omega), List.drop_eq_nil_of_le (by omega), runsG]
    by_cases h : 0 < r
    · rw [if_pos (by omega), if_pos (by omega), if_pos h]
    · rw [if_neg (by omega), if_neg h, List.append_nil]
  | succ d ih =>
    intro k i r a h1 hr hk ha
    obtain ⟨k, rfl⟩ : ∃ m, k = m + 1 := ⟨k - 1, by omega⟩
    rw [spec_RunsOf.l0, if_pos (by omega), if_pos (by omega), rd_nat l i (by omega), drop_at l i (by omega), runsG]
    by_cases h : l[i] = 0
    · rw [if_pos h, if_pos h, wsucc (by omega), wsucc (by omega)]
      exact ih k (i + 1) (r + 1) a (by omega) (by omega) (by omega) (by omega)
    · rw [if_neg h, if_neg h]
      obtain ⟨j, rfl⟩ : ∃ j, k = j + r / 16 + 1 := ⟨k - r / 16 - 1, by omega⟩
      have e := specRuns_l1 l i (by omega) hl (r / 16) j a (r % 16) (by omega) (by omega) (by omega) (by omega)
      rw [show 16 * (r / 16) + r % 16 = r by omega] at e
      rw [e]
      have e2 := ih j (i + 1) 0 (a ++ (List.replicate (r / 16) ⟨15, 0, 0⟩ ++ [⟨((r % 16 : Nat) : Int), clsV l[i], btsV l[i]⟩])) (by omega) (by omega) (by omega) (by simp; omega)
      refine e2.trans ?_
      simp
theorem implRuns_l1 (l : List Int) (i : Nat) (hi : i < l.length) (hl : l.length ≤ 64) : ∀ (q k : Nat) (a : List S83) (s : Nat), s < 16 → q ≤ 1000 → 40 ≤ k → a.length + q ≤ 2000 → impl_runsOf.l1 (k + q + 1) a ((16 * q + s : Nat) : Int) l[i] l (l.length : Int) (i : Int) = impl_runsOf.l0 k (a ++ (List.replicate q ⟨15, 0, 0⟩ ++ [⟨(s : Int), clsV l[i], btsV l[i]⟩])) 0 l (l.length : Int) ((i + 1 : Nat) : Int) := by
  intro q
  induction q with
  | zero =>
    intro k a s hs hq hk ha
    obtain ⟨_, c1, _, c3, _⟩ := class_full l[i]
    rw [impl_runsOf.l1, if_neg (by omega), c1 _ (by omega), Option.bind_some, c3 _ (by omega), Option.bind_some, if_pos (by omega), wsucc (by omega)]
    simp
  | succ q ih =>
    intro k a s hs hq hk ha
    rw [show k + (q + 1) + 1 = (k + q + 1) + 1 by omega, impl_runsOf.l1, if_pos (by omega), if_pos (by omega), w64 (by omega) (by omega), show ((16 * (q + 1) + s : Nat) : Int) - 16 = ((16 * q + s : Nat) : Int) by omega, ih k _ s hs (by omega) hk (by simp; omega)]
    simp [List.replicate_succ]
theorem implRuns_l0 (l : List Int) (hl : l.length ≤ 64) : ∀ (d k i r : Nat) (a : List S83), i + d = l.length → r ≤ i → 41 + 10 * d ≤ k → a.length ≤ 10 * i → impl_runsOf.l0 k a (r : Int) l (l.length : Int) (i : Int) = some (a ++ runsG r (l.drop i)) := by
  intro d
  induction d with
  | zero =>
    intro k i r a h1 hr hk ha
    obtain ⟨k, rfl⟩ : ∃ m, k = m + 1 := ⟨k - 1, by omega⟩
    rw [impl_runsOf.l0, if_neg (by omega), List.drop_eq_nil_of_le (by omega), runsG]
    by_cases h : 0 < r
    · rw [if_pos (by omega), if_pos (by omega), if_pos h]
    · rw [if_neg (by omega), if_neg h, List.append_nil]
  | succ d ih =>
    intro k i r a h1 hr hk ha
    obtain ⟨k, rfl⟩ : ∃ m, k = m + 1 := ⟨k - 1, by omega⟩
    rw [impl_runsOf.l0, if_pos (by omega), if_pos (by omega), if_pos (by omega), rd_nat l i (by omega), drop_at l i (by omega), runsG]
    by_cases h : l[i] = 0
    · rw [if_pos h, if_pos h, wsucc (by omega), wsucc (by omega)]
      exact ih k (i + 1) (r + 1) a (by omega) (by omega) (by omega) (by omega)
    · rw [if_neg h, if_neg h]
      obtain ⟨j, rfl⟩ : ∃ j, k = j + r / 16 + 1 := ⟨k - r / 16 - 1, by omega⟩
      have e := implRuns_l1 l i (by omega) hl (r / 16) j a (r % 16) (by omega) (by omega) (by omega) (by omega)
      rw [show 16 * (r / 16) + r % 16 = r by omega] at e
      rw [e]
      have e2 := ih j (i + 1) 0 (a ++ (List.replicate (r / 16) ⟨15, 0, 0⟩ ++ [⟨((r % 16 : Nat) : Int), clsV l[i], btsV l[i]⟩])) (by omega) (by omega) (by omega) (by simp; omega)
      refine e2.trans ?_
      simp
theorem implruns_eq (l : List Int) (hl : l.length ≤ 64) (k : Nat) (hk : 800 ≤ k) : impl_runsOf.f k l = some (runsG 0 l) := by
  unfold impl_runsOf.f
  exact implRuns_l0 l hl l.length k 0 0 [] (by omega) (by omega) (by omega) (by simp)
theorem coefs_loop (l : List Int) (hl : l.length ≤ 64) : ∀ (d k i : Nat), i + d = l.length → 41 + d ≤ k → spec_l07Coefs.l0 k l (i : Int) = some (inR (-32767) 32767 (l.drop i)) := by
  intro d
  induction d with
  | zero =>
    intro k i h1 hk
    obtain ⟨k, rfl⟩ : ∃ m, k = m + 1 := ⟨k - 1, by omega⟩
    rw [spec_l07Coefs.l0, if_neg (by omega), List.drop_eq_nil_of_le (by omega), inR_nil]
  | succ d ih =>
    intro k i h1 hk
    obtain ⟨k, rfl⟩ : ∃ m, k = m + 1 := ⟨k - 1, by omega⟩
    obtain ⟨c1, _, _, _, hc⟩ := class_full l[i]
    rw [spec_l07Coefs.l0, if_pos (by omega), if_pos (by omega), rd_nat l i (by omega), c1 _ (by omega), Option.bind_some, wsucc (by omega), ih k (i + 1) (by omega) (by omega), drop_at l i (by omega), inR_cons]
    rcases hc with ⟨h, h'⟩ | ⟨h, m, hm, _⟩
    · rw [if_pos (by omega), decide_eq_false h', Bool.false_and]
    · rw [if_neg (by omega), decide_eq_true h, Bool.true_and]
def coefsB (l : List Int) : Bool := decide ((l.length : Int) ≤ 64) && inR (-32767) 32767 l
def runsR (l : List Int) : List S83 := if coefsB l then runsG 0 l else []
theorem runsR_len (l : List Int) : (runsR l).length ≤ 64 := by
  unfold runsR
  by_cases h : coefsB l = true
  · rw [if_pos h]
    have := runsG_len l 0
    simp [coefsB] at h
    omega
  · rw [if_neg h]; simp
theorem specRunsOf_eq (l : List Int) (k : Nat) (hk : 800 ≤ k) : spec_RunsOf.f k l = some (runsR l) := by
  unfold spec_RunsOf.f runsR coefsB spec_l07Coefs.f
  rw [Option.bind_some]
  by_cases h : (l.length : Int) > 64
  · rw [if_pos h, decide_eq_false (by omega)]; rfl
  · have e : spec_l07Coefs.l0 k l 0 = some (inR (-32767) 32767 (l.drop 0)) := coefs_loop l (by omega) l.length k 0 (by omega) (by omega)
    rw [if_neg h, e, decide_eq_true (by omega), Bool.true_and, Option.bind_some, List.drop_zero]
    by_cases h2 : inR (-32767) 32767 l = true
    · rw [if_pos h2, if_pos h2]
      exact specRuns_l0 l (by omega) l.length k 0 0 [] (by omega) (by omega) (by omega) (by simp)
    · rw [if_neg h2, if_neg h2]
theorem implRunsOf_eq (l : List Int) (k : Nat) (hk : 800 ≤ k) : impl_RunsOf.f k l = some (runsR l) := by
  unfold impl_RunsOf.f runsR coefsB
  by_cases h : (l.length : Int) > 64
  · rw [if_pos h, decide_eq_false (by omega)]; rfl
  · rw [if_neg h, allWithin_eq l _ _ (by omega) k (by omega), Option.bind_some, decide_eq_true (by omega), Bool.true_and]
    by_cases h2 : inR (-32767) 32767 l = true
    · rw [if_pos h2, if_pos h2, implruns_eq l (by omega) k hk]; rfl
    · rw [if_neg h2, if_neg h2]

theorem eqItem_refl (a0 a1 a2 : Int) : laws_eqItem.f a0 a1 a2 a0 a1 a2 = some true := by simp [laws_eqItem.f]
theorem eqItemS_loop (l : List S83) (hl : l.length ≤ 4611686018427387904) : ∀ (d k i : Nat), i + d = l.length → d < k → laws_eqItemS.l0 k l l (i : Int) = some true := by
  intro d
  induction d with
  | zero =>
    intro k i hi hk
    obtain ⟨k, rfl⟩ : ∃ m, k = m + 1 := ⟨k - 1, by omega⟩
    rw [laws_eqItemS.l0, if_neg (by omega)]
  | succ d ih =>
    intro k i hi hk
    obtain ⟨k, rfl⟩ : ∃ m, k = m + 1 := ⟨k - 1, by omega⟩
    rw [laws_eqItemS.l0, if_pos (by omega), if_pos (by omega), if_pos (by omega), eqItem_refl, Option.bind_some, if_pos rfl, wsucc (by omega)]
    exact ih k (i + 1) (by omega) (by omega)
theorem eqItemS_refl (l : List S83) (hl : l.length ≤ 4611686018427387904) (k : Nat) (hk : l.length < k) : laws_eqItemS.f k l l = some true := by
  unfold laws_eqItemS.f
  rw [if_pos rfl]
  exact eqItemS_loop l hl l.length k 0 (by omega) hk
def marksItem (m : Int) (n : Nat) : List S83 := (List.range n).map fun j : Nat => ⟨(m + 3 * (j : Int)), (m + 3 * (j : Int)) + 1, (m + 3 * (j : Int)) + 2⟩
theorem marksItem_len (m : Int) (n : Nat) : (marksItem m n).length = n := by simp [marksItem]
theorem rdItem_set (x : List S83) (i : Nat) (v : S83) (h : i < x.length) : rd_T83 (x.set (i : Int).toNat v) (i : Int) = v := by
  simp [rd_T83, h]
theorem rdItem_nat (l : List S83) (i : Nat) (h : i < l.length) : rd_T83 l (i : Int) = l[i] := by simp [rd_T83, List.getD_eq_getElem?_getD, h]
theorem markItemS_loop (m : Int) (n : Nat) (hm : -1 ≤ m ∧ m ≤ 1152921504606846976) (hn : n ≤ 140737488355328) : ∀ (d k i : Nat) (x : List S83), i + d = n → d < k → x.length = n → (∀ j : Nat, j < i → x[j]? = some ⟨(m + 3 * (j : Int)), (m + 3 * (j : Int)) + 1, (m + 3 * (j : Int)) + 2⟩) → laws_markItemS.l0 k x (m + 3 * (i : Int)) (i : Int) = some (m + 3 * (n : Int), marksItem m n) := by
  intro d
  induction d with
  | zero =>
    intro k i x h1 hk hx he
    obtain ⟨k, rfl⟩ : ∃ m, k = m + 1 := ⟨k - 1, by omega⟩
    rw [laws_markItemS.l0, if_neg (by omega)]
    have e : x = marksItem m n := by
      apply List.ext_getElem?
      intro j
      by_cases hj : j < n
      · rw [he j (by omega)]; simp [marksItem, hj]
      · rw [List.getElem?_eq_none (by omega), List.getElem?_eq_none (by rw [marksItem_len]; omega)]
    rw [e, show i = n by omega]
  | succ d ih =>
    intro k i x h1 hk hx he
    obtain ⟨k, rfl⟩ : ∃ m, k = m + 1 := ⟨k - 1, by omega⟩
    rw [laws_markItemS.l0, if_pos (by omega), if_pos (by omega)]
    simp only [Option.bind_some, rdItem_set x i _ (show i < x.length by omega), List.set_set]
    rw [wsucc (by omega), w64 (x := m + 3 * (i : Int) + 1) (by omega) (by omega), w64 (x := m + 3 * (i : Int) + 1 + 1) (by omega) (by omega), w64 (x := m + 3 * (i : Int) + 1 + 1 + 1) (by omega) (by omega), show m + 3 * (i : Int) + 1 + 1 + 1 = m + 3 * ((i + 1 : Nat) : Int) by omega]
    refine ih k (i + 1) _ (by omega) (by omega) (by simpa using hx) ?_
    intro j hj
    rw [Int.toNat_natCast, List.getElem?_set]
    by_cases e : i = j
    · subst e; simp [show i < x.length by omega]; omega
    · rw [if_neg e]; exact he j (by omega)
theorem markItemS_eq (l : List S83) (m : Int) (hm : -1 ≤ m ∧ m ≤ 1152921504606846976) (hn : l.length ≤ 140737488355328) (k : Nat) (hk : l.length < k) : laws_markItemS.f k l m = some (m + 3 * (l.length : Int), marksItem m l.length) := by
  unfold laws_markItemS.f
  have := markItemS_loop m l.length hm hn l.length k 0 l (by omega) hk rfl (by intro j hj; omega)
  simpa using this
theorem heldItemS_loop (m : Int) (n : Nat) (hm : -1 ≤ m ∧ m ≤ 1152921504606846976) (hn : n ≤ 140737488355328) : ∀ (d k i : Nat), i + d = n → d < k → laws_heldItemS.l0 k (marksItem m n) (m + 3 * (i : Int)) (i : Int) = some (m + 3 * (n : Int)) := by
  intro d
  have hl := marksItem_len m n
  induction d with
  | zero =>
    intro k i h1 hk
    obtain ⟨k, rfl⟩ : ∃ m, k = m + 1 := ⟨k - 1, by omega⟩
    rw [laws_heldItemS.l0, if_neg (by omega), show i = n by omega]
  | succ d ih =>
    intro k i h1 hk
    obtain ⟨k, rfl⟩ : ∃ m, k = m + 1 := ⟨k - 1, by omega⟩
    have e : (marksItem m n)[i]'(by omega) = ⟨(m + 3 * (i : Int)), (m + 3 * (i : Int)) + 1, (m + 3 * (i : Int)) + 2⟩ := by simp [marksItem]
    rw [laws_heldItemS.l0, if_pos (by omega), if_pos (by omega), rdItem_nat (marksItem m n) i (by omega), e, wsucc (by omega)]
    simp only []
    rw [w64 (x := m + 3 * (i : Int) + 1) (by omega) (by omega), w64 (x := m + 3 * (i : Int) + 1 + 1) (by omega) (by omega), w64 (x := m + 3 * (i : Int) + 1 + 1 + 1) (by omega) (by omega)]
    rw [if_pos (by first | trivial | rfl | omega), if_pos (by first | trivial | rfl | omega), if_pos (by first | trivial | rfl | omega), show m + 3 * (i : Int) + 1 + 1 + 1 = m + 3 * ((i + 1 : Nat) : Int) by omega]
    exact ih k (i + 1) (by omega) (by omega)
theorem heldItemS_eq (m : Int) (n : Nat) (hm : -1 ≤ m ∧ m ≤ 1152921504606846976) (hn : n ≤ 140737488355328) (k : Nat) (hk : n < k) : laws_heldItemS.f k (marksItem m n) m = some (m + 3 * (n : Int)) := by
  unfold laws_heldItemS.f
  have := heldItemS_loop m n hm hn n k 0 (by omega) hk
  simpa using this

theorem toIntS_loop (l : List Int) (hl : l.length ≤ 4611686018427387904) : ∀ (d k i : Nat) (x : List Int), i + d = l.length → d < k → x.length = l.length → (∀ j, j < i → x[j]? = l[j]?) → laws_toIntS.l0 k l x (i : Int) = some l := by
  intro d
  induction d with
  | zero =>
    intro k i x hi hk hx he
    obtain ⟨k, rfl⟩ : ∃ m, k = m + 1 := ⟨k - 1, by omega⟩
    rw [laws_toIntS.l0, if_neg (by omega)]
    congr 1
    apply List.ext_getElem? 
    intro j
    by_cases hj : j < i
    · exact he j hj
    · rw [List.getElem?_eq_none (by omega), List.getElem?_eq_none (by omega)]
  | succ d ih =>
    intro k i x hi hk hx he
    obtain ⟨k, rfl⟩ : ∃ m, k = m + 1 := ⟨k - 1, by omega⟩
    rw [laws_toIntS.l0, if_pos (by omega), if_pos (by omega), if_pos (by omega), wsucc (by omega)]
    refine ih k (i + 1) _ (by omega) (by omega) (by simpa using hx) ?_
    intro j hj
    rw [rd_nat l i (by omega), Int.toNat_natCast, List.getElem?_set]
    by_cases e : i = j
    · subst e; simp [show i < x.length by omega, List.getElem?_eq_getElem (show i < l.length by omega)]
    · rw [if_neg e]; exact he j (by omega)
theorem toIntS_eq (l : List Int) (hl : l.length ≤ 17592186044416) (k : Nat) (hk : l.length < k) : laws_toIntS.f k l = some l := by
  unfold laws_toIntS.f
  rw [if_pos (by omega), if_pos (by omega)]
  exact toIntS_loop l (by omega) l.length k 0 _ (by omega) hk (by simp) (by intro j hj; omega)

theorem eqIntS_loop (l : List Int) (hl : l.length ≤ 4611686018427387904) : ∀ (d k i : Nat), i + d = l.length → d < k → laws_eqIntS.l0 k l l (i : Int) = some true := by
  intro d
  induction d with
  | zero =>
    intro k i hi hk
    obtain ⟨k, rfl⟩ : ∃ m, k = m + 1 := ⟨k - 1, by omega⟩
    rw [laws_eqIntS.l0, if_neg (by omega)]
  | succ d ih =>
    intro k i hi hk
    obtain ⟨k, rfl⟩ : ∃ m, k = m + 1 := ⟨k - 1, by omega⟩
    rw [laws_eqIntS.l0, if_pos (by omega), if_pos (by omega), if_pos (by omega), if_pos rfl, wsucc (by omega)]
    exact ih k (i + 1) (by omega) (by omega)
theorem eqIntS_refl (l : List Int) (hl : l.length ≤ 4611686018427387904) (k : Nat) (hk : l.length < k) : laws_eqIntS.f k l l = some true := by
  unfold laws_eqIntS.f
  rw [if_pos rfl]
  exact eqIntS_loop l hl l.length k 0 (by omega) hk

def marks (m : Int) (n : Nat) : List Int := (List.range n).map fun j : Nat => m + (j : Int)
theorem marks_len (m : Int) (n : Nat) : (marks m n).length = n := by simp [marks]
theorem markIntS_loop (m : Int) (n : Nat) (hm : -1 ≤ m ∧ m ≤ 2305843009213693952) (hn : n ≤ 2305843009213693952) : ∀ (d k i : Nat) (x : List Int), i + d = n → d < k → x.length = n → (∀ j : Nat, j < i → x[j]? = some (m + (j : Int))) → laws_markIntS.l0 k x (m + (i : Int)) (i : Int) = some (m + (n : Int), marks m n) := by
  intro d
  induction d with
  | zero =>
    intro k i x h1 hk hx he
    obtain ⟨k, rfl⟩ : ∃ m, k = m + 1 := ⟨k - 1, by omega⟩
    rw [laws_markIntS.l0, if_neg (by omega)]
    have e : x = marks m n := by
      apply List.ext_getElem?
      intro j
      by_cases hj : j < n
      · rw [he j (by omega)]; simp [marks, hj]
      · rw [List.getElem?_eq_none (by omega), List.getElem?_eq_none (by rw [marks_len]; omega)]
    rw [e, show i = n by omega]
  | succ d ih =>
    intro k i x h1 hk hx he
    obtain ⟨k, rfl⟩ : ∃ m, k = m + 1 := ⟨k - 1, by omega⟩
    rw [laws_markIntS.l0, if_pos (by omega), if_pos (by omega), wsucc (by omega), w64 (by omega) (by omega), show m + (i : Int) + 1 = m + ((i + 1 : Nat) : Int) by omega]
    refine ih k (i + 1) _ (by omega) (by omega) (by simpa using hx) ?_
    intro j hj
    rw [Int.toNat_natCast, List.getElem?_set]
    by_cases e : i = j
    · subst e; simp [show i < x.length by omega]
    · rw [if_neg e]; exact he j (by omega)
theorem markIntS_eq (l : List Int) (m : Int) (hm : -1 ≤ m ∧ m ≤ 2305843009213693952) (hn : l.length ≤ 2305843009213693952) (k : Nat) (hk : l.length < k) : laws_markIntS.f k l m = some (m + (l.length : Int), marks m l.length) := by
  unfold laws_markIntS.f
  have := markIntS_loop m l.length hm hn l.length k 0 l (by omega) hk rfl (by intro j hj; omega)
  simpa using this

theorem FnExactRunsOf : laws_FnExactRunsOf.Pure := by
  intro l hm hr hw
  have e2 := specRunsOf_eq l
  have e3 := implRunsOf_eq l
  have hrl := runsR_len l
  obtain ⟨r, hr⟩ : ∃ r, r = runsR l := ⟨_, rfl⟩
  rw [← hr] at e2 e3 hrl
  obtain ⟨K, hK⟩ : ∃ K, K = l.length + 1000 := ⟨_, rfl⟩
  refine ⟨K + 1, ?_⟩
  unfold laws_FnExactRunsOf.f
  by_cases h : (l.length : Int) > 1048576
  · rw [if_pos h]
  rw [if_neg h]
  have e1 := toIntS_eq l (by omega)
  have e4 := eqIntS_refl l (by omega)
  have e5 := eqItemS_refl r (by omega)
  have e6 := markIntS_eq l 1 (by omega) (by omega)
  have e7 := markItemS_eq r 1 (by omega) (by omega)
  have e8 := heldItemS_eq 1 r.length (by omega) (by omega)
  have g1 : ¬ (1 + (l.length : Int) < 0) := by omega
  have g2 : ¬ (1 + 3 * (r.length : Int) < 0) := by omega
  simp (disch := omega) only [e1, e2, e3, e4, e5, e6, Option.bind_some, if_true, if_neg g1]
  rw [laws_FnExactRunsOf.j0]
  simp (disch := omega) only [e1, e3, e5, e7, e8, Option.bind_some, if_true, if_neg g2, Bool.not_true, Bool.false_eq_true, if_false]

end Go.Proofs.Yticlmpkbcmanfaa.Pure
