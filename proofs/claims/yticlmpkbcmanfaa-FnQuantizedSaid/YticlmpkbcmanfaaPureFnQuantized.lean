/- The pure statement of the law FnQuantized, for every input that its guards let in. -/
import Derived.Test.YticlmpkbcmanfaaPFnQuantizedx6
import Derived.Test.YticlmpkbcmanfaaWSized
-- The printed row names this word without its seat: the same fact under that name.
namespace Go.Proofs.PrintWords
theorem sized_ints {H : Type} {enc : TypeId × Value → H} {P : Program} {W : World} {base : Nat} {spare : Nat → Bool} {held : Bool} {t e : TypeId} {k : IntKind} {a : Option Addr} {len cap : Nat} {d : DataW H} {ps : List MemPlace} {ts : List TypeId} {ds : List (DataW H)} {j : Nat} (hsz : (DataW.weightsEach P ts ds).all (· ≤ reachBytes) = true) (ht : ts[j]? = some t) (hd : ds[j]? = some d) (hu : P.underlying t = some (.slice e)) (he : P.underlying e = some (.int k)) (hc : P.cellsOf e = 1) {B : Nat} (hB : P.bytesOf e = B) (h : DataW.Trod enc P W base spare held t (.slice a len cap) d ps) : len * B ≤ 140737488351232 := Go.Proofs.YticlmpkbcmanfaaW.PrintWords.sized_ints hsz ht hd hu he hc hB h
end Go.Proofs.PrintWords
namespace Go.Proofs.Yticlmpkbcmanfaa.Pure
open Go.RowKit Go.Proofs.Yticlmpkbcmanfaa.PFnQuantized Go.Proofs.YticlmpkbcmanfaaW.PrintWords Go.Proofs.YticlmpkbcmanfaaW.PrintLast Go.Proofs.YticlmpkbcmanfaaW.PrintMore
set_option linter.unusedVariables false
set_option linter.unusedSimpArgs false
set_option maxRecDepth 4000

theorem w64 {x : Int} (h1 : -9223372036854775808 ≤ x) (h2 : x ≤ 9223372036854775807) : wrap64 x = x := by unfold wrap64; omega
theorem wsucc {i : Nat} (h : i ≤ 4611686018427387904) : wrap64 ((i : Int) + 1) = ((i + 1 : Nat) : Int) := by unfold wrap64; omega
theorem rd_nat (l : List Int) (i : Nat) (h : i < l.length) : rd l (i : Int) = l[i] := by simp [rd, List.getD_eq_getElem?_getD, h]
theorem drop_at {α : Type} (l : List α) (i : Nat) (h : i < l.length) : l.drop i = l[i] :: l.drop (i + 1) := List.drop_eq_getElem_cons h
theorem wf64 {x : Int} (h : (Lit.int .i64 x).wf = true) : -9223372036854775808 ≤ x ∧ x ≤ 9223372036854775807 := by
  simp [Lit.wf, IntKind.min, IntKind.max, IntKind.bits, IntKind.signed] at h; omega
theorem wfu8 {x : Int} (h : (Lit.int .u8 x).wf = true) : 0 ≤ x ∧ x ≤ 255 := by
  simp [Lit.wf, IntKind.min, IntKind.max, IntKind.bits, IntKind.signed] at h; omega

theorem tdw {x y : Int} (h0 : 0 ≤ x) (h1 : x ≤ 4611686018427387904) (hy : 0 < y) : wrap64 (Int.tdiv x y) = x / y := by
  rw [Int.tdiv_eq_ediv_of_nonneg h0]
  have a := Int.ediv_nonneg h0 (Int.le_of_lt hy)
  have b := Int.ediv_le_self y h0
  exact w64 (by omega) (by omega)
theorem div_bd {x y : Int} (h0 : 0 ≤ x) (hy : 0 < y) : 0 ≤ x / y ∧ x / y ≤ x := ⟨Int.ediv_nonneg h0 (Int.le_of_lt hy), Int.ediv_le_self y h0⟩

def BytesL (l : List Int) : Prop := l.length ≤ 1048576 ∧ ∀ x ∈ l, 0 ≤ x ∧ x ≤ 255
theorem rd_byte {l : List Int} (h : BytesL l) (i : Int) (h0 : 0 ≤ i) (h1 : i < (l.length : Int)) : 0 ≤ rd l i ∧ rd l i ≤ 255 := by
  obtain ⟨n, rfl⟩ := Int.eq_ofNat_of_zero_le h0
  have hn : n < l.length := by omega
  rw [rd_nat l n hn]
  exact h.2 _ (List.getElem_mem hn)
def CurOk (a s b : Int) : Prop := 0 ≤ a ∧ a ≤ b ∧ b ≤ 1152921504606846976 ∧ 0 ≤ s ∧ s ≤ 65521
theorem tmodw {x y : Int} (h0 : 0 ≤ x) (hy : 0 < y) : 0 ≤ Int.tmod x y ∧ Int.tmod x y < y := by
  rw [Int.tmod_eq_emod_of_nonneg h0]
  exact ⟨Int.emod_nonneg _ (by omega), Int.emod_lt_of_pos _ hy⟩
theorem pick_ok {l : List Int} (hl : BytesL l) {a s b : Int} (n : Int) (hc : CurOk a s b) (hb : b + 2 ≤ 1152921504606846976) (hn : 1 ≤ n) : ∃ r a' s', spec_l01Cur_pick.f l a s n = some (r, a', s') ∧ 0 ≤ r ∧ r < n ∧ CurOk a' s' (b + 2) := by
  obtain ⟨h1, h2, h3, h4, h5⟩ := hc
  have hll := hl.1
  unfold spec_l01Cur_pick.f
  by_cases c1 : n < 2
  · exact ⟨0, a, s, by rw [if_pos c1], by omega, by omega, by omega, by omega, hb, h4, h5⟩
  rw [if_neg c1]
  by_cases c2 : a < (l.length : Int)
  · rw [if_pos c2, if_pos h1, w64 (x := a + 1) (by omega) (by omega)]
    have r1 := rd_byte hl a h1 c2
    have t1 := tmodw (x := rd l a) (y := n) (by omega) (by omega)
    by_cases c3 : n > 256
    · rw [if_pos c3]
      by_cases c4 : a + 1 < (l.length : Int)
      · have r2 := rd_byte hl (a + 1) (by omega) c4
        have t2 := tmodw (x := 256 * rd l a + rd l (a + 1)) (y := n) (by omega) (by omega)
        rw [if_pos c4, if_pos (by omega), if_neg (by omega)]
        refine ⟨_, _, _, rfl, ?_, ?_, ?_⟩
        · rw [w64 (x := rd l a) (by omega) (by omega), w64 (x := 256 * rd l a) (by omega) (by omega), w64 (x := rd l (a + 1)) (by omega) (by omega), w64 (by omega) (by omega)]; exact t2.1
        · rw [w64 (x := rd l a) (by omega) (by omega), w64 (x := 256 * rd l a) (by omega) (by omega), w64 (x := rd l (a + 1)) (by omega) (by omega), w64 (by omega) (by omega)]; exact t2.2
        · rw [w64 (x := a + 1 + 1) (by omega) (by omega)]; exact ⟨by omega, by omega, hb, h4, h5⟩
      · rw [if_neg c4, if_neg (by omega), w64 (x := rd l a) (by omega) (by omega)]
        exact ⟨_, _, _, rfl, t1.1, t1.2, by omega, by omega, hb, h4, h5⟩
    · rw [if_neg c3, if_neg (by omega), w64 (x := rd l a) (by omega) (by omega)]
      exact ⟨_, _, _, rfl, t1.1, t1.2, by omega, by omega, hb, h4, h5⟩
  · rw [if_neg c2, w64 (x := s * 1103) (by omega) (by omega), w64 (x := s * 1103 + 12345) (by omega) (by omega), w64 (x := a + 1) (by omega) (by omega)]
    have t3 := tmodw (x := s * 1103 + 12345) (y := 65521) (by omega) (by omega)
    rw [tdw (x := Int.tmod (s * 1103 + 12345) 65521) (by omega) (by omega) (by omega)]
    have d3 := div_bd (x := Int.tmod (s * 1103 + 12345) 65521) (y := 3) (by omega) (by omega)
    by_cases c5 : (l.length : Int) > 0
    · have t4 := tmodw (x := a) (y := (l.length : Int)) h1 c5
      have r4 := rd_byte hl (Int.tmod a (l.length : Int)) t4.1 t4.2
      rw [if_pos c5, if_neg (by omega), if_pos t4.1, if_pos t4.2, if_neg (by omega), w64 (x := rd l (Int.tmod a (l.length : Int))) (by omega) (by omega), w64 (x := Int.tmod (s * 1103 + 12345) 65521 / 3 + rd l (Int.tmod a (l.length : Int))) (by omega) (by omega)]
      have t5 := tmodw (x := Int.tmod (s * 1103 + 12345) 65521 / 3 + rd l (Int.tmod a (l.length : Int))) (y := n) (by omega) (by omega)
      exact ⟨_, _, _, rfl, t5.1, t5.2, by omega, by omega, hb, t3.1, by omega⟩
    · rw [if_neg c5, if_neg (by omega)]
      have t5 := tmodw (x := Int.tmod (s * 1103 + 12345) 65521 / 3) (y := n) (by omega) (by omega)
      exact ⟨_, _, _, rfl, t5.1, t5.2, by omega, by omega, hb, t3.1, by omega⟩
theorem open_ok {l : List Int} (hl : BytesL l) : ∃ s, spec_l01Open.f l = some (l, 0, s) ∧ CurOk 0 s 0 := by
  refine ⟨13 + ((l.length : Int) % 1000), rfl, by omega, by omega, by omega, by omega, by omega⟩

theorem once_ok {l : List Int} (hl : BytesL l) {a s b : Int} (n : Int) (hc : CurOk a s b) (hb : b + 2 ≤ 1152921504606846976) (hn : 1 ≤ n) : ∃ r a' s', spec_l01Cur_once.f l a s n = some (r, a', s') ∧ CurOk a' s' (b + 2) := by
  obtain ⟨r, a', s', h, _, _, h'⟩ := pick_ok hl n hc hb hn
  unfold spec_l01Cur_once.f
  rw [h]
  exact ⟨_, _, _, rfl, h'⟩

def inR (lo hi : Int) (l : List Int) : Bool := l.all fun x => decide (lo ≤ x ∧ x ≤ hi)
theorem inR_nil (lo hi : Int) : inR lo hi [] = true := rfl
theorem inR_cons (lo hi x : Int) (l : List Int) : inR lo hi (x :: l) = (decide (lo ≤ x ∧ x ≤ hi) && inR lo hi l) := rfl
theorem inR_at {lo hi : Int} {l : List Int} (h : inR lo hi l = true) (i : Nat) (hi' : i < l.length) : lo ≤ l[i] ∧ l[i] ≤ hi := by
  unfold inR at h; rw [List.all_eq_true] at h; simpa using h l[i] (List.getElem_mem hi')

theorem rd_getD (l : List Int) (i : Nat) : rd l (i : Int) = l.getD i 0 := by simp [rd]
theorem push_loop {α β : Type} (F : Nat → List α → Int → Option β) (g : Nat → α) (n : Nat) (res : β)
    (hstep : ∀ (k i : Nat) (a : List α), i < n → a.length = i → F (k + 1) a (i : Int) = F k (a ++ [g i]) ((i + 1 : Nat) : Int))
    (hend : ∀ k : Nat, F (k + 1) ((List.range n).map g) (n : Int) = some res) : ∀ k : Nat, n < k → F k [] 0 = some res := by
  have main : ∀ (d k i : Nat), i + d = n → d < k → F k ((List.range i).map g) (i : Int) = some res := by
    intro d
    induction d with
    | zero =>
      intro k i h1 hk
      obtain ⟨k, rfl⟩ : ∃ m, k = m + 1 := ⟨k - 1, by omega⟩
      obtain rfl : i = n := by omega
      exact hend k
    | succ d ih =>
      intro k i h1 hk
      obtain ⟨k, rfl⟩ : ∃ m, k = m + 1 := ⟨k - 1, by omega⟩
      rw [hstep k i _ (by omega) (by simp)]
      have e : (List.range (i + 1)).map g = (List.range i).map g ++ [g i] := by rw [List.range_succ, List.map_append]; rfl
      rw [← e]
      exact ih k (i + 1) (by omega) (by omega)
  intro k hk
  exact main n k 0 (by omega) hk
theorem state_loop {σ β : Type} (F : Nat → σ → Int → Option β) (s : Nat → σ) (n : Nat) (res : β)
    (hstep : ∀ (k i : Nat), i < n → F (k + 1) (s i) (i : Int) = F k (s (i + 1)) ((i + 1 : Nat) : Int))
    (hend : ∀ k : Nat, F (k + 1) (s n) (n : Int) = some res) : ∀ k : Nat, n < k → F k (s 0) 0 = some res := by
  have main : ∀ (d k i : Nat), i + d = n → d < k → F k (s i) (i : Int) = some res := by
    intro d
    induction d with
    | zero =>
      intro k i h1 hk
      obtain ⟨k, rfl⟩ : ∃ m, k = m + 1 := ⟨k - 1, by omega⟩
      obtain rfl : i = n := by omega
      exact hend k
    | succ d ih =>
      intro k i h1 hk
      obtain ⟨k, rfl⟩ : ∃ m, k = m + 1 := ⟨k - 1, by omega⟩
      rw [hstep k i (by omega)]
      exact ih k (i + 1) (by omega) (by omega)
  intro k hk
  exact main n k 0 (by omega) hk
theorem inR_getD {lo hi : Int} {l : List Int} (h : inR lo hi l = true) (i : Nat) (h' : i < l.length) : lo ≤ l.getD i 0 ∧ l.getD i 0 ≤ hi := by
  have := inR_at h i h'
  simpa [List.getD_eq_getElem?_getD, h'] using this

def oddsL : List Int := [(-1), 0, 1, 2, 255, 256, 65535, 9223372036854775807, (-9223372036854775808), 17, 8, 12]
theorem odd_ok {l : List Int} (hl : BytesL l) {a s b : Int} (hc : CurOk a s b) (hb : b + 2 ≤ 1152921504606846976) : ∃ r a' s', spec_l01Cur_odd.f l a s = some (r, a', s') ∧ (-9223372036854775808 ≤ r ∧ r ≤ 9223372036854775807) ∧ CurOk a' s' (b + 2) := by
  obtain ⟨r, a', s', h, h0, h1, h'⟩ := pick_ok hl 12 hc hb (by omega)
  unfold spec_l01Cur_odd.f
  rw [Option.bind_some, h, Option.bind_some]
  show ∃ r0 a0 s0, (if 0 ≤ r then if r < (oddsL.length : Int) then some (rd oddsL r, a', s') else none else none) = _ ∧ _
  rw [if_pos h0, if_pos (show r < (oddsL.length : Int) by simp [oddsL]; omega)]
  refine ⟨_, _, _, rfl, ?_, h'⟩
  obtain ⟨n, rfl⟩ := Int.eq_ofNat_of_zero_le h0
  have key : ∀ j : Fin 12, -9223372036854775808 ≤ oddsL.getD j.val 0 ∧ oddsL.getD j.val 0 ≤ 9223372036854775807 := by decide +kernel
  rw [rd_getD]
  exact key ⟨n, by omega⟩

theorem between_eq (a lo hi : Int) : spec_l01Between.f a lo hi = some (decide (lo ≤ a ∧ a ≤ hi)) := by
  unfold spec_l01Between.f
  by_cases h : a ≥ lo
  · rw [if_pos h]; congr 1; simp; omega
  · rw [if_neg h]; congr 1; simp; omega

theorem nums5_loop (l : List Int) (lo hi : Int) (hl : l.length = 64) : ∀ (d k i : Nat), i + d = 64 → d < k → spec_l05Nums.l0 k l lo hi (i : Int) = some (inR lo hi (l.drop i)) := by
  intro d
  induction d with
  | zero =>
    intro k i h1 hk
    obtain ⟨k, rfl⟩ : ∃ m, k = m + 1 := ⟨k - 1, by omega⟩
    rw [spec_l05Nums.l0, if_neg (by omega), List.drop_eq_nil_of_le (by omega), inR_nil]
  | succ d ih =>
    intro k i h1 hk
    obtain ⟨k, rfl⟩ : ∃ m, k = m + 1 := ⟨k - 1, by omega⟩
    rw [spec_l05Nums.l0, if_pos (by omega), if_pos (by omega), if_pos (by omega), between_eq, rd_nat l i (by omega), wsucc (by omega), ih k (i + 1) (by omega) (by omega), drop_at l i (by omega), inR_cons]
    simp only [Option.bind_some]
    by_cases h : lo ≤ l[i] ∧ l[i] ≤ hi <;> simp [h]
theorem nums5_eq (l : List Int) (lo hi : Int) (k : Nat) (hk : 64 < k) : spec_l05Nums.f k l lo hi = some (decide (l.length = 64) && inR lo hi l) := by
  unfold spec_l05Nums.f
  by_cases h : l.length = 64
  · have e : spec_l05Nums.l0 k l lo hi 0 = some (inR lo hi (l.drop 0)) := nums5_loop l lo hi h 64 k 0 (by omega) hk
    rw [if_pos (by omega), e]; simp [h]
  · rw [if_neg (by omega)]; simp [h]

theorem within_eq (a lo hi : Int) : impl_within.f a lo hi = some (decide (lo ≤ a ∧ a ≤ hi)) := by
  unfold impl_within.f
  by_cases h : a ≥ lo
  · rw [if_pos h]; congr 1; simp; omega
  · rw [if_neg h]; congr 1; simp; omega

theorem allWithin_loop (l : List Int) (lo hi : Int) (hl : l.length ≤ 4611686018427387904) : ∀ (d k i : Nat), i + d = l.length → d < k → impl_allWithin.l0 k lo hi l (l.length : Int) (i : Int) = some (inR lo hi (l.drop i)) := by
  intro d
  induction d with
  | zero =>
    intro k i h1 hk
    obtain ⟨k, rfl⟩ : ∃ m, k = m + 1 := ⟨k - 1, by omega⟩
    rw [impl_allWithin.l0, if_neg (by omega), List.drop_eq_nil_of_le (by omega), inR_nil]
  | succ d ih =>
    intro k i h1 hk
    obtain ⟨k, rfl⟩ : ∃ m, k = m + 1 := ⟨k - 1, by omega⟩
    rw [impl_allWithin.l0, if_pos (by omega), if_pos (by omega), if_pos (by omega), within_eq, rd_nat l i (by omega), wsucc (by omega), ih k (i + 1) (by omega) (by omega), drop_at l i (by omega), inR_cons]
    simp only [Option.bind_some]
    by_cases h : lo ≤ l[i] ∧ l[i] ≤ hi <;> simp [h]
theorem allWithin_eq (l : List Int) (lo hi : Int) (hl : l.length ≤ 4611686018427387904) (k : Nat) (hk : l.length < k) : impl_allWithin.f k l lo hi = some (inR lo hi l) := by
  unfold impl_allWithin.f
  exact allWithin_loop l lo hi hl l.length k 0 (by omega) hk

def okL (lo hi : Int) (l : List Int) : Bool := decide (l.length = 64) && inR lo hi l
theorem okL_iff {lo hi : Int} {l : List Int} : okL lo hi l = true ↔ l.length = 64 ∧ inR lo hi l = true := by simp [okL]

theorem specTableOk_eq (l : List Int) (k : Nat) (hk : 64 < k) : spec_TableOk.f k l = some (okL 1 1023 l) := by
  unfold spec_TableOk.f; rw [nums5_eq l _ _ k hk]; rfl

theorem implTableOk_eq (l : List Int) (k : Nat) (hk : 64 < k) : impl_TableOk.f k l = some (okL 1 1023 l) := by
  unfold impl_TableOk.f okL
  by_cases h : l.length = 64
  · rw [if_pos (by omega), allWithin_eq l _ _ (by omega) k (by omega)]; simp [h]
  · rw [if_neg (by omega)]; simp [h]

theorem round_same (a b : Int) : spec_l05Round.f a b = impl_rounded.f a b := by
  unfold spec_l05Round.f impl_rounded.f spec_l05Floor.f impl_below.f
  by_cases h : wrap64 (wrap64 (2 * a) + b) < 0
  · rw [if_neg (by omega), if_pos h]
  · rw [if_pos (by omega), if_neg h]
theorem round_some (a : Int) (ha : 0 ≤ a ∧ a ≤ 4294967296) : impl_rounded.f a 50 = some ((2 * a + 50) / 100) := by
  unfold impl_rounded.f impl_below.f
  rw [w64 (x := 2 * 50) (by omega) (by omega), w64 (x := 2 * a) (by omega) (by omega), w64 (x := 2 * a + 50) (by omega) (by omega), if_neg (by omega), if_neg (by omega), tdw (by omega) (by omega) (by omega)]
  rfl
def scaleV (a q : Int) : Int := mn 1023 (mx 1 ((2 * (a * (100 - q)) + 50) / 100))
theorem scale_in (a q : Int) (ha : 1 ≤ a ∧ a ≤ 1023) (hq : 0 ≤ q ∧ q ≤ 100) : wrap64 (a * wrap64 (100 - q)) = a * (100 - q) ∧ 0 ≤ a * (100 - q) ∧ a * (100 - q) ≤ 4294967296 := by
  have h0 : 0 ≤ a * (100 - q) := Int.mul_nonneg (by omega) (by omega)
  have h1 : a * (100 - q) ≤ 1023 * 100 := Int.mul_le_mul ha.2 (by omega) (by omega) (by omega)
  rw [w64 (x := 100 - q) (by omega) (by omega), w64 (by omega) (by omega)]
  exact ⟨rfl, h0, by omega⟩
theorem mnmx (v : Int) : mn 1023 (mx 1 v) = if v < 1 then 1 else if v > 1023 then 1023 else v := by
  unfold mn mx; (repeat' split) <;> omega
def scaleL (l : List Int) (q : Int) : List Int := (List.range 64).map fun i => scaleV (l.getD i 0) q
theorem specScale_loop (l : List Int) (q : Int) (hl : okL 1 1023 l = true) (hq : 0 ≤ q ∧ q ≤ 100) (k : Nat) (hk : 64 < k) : spec_Scale.l0 k l q [] 0 = some (scaleL l q) := by
  obtain ⟨hl1, hl2⟩ := okL_iff.1 hl
  refine push_loop (fun k a i => spec_Scale.l0 k l q a i) (fun i => scaleV (l.getD i 0) q) 64 _ ?_ ?_ k hk
  · intro k i a hi ha
    show spec_Scale.l0 (k + 1) l q a i = _
    have b1 := inR_getD hl2 i (by omega)
    obtain ⟨c1, c2, c3⟩ := scale_in _ q b1 hq
    rw [spec_Scale.l0, if_pos (by omega), if_pos (by omega), if_pos (by omega), rd_getD, c1, round_same, round_some _ ⟨c2, c3⟩, Option.bind_some, if_neg (show ¬ (1 > 1023) by omega), wsucc (by omega), scaleV]
    obtain ⟨v, hv⟩ : ∃ v, v = (2 * (l.getD i 0 * (100 - q)) + 50) / 100 := ⟨_, rfl⟩
    rw [← hv, mnmx]
    by_cases h1 : v < 1
    · rw [if_pos h1, if_pos (by omega), if_pos h1]
    · rw [if_neg h1, if_neg h1]
      by_cases h2 : v > 1023
      · rw [if_pos h2, if_pos (by omega), if_pos h2]
      · rw [if_neg h2, if_pos (by omega), if_neg h2]
  · intro k
    show spec_Scale.l0 (k + 1) l q _ _ = _
    rw [spec_Scale.l0, if_neg (by omega)]; rfl
def scaleR (l : List Int) (q : Int) : List Int := if okL 1 1023 l && decide (0 ≤ q ∧ q ≤ 100) then scaleL l q else []
theorem scaleR_len (l : List Int) (q : Int) : (scaleR l q).length ≤ 64 := by unfold scaleR; split <;> simp [scaleL]
theorem specScale_eq (l : List Int) (q : Int) (k : Nat) (hk : 65 < k) : spec_Scale.f k l q = some (scaleR l q) := by
  obtain ⟨k, rfl⟩ : ∃ m, k = m + 1 := ⟨k - 1, by omega⟩
  unfold spec_Scale.f scaleR
  rw [Option.bind_some, specTableOk_eq l _ (by omega), between_eq]
  by_cases h1 : okL 1 1023 l = true
  · by_cases h2 : 0 ≤ q ∧ q ≤ 100
    · rw [decide_eq_true h2]
      simp only [h1, Option.bind_some, if_true, Bool.not_true, Bool.and_self]
      rw [spec_Scale.j0, if_neg (by simp)]
      exact specScale_loop l q h1 h2 k (by omega)
    · simp [h1, h2, spec_Scale.j0]
  · simp [h1, spec_Scale.j0]
theorem clipG (a lo hi : Int) : spec_l05Clip.f a lo hi = some (if a < lo then lo else if a > hi then hi else a) := by
  unfold spec_l05Clip.f; (repeat' split) <;> rfl

theorem drawBlock_loop {l : List Int} (hl : BytesL l) (m : Int) (hm : 0 ≤ m ∧ m ≤ 100000) : ∀ (d : Nat) (k : Nat) (o : List Int) (i a s b : Int), d < k → i + d = 64 → (o.length : Int) = i → CurOk a s b → b + 8 * d ≤ 1152921504606846976 → (∀ x ∈ o, -m ≤ x ∧ x ≤ m) → ∃ o' a' s', spec_l05DrawBlock.l0 k m o i l a s = some (o', a', s') ∧ o'.length = 64 ∧ (∀ x ∈ o', -m ≤ x ∧ x ≤ m) ∧ CurOk a' s' (b + 8 * d) := by
  intro d
  induction d with
  | zero =>
    intro k o i a s b hk hi ho hc hb hr
    obtain ⟨k, rfl⟩ : ∃ m, k = m + 1 := ⟨k - 1, by omega⟩
    exact ⟨o, a, s, by rw [spec_l05DrawBlock.l0, if_neg (by omega)], by omega, hr, by rw [show b + 8 * ((0 : Nat) : Int) = b by omega]; exact hc⟩
  | succ d ih =>
    intro k o i a s b hk hi ho hc hb hr
    obtain ⟨k, rfl⟩ : ∃ m, k = m + 1 := ⟨k - 1, by omega⟩
    have done : ∀ (v a0 s0 : Int), CurOk a0 s0 (b + 8) → -m ≤ v ∧ v ≤ m → ∃ o' a' s', spec_l05DrawBlock.l0 k m (o ++ [v]) (wrap64 (i + 1)) l a0 s0 = some (o', a', s') ∧ o'.length = 64 ∧ (∀ x ∈ o', -m ≤ x ∧ x ≤ m) ∧ CurOk a' s' (b + 8 * ((d + 1 : Nat) : Int)) := by
      intro v a0 s0 hc0 hv
      rw [w64 (by omega) (by omega), show b + 8 * ((d + 1 : Nat) : Int) = b + 8 + 8 * (d : Int) by omega]
      exact ih k (o ++ [v]) (i + 1) a0 s0 (b + 8) (by omega) (by omega) (by simp; omega) hc0 (by omega) (by
        intro x hx
        rcases List.mem_append.1 hx with hx | hx
        · exact hr x hx
        · rw [List.mem_singleton.1 hx]; exact hv)
    have up : ∀ a0 s0 b0 : Int, CurOk a0 s0 b0 → b0 ≤ b + 8 → CurOk a0 s0 (b + 8) := fun a0 s0 b0 ⟨h1, h2, h3, h4, h5⟩ h => ⟨h1, by omega, by omega, h4, h5⟩
    have clipB : ∀ v : Int, -m ≤ (if v < -m then -m else if v > m then m else v) ∧ (if v < -m then -m else if v > m then m else v) ≤ m := by
      intro v; (repeat' split) <;> omega
    rw [spec_l05DrawBlock.l0, if_pos (by omega), w64 (x := -m) (by omega) (by omega), w64 (x := 2 * m) (by omega) (by omega), w64 (x := 2 * m + 1) (by omega) (by omega)]
    obtain ⟨r1, a1, s1, e1, p1, q1, c1⟩ := pick_ok hl 4 hc (by omega) (by omega)
    simp only [e1, Option.bind_some]
    by_cases h1 : r1 = 0
    · rw [if_pos h1]
      obtain ⟨r2, a2, s2, e2, p2, q2, c2⟩ := pick_ok hl (2 * m + 1) c1 (by omega) (by omega)
      simp only [e2, Option.bind_some]
      obtain ⟨r3, a3, s3, e3, c3⟩ := once_ok hl 2 c2 (by omega) (by omega)
      simp only [e3, Option.bind_some]
      by_cases h3 : r3 = true
      · rw [if_pos h3]
        obtain ⟨r4, a4, s4, e4, p4, q4, c4⟩ := pick_ok hl 9 c3 (by omega) (by omega)
        simp only [e4, Option.bind_some, clipG]
        rw [if_pos (by omega)]
        exact done _ a4 s4 (up _ _ _ c4 (by omega)) (clipB _)
      · rw [if_neg h3]
        simp only [clipG, Option.bind_some]
        rw [if_pos (by omega)]
        exact done _ a3 s3 (up _ _ _ c3 (by omega)) (clipB _)
    · rw [if_neg h1]
      simp only [clipG, Option.bind_some]
      rw [if_pos (by omega)]
      exact done _ a1 s1 (up _ _ _ c1 (by omega)) (clipB _)
theorem drawBlock_ok {l : List Int} (hl : BytesL l) (m : Int) (hm : 0 ≤ m ∧ m ≤ 100000) {a s b : Int} (hc : CurOk a s b) (hb : b + 512 ≤ 1152921504606846976) (k : Nat) (hk : 64 < k) : ∃ o a' s', spec_l05DrawBlock.f k l a s m = some (o, a', s') ∧ o.length = 64 ∧ (∀ x ∈ o, -m ≤ x ∧ x ≤ m) ∧ CurOk a' s' (b + 512) := by
  unfold spec_l05DrawBlock.f
  exact drawBlock_loop hl m hm 64 k [] 0 a s b hk (by omega) (by simp) hc (by omega) (by simp)

theorem drawAny_ok {l : List Int} (hl : BytesL l) (m : Int) (hm : 0 ≤ m ∧ m ≤ 100000) {a s b : Int} (hc : CurOk a s b) (hb : b + 1000 ≤ 1152921504606846976) (k : Nat) (hk : 64 < k) : ∃ o a' s', spec_l05DrawAny.f k l a s m = some (o, a', s') ∧ o.length ≤ 65 ∧ CurOk a' s' (b + 520) := by
  unfold spec_l05DrawAny.f
  obtain ⟨o, a1, s1, e1, g1, _, c1⟩ := drawBlock_ok hl m hm hc (by omega) k hk
  have up : ∀ a0 s0 b0 : Int, CurOk a0 s0 b0 → b0 ≤ b + 520 → CurOk a0 s0 (b + 520) := fun a0 s0 b0 ⟨h1, h2, h3, h4, h5⟩ h => ⟨h1, by omega, by omega, h4, h5⟩
  rw [e1, Option.bind_some]
  obtain ⟨r2, a2, s2, e2, p2, q2, c2⟩ := pick_ok hl 12 c1 (by omega) (by omega)
  simp only [e2, Option.bind_some]
  by_cases h1 : r2 = 0
  · rw [if_pos h1]
    obtain ⟨r3, a3, s3, e3, p3, q3, c3⟩ := pick_ok hl 64 c2 (by omega) (by omega)
    simp only [e3, Option.bind_some]
    obtain ⟨r4, a4, s4, e4, _, c4⟩ := odd_ok hl c3 (by omega)
    simp only [e4, Option.bind_some]
    obtain ⟨r5, a5, s5, e5, p5, q5, c5⟩ := pick_ok hl 5 c4 (by omega) (by omega)
    simp only [e5, Option.bind_some]
    rw [if_pos p5, if_pos (by simpa using q5), if_pos p3, if_pos (by omega)]
    exact ⟨_, _, _, rfl, by simp; omega, up _ _ _ c5 (by omega)⟩
  · rw [if_neg h1]
    by_cases h2 : r2 = 1
    · rw [if_pos h2, if_pos (by omega)]
      exact ⟨_, _, _, rfl, by simp; omega, up _ _ _ c2 (by omega)⟩
    · rw [if_neg h2]
      by_cases h3 : r2 = 2
      · rw [if_pos h3]
        obtain ⟨r3, a3, s3, e3, p3, q3, c3⟩ := pick_ok hl 64 c2 (by omega) (by omega)
        simp only [e3, Option.bind_some]
        rw [if_pos p3, if_pos (by omega)]
        exact ⟨_, _, _, rfl, by simp; omega, up _ _ _ c3 (by omega)⟩
      · rw [if_neg h3]
        exact ⟨_, _, _, rfl, by omega, up _ _ _ c2 (by omega)⟩

theorem plain_ok (a : Int) (h0 : 0 ≤ a) (h1 : a < 4) : ∃ q, (∀ k : Nat, 300 ≤ k → spec_Plain.f k a = some q) ∧ okL 1 1023 q = true := by
  have key : ∀ a : Int, (a = 0 ∨ a = 1 ∨ a = 2 ∨ a = 3) → ∃ q, spec_Plain.f 300 a = some q ∧ okL 1 1023 q = true := by
    intro a ha
    have hq : ((spec_Plain.f 300 a).map fun q => okL 1 1023 q) = some true := by
      rcases ha with rfl | rfl | rfl | rfl <;> decide +kernel
    cases hp : spec_Plain.f 300 a with
    | none => rw [hp] at hq; cases hq
    | some q => rw [hp] at hq; exact ⟨q, rfl, Option.some.inj hq⟩
  obtain ⟨q, hq, hok⟩ := key a (by omega)
  exact ⟨q, fun k hk => at_rounds (spec_Plain.mono a) hk hq, hok⟩
theorem scaleR_64 {q : List Int} (s : Int) (hq : okL 1 1023 q = true) (hs : 0 ≤ s ∧ s ≤ 100) : (scaleR q s).length = 64 := by
  unfold scaleR; rw [hq, decide_eq_true hs]; simp [scaleL]
theorem drawTable_j {l : List Int} (hl : BytesL l) (q : List Int) (hq : q.length = 64) {a s b : Int} (hc : CurOk a s b) (hb : b + 100 ≤ 1152921504606846976) (k : Nat) (hk : 0 < k) : ∃ o a' s', spec_l05DrawTable.j0 k q l a s = some (o, a', s') ∧ o.length ≤ 64 := by
  obtain ⟨k, rfl⟩ : ∃ m, k = m + 1 := ⟨k - 1, by omega⟩
  rw [spec_l05DrawTable.j0]
  obtain ⟨r1, a1, s1, e1, p1, q1, c1⟩ := pick_ok hl 14 hc (by omega) (by omega)
  simp only [e1, Option.bind_some]
  by_cases h1 : r1 = 0
  · rw [if_pos h1]
    obtain ⟨r2, a2, s2, e2, p2, q2, c2⟩ := pick_ok hl 64 c1 (by omega) (by omega)
    simp only [e2, Option.bind_some]
    obtain ⟨r3, a3, s3, e3, _, c3⟩ := odd_ok hl c2 (by omega)
    simp only [e3, Option.bind_some]
    obtain ⟨r4, a4, s4, e4, p4, q4, c4⟩ := pick_ok hl 4 c3 (by omega) (by omega)
    simp only [e4, Option.bind_some]
    rw [if_pos p4, if_pos (by simpa using q4), if_pos p2, if_pos (by omega)]
    exact ⟨_, _, _, rfl, by simp [hq]⟩
  · rw [if_neg h1]
    by_cases h2 : r1 = 1
    · rw [if_pos h2, if_pos (by omega)]
      exact ⟨_, _, _, rfl, by simp [hq]⟩
    · rw [if_neg h2]
      exact ⟨_, _, _, rfl, by omega⟩
theorem drawTable_ok {l : List Int} (hl : BytesL l) {a s b : Int} (hc : CurOk a s b) (hb : b + 1000 ≤ 1152921504606846976) (k : Nat) (hk : 300 < k) : ∃ o a' s', spec_l05DrawTable.f k l a s = some (o, a', s') ∧ o.length ≤ 64 := by
  unfold spec_l05DrawTable.f
  obtain ⟨r1, a1, s1, e1, p1, q1, c1⟩ := pick_ok hl 4 hc (by omega) (by omega)
  obtain ⟨q, ep, hok⟩ := plain_ok r1 p1 q1
  simp only [e1, Option.bind_some]
  rw [ep k (by omega), Option.bind_some]
  obtain ⟨r2, a2, s2, e2, c2⟩ := once_ok hl 2 c1 (by omega) (by omega)
  simp only [e2, Option.bind_some]
  by_cases h2 : r2 = true
  · rw [if_pos h2]
    obtain ⟨r3, a3, s3, e3, p3, q3, c3⟩ := pick_ok hl 101 c2 (by omega) (by omega)
    simp only [e3, Option.bind_some]
    rw [specScale_eq q r3 k (by omega), Option.bind_some]
    exact drawTable_j hl _ (scaleR_64 r3 hok ⟨p3, by omega⟩) c3 (by omega) k (by omega)
  · rw [if_neg h2]
    exact drawTable_j hl q (okL_iff.1 hok).1 c2 (by omega) k (by omega)

theorem specBlockOk_eq (l : List Int) (k : Nat) (hk : 64 < k) : spec_BlockOk.f k l = some (okL (-32767) 32767 l) := by
  unfold spec_BlockOk.f; rw [nums5_eq l _ _ k hk]; rfl

theorem implBlockOk_eq (l : List Int) (k : Nat) (hk : 64 < k) : impl_BlockOk.f k l = some (okL (-32767) 32767 l) := by
  unfold impl_BlockOk.f okL
  by_cases h : l.length = 64
  · rw [if_pos (by omega), allWithin_eq l _ _ (by omega) k (by omega)]; simp [h]
  · rw [if_neg (by omega)]; simp [h]

def quantV (a b : Int) : Int := if a < 0 then -((-2 * a + b) / (2 * b)) else (2 * a + b) / (2 * b)
theorem near_eq (a b : Int) (ha : -32767 ≤ a ∧ a ≤ 32767) (hb : 1 ≤ b ∧ b ≤ 1023) : spec_l05Near.f a b = some (quantV a b) := by
  unfold spec_l05Near.f quantV
  have w2 : wrap64 (2 * b) = 2 * b := w64 (by omega) (by omega)
  by_cases h : a < 0
  · rw [if_pos h, if_pos h, w2, if_neg (by omega), w64 (x := -2 * a) (by omega) (by omega), w64 (x := -2 * a + b) (by omega) (by omega), tdw (by omega) (by omega) (by omega)]
    have := div_bd (x := -2 * a + b) (y := 2 * b) (by omega) (by omega)
    rw [w64 (by omega) (by omega)]
  · rw [if_neg h, if_neg h, w2, if_neg (by omega), w64 (x := 2 * a) (by omega) (by omega), w64 (x := 2 * a + b) (by omega) (by omega), tdw (by omega) (by omega) (by omega)]
theorem rounded_pos (a b : Int) (ha : 0 ≤ a ∧ a ≤ 4294967296) (hb : 1 ≤ b ∧ b ≤ 4294967296) : impl_rounded.f a b = some ((2 * a + b) / (2 * b)) := by
  unfold impl_rounded.f impl_below.f
  rw [w64 (x := 2 * b) (by omega) (by omega), w64 (x := 2 * a) (by omega) (by omega), w64 (x := 2 * a + b) (by omega) (by omega), if_neg (by omega), if_neg (by omega), tdw (by omega) (by omega) (by omega)]
  rfl
theorem absI (a : Int) (ha : -32767 ≤ a ∧ a ≤ 32767) : mx a (wrap64 (-a)) = if a < 0 then -a else a := by
  rw [w64 (by omega) (by omega)]; unfold mx; (repeat' split) <;> omega
def quantL (l q : List Int) : List Int := (List.range 64).map fun i => quantV (l.getD i 0) (q.getD i 0)
theorem specQuant_loop (l q : List Int) (hl : okL (-32767) 32767 l = true) (hq : okL 1 1023 q = true) (k : Nat) (hk : 64 < k) : spec_Quantize.l0 k l q [] 0 = some (quantL l q) := by
  obtain ⟨hl1, hl2⟩ := okL_iff.1 hl
  obtain ⟨hq1, hq2⟩ := okL_iff.1 hq
  refine push_loop (fun k a i => spec_Quantize.l0 k l q a i) (fun i => quantV (l.getD i 0) (q.getD i 0)) 64 _ ?_ ?_ k hk
  · intro k i a hi ha
    show spec_Quantize.l0 (k + 1) l q a i = _
    rw [spec_Quantize.l0, if_pos (by omega), if_pos (by omega), if_pos (by omega), if_pos (by omega), rd_getD, rd_getD, near_eq _ _ (inR_getD hl2 i (by omega)) (inR_getD hq2 i (by omega)), Option.bind_some, if_pos (by omega), wsucc (by omega)]
  · intro k
    show spec_Quantize.l0 (k + 1) l q _ _ = _
    rw [spec_Quantize.l0, if_neg (by omega)]; rfl
theorem implQuant_loop (l q : List Int) (hl : okL (-32767) 32767 l = true) (hq : okL 1 1023 q = true) (k : Nat) (hk : 64 < k) : impl_Quantize.l0 k q [] l (l.length : Int) 0 = some (quantL l q) := by
  obtain ⟨hl1, hl2⟩ := okL_iff.1 hl
  obtain ⟨hq1, hq2⟩ := okL_iff.1 hq
  refine push_loop (fun k a i => impl_Quantize.l0 k q a l (l.length : Int) i) (fun i => quantV (l.getD i 0) (q.getD i 0)) 64 _ ?_ ?_ k hk
  · intro k i a hi ha
    show impl_Quantize.l0 (k + 1) q a l _ i = _
    have b1 := inR_getD hl2 i (by omega)
    have b2 := inR_getD hq2 i (by omega)
    rw [impl_Quantize.l0, if_pos (by omega), if_pos (by omega), if_pos (by omega), if_pos (by omega), rd_getD, rd_getD, absI _ b1, rounded_pos _ _ (by split <;> omega) (by omega), Option.bind_some, wsucc (by omega)]
    by_cases h : l.getD i 0 < 0
    · have hb := div_bd (x := 2 * (-l.getD i 0) + q.getD i 0) (y := 2 * q.getD i 0) (by omega) (by omega)
      rw [if_pos h, if_pos (by omega), if_pos h, w64 (by omega) (by omega), quantV, if_pos h, show -2 * l.getD i 0 = 2 * (-l.getD i 0) by omega]
    · rw [if_neg h, if_pos (by omega), if_neg h, quantV, if_neg h]
  · intro k
    show impl_Quantize.l0 (k + 1) q _ l _ _ = _
    rw [impl_Quantize.l0, if_neg (by omega)]; rfl
def quantR (l q : List Int) : List Int := if okL (-32767) 32767 l && okL 1 1023 q then quantL l q else []
theorem quantR_len (l q : List Int) : (quantR l q).length ≤ 64 := by unfold quantR; split <;> simp [quantL]
theorem specQuant_eq (l q : List Int) (k : Nat) (hk : 65 < k) : spec_Quantize.f k l q = some (quantR l q) := by
  obtain ⟨k, rfl⟩ : ∃ m, k = m + 1 := ⟨k - 1, by omega⟩
  unfold spec_Quantize.f quantR
  rw [Option.bind_some, specBlockOk_eq l _ (by omega), specTableOk_eq q _ (by omega)]
  by_cases h1 : okL (-32767) 32767 l = true
  · by_cases h2 : okL 1 1023 q = true
    · simp only [h1, h2, Option.bind_some, if_true, Bool.not_true, Bool.and_self]
      rw [spec_Quantize.j0, if_neg (by simp)]
      exact specQuant_loop l q h1 h2 k (by omega)
    · simp [h1, h2, spec_Quantize.j0]
  · simp [h1, spec_Quantize.j0]
theorem implQuant_eq (l q : List Int) (k : Nat) (hk : 65 < k) : impl_Quantize.f k l q = some (quantR l q) := by
  obtain ⟨k, rfl⟩ : ∃ m, k = m + 1 := ⟨k - 1, by omega⟩
  unfold impl_Quantize.f quantR
  rw [implBlockOk_eq l _ (by omega), implTableOk_eq q _ (by omega)]
  by_cases h1 : okL (-32767) 32767 l = true
  · by_cases h2 : okL 1 1023 q = true
    · simp only [h1, h2, Option.bind_some, if_true, Bool.not_true, Bool.and_self]
      rw [impl_Quantize.j0, if_neg (by simp)]
      exact implQuant_loop l q h1 h2 k (by omega)
    · simp [h1, h2, impl_Quantize.j0]
  · simp [h1, impl_Quantize.j0]

def deqV (a b : Int) : Int := mn 32767 (mx (-32767) (wrap64 (a * b)))
theorem clip_eq (a : Int) : spec_l05Clip.f a (-32767) 32767 = some (mn 32767 (mx (-32767) a)) := by
  unfold spec_l05Clip.f mn mx
  (repeat' split) <;> first | rfl | (congr 1; omega) | omega
def deqL (l q : List Int) : List Int := (List.range 64).map fun i => deqV (l.getD i 0) (q.getD i 0)
theorem specDeq_loop (l q : List Int) (hl : l.length = 64) (hq : q.length = 64) (k : Nat) (hk : 64 < k) : spec_Dequantize.l0 k l q [] 0 = some (deqL l q) := by
  refine push_loop (fun k a i => spec_Dequantize.l0 k l q a i) (fun i => deqV (l.getD i 0) (q.getD i 0)) 64 _ ?_ ?_ k hk
  · intro k i a hi ha
    show spec_Dequantize.l0 (k + 1) l q a i = _
    rw [spec_Dequantize.l0, if_pos (by omega), if_pos (by omega), if_pos (by omega), if_pos (by omega), clip_eq, Option.bind_some, if_pos (by omega), rd_getD, rd_getD, wsucc (by omega)]
    rfl
  · intro k
    show spec_Dequantize.l0 (k + 1) l q _ _ = _
    rw [spec_Dequantize.l0, if_neg (by omega)]; rfl
theorem implDeq_loop (l q : List Int) (hl : l.length = 64) (hq : q.length = 64) (k : Nat) (hk : 64 < k) : impl_Dequantize.l0 k q [] l (l.length : Int) 0 = some (deqL l q) := by
  refine push_loop (fun k a i => impl_Dequantize.l0 k q a l (l.length : Int) i) (fun i => deqV (l.getD i 0) (q.getD i 0)) 64 _ ?_ ?_ k hk
  · intro k i a hi ha
    show impl_Dequantize.l0 (k + 1) q a l _ i = _
    rw [impl_Dequantize.l0, if_pos (by omega), if_pos (by omega), if_pos (by omega), if_pos (by omega), if_pos (by omega), rd_getD, rd_getD, wsucc (by omega)]
    rfl
  · intro k
    show impl_Dequantize.l0 (k + 1) q _ l _ _ = _
    rw [impl_Dequantize.l0, if_neg (by omega)]; rfl
def deqR (l q : List Int) : List Int := if okL (-32767) 32767 l && okL 1 1023 q then deqL l q else []
theorem deqR_len (l q : List Int) : (deqR l q).length ≤ 64 := by unfold deqR; split <;> simp [deqL]
theorem specDeq_eq (l q : List Int) (k : Nat) (hk : 65 < k) : spec_Dequantize.f k l q = some (deqR l q) := by
  obtain ⟨k, rfl⟩ : ∃ m, k = m + 1 := ⟨k - 1, by omega⟩
  unfold spec_Dequantize.f deqR
  rw [Option.bind_some, specBlockOk_eq l _ (by omega), specTableOk_eq q _ (by omega)]
  by_cases h1 : okL (-32767) 32767 l = true
  · by_cases h2 : okL 1 1023 q = true
    · simp only [h1, h2, Option.bind_some, if_true, Bool.not_true, Bool.and_self]
      rw [spec_Dequantize.j0, if_neg (by simp)]
      exact specDeq_loop l q (okL_iff.1 h1).1 (okL_iff.1 h2).1 k (by omega)
    · simp [h1, h2, spec_Dequantize.j0]
  · simp [h1, spec_Dequantize.j0]
theorem implDeq_eq (l q : List Int) (k : Nat) (hk : 65 < k) : impl_Dequantize.f k l q = some (deqR l q) := by
  obtain ⟨k, rfl⟩ : ∃ m, k = m + 1 := ⟨k - 1, by omega⟩
  unfold impl_Dequantize.f deqR
  rw [implBlockOk_eq l _ (by omega), implTableOk_eq q _ (by omega)]
  by_cases h1 : okL (-32767) 32767 l = true
  · by_cases h2 : okL 1 1023 q = true
    · simp only [h1, h2, Option.bind_some, if_true, Bool.not_true, Bool.and_self]
      rw [impl_Dequantize.j0, if_neg (by simp)]
      exact implDeq_loop l q (okL_iff.1 h1).1 (okL_iff.1 h2).1 k (by omega)
    · simp [h1, h2, impl_Dequantize.j0]
  · simp [h1, impl_Dequantize.j0]

theorem sameInts_loop (l : List Int) (hl : l.length ≤ 4611686018427387904) : ∀ (d k i : Nat), i + d = l.length → d < k → laws_sameInts.l0 k l l (i : Int) = some true := by
  intro d
  induction d with
  | zero =>
    intro k i hi hk
    obtain ⟨k, rfl⟩ : ∃ m, k = m + 1 := ⟨k - 1, by omega⟩
    rw [laws_sameInts.l0, if_neg (by omega)]
  | succ d ih =>
    intro k i hi hk
    obtain ⟨k, rfl⟩ : ∃ m, k = m + 1 := ⟨k - 1, by omega⟩
    rw [laws_sameInts.l0, if_pos (by omega), if_pos (by omega), if_pos (by omega), if_pos rfl, wsucc (by omega)]
    exact ih k (i + 1) (by omega) (by omega)
theorem sameInts_refl (l : List Int) (hl : l.length ≤ 4611686018427387904) (k : Nat) (hk : l.length < k) : laws_sameInts.f k l l = some true := by
  unfold laws_sameInts.f
  rw [if_pos rfl]
  exact sameInts_loop l hl l.length k 0 (by omega) hk

theorem big_no {l : List Int} (h : ¬ (l.length : Int) > 1048576) : laws_big.f l = some false := by unfold laws_big.f; rw [decide_eq_false h]
theorem big_yes {l : List Int} (h : (l.length : Int) > 1048576) : laws_big.f l = some true := by unfold laws_big.f; rw [decide_eq_true h]
theorem bytes_of {l : List Int} (h : ¬ (l.length : Int) > 1048576) (hw : ∀ x ∈ l, (Lit.int .u8 x).wf = true) : BytesL l := ⟨by omega, fun x hx => wfu8 (hw x hx)⟩

theorem quantV_in (a b : Int) (ha : -32767 ≤ a ∧ a ≤ 32767) (hb : 1 ≤ b ∧ b ≤ 1023) : (-32767 ≤ quantV a b ∧ quantV a b ≤ 32767) ∧ -b ≤ 2 * (quantV a b * b - a) ∧ 2 * (quantV a b * b - a) ≤ b := by
  have key : ∀ n : Int, 0 ≤ n → n ≤ 32767 → (0 ≤ (2 * n + b) / (2 * b) ∧ (2 * n + b) / (2 * b) ≤ 32767) ∧ -b ≤ 2 * ((2 * n + b) / (2 * b) * b - n) ∧ 2 * ((2 * n + b) / (2 * b) * b - n) ≤ b := by
    intro n h0 h1
    obtain ⟨m, hm⟩ : ∃ m, m = (2 * n + b) / (2 * b) := ⟨_, rfl⟩
    have d := Int.emod_add_mul_ediv (2 * n + b) (2 * b)
    have e0 := Int.emod_nonneg (2 * n + b) (show 2 * b ≠ 0 by omega)
    have e1 := Int.emod_lt_of_pos (2 * n + b) (show 0 < 2 * b by omega)
    have m0 : 0 ≤ m := by rw [hm]; exact Int.ediv_nonneg (by omega) (by omega)
    rw [← hm] at d ⊢
    have dm : 2 * b * m = 2 * (m * b) := by rw [Int.mul_assoc, Int.mul_comm b m]
    rw [dm] at d
    have hle : m ≤ m * b := by
      have := Int.mul_le_mul_of_nonneg_left hb.1 m0
      omega
    refine ⟨⟨m0, ?_⟩, by omega, by omega⟩
    rcases Int.lt_or_le 32767 m with h | h
    · exfalso
      have hmb : 32768 * b ≤ m * b := Int.mul_le_mul_of_nonneg_right (by omega) (by omega)
      omega
    · exact h
  unfold quantV
  by_cases h : a < 0
  · obtain ⟨k1, k2, k3⟩ := key (-a) (by omega) (by omega)
    rw [if_pos h, show -2 * a = 2 * (-a) by omega, Int.neg_mul]
    omega
  · obtain ⟨k1, k2, k3⟩ := key a (by omega) (by omega)
    rw [if_neg h]
    omega
theorem deqV_near (a b : Int) (ha : -32767 ≤ a ∧ a ≤ 32767) (hb : 1 ≤ b ∧ b ≤ 1023) : -b ≤ 2 * (deqV (quantV a b) b - a) ∧ 2 * (deqV (quantV a b) b - a) ≤ b ∧ -32767 ≤ deqV (quantV a b) b ∧ deqV (quantV a b) b ≤ 32767 := by
  obtain ⟨k1, k2, k3⟩ := quantV_in a b ha hb
  have hw : wrap64 (quantV a b * b) = quantV a b * b := w64 (by omega) (by omega)
  unfold deqV mn mx
  rw [hw]
  (repeat' split) <;> omega
theorem map_getD (f : Nat → Int) (i : Nat) (h : i < 64) : ((List.range 64).map f).getD i 0 = f i := by
  simp [List.getD_eq_getElem?_getD, h]
theorem quantized_loop (l q : List Int) (hl : okL (-32767) 32767 l = true) (hq : okL 1 1023 q = true) : ∀ (d k i : Nat), i + d = 64 → d < k → laws_FnQuantized.l0 k l q (deqL (quantL l q) q) (i : Int) = some true := by
  obtain ⟨hl1, hl2⟩ := okL_iff.1 hl
  obtain ⟨hq1, hq2⟩ := okL_iff.1 hq
  have hy : (deqL (quantL l q) q).length = 64 := by simp [deqL]
  intro d
  induction d with
  | zero =>
    intro k i h1 hk
    obtain ⟨k, rfl⟩ : ∃ m, k = m + 1 := ⟨k - 1, by omega⟩
    rw [laws_FnQuantized.l0, if_neg (by omega)]
  | succ d ih =>
    intro k i h1 hk
    obtain ⟨k, rfl⟩ : ∃ m, k = m + 1 := ⟨k - 1, by omega⟩
    have b1 := inR_getD hl2 i (by omega)
    have b2 := inR_getD hq2 i (by omega)
    have hyi : (deqL (quantL l q) q).getD i 0 = deqV (quantV (l.getD i 0) (q.getD i 0)) (q.getD i 0) := by
      unfold deqL; rw [map_getD _ i (by omega)]; unfold quantL; rw [map_getD _ i (by omega)]
    obtain ⟨n1, n2, n3, n4⟩ := deqV_near _ _ b1 b2
    rw [laws_FnQuantized.l0, if_pos (by omega), if_pos (by omega), if_pos (by omega), if_pos (by omega), rd_getD, rd_getD, rd_getD, hyi, w64 (x := deqV (quantV (l.getD i 0) (q.getD i 0)) (q.getD i 0) - l.getD i 0) (by omega) (by omega), wsucc (by omega)]
    obtain ⟨v, hv⟩ : ∃ v, v = deqV (quantV (l.getD i 0) (q.getD i 0)) (q.getD i 0) - l.getD i 0 := ⟨_, rfl⟩
    rw [← hv]
    have hab : laws_abs.f v = some (if v < 0 then -v else v) := by
      unfold laws_abs.f
      split
      · rw [w64 (by omega) (by omega)]
      · rfl
    rw [hab, Option.bind_some, if_pos (by omega), w64 (by split <;> omega) (by split <;> omega), if_neg (by split <;> omega)]
    exact ih k (i + 1) (by omega) (by omega)
theorem FnQuantized : laws_FnQuantized.Pure := by
  intro l hm hr hw
  unfold laws_FnQuantized.f
  by_cases hbig : (l.length : Int) > 1048576
  · exact ⟨0, by rw [big_yes hbig]; rfl⟩
  rw [big_no hbig]
  have hl := bytes_of hbig hw
  obtain ⟨s0, e0, c0⟩ := open_ok hl
  obtain ⟨K, hK⟩ : ∃ K, K = 1000 := ⟨_, rfl⟩
  refine ⟨K + 2, ?_⟩
  obtain ⟨b, a1, s1, e1, p1, c1⟩ := drawAny_ok hl 2000 (by omega) c0 (by omega) (K + 2) (by omega)
  obtain ⟨q, a2, s2, e2, p2⟩ := drawTable_ok hl c1 (by omega) (K + 2) (by omega)
  have ed : spec_DrawQuantize.f (K + 2) l = some (b, q) := by
    unfold spec_DrawQuantize.f
    rw [e0, Option.bind_some]
    show (spec_l05DrawAny.f (K + 2) l 0 s0 2000).bind _ = _
    rw [e1, Option.bind_some]
    show (spec_l05DrawTable.f (K + 2) l a1 s1).bind _ = _
    rw [e2]
    rfl
  rw [ed]
  simp only [Option.bind_some, Bool.false_eq_true, if_false]
  have f1 := specQuant_eq b q (K + 2) (by omega)
  have f2 := implQuant_eq b q (K + 2) (by omega)
  have hrl := quantR_len b q
  have f3 := sameInts_refl (quantR b q) (by omega) (K + 2) (by omega)
  rw [f2, Option.bind_some, f1, Option.bind_some, f3, Option.bind_some, if_pos rfl, specBlockOk_eq b _ (by omega), Option.bind_some]
  by_cases h1 : okL (-32767) 32767 b = true
  · rw [if_pos h1, specTableOk_eq q _ (by omega), Option.bind_some]
    by_cases h2 : okL 1 1023 q = true
    · rw [h2, laws_FnQuantized.j0, if_neg (by decide)]
      obtain ⟨hl1, hl2⟩ := okL_iff.1 h1
      obtain ⟨hq1, hq2⟩ := okL_iff.1 h2
      have u1 : quantR b q = quantL b q := by unfold quantR; rw [h1, h2]; rfl
      have u2 : okL (-32767) 32767 (quantL b q) = true := by
        rw [okL_iff]
        refine ⟨by simp [quantL], ?_⟩
        unfold inR
        rw [List.all_eq_true]
        intro x hx
        obtain ⟨i, hi, rfl⟩ := List.mem_map.1 hx
        have hi := List.mem_range.1 hi
        simpa using (quantV_in _ _ (inR_getD hl2 i (by omega)) (inR_getD hq2 i (by omega))).1
      have u3 : deqR (quantL b q) q = deqL (quantL b q) q := by unfold deqR; rw [u2, h2]; rfl
      have u4 : (deqL (quantL b q) q).length = 64 := by simp [deqL]
      have f4 := sameInts_refl (deqL (quantL b q) q) (by omega) (K + 1) (by omega)
      rw [u1, implDeq_eq _ q _ (by omega), u3, Option.bind_some, specDeq_eq _ q _ (by omega), u3, Option.bind_some, f4, Option.bind_some, if_pos rfl, u4, laws_FnQuantized.j1, if_neg (by decide)]
      exact quantized_loop b q h1 h2 64 K 0 (by omega) (by omega)
    · have h2 : okL 1 1023 q = false := by simpa using h2
      have u1 : quantR b q = [] := by unfold quantR; rw [h2, Bool.and_false]; rfl
      rw [h2, laws_FnQuantized.j0, if_pos (by decide), u1]; rfl
  · have h1' : okL (-32767) 32767 b = false := by simpa using h1
    have u1 : quantR b q = [] := by unfold quantR; rw [h1']; rfl
    rw [if_neg h1, laws_FnQuantized.j0, if_pos (by decide), u1]; rfl

end Go.Proofs.Yticlmpkbcmanfaa.Pure
