/- The pure statement of the law FnRunsBack, for every input that its guards let in. -/
import Derived.Test.YticlmpkbcmanfaaPFnRunsBackx9
import Derived.Test.YticlmpkbcmanfaaWSized
-- The printed row names this word without its seat: the same fact under that name.
namespace Go.Proofs.PrintWords
theorem sized_ints {H : Type} {enc : TypeId × Value → H} {P : Program} {W : World} {base : Nat} {spare : Nat → Bool} {held : Bool} {t e : TypeId} {k : IntKind} {a : Option Addr} {len cap : Nat} {d : DataW H} {ps : List MemPlace} {ts : List TypeId} {ds : List (DataW H)} {j : Nat} (hsz : (DataW.weightsEach P ts ds).all (· ≤ reachBytes) = true) (ht : ts[j]? = some t) (hd : ds[j]? = some d) (hu : P.underlying t = some (.slice e)) (he : P.underlying e = some (.int k)) (hc : P.cellsOf e = 1) {B : Nat} (hB : P.bytesOf e = B) (h : DataW.Trod enc P W base spare held t (.slice a len cap) d ps) : len * B ≤ 140737488351232 := Go.Proofs.YticlmpkbcmanfaaW.PrintWords.sized_ints hsz ht hd hu he hc hB h
end Go.Proofs.PrintWords
namespace Go.Proofs.Yticlmpkbcmanfaa.Pure
open Go.RowKit Go.Proofs.Yticlmpkbcmanfaa.PFnRunsBack Go.Proofs.YticlmpkbcmanfaaW.PrintWords Go.Proofs.YticlmpkbcmanfaaW.PrintLast Go.Proofs.YticlmpkbcmanfaaW.PrintMore
set_option linter.unusedVariables false
set_option linter.unusedSimpArgs false
set_option maxRecDepth 4000

theorem w64 {x : Int} (h1 : -9223372036854775808 ≤ x) (h2 : x ≤ 9223372036854775807) : wrap64 x = x := by unfold wrap64; omega
theorem wsucc {i : Nat} (h : i ≤ 4611686018427387904) : wrap64 ((i : Int) + 1) = ((i + 1 : Nat) : Int) := by unfold wrap64; omega
theorem rd_nat (l : List Int) (i : Nat) (h : i < l.length) : rd l (i : Int) = l[i] := by simp [rd, List.getD_eq_getElem?_getD, h]
theorem drop_at {α : Type} (l : List α) (i : Nat) (h : i < l.length) : l.drop i = l[i] :: l.drop (i + 1) := List.drop_eq_getElem_cons h
theorem wf64 {x : Int} (h : (Lit.int .i64 x).wf = true) : -9223372036854775808 ≤ x ∧ x ≤ 9223372036854775807 := by
  simp [Lit.wf, IntKind.min, IntKind.max, IntKind.bits, IntKind.signed] at h; omega
theorem wfu8 {x : Int} (h : (Lit.int .u8 x).wf = true) : 0 ≤ x ∧ x ≤ 255 := by
  simp [Lit.wf, IntKind.min, IntKind.max, IntKind.bits, IntKind.signed] at h; omega

theorem tdw {x y : Int} (h0 : 0 ≤ x) (h1 : x ≤ 4611686018427387904) (hy : 0 < y) : wrap64 (Int.tdiv x y) = x / y := by
  rw [Int.tdiv_eq_ediv_of_nonneg h0]
  have a := Int.ediv_nonneg h0 (Int.le_of_lt hy)
  have b := Int.ediv_le_self y h0
  exact w64 (by omega) (by omega)
theorem div_bd {x y : Int} (h0 : 0 ≤ x) (hy : 0 < y) : 0 ≤ x / y ∧ x / y ≤ x := ⟨Int.ediv_nonneg h0 (Int.le_of_lt hy), Int.ediv_le_self y h0⟩

def BytesL (l : List Int) : Prop := l.length ≤ 1048576 ∧ ∀ x ∈ l, 0 ≤ x ∧ x ≤ 255
theorem rd_byte {l : List Int} (h : BytesL l) (i : Int) (h0 : 0 ≤ i) (h1 : i < (l.length : Int)) : 0 ≤ rd l i ∧ rd l i ≤ 255 := by
  obtain ⟨n, rfl⟩ := Int.eq_ofNat_of_zero_le h0
  have hn : n < l.length := by omega
  rw [rd_nat l n hn]
  exact h.2 _ (List.getElem_mem hn)
def CurOk (a s b : Int) : Prop := 0 ≤ a ∧ a ≤ b ∧ b ≤ 1152921504606846976 ∧ 0 ≤ s ∧ s ≤ 65521
theorem tmodw {x y : Int} (h0 : 0 ≤ x) (hy : 0 < y) : 0 ≤ Int.tmod x y ∧ Int.tmod x y < y := by
  rw [Int.tmod_eq_emod_of_nonneg h0]
  exact ⟨Int.emod_nonneg _ (by omega), Int.emod_lt_of_pos _ hy⟩
theorem pick_ok {l : List Int} (hl : BytesL l) {a s b : Int} (n : Int) (hc : CurOk a s b) (hb : b + 2 ≤ 1152921504606846976) (hn : 1 ≤ n) : ∃ r a' s', spec_l01Cur_pick.f l a s n = some (r, a', s') ∧ 0 ≤ r ∧ r < n ∧ CurOk a' s' (b + 2) := by
  obtain ⟨h1, h2, h3, h4, h5⟩ := hc
  have hll := hl.1
  unfold spec_l01Cur_pick.f
  by_cases c1 : n < 2
  · exact ⟨0, a, s, by rw [if_pos c1], by omega, by omega, by omega, by omega, hb, h4, h5⟩
  rw [if_neg c1]
  by_cases c2 : a < (l.length : Int)
  · rw [if_pos c2, if_pos h1, w64 (x := a + 1) (by omega) (by omega)]
    have r1 := rd_byte hl a h1 c2
    have t1 := tmodw (x := rd l a) (y := n) (by omega) (by omega)
    by_cases c3 : n > 256
    · rw [if_pos c3]
      by_cases c4 : a + 1 < (l.length : Int)
      · have r2 := rd_byte hl (a + 1) (by omega) c4
        have t2 := tmodw (x := 256 * rd l a + rd l (a + 1)) (y := n) (by omega) (by omega)
        rw [if_pos c4, if_pos (by omega), if_neg (by omega)]
        refine ⟨_, _, _, rfl, ?_, ?_, ?_⟩
        · rw [w64 (x := rd l a) (by omega) (by omega), w64 (x := 256 * rd l a) (by omega) (by omega), w64 (x := rd l (a + 1)) (by omega) (by omega), w64 (by omega) (by omega)]; exact t2.1
        · rw [w64 (x := rd l a) (by omega) (by omega), w64 (x := 256 * rd l a) (by omega) (by omega), w64 (x := rd l (a + 1)) (by omega) (by omega), w64 (by omega) (by omega)]; exact t2.2
        · rw [w64 (x := a + 1 + 1) (by omega) (by omega)]; exact ⟨by omega, by omega, hb, h4, h5⟩
      · rw [if_neg c4, if_neg (by omega), w64 (x := rd l a) (by omega) (by omega)]
        exact ⟨_, _, _, rfl, t1.1, t1.2, by omega, by omega, hb, h4, h5⟩
    · rw [if_neg c3, if_neg (by omega), w64 (x := rd l a) (by omega) (by omega)]
      exact ⟨_, _, _, rfl, t1.1, t1.2, by omega, by omega, hb, h4, h5⟩
  · rw [if_neg c2, w64 (x := s * 1103) (by omega) (by omega), w64 (x := s * 1103 + 12345) (by omega) (by omega), w64 (x := a + 1) (by omega) (by omega)]
    have t3 := tmodw (x := s * 1103 + 12345) (y := 65521) (by omega) (by omega)
    rw [tdw (x := Int.tmod (s * 1103 + 12345) 65521) (by omega) (by omega) (by omega)]
    have d3 := div_bd (x := Int.tmod (s * 1103 + 12345) 65521) (y := 3) (by omega) (by omega)
    by_cases c5 : (l.length : Int) > 0
    · have t4 := tmodw (x := a) (y := (l.length : Int)) h1 c5
      have r4 := rd_byte hl (Int.tmod a (l.length : Int)) t4.1 t4.2
      rw [if_pos c5, if_neg (by omega), if_pos t4.1, if_pos t4.2, if_neg (by omega), w64 (x := rd l (Int.tmod a (l.length : Int))) (by omega) (by omega), w64 (x := Int.tmod (s * 1103 + 12345) 65521 / 3 + rd l (Int.tmod a (l.length : Int))) (by omega) (by omega)]
      have t5 := tmodw (x := Int.tmod (s * 1103 + 12345) 65521 / 3 + rd l (Int.tmod a (l.length : Int))) (y := n) (by omega) (by omega)
      exact ⟨_, _, _, rfl, t5.1, t5.2, by omega, by omega, hb, t3.1, by omega⟩
    · rw [if_neg c5, if_neg (by omega)]
      have t5 := tmodw (x := Int.tmod (s * 1103 + 12345) 65521 / 3) (y := n) (by omega) (by omega)
      exact ⟨_, _, _, rfl, t5.1, t5.2, by omega, by omega, hb, t3.1, by omega⟩
theorem open_ok {l : List Int} (hl : BytesL l) : ∃ s, spec_l01Open.f l = some (l, 0, s) ∧ CurOk 0 s 0 := by
  refine ⟨13 + ((l.length : Int) % 1000), rfl, by omega, by omega, by omega, by omega, by omega⟩

theorem once_ok {l : List Int} (hl : BytesL l) {a s b : Int} (n : Int) (hc : CurOk a s b) (hb : b + 2 ≤ 1152921504606846976) (hn : 1 ≤ n) : ∃ r a' s', spec_l01Cur_once.f l a s n = some (r, a', s') ∧ CurOk a' s' (b + 2) := by
  obtain ⟨r, a', s', h, _, _, h'⟩ := pick_ok hl n hc hb hn
  unfold spec_l01Cur_once.f
  rw [h]
  exact ⟨_, _, _, rfl, h'⟩

def inR (lo hi : Int) (l : List Int) : Bool := l.all fun x => decide (lo ≤ x ∧ x ≤ hi)
theorem inR_nil (lo hi : Int) : inR lo hi [] = true := rfl
theorem inR_cons (lo hi x : Int) (l : List Int) : inR lo hi (x :: l) = (decide (lo ≤ x ∧ x ≤ hi) && inR lo hi l) := rfl
theorem inR_at {lo hi : Int} {l : List Int} (h : inR lo hi l = true) (i : Nat) (hi' : i < l.length) : lo ≤ l[i] ∧ l[i] ≤ hi := by
  unfold inR at h; rw [List.all_eq_true] at h; simpa using h l[i] (List.getElem_mem hi')

theorem rd_getD (l : List Int) (i : Nat) : rd l (i : Int) = l.getD i 0 := by simp [rd]
theorem push_loop {α β : Type} (F : Nat → List α → Int → Option β) (g : Nat → α) (n : Nat) (res : β)
    (hstep : ∀ (k i : Nat) (a : List α), i < n → a.length = i → F (k + 1) a (i : Int) = F k (a ++ [g i]) ((i + 1 : Nat) : Int))
    (hend : ∀ k : Nat, F (k + 1) ((List.range n).map g) (n : Int) = some res) : ∀ k : Nat, n < k → F k [] 0 = some res := by
  have main : ∀ (d k i : Nat), i + d = n → d < k → F k ((List.range i).map g) (i : Int) = some res := by
    intro d
    induction d with
    | zero =>
      intro k i h1 hk
      obtain ⟨k, rfl⟩ : ∃ m, k = m + 1 := ⟨k - 1, by omega⟩
      obtain rfl : i = n := by omega
      exact hend k
    | succ d ih =>
      intro k i h1 hk
      obtain ⟨k, rfl⟩ : ∃ m, k = m + 1 := ⟨k - 1, by omega⟩
      rw [hstep k i _ (by omega) (by simp)]
      have e : (List.range (i + 1)).map g = (List.range i).map g ++ [g i] := by rw [List.range_succ, List.map_append]; rfl
      rw [← e]
      exact ih k (i + 1) (by omega) (by omega)
  intro k hk
  exact main n k 0 (by omega) hk
theorem state_loop {σ β : Type} (F : Nat → σ → Int → Option β) (s : Nat → σ) (n : Nat) (res : β)
    (hstep : ∀ (k i : Nat), i < n → F (k + 1) (s i) (i : Int) = F k (s (i + 1)) ((i + 1 : Nat) : Int))
    (hend : ∀ k : Nat, F (k + 1) (s n) (n : Int) = some res) : ∀ k : Nat, n < k → F k (s 0) 0 = some res := by
  have main : ∀ (d k i : Nat), i + d = n → d < k → F k (s i) (i : Int) = some res := by
    intro d
    induction d with
    | zero =>
      intro k i h1 hk
      obtain ⟨k, rfl⟩ : ∃ m, k = m + 1 := ⟨k - 1, by omega⟩
      obtain rfl : i = n := by omega
      exact hend k
    | succ d ih =>
      intro k i h1 hk
      obtain ⟨k, rfl⟩ : ∃ m, k = m + 1 := ⟨k - 1, by omega⟩
      rw [hstep k i (by omega)]
      exact ih k (i + 1) (by omega) (by omega)
  intro k hk
  exact main n k 0 (by omega) hk
theorem inR_getD {lo hi : Int} {l : List Int} (h : inR lo hi l = true) (i : Nat) (h' : i < l.length) : lo ≤ l.getD i 0 ∧ l.getD i 0 ≤ hi := by
  have := inR_at h i h'
  simpa [List.getD_eq_getElem?_getD, h'] using this

def oddsL : List Int := [(-1), 0, 1, 2, 255, 256, 65535, 9223372036854775807, (-9223372036854775808), 17, 8, 12]
theorem odd_ok {l : List Int} (hl : BytesL l) {a s b : Int} (hc : CurOk a s b) (hb : b + 2 ≤ 1152921504606846976) : ∃ r a' s', spec_l01Cur_odd.f l a s = some (r, a', s') ∧ (-9223372036854775808 ≤ r ∧ r ≤ 9223372036854775807) ∧ CurOk a' s' (b + 2) := by
  obtain ⟨r, a', s', h, h0, h1, h'⟩ := pick_ok hl 12 hc hb (by omega)
  unfold spec_l01Cur_odd.f
  rw [Option.bind_some, h, Option.bind_some]
  show ∃ r0 a0 s0, (if 0 ≤ r then if r < (oddsL.length : Int) then some (rd oddsL r, a', s') else none else none) = _ ∧ _
  rw [if_pos h0, if_pos (show r < (oddsL.length : Int) by simp [oddsL]; omega)]
  refine ⟨_, _, _, rfl, ?_, h'⟩
  obtain ⟨n, rfl⟩ := Int.eq_ofNat_of_zero_le h0
  have key : ∀ j : Fin 12, -9223372036854775808 ≤ oddsL.getD j.val 0 ∧ oddsL.getD j.val 0 ≤ 9223372036854775807 := by decide +kernel
  rw [rd_getD]
  exact key ⟨n, by omega⟩

theorem clipG (a lo hi : Int) : spec_l05Clip.f a lo hi = some (if a < lo then lo else if a > hi then hi else a) := by
  unfold spec_l05Clip.f; (repeat' split) <;> rfl

theorem drawBlock_loop {l : List Int} (hl : BytesL l) (m : Int) (hm : 0 ≤ m ∧ m ≤ 100000) : ∀ (d : Nat) (k : Nat) (o : List Int) (i a s b : Int), d < k → i + d = 64 → (o.length : Int) = i → CurOk a s b → b + 8 * d ≤ 1152921504606846976 → (∀ x ∈ o, -m ≤ x ∧ x ≤ m) → ∃ o' a' s', spec_l05DrawBlock.l0 k m o i l a s = some (o', a', s') ∧ o'.length = 64 ∧ (∀ x ∈ o', -m ≤ x ∧ x ≤ m) ∧ CurOk a' s' (b + 8 * d) := by
  intro d
  induction d with
  | zero =>
    intro k o i a s b hk hi ho hc hb hr
    obtain ⟨k, rfl⟩ : ∃ m, k = m + 1 := ⟨k - 1, by omega⟩
    exact ⟨o, a, s, by rw [spec_l05DrawBlock.l0, if_neg (by omega)], by omega, hr, by rw [show b + 8 * ((0 : Nat) : Int) = b by omega]; exact hc⟩
  | succ d ih =>
    intro k o i a s b hk hi ho hc hb hr
    obtain ⟨k, rfl⟩ : ∃ m, k = m + 1 := ⟨k - 1, by omega⟩
    have done : ∀ (v a0 s0 : Int), CurOk a0 s0 (b + 8) → -m ≤ v ∧ v ≤ m → ∃ o' a' s', spec_l05DrawBlock.l0 k m (o ++ [v]) (wrap64 (i + 1)) l a0 s0 = some (o', a', s') ∧ o'.length = 64 ∧ (∀ x ∈ o', -m ≤ x ∧ x ≤ m) ∧ CurOk a' s' (b + 8 * ((d + 1 : Nat) : Int)) := by
      intro v a0 s0 hc0 hv
      rw [w64 (by omega) (by omega), show b + 8 * ((d + 1 : Nat) : Int) = b + 8 + 8 * (d : Int) by omega]
      exact ih k (o ++ [v]) (i + 1) a0 s0 (b + 8) (by omega) (by omega) (by simp; omega) hc0 (by omega) (by
        intro x hx
        rcases List.mem_append.1 hx with hx | hx
        · exact hr x hx
        · rw [List.mem_singleton.1 hx]; exact hv)
    have up : ∀ a0 s0 b0 : Int, CurOk a0 s0 b0 → b0 ≤ b + 8 → CurOk a0 s0 (b + 8) := fun a0 s0 b0 ⟨h1, h2, h3, h4, h5⟩ h => ⟨h1, by omega, by omega, h4, h5⟩
    have clipB : ∀ v : Int, -m ≤ (if v < -m then -m else if v > m then m else v) ∧ (if v < -m then -m else if v > m then m else v) ≤ m := by
      intro v; (repeat' split) <;> omega
    rw [spec_l05DrawBlock.l0, if_pos (by omega), w64 (x := -m) (by omega) (by omega), w64 (x := 2 * m) (by omega) (by omega), w64 (x := 2 * m + 1) (by omega) (by omega)]
    obtain ⟨r1, a1, s1, e1, p1, q1, c1⟩ := pick_ok hl 4 hc (by omega) (by omega)
    simp only [e1, Option.bind_some]
    by_cases h1 : r1 = 0
    · rw [if_pos h1]
      obtain ⟨r2, a2, s2, e2, p2, q2, c2⟩ := pick_ok hl (2 * m + 1) c1 (by omega) (by omega)
      simp only [e2, Option.bind_some]
      obtain ⟨r3, a3, s3, e3, c3⟩ := once_ok hl 2 c2 (by omega) (by omega)
      simp only [e3, Option.bind_some]
      by_cases h3 : r3 = true
      · rw [if_pos h3]
        obtain ⟨r4, a4, s4, e4, p4, q4, c4⟩ := pick_ok hl 9 c3 (by omega) (by omega)
        simp only [e4, Option.bind_some, clipG]
        rw [if_pos (by omega)]
        exact done _ a4 s4 (up _ _ _ c4 (by omega)) (clipB _)
      · rw [if_neg h3]
        simp only [clipG, Option.bind_some]
        rw [if_pos (by omega)]
        exact done _ a3 s3 (up _ _ _ c3 (by omega)) (clipB _)
    · rw [if_neg h1]
      simp only [clipG, Option.bind_some]
      rw [if_pos (by omega)]
      exact done _ a1 s1 (up _ _ _ c1 (by omega)) (clipB _)
theorem drawBlock_ok {l : List Int} (hl : BytesL l) (m : Int) (hm : 0 ≤ m ∧ m ≤ 100000) {a s b : Int} (hc : CurOk a s b) (hb : b + 512 ≤ 1152921504606846976) (k : Nat) (hk : 64 < k) : ∃ o a' s', spec_l05DrawBlock.f k l a s m = some (o, a', s') ∧ o.length = 64 ∧ (∀ x ∈ o, -m ≤ x ∧ x ≤ m) ∧ CurOk a' s' (b + 512) := by
  unfold spec_l05DrawBlock.f
  exact drawBlock_loop hl m hm 64 k [] 0 a s b hk (by omega) (by simp) hc (by omega) (by simp)

theorem between_eq (a lo hi : Int) : spec_l01Between.f a lo hi = some (decide (lo ≤ a ∧ a ≤ hi)) := by
  unfold spec_l01Between.f
  by_cases h : a ≥ lo
  · rw [if_pos h]; congr 1; simp; omega
  · rw [if_neg h]; congr 1; simp; omega

theorem within_eq (a lo hi : Int) : impl_within.f a lo hi = some (decide (lo ≤ a ∧ a ≤ hi)) := by
  unfold impl_within.f
  by_cases h : a ≥ lo
  · rw [if_pos h]; congr 1; simp; omega
  · rw [if_neg h]; congr 1; simp; omega

def isLen (x : Int) (m : Nat) : Prop := (m = 0 ∧ x = 0) ∨ (1 ≤ m ∧ (2 : Int) ^ (m - 1) ≤ x ∧ x < (2 : Int) ^ m)
theorem two_pow (m : Nat) : (2 : Int) ^ (m + 1) = 2 * (2 : Int) ^ m := by rw [Int.pow_succ, Int.mul_comm]
theorem two_pos (m : Nat) : 1 ≤ (2 : Int) ^ m := by
  induction m with
  | zero => simp
  | succ m ih => rw [two_pow]; omega
theorem specClass_loop : ∀ (m k : Nat) (c x : Int), 0 ≤ c → c + m ≤ 1000 → x ≤ 4294967296 → isLen x m → m < k → spec_ClassOf.l0 k c x = some (c + m) := by
  intro m
  induction m with
  | zero =>
    intro k c x h0 h1 hx h hk
    obtain ⟨k, rfl⟩ : ∃ m, k = m + 1 := ⟨k - 1, by omega⟩
    rcases h with ⟨_, h⟩ | ⟨h, _⟩
    · rw [spec_ClassOf.l0, if_neg (by omega)]; simp
    · omega
  | succ m ih =>
    intro k c x h0 h1 hx h hk
    obtain ⟨k, rfl⟩ : ∃ m, k = m + 1 := ⟨k - 1, by omega⟩
    rcases h with ⟨h, _⟩ | ⟨_, hlo, hhi⟩
    · omega
    · rw [Nat.add_sub_cancel] at hlo
      have hp := two_pos m
      rw [two_pow] at hhi
      have hl : isLen (x / 2) m := by
        cases m with
        | zero => exact .inl ⟨rfl, by simp at hlo hhi; omega⟩
        | succ m =>
          refine .inr ⟨by omega, ?_, by omega⟩
          rw [two_pow] at hlo
          rw [Nat.add_sub_cancel]
          omega
      rw [spec_ClassOf.l0, if_pos (by omega), tdw (by omega) (by omega) (by omega), w64 (by omega) (by omega), ih k (c + 1) (x / 2) (by omega) (by omega) (by omega) hl (by omega)]
      congr 1; omega
def tab : ByteArray := ⟨#[0, 1, 2, 2, 3, 3, 3, 3, 4, 4, 4, 4, 4, 4, 4, 4, 5, 5, 5, 5, 5, 5, 5, 5, 5, 5, 5, 5, 5, 5, 5, 5, 6, 6, 6, 6, 6, 6, 6, 6, 6, 6, 6, 6, 6, 6, 6, 6, 6, 6, 6, 6, 6, 6, 6, 6, 6, 6, 6, 6, 6, 6, 6, 6, 7, 7, 7, 7, 7, 7, 7, 7, 7, 7, 7, 7, 7, 7, 7, 7, 7, 7, 7, 7, 7, 7, 7, 7, 7, 7, 7, 7, 7, 7, 7, 7, 7, 7, 7, 7, 7, 7, 7, 7, 7, 7, 7, 7, 7, 7, 7, 7, 7, 7, 7, 7, 7, 7, 7, 7, 7, 7, 7, 7, 7, 7, 7, 7, 8, 8, 8, 8, 8, 8, 8, 8, 8, 8, 8, 8, 8, 8, 8, 8, 8, 8, 8, 8, 8, 8, 8, 8, 8, 8, 8, 8, 8, 8, 8, 8, 8, 8, 8, 8, 8, 8, 8, 8, 8, 8, 8, 8, 8, 8, 8, 8, 8, 8, 8, 8, 8, 8, 8, 8, 8, 8, 8, 8, 8, 8, 8, 8, 8, 8, 8, 8, 8, 8, 8, 8, 8, 8, 8, 8, 8, 8, 8, 8, 8, 8, 8, 8, 8, 8, 8, 8, 8, 8, 8, 8, 8, 8, 8, 8, 8, 8, 8, 8, 8, 8, 8, 8, 8, 8, 8, 8, 8, 8, 8, 8, 8, 8, 8, 8, 8, 8, 8, 8, 8, 8, 8, 8, 8, 8, 8, 8]⟩
theorem tab_small (y : Int) (h0 : 0 ≤ y) (h1 : y < 256) : ∃ m : Nat, m ≤ 8 ∧ bt tab y = (m : Int) ∧ isLen y m := by
  have key : ∀ j : Fin 256, ((bt tab (j.val : Int)) = 0 ∧ j.val = 0) ∨ (1 ≤ (bt tab (j.val : Int)).toNat ∧ (bt tab (j.val : Int)).toNat ≤ 8 ∧ 0 ≤ bt tab (j.val : Int) ∧ (2 : Int) ^ ((bt tab (j.val : Int)).toNat - 1) ≤ (j.val : Int) ∧ (j.val : Int) < (2 : Int) ^ (bt tab (j.val : Int)).toNat) := by decide +kernel
  obtain ⟨n, rfl⟩ := Int.eq_ofNat_of_zero_le h0
  rcases key ⟨n, by omega⟩ with ⟨h, hn⟩ | ⟨ha, hb, hc, hd, he⟩
  · simp only at h hn
    subst hn
    exact ⟨0, by omega, h, .inl ⟨rfl, rfl⟩⟩
  · simp only at ha hb hc hd he
    exact ⟨(bt tab (n : Int)).toNat, hb, (Int.toNat_of_nonneg hc).symm, .inr ⟨ha, hd, he⟩⟩
theorem len64_eq (x : Int) (h0 : 0 ≤ x) (h1 : x < 65536) : ∃ m : Nat, m ≤ 16 ∧ isLen x m ∧ ∀ k : Nat, 0 < k → bits_Len64.f k x = some (m : Int) := by
  by_cases h : x ≥ 256
  · obtain ⟨m, hm, hb, hl⟩ := tab_small (x / 256) (by omega) (by omega)
    refine ⟨m + 8, by omega, ?_, fun k hk => ?_⟩
    · rcases hl with ⟨_, hl⟩ | ⟨ha, hc, hd⟩
      · omega
      · refine .inr ⟨by omega, ?_, ?_⟩
        · rw [show m + 8 - 1 = m - 1 + 8 by omega, Int.pow_add]
          have : (2 : Int) ^ 8 = 256 := by decide
          omega
        · rw [Int.pow_add]
          have : (2 : Int) ^ 8 = 256 := by decide
          omega
    · obtain ⟨k, rfl⟩ : ∃ m, k = m + 1 := ⟨k - 1, by omega⟩
      unfold bits_Len64.f
      rw [if_neg (by omega), bits_Len64.j0, if_neg (by omega), if_pos h, if_pos (by omega), if_pos (by omega)]
      show some (wrap64 (wrap64 (0 + 8) + wrap64 (bt tab (x / 256 % 256)))) = _
      rw [show x / 256 % 256 = x / 256 by omega, hb, w64 (x := 0 + 8) (by omega) (by omega), w64 (x := (m : Int)) (by omega) (by omega), w64 (by omega) (by omega)]
      congr 1; omega
  · obtain ⟨m, hm, hb, hl⟩ := tab_small x (by omega) (by omega)
    refine ⟨m, by omega, hl, fun k hk => ?_⟩
    obtain ⟨k, rfl⟩ : ∃ m, k = m + 1 := ⟨k - 1, by omega⟩
    unfold bits_Len64.f
    rw [if_neg (by omega), bits_Len64.j0, if_neg (by omega), if_neg h, if_pos (by omega), if_pos (by omega)]
    show some (wrap64 (0 + wrap64 (bt tab (x % 256)))) = _
    rw [show x % 256 = x by omega, hb, w64 (x := (m : Int)) (by omega) (by omega), w64 (by omega) (by omega)]
    congr 1; omega
theorem absW (n : Int) (h : -32767 ≤ n ∧ n ≤ 32767) : IntKind.u64.wrap (mx n (wrap64 (-n))) = (if n < 0 then -n else n) := by
  have e : mx n (wrap64 (-n)) = (if n < 0 then -n else n) := by
    rw [w64 (by omega) (by omega)]; unfold mx; (repeat' split) <;> omega
  rw [e]
  simp only [IntKind.wrap, IntKind.bits, IntKind.signed]
  split <;> simp <;> omega
/-- The class: of a number's own size; -1 where the number is too great. -/
theorem class_eq (n : Int) : ∃ c : Int, (∀ k : Nat, 40 ≤ k → spec_ClassOf.f k n = some c) ∧ (∀ k : Nat, 40 ≤ k → impl_ClassOf.f k n = some c) ∧ ((c = -1 ∧ ¬ (-32767 ≤ n ∧ n ≤ 32767)) ∨ ((-32767 ≤ n ∧ n ≤ 32767) ∧ ∃ m : Nat, c = (m : Int) ∧ m ≤ 16 ∧ isLen (if n < 0 then -n else n) m)) := by
  by_cases h : -32767 ≤ n ∧ n ≤ 32767
  · obtain ⟨m, hm, hl, hf⟩ := len64_eq (if n < 0 then -n else n) (by split <;> omega) (by split <;> omega)
    refine ⟨m, fun k hk => ?_, fun k hk => ?_, .inr ⟨h, m, rfl, hm, hl⟩⟩
    · unfold spec_ClassOf.f spec_l07Abs.f
      rw [between_eq, decide_eq_true h, Option.bind_some, if_pos rfl]
      have e : (if n < 0 then some (wrap64 (-n)) else some n) = some (if n < 0 then -n else n) := by
        split
        · rw [w64 (by omega) (by omega)]
        · rfl
      rw [e, Option.bind_some, specClass_loop m k 0 _ (by omega) (by omega) (by split <;> omega) hl (by omega)]
      congr 1; omega
    · unfold impl_ClassOf.f impl_isCoef.f bits_Len.f
      rw [within_eq, decide_eq_true h, Option.bind_some, Option.bind_some, if_pos rfl, absW n h, hf k (by omega)]; rfl
  · refine ⟨-1, fun k hk => ?_, fun k hk => ?_, .inl ⟨rfl, h⟩⟩
    · unfold spec_ClassOf.f
      rw [between_eq, decide_eq_false h]; rfl
    · unfold impl_ClassOf.f impl_isCoef.f
      rw [within_eq, decide_eq_false h]; rfl

theorem bits_eq (n : Int) (c : Int) (e1 : ∀ k : Nat, 40 ≤ k → spec_ClassOf.f k n = some c) (e2 : ∀ k : Nat, 40 ≤ k → impl_ClassOf.f k n = some c) (hc : (c = -1 ∧ ¬ (-32767 ≤ n ∧ n ≤ 32767)) ∨ ((-32767 ≤ n ∧ n ≤ 32767) ∧ ∃ m : Nat, c = (m : Int) ∧ m ≤ 16 ∧ isLen (if n < 0 then -n else n) m)) :
    ∃ v, (∀ k : Nat, 40 ≤ k → spec_BitsOf.f k n = some v) ∧ (∀ k : Nat, 40 ≤ k → impl_BitsOf.f k n = some v) ∧ ((c = -1 ∧ v = -1) ∨ (0 ≤ c ∧ v = if n < 0 then wrap64 (wrap64 (n + shl .i64 1 c) - 1) else n)) := by
  rcases hc with ⟨rfl, h⟩ | ⟨h, m, rfl, hm, hl⟩
  · refine ⟨-1, fun k hk => ?_, fun k hk => ?_, .inl ⟨rfl, rfl⟩⟩
    · unfold spec_BitsOf.f spec_l07Most.f
      rw [e1 k hk]; rfl
    · unfold impl_BitsOf.f impl_isCoef.f
      rw [within_eq, decide_eq_false h]; rfl
  · refine ⟨if n < 0 then wrap64 (wrap64 (n + shl .i64 1 (m : Int)) - 1) else n, fun k hk => ?_, fun k hk => ?_, .inr ⟨by omega, rfl⟩⟩
    · unfold spec_BitsOf.f spec_l07Most.f
      rw [e1 k hk, Option.bind_some, if_neg (by omega)]
      by_cases hn : n < 0
      · rw [if_neg (by omega), if_pos (by omega), if_pos hn]
      · rw [if_pos (by omega), if_neg (by omega), if_neg hn]; rfl
    · unfold impl_BitsOf.f impl_isCoef.f
      rw [within_eq, decide_eq_true h, Option.bind_some, Option.bind_some, if_pos rfl, e2 k hk, Option.bind_some]
      by_cases hn : n < 0
      · rw [if_pos hn, if_pos (by omega), if_pos hn]
      · rw [if_neg hn, if_neg hn]

theorem allWithin_loop (l : List Int) (lo hi : Int) (hl : l.length ≤ 4611686018427387904) : ∀ (d k i : Nat), i + d = l.length → d < k → impl_allWithin.l0 k lo hi l (l.length : Int) (i : Int) = some (inR lo hi (l.drop i)) := by
  intro d
  induction d with
  | zero =>
    intro k i h1 hk
    obtain ⟨k, rfl⟩ : ∃ m, k = m + 1 := ⟨k - 1, by omega⟩
    rw [impl_allWithin.l0, if_neg (by omega), List.drop_eq_nil_of_le (by omega), inR_nil]
  | succ d ih =>
    intro k i h1 hk
    obtain ⟨k, rfl⟩ : ∃ m, k = m + 1 := ⟨k - 1, by omega⟩
    rw [impl_allWithin.l0, if_pos (by omega), if_pos (by omega), if_pos (by omega), within_eq, rd_nat l i (by omega), wsucc (by omega), ih k (i + 1) (by omega) (by omega), drop_at l i (by omega), inR_cons]
    simp only [Option.bind_some]
    by_cases h : lo ≤ l[i] ∧ l[i] ≤ hi <;> simp [h]
theorem allWithin_eq (l : List Int) (lo hi : Int) (hl : l.length ≤ 4611686018427387904) (k : Nat) (hk : l.length < k) : impl_allWithin.f k l lo hi = some (inR lo hi l) := by
  unfold impl_allWithin.f
  exact allWithin_loop l lo hi hl l.length k 0 (by omega) hk

def clsV (n : Int) : Int := (spec_ClassOf.f 40 n).getD 0
def btsV (n : Int) : Int := (spec_BitsOf.f 40 n).getD 0
theorem class_full (n : Int) : (∀ k : Nat, 40 ≤ k → spec_ClassOf.f k n = some (clsV n)) ∧ (∀ k : Nat, 40 ≤ k → impl_ClassOf.f k n = some (clsV n)) ∧ (∀ k : Nat, 40 ≤ k → spec_BitsOf.f k n = some (btsV n)) ∧ (∀ k : Nat, 40 ≤ k → impl_BitsOf.f k n = some (btsV n)) ∧ ((clsV n = -1 ∧ ¬ (-32767 ≤ n ∧ n ≤ 32767)) ∨ ((-32767 ≤ n ∧ n ≤ 32767) ∧ ∃ m : Nat, clsV n = (m : Int) ∧ m ≤ 16 ∧ isLen (if n < 0 then -n else n) m ∧ btsV n = if n < 0 then wrap64 (wrap64 (n + shl .i64 1 (m : Int)) - 1) else n)) := by
  obtain ⟨c, e1, e2, hc⟩ := class_eq n
  obtain ⟨v, f1, f2, hv⟩ := bits_eq n c e1 e2 hc
  have hcv : clsV n = c := by unfold clsV; rw [e1 40 (by omega)]; rfl
  have hbv : btsV n = v := by unfold btsV; rw [f1 40 (by omega)]; rfl
  rw [hcv, hbv]
  refine ⟨e1, e2, f1, f2, ?_⟩
  rcases hc with ⟨h, h'⟩ | ⟨h, m, h1, h2, h3⟩
  · exact .inl ⟨h, h'⟩
  · refine .inr ⟨h, m, h1, h2, h3, ?_⟩
    rcases hv with ⟨hx, _⟩ | ⟨_, hv⟩
    · omega
    · rw [hv, h1]
def runsG : Nat → List Int → List S83
  | r, [] => if 0 < r then [⟨0, 0, 0⟩] else []
  | r, x :: xs => if x = 0 then runsG (r + 1) xs else List.replicate (r / 16) ⟨15, 0, 0⟩ ++ ⟨((r % 16 : Nat) : Int), clsV x, btsV x⟩ :: runsG 0 xs
theorem runsG_len : ∀ (l : List Int) (r : Nat), (runsG r l).length ≤ l.length + (r + 15) / 16
  | [], r => by
    unfold runsG
    split <;> simp <;> omega
  | x :: xs, r => by
    have h1 := runsG_len xs (r + 1)
    have h2 := runsG_len xs 0
    unfold runsG
    split
    · simp only [List.length_cons]; omega
    · simp only [List.length_append, List.length_replicate, List.length_cons]; omega
theorem specRuns_l1 (l : List Int) (i : Nat) (hi : i < l.length) (hl : l.length ≤ 64) : ∀ (q k : Nat) (a : List S83) (s : Nat), s < 16 → q ≤ 1000 → 40 ≤ k → a.length + q ≤ 2000 → spec_RunsOf.l1 (k + q + 1) l a ((16 * q + s : Nat) : Int) (i : Int) = spec_RunsOf.l0 k l (a ++ (List.replicate q ⟨15, 0, 0⟩ ++ [⟨(s : Int), clsV l[i], btsV l[i]⟩])) 0 ((i + 1 : Nat) : Int) := by
  intro q
  induction q with
  | zero =>
    intro k a s hs hq hk ha
    obtain ⟨c1, _, c3, _, _⟩ := class_full l[i]
    rw [spec_RunsOf.l1, if_neg (by omega), if_pos (by omega), if_pos (by omega), rd_nat l i hi, c1 _ (by omega), Option.bind_some, c3 _ (by omega), Option.bind_some, if_pos (by omega), wsucc (by omega)]
    simp
  | succ q ih =>
    intro k a s hs hq hk ha
    rw [show k + (q + 1) + 1 = (k + q + 1) + 1 by omega, spec_RunsOf.l1, if_pos (by omega), if_pos (by omega), w64 (by omega) (by omega), show ((16 * (q + 1) + s : Nat) : Int) - 16 = ((16 * q + s : Nat) : Int) by omega, ih k _ s hs (by omega) hk (by simp; omega)]
    simp [List.replicate_succ]
theorem specRuns_l0 (l : List Int) (hl : l.length ≤ 64) : ∀ (d k i r : Nat) (a : List S83), i + d = l.length → r ≤ i → 41 + 10 * d ≤ k → a.length ≤ 10 * i → spec_RunsOf.l0 k l a (r : Int) (i : Int) = some (a ++ runsG r (l.drop i)) := by
  intro d
  induction d with
  | zero =>
    intro k i r a h1 hr hk ha
    obtain ⟨k, rfl⟩ : ∃ m, k = m + 1 := ⟨k - 1, by omega⟩
    rw [spec_RunsOf.l0, if_neg (by omega), List.drop_eq_nil_of_le (by omega), runsG]
    by_cases h : 0 < r
    · rw [if_pos (by omega), if_pos (by omega), if_pos h]
    · rw [if_neg (by omega), if_neg h, List.append_nil]
  | succ d ih =>
    intro k i r a h1 hr hk ha
    obtain ⟨k, rfl⟩ : ∃ m, k = m + 1 := ⟨k - 1, by omega⟩
    rw [spec_RunsOf.l0, if_pos (by omega), if_pos (by omega), rd_nat l i (by omega), drop_at l i (by omega), runsG]
    by_cases h : l[i] = 0
    · rw [if_pos h, if_pos h, wsucc (by omega), wsucc (by omega)]
      exact ih k (i + 1) (r + 1) a (by omega) (by omega) (by omega) (by omega)
    · rw [if_neg h, if_neg h]
      obtain ⟨j, rfl⟩ : ∃ j, k = j + r / 16 + 1 := ⟨k - r / 16 - 1, by omega⟩
      have e := specRuns_l1 l i (by omega) hl (r / 16) j a (r % 16) (by omega) (by omega) (by omega) (by omega)
      rw [show 16 * (r / 16) + r % 16 = r by omega] at e
      rw [e]
      have e2 := ih j (i + 1) 0 (a ++ (List.replicate (r / 16) ⟨15, 0, 0⟩ ++ [⟨((r % 16 : Nat) : Int), clsV l[i], btsV l[i]⟩])) (by omega) (by omega) (by omega) (by simp; omega)
      refine e2.trans ?_
      simp
theorem implRuns_l1 (l : List Int) (i : Nat) (hi : i < l.length) (hl : l.length ≤ 64) : ∀ (q k : Nat) (a : List S83) (s : Nat), s < 16 → q ≤ 1000 → 40 ≤ k → a.length + q ≤ 2000 → impl_runsOf.l1 (k + q + 1) a ((16 * q + s : Nat) : Int) l[i] l (l.length : Int) (i : Int) = impl_runsOf.l0 k (a ++ (List.replicate q ⟨15, 0, 0⟩ ++ [⟨(s : Int), clsV l[i], btsV l[i]⟩])) 0 l (l.length : Int) ((i + 1 : Nat) : Int) := by
  intro q
  induction q with
  | zero =>
    intro k a s hs hq hk ha
    obtain ⟨_, c1, _, c3, _⟩ := class_full l[i]
    rw [impl_runsOf.l1, if_neg (by omega), c1 _ (by omega), Option.bind_some, c3 _ (by omega), Option.bind_some, if_pos (by omega), wsucc (by omega)]
    simp
  | succ q ih =>
    intro k a s hs hq hk ha
    rw [show k + (q + 1) + 1 = (k + q + 1) + 1 by omega, impl_runsOf.l1, if_pos (by omega), if_pos (by omega), w64 (by omega) (by omega), show ((16 * (q + 1) + s : Nat) : Int) - 16 = ((16 * q + s : Nat) : Int) by omega, ih k _ s hs (by omega) hk (by simp; omega)]
    simp [List.replicate_succ]
theorem implRuns_l0 (l : List Int) (hl : l.length ≤ 64) : ∀ (d k i r : Nat) (a : List S83), i + d = l.length → r ≤ i → 41 + 10 * d ≤ k → a.length ≤ 10 * i → impl_runsOf.l0 k a (r : Int) l (l.length : Int) (i : Int) = some (a ++ runsG r (l.drop i)) := by
  intro d
  induction d with
  | zero =>
    intro k i r a h1 hr hk ha
    obtain ⟨k, rfl⟩ : ∃ m, k = m + 1 := ⟨k - 1, by omega⟩
    rw [impl_runsOf.l0, if_neg (by omega), List.drop_eq_nil_of_le (by omega), runsG]
    by_cases h : 0 < r
    · rw [if_pos (by omega), if_pos (by omega), if_pos h]
    · rw [if_neg (by omega), if_neg h, List.append_nil]
  | succ d ih =>
    intro k i r a h1 hr hk ha
    obtain ⟨k, rfl⟩ : ∃ m, k = m + 1 := ⟨k - 1, by omega⟩
    rw [impl_runsOf.l0, if_pos (by omega), if_pos (by omega), if_pos (by omega), rd_nat l i (by omega), drop_at l i (by omega), runsG]
    by_cases h : l[i] = 0
    · rw [if_pos h, if_pos h, wsucc (by omega), wsucc (by omega)]
      exact ih k (i + 1) (r + 1) a (by omega) (by omega) (by omega) (by omega)
    · rw [if_neg h, if_neg h]
      obtain ⟨j, rfl⟩ : ∃ j, k = j + r / 16 + 1 := ⟨k - r / 16 - 1, by omega⟩
      have e := implRuns_l1 l i (by omega) hl (r / 16) j a (r % 16) (by omega) (by omega) (by omega) (by omega)
      rw [show 16 * (r / 16) + r % 16 = r by omega] at e
      rw [e]
      have e2 := ih j (i + 1) 0 (a ++ (List.replicate (r / 16) ⟨15, 0, 0⟩ ++ [⟨((r % 16 : Nat) : Int), clsV l[i], btsV l[i]⟩])) (by omega) (by omega) (by omega) (by simp; omega)
      refine e2.trans ?_
      simp
theorem implruns_eq (l : List Int) (hl : l.length ≤ 64) (k : Nat) (hk : 800 ≤ k) : impl_runsOf.f k l = some (runsG 0 l) := by
  unfold impl_runsOf.f
  exact implRuns_l0 l hl l.length k 0 0 [] (by omega) (by omega) (by omega) (by simp)
theorem coefs_loop (l : List Int) (hl : l.length ≤ 64) : ∀ (d k i : Nat), i + d = l.length → 41 + d ≤ k → spec_l07Coefs.l0 k l (i : Int) = some (inR (-32767) 32767 (l.drop i)) := by
  intro d
  induction d with
  | zero =>
    intro k i h1 hk
    obtain ⟨k, rfl⟩ : ∃ m, k = m + 1 := ⟨k - 1, by omega⟩
    rw [spec_l07Coefs.l0, if_neg (by omega), List.drop_eq_nil_of_le (by omega), inR_nil]
  | succ d ih =>
    intro k i h1 hk
    obtain ⟨k, rfl⟩ : ∃ m, k = m + 1 := ⟨k - 1, by omega⟩
    obtain ⟨c1, _, _, _, hc⟩ := class_full l[i]
    rw [spec_l07Coefs.l0, if_pos (by omega), if_pos (by omega), rd_nat l i (by omega), c1 _ (by omega), Option.bind_some, wsucc (by omega), ih k (i + 1) (by omega) (by omega), drop_at l i (by omega), inR_cons]
    rcases hc with ⟨h, h'⟩ | ⟨h, m, hm, _⟩
    · rw [if_pos (by omega), decide_eq_false h', Bool.false_and]
    · rw [if_neg (by omega), decide_eq_true h, Bool.true_and]
def coefsB (l : List Int) : Bool := decide ((l.length : Int) ≤ 64) && inR (-32767) 32767 l
def runsR (l : List Int) : List S83 := if coefsB l then runsG 0 l else []
theorem runsR_len (l : List Int) : (runsR l).length ≤ 64 := by
  unfold runsR
  by_cases h : coefsB l = true
  · rw [if_pos h]
    have := runsG_len l 0
    simp [coefsB] at h
    omega
  · rw [if_neg h]; simp
theorem specRunsOf_eq (l : List Int) (k : Nat) (hk : 800 ≤ k) : spec_RunsOf.f k l = some (runsR l) := by
  unfold spec_RunsOf.f runsR coefsB spec_l07Coefs.f
  rw [Option.bind_some]
  by_cases h : (l.length : Int) > 64
  · rw [if_pos h, decide_eq_false (by omega)]; rfl
  · have e : spec_l07Coefs.l0 k l 0 = some (inR (-32767) 32767 (l.drop 0)) := coefs_loop l (by omega) l.length k 0 (by omega) (by omega)
    rw [if_neg h, e, decide_eq_true (by omega), Bool.true_and, Option.bind_some, List.drop_zero]
    by_cases h2 : inR (-32767) 32767 l = true
    · rw [if_pos h2, if_pos h2]
      exact specRuns_l0 l (by omega) l.length k 0 0 [] (by omega) (by omega) (by omega) (by simp)
    · rw [if_neg h2, if_neg h2]
theorem implRunsOf_eq (l : List Int) (k : Nat) (hk : 800 ≤ k) : impl_RunsOf.f k l = some (runsR l) := by
  unfold impl_RunsOf.f runsR coefsB
  by_cases h : (l.length : Int) > 64
  · rw [if_pos h, decide_eq_false (by omega)]; rfl
  · rw [if_neg h, allWithin_eq l _ _ (by omega) k (by omega), Option.bind_some, decide_eq_true (by omega), Bool.true_and]
    by_cases h2 : inR (-32767) 32767 l = true
    · rw [if_pos h2, if_pos h2, implruns_eq l (by omega) k hk]; rfl
    · rw [if_neg h2, if_neg h2]

theorem numof_back (n : Int) (m : Nat) (h : -32767 ≤ n ∧ n ≤ 32767) (hm : m ≤ 16) (hl : isLen (if n < 0 then -n else n) m) (v : Int) (hv : v = if n < 0 then wrap64 (wrap64 (n + shl .i64 1 (m : Int)) - 1) else n) :
    m < 16 ∧ 0 ≤ v ∧ v < shl .i64 1 (m : Int) ∧ impl_NumOf.f 2 (m : Int) v = some n ∧ ((n == 0) == ((m : Int) == 0)) = true := by
  have hm' : m < 16 := by
    rcases Nat.lt_or_ge m 16 with h' | h'
    · exact h'
    · obtain rfl : m = 16 := by omega
      rcases hl with ⟨h', _⟩ | ⟨_, h', _⟩
      · omega
      · have : (2 : Int) ^ (16 - 1) = 32768 := by decide
        split at h' <;> omega
  refine ⟨hm', ?_⟩
  have hs : shl .i64 1 (m : Int) = (2 : Int) ^ m := by
    have key : ∀ j : Fin 16, shl .i64 1 (j.val : Int) = (2 : Int) ^ j.val := by decide +kernel
    exact key ⟨m, hm'⟩
  have hp2 : (2 : Int) ^ m ≤ 32768 := by
    have key : ∀ j : Fin 16, (2 : Int) ^ j.val ≤ 32768 := by decide +kernel
    exact key ⟨m, hm'⟩
  have hp1 := two_pos m
  rw [hs] at hv ⊢
  have hv' : v = if n < 0 then n + (2 : Int) ^ m - 1 else n := by
    rw [hv]
    split
    · rw [w64 (x := n + (2 : Int) ^ m) (by omega) (by omega), w64 (by omega) (by omega)]
    · rfl
  unfold impl_NumOf.f
  rw [within_eq]
  cases m with
  | zero =>
    rcases hl with ⟨_, hx⟩ | ⟨hx, _⟩
    · have hn : n = 0 := by split at hx <;> omega
      subst hn
      have : v = 0 := by simpa using hv'
      subst this
      refine ⟨by omega, by decide, by decide +kernel, rfl⟩
    · omega
  | succ m =>
    rcases hl with ⟨hx, _⟩ | ⟨_, h1, h2⟩
    · omega
    · rw [Nat.add_sub_cancel] at h1
      have hq1 := two_pos m
      have hsm : shl .i64 1 ((m + 1 : Nat) : Int) = (2 : Int) ^ (m + 1) := hs
      rw [two_pow] at h2 hv' hp2 hsm ⊢
      have hmin : min ((m : Int)).toNat (IntKind.bits .i64) = m := by simp [IntKind.bits]; omega
      have hw1 : wrap64 (((m + 1 : Nat) : Int) - 1) = (m : Int) := by rw [w64 (by omega) (by omega)]; omega
      have hb : 0 ≤ v ∧ v < 2 * (2 : Int) ^ m := by
        rw [hv']; split at h1 <;> (split <;> first | omega | (exfalso; omega))
      refine ⟨hb.1, hb.2, ?_, ?_⟩
      · rw [decide_eq_true (by omega), Option.bind_some, if_pos rfl, if_pos (by omega), within_eq, hsm, w64 (x := 2 * (2 : Int) ^ m - 1) (by omega) (by omega), decide_eq_true (by omega), Option.bind_some, impl_NumOf.j0, if_neg (by decide), hw1, if_pos (by omega), shr, hmin, hsm]
        by_cases hn : n < 0
        · rw [if_pos hn] at h1 h2 hv'
          rw [Int.ediv_eq_zero_of_lt hb.1 (by omega), if_neg (by omega), if_pos (by omega), w64 (x := v - 2 * (2 : Int) ^ m) (by omega) (by omega), w64 (by omega) (by omega)]
          congr 1; omega
        · rw [if_neg hn] at h1 h2 hv'
          have hd : v / (2 : Int) ^ m = 1 := by
            rw [show v = (v - (2 : Int) ^ m) + 1 * (2 : Int) ^ m by omega, Int.add_mul_ediv_right _ _ (by omega), Int.ediv_eq_zero_of_lt (by omega) (by omega)]; rfl
          rw [hd, if_pos rfl, hv']
      · have : ¬ n = 0 := by split at h1 <;> omega
        have h' : ¬ ((m + 1 : Nat) : Int) = 0 := by omega
        rw [show (n == 0) = false from beq_eq_false_iff_ne.mpr this, show (((m + 1 : Nat) : Int) == 0) = false from beq_eq_false_iff_ne.mpr h']; rfl

def Ev {α : Type} (f : Nat → α) (r : α) : Prop := ∃ K : Nat, ∀ k : Nat, K ≤ k → f k = r
theorem Ev.step {α : Type} {f g : Nat → α} {r : α} (N : Nat) (h : ∀ k : Nat, N ≤ k → f (k + 1) = g k) (a : Ev g r) : Ev f r := by
  obtain ⟨K, a⟩ := a
  refine ⟨N + K + 1, fun k hk => ?_⟩
  obtain ⟨j, rfl⟩ : ∃ j, k = j + 1 := ⟨k - 1, by omega⟩
  rw [h j (by omega), a j (by omega)]
theorem Ev.done {α : Type} {f : Nat → α} {r : α} (N : Nat) (h : ∀ k : Nat, N ≤ k → f (k + 1) = r) : Ev f r := by
  refine ⟨N + 1, fun k hk => ?_⟩
  obtain ⟨j, rfl⟩ : ∃ j, k = j + 1 := ⟨k - 1, by omega⟩
  exact h j (by omega)
theorem num_eq (s b : Int) : ∃ v : Int, (-32767 ≤ v ∧ v ≤ 32767) ∧ (∀ k : Nat, spec_NumOf.f (k + 1) s b = some v) ∧ (∀ k : Nat, impl_NumOf.f (k + 1) s b = some v) := by
  by_cases h : 0 ≤ s ∧ s ≤ 15
  · obtain ⟨h0, h1⟩ := h
    have hc : s = 0 ∨ s = 1 ∨ s = 2 ∨ s = 3 ∨ s = 4 ∨ s = 5 ∨ s = 6 ∨ s = 7 ∨ s = 8 ∨ s = 9 ∨ s = 10 ∨ s = 11 ∨ s = 12 ∨ s = 13 ∨ s = 14 ∨ s = 15 := by omega
    refine ⟨(spec_NumOf.f 1 s b).getD 0, ?_, fun k => ?_, fun k => ?_⟩
    all_goals rcases hc with rfl | rfl | rfl | rfl | rfl | rfl | rfl | rfl | rfl | rfl | rfl | rfl | rfl | rfl | rfl | rfl
    all_goals simp only [spec_NumOf.f, impl_NumOf.f]
    all_goals simp [between_eq, within_eq, spec_NumOf.j0, impl_NumOf.j0, shl, shr, wrap64, IntKind.wrap, IntKind.bits, IntKind.signed]
    all_goals (repeat' split)
    all_goals first | rfl | (simp at *; done) | (simp at *; omega) | omega
  · have h' : ¬ (1 ≤ s ∧ s ≤ 15) := by omega
    refine ⟨0, by omega, fun k => ?_, fun k => ?_⟩
    · unfold spec_NumOf.f
      rw [between_eq]
      simp [h, spec_NumOf.j0]
    · unfold impl_NumOf.f
      rw [within_eq]
      simp [h', impl_NumOf.j0]
def numV (s b : Int) : Int := (impl_NumOf.f 2 s b).getD 0
theorem num_full (s b : Int) : (-32767 ≤ numV s b ∧ numV s b ≤ 32767) ∧ (∀ k : Nat, 1 ≤ k → spec_NumOf.f k s b = some (numV s b)) ∧ (∀ k : Nat, 1 ≤ k → impl_NumOf.f k s b = some (numV s b)) := by
  obtain ⟨v, hv, e1, e2⟩ := num_eq s b
  have hn : numV s b = v := by unfold numV; rw [e2 1]; rfl
  rw [hn]
  refine ⟨hv, fun k hk => ?_, fun k hk => ?_⟩
  · obtain ⟨j, rfl⟩ : ∃ j, k = j + 1 := ⟨k - 1, by omega⟩
    exact e1 j
  · obtain ⟨j, rfl⟩ : ∃ j, k = j + 1 := ⟨k - 1, by omega⟩
    exact e2 j
theorem num_back (x : Int) (h : -32767 ≤ x ∧ x ≤ 32767) : numV (clsV x) (btsV x) = x ∧ (x ≠ 0 → clsV x ≠ 0) := by
  obtain ⟨_, _, _, _, hc⟩ := class_full x
  rcases hc with ⟨_, h'⟩ | ⟨_, m, hm, h16, hl, hb⟩
  · exact absurd h h'
  · obtain ⟨_, _, _, e, hz⟩ := numof_back x m h h16 hl _ rfl
    rw [hb, hm]
    refine ⟨by unfold numV; rw [e]; rfl, fun hx hm0 => hx ?_⟩
    rw [hm0] at hz
    simpa using hz
def eqI (a b : S83) : Bool := a.f0 == b.f0 && (a.f1 == b.f1 && a.f2 == b.f2)
theorem eqI_iff (a b : S83) : eqI a b = true ↔ a = b := by
  cases a; cases b; simp [eqI]
def eqL : List S83 → List S83 → Bool
  | [], [] => true
  | a :: xs, b :: bs => eqI a b && eqL xs bs
  | _, _ => false
theorem eqL_iff : ∀ a b : List S83, eqL a b = true ↔ a = b
  | [], [] => by simp [eqL]
  | a :: xs, b :: bs => by simp [eqL, eqI_iff, eqL_iff xs bs]
  | [], b :: bs => by simp [eqL]
  | a :: xs, [] => by simp [eqL]
def padZ (n : Int) (o : List Int) : List Int := o ++ List.replicate (n - (o.length : Int)).toNat 0
def runZ (n : Int) (o : List Int) (f : Int) : List Int := o ++ List.replicate (min f.toNat (n + 1 - (o.length : Int)).toNat) 0
def decS (n : Int) : List Int → List S83 → List Int
  | o, [] => o
  | o, x :: xs => if x.f1 = 0 ∧ x.f0 = 0 then decS n (padZ n o) xs else if ((runZ n o x.f0).length : Int) ≤ n then decS n (runZ n o x.f0 ++ [numV x.f1 x.f2]) xs else decS n (runZ n o x.f0) xs
def decI (n : Int) : List Int → List S83 → Option (List Int)
  | o, [] => some o
  | o, x :: xs => if ¬ (0 ≤ x.f0 ∧ x.f0 ≤ 15) ∨ (o.length : Int) > n then none else if eqI x ⟨0, 0, 0⟩ = true then decI n (padZ n o) xs else if eqI x ⟨15, 0, 0⟩ = true then decI n (o ++ List.replicate 16 0) xs else decI n (o ++ List.replicate x.f0.toNat 0 ++ [numV x.f1 x.f2]) xs
theorem spec_l1 (x0 : List S83) (n i : Int) (r : Option (List Int × Bool)) : ∀ (d : Nat) (o : List Int), (n - (o.length : Int)).toNat = d → o.length + d ≤ 1000 → Ev (fun k => spec_FromRuns.l0 k x0 n (o ++ List.replicate d 0) (wrap64 (i + 1))) r → Ev (fun k => spec_FromRuns.l1 k x0 n o i) r := by
  intro d
  induction d with
  | zero =>
    intro o h1 h2 a
    refine Ev.step 0 (fun k _ => ?_) a
    show spec_FromRuns.l1 (k + 1) x0 n o i = _
    rw [spec_FromRuns.l1, if_neg (by omega)]; simp
  | succ d ih =>
    intro o h1 h2 a
    refine Ev.step 0 (fun k _ => ?_) (ih (o ++ [0]) (by simp; omega) (by simp; omega) ?_)
    · show spec_FromRuns.l1 (k + 1) x0 n o i = _
      rw [spec_FromRuns.l1, if_pos (by omega), if_pos (by omega)]
    · simpa [List.replicate_succ] using a
theorem spec_l2 (x0 : List S83) (n i f0 f1 f2 : Int) (hn : n ≤ 64) (r : Option (List Int × Bool)) : ∀ (d j : Nat) (o : List Int), min (f0 - (j : Int)).toNat (n + 1 - (o.length : Int)).toNat = d → o.length + d ≤ 1000 → j + d ≤ 1000 → Ev (fun k => if ((o ++ List.replicate d 0).length : Int) ≤ n then spec_FromRuns.l0 k x0 n ((o ++ List.replicate d 0) ++ [numV f1 f2]) (wrap64 (i + 1)) else spec_FromRuns.l0 k x0 n (o ++ List.replicate d 0) (wrap64 (i + 1))) r → Ev (fun k => spec_FromRuns.l2 k x0 n o i (j : Int) f0 f1 f2) r := by
  intro d
  induction d with
  | zero =>
    intro j o h1 h2 h3 a
    refine Ev.step 1 (fun k hk => ?_) a
    show spec_FromRuns.l2 (k + 1) x0 n o i j f0 f1 f2 = _
    rw [spec_FromRuns.l2, (num_full f1 f2).2.1 k hk, Option.bind_some]
    simp only [List.replicate_zero, List.append_nil]
    by_cases h : (j : Int) < f0
    · rw [if_pos h, if_neg (by omega), if_neg (by omega)]
    · rw [if_neg h]
      by_cases h' : (o.length : Int) ≤ n
      · rw [if_pos h', if_pos h', if_pos (by omega)]
      · rw [if_neg h', if_neg h']
  | succ d ih =>
    intro j o h1 h2 h3 a
    refine Ev.step 0 (fun k _ => ?_) (ih (j + 1) (o ++ [0]) (by simp; omega) (by simp; omega) (by omega) ?_)
    · show spec_FromRuns.l2 (k + 1) x0 n o i j f0 f1 f2 = _
      rw [spec_FromRuns.l2, if_pos (by omega), if_pos (by omega), if_pos (by omega), wsucc (by omega)]
    · simpa [List.replicate_succ] using a
def finS (items : List S83) (n : Int) (D : List Int) : List Int × Bool := if (D.length : Int) = n ∧ eqL (runsR D) items = true then (D, true) else ([], false)
theorem eqL_drop (a b : List S83) (j : Nat) (h1 : j < a.length) (h2 : j < b.length) : eqL (a.drop j) (b.drop j) = (eqI a[j] b[j] && eqL (a.drop (j + 1)) (b.drop (j + 1))) := by
  rw [drop_at a j h1, drop_at b j h2, eqL]
theorem rdI_nat (l : List S83) (i : Nat) (h : i < l.length) : rd_T83 l (i : Int) = l[i] := by simp [rd_T83, List.getD_eq_getElem?_getD, h]
theorem spec_l3 (items back : List S83) (o : List Int) (hl : back.length = items.length) (hb : back.length ≤ 1000) : ∀ (d j k : Nat) (b : Bool), j + d = back.length → d < k → spec_FromRuns.l3 k items o back b (j : Int) = some (if (b && eqL (back.drop j) (items.drop j)) = true then (o, true) else ([], false)) := by
  intro d
  induction d with
  | zero =>
    intro j k b h1 hk
    obtain ⟨k, rfl⟩ : ∃ m, k = m + 1 := ⟨k - 1, by omega⟩
    rw [spec_FromRuns.l3, if_neg (by omega), List.drop_eq_nil_of_le (by omega), List.drop_eq_nil_of_le (by omega), eqL]
    cases b <;> rfl
  | succ d ih =>
    intro j k b h1 hk
    obtain ⟨k, rfl⟩ : ∃ m, k = m + 1 := ⟨k - 1, by omega⟩
    rw [spec_FromRuns.l3, if_pos (by omega)]
    cases b with
    | false => rfl
    | true =>
      rw [if_pos rfl, if_pos (by omega), if_pos (by omega), rdI_nat back j (by omega), rdI_nat items j (by omega), wsucc (by omega), ih (j + 1) k _ (by omega) (by omega), eqL_drop back items j (by omega) (by omega), Bool.true_and]
      rfl
theorem spec_l3' (items back : List S83) (o : List Int) (hb : back.length ≤ 1000) (k : Nat) (hk : back.length < k) : spec_FromRuns.l3 k items o back ((back.length : Int) == (items.length : Int)) 0 = some (if eqL back items = true then (o, true) else ([], false)) := by
  by_cases h : back.length = items.length
  · have e : ((back.length : Int) == (items.length : Int)) = true := by simp [h]
    have := spec_l3 items back o h hb back.length 0 k true (by omega) hk
    rw [e]
    simpa using this
  · have e : ((back.length : Int) == (items.length : Int)) = false := by simp; omega
    have e2 : eqL back items = false := by
      rw [Bool.eq_false_iff]
      intro h2
      exact h (by rw [(eqL_iff _ _).1 h2])
    obtain ⟨k, rfl⟩ : ∃ m, k = m + 1 := ⟨k - 1, by omega⟩
    rw [e, e2, spec_FromRuns.l3]
    by_cases h0 : (0 : Int) < (back.length : Int)
    · rw [if_pos h0]; rfl
    · rw [if_neg h0]; rfl
theorem spec_l0 (items : List S83) (hi : items.length ≤ 64) (n : Int) (h0 : 0 ≤ n) (hn : n ≤ 64) : ∀ (d i : Nat) (o : List Int), i + d = items.length → (o.length : Int) ≤ n + 1 → Ev (fun k => spec_FromRuns.l0 k items n o (i : Int)) (some (finS items n (decS n o (items.drop i)))) := by
  intro d
  induction d with
  | zero =>
    intro i o h1 h2
    refine Ev.done 1000 fun k hk => ?_
    show spec_FromRuns.l0 (k + 1) items n o i = _
    rw [spec_FromRuns.l0, if_neg (by omega), List.drop_eq_nil_of_le (by omega), decS, finS]
    by_cases h : (o.length : Int) = n
    · have hr := runsR_len o
      rw [if_pos h, specRunsOf_eq o k (by omega), Option.bind_some, spec_l3' items (runsR o) o (by omega) k (by omega)]
      simp only [h, true_and]
    · rw [if_neg h, if_neg (fun h' => h h'.1)]
  | succ d ih =>
    intro i o h1 h2
    have hil : i < items.length := by omega
    rw [drop_at items i hil, decS]
    by_cases hE : items[i].f1 = 0 ∧ items[i].f0 = 0
    · rw [if_pos hE]
      have e : Ev (fun k => spec_FromRuns.l1 k items n o (i : Int)) (some (finS items n (decS n (padZ n o) (items.drop (i + 1))))) := by
        refine spec_l1 items n i _ _ o rfl (by omega) ?_
        rw [wsucc (by omega)]
        exact ih (i + 1) (padZ n o) (by omega) (by simp [padZ]; omega)
      refine Ev.step 0 (fun k _ => ?_) (Ev.step 0 (f := fun k => spec_FromRuns.j2 k items n o (i : Int) true items[i].f0 items[i].f1 items[i].f2) (fun k _ => ?_) e)
      · show spec_FromRuns.l0 (k + 1) items n o i = _
        rw [spec_FromRuns.l0, if_pos (by omega), if_pos (by omega), rdI_nat items i hil, if_pos hE.1]
        simp [hE.2]
      · show spec_FromRuns.j2 (k + 1) items n o i true _ _ _ = _
        rw [spec_FromRuns.j2, if_pos rfl]
    · rw [if_neg hE]
      have e : Ev (fun k => spec_FromRuns.l2 k items n o (i : Int) ((0 : Nat) : Int) items[i].f0 items[i].f1 items[i].f2) (some (finS items n (if ((runZ n o items[i].f0).length : Int) ≤ n then decS n (runZ n o items[i].f0 ++ [numV items[i].f1 items[i].f2]) (items.drop (i + 1)) else decS n (runZ n o items[i].f0) (items.drop (i + 1))))) := by
        refine spec_l2 items n i _ _ _ hn _ _ 0 o rfl (by omega) (by omega) ?_
        rw [wsucc (by omega)]
        have hz : o ++ List.replicate (min (items[i].f0 - ((0 : Nat) : Int)).toNat (n + 1 - (o.length : Int)).toNat) 0 = runZ n o items[i].f0 := by simp [runZ]
        rw [hz]
        have hl : ((runZ n o items[i].f0).length : Int) ≤ n + 1 := by simp [runZ]; omega
        by_cases h : ((runZ n o items[i].f0).length : Int) ≤ n
        · simp only [if_pos h]
          exact ih (i + 1) _ (by omega) (by simp only [List.length_append, List.length_cons, List.length_nil]; omega)
        · simp only [if_neg h]
          exact ih (i + 1) _ (by omega) hl
      refine Ev.step 0 (fun k _ => ?_) (Ev.step 0 (f := fun k => spec_FromRuns.j2 k items n o (i : Int) false items[i].f0 items[i].f1 items[i].f2) (fun k _ => ?_) e)
      · show spec_FromRuns.l0 (k + 1) items n o i = _
        rw [spec_FromRuns.l0, if_pos (by omega), if_pos (by omega), rdI_nat items i hil]
        by_cases h1' : items[i].f1 = 0
        · have h0' : items[i].f0 ≠ 0 := fun h => hE ⟨h1', h⟩
          rw [if_pos h1', beq_false_of_ne h0']
        · rw [if_neg h1']
      · show spec_FromRuns.j2 (k + 1) items n o i false _ _ _ = _
        rw [spec_FromRuns.j2, if_neg (by decide)]; rfl

theorem implItem_loop (a b : List S83) (hl : a.length = b.length) (hb : a.length ≤ 1000) : ∀ (d j k : Nat), j + d = a.length → d < k → impl_Item.l0 k a b (a.length : Int) (j : Int) = some (eqL (a.drop j) (b.drop j)) := by
  intro d
  induction d with
  | zero =>
    intro j k h1 hk
    obtain ⟨k, rfl⟩ : ∃ m, k = m + 1 := ⟨k - 1, by omega⟩
    rw [impl_Item.l0, if_neg (by omega), List.drop_eq_nil_of_le (by omega), List.drop_eq_nil_of_le (by omega), eqL]
  | succ d ih =>
    intro j k h1 hk
    obtain ⟨k, rfl⟩ : ∃ m, k = m + 1 := ⟨k - 1, by omega⟩
    rw [impl_Item.l0, if_pos (by omega), if_pos (by omega), if_pos (by omega), if_pos (by omega), rdI_nat a j (by omega), rdI_nat b j (by omega), wsucc (by omega), ih (j + 1) k (by omega) (by omega), eqL_drop a b j (by omega) (by omega)]
    have e : (!(a[j].f0 == b[j].f0) || (!(a[j].f1 == b[j].f1) || (!(a[j].f2 == b[j].f2)))) = !(eqI a[j] b[j]) := by unfold eqI; cases (a[j].f0 == b[j].f0) <;> cases (a[j].f1 == b[j].f1) <;> cases (a[j].f2 == b[j].f2) <;> rfl
    rw [e]
    cases eqI a[j] b[j] <;> rfl
theorem implItem_eq (a b : List S83) (hb : a.length ≤ 1000) (k : Nat) (hk : a.length < k) : impl_Item.f k a b = some (eqL a b) := by
  unfold impl_Item.f
  by_cases h : a.length = b.length
  · rw [if_pos (by omega)]
    rw [show ((a.length : Nat) : Int) = (a.length : Int) from rfl]
    exact implItem_loop a b h hb a.length 0 k (by omega) hk
  · rw [if_neg (by omega)]
    have e2 : eqL a b = false := by
      rw [Bool.eq_false_iff]
      intro h2
      exact h (by rw [(eqL_iff _ _).1 h2])
    rw [e2]
def finI (items : List S83) (n : Int) : Option (List Int) → List Int × Bool
  | none => ([], false)
  | some D => if (D.length : Int) = n ∧ eqL (runsG 0 D) items = true then (D, true) else ([], false)
theorem impl_l0 (items : List S83) (hi : items.length ≤ 65) (n : Int) (h0 : 0 ≤ n) (hn : n ≤ 64) : ∀ (d i : Nat) (o : List Int), i + d = items.length → (o.length : Int) ≤ n + 16 → Ev (fun k => impl_FromRuns.l0 k items n o items (items.length : Int) (i : Int)) (some (finI items n (decI n o (items.drop i)))) := by
  intro d
  induction d with
  | zero =>
    intro i o h1 h2
    refine Ev.done 1000 fun k hk => ?_
    show impl_FromRuns.l0 (k + 1) items n o items _ i = _
    rw [impl_FromRuns.l0, if_neg (by omega), List.drop_eq_nil_of_le (by omega), decI, finI]
    by_cases h : (o.length : Int) = n
    · have hr := runsG_len o 0
      rw [if_pos h, implruns_eq o (by omega) k (by omega), Option.bind_some, implItem_eq _ _ (by omega) k (by omega), Option.bind_some]
      simp only [h, true_and]
      cases eqL (runsG 0 o) items <;> rfl
    · rw [if_neg h, if_neg (fun h' => h h'.1)]
  | succ d ih =>
    intro i o h1 h2
    have hil : i < items.length := by omega
    rw [drop_at items i hil, decI]
    by_cases hA : ¬ (0 ≤ items[i].f0 ∧ items[i].f0 ≤ 15) ∨ (o.length : Int) > n
    · rw [if_pos hA]
      refine Ev.step 0 (g := fun k => impl_FromRuns.j2 k items n o items (items.length : Int) (i : Int) true items[i].f0 items[i].f1 items[i].f2) (fun k _ => ?_) (Ev.done 0 fun k _ => ?_)
      · show impl_FromRuns.l0 (k + 1) items n o items _ i = _
        rw [impl_FromRuns.l0, if_pos (by omega), if_pos (by omega), if_pos (by omega), rdI_nat items i hil, within_eq, Option.bind_some]
        by_cases hr : 0 ≤ items[i].f0 ∧ items[i].f0 ≤ 15
        · have hg : (o.length : Int) > n := hA.resolve_left (fun h => h hr)
          rw [if_pos (by simpa using hr), decide_eq_true hg]
        · rw [if_neg (by simpa using hr)]
      · show impl_FromRuns.j2 (k + 1) items n o items _ i true _ _ _ = _
        rw [impl_FromRuns.j2, if_pos rfl]; rfl
    · rw [if_neg hA]
      have hr : 0 ≤ items[i].f0 ∧ items[i].f0 ≤ 15 := by omega
      have hg : ¬ (o.length : Int) > n := by omega
      refine Ev.step 0 (g := fun k => impl_FromRuns.j2 k items n o items (items.length : Int) (i : Int) false items[i].f0 items[i].f1 items[i].f2) (fun k _ => ?_) ?_
      · show impl_FromRuns.l0 (k + 1) items n o items _ i = _
        rw [impl_FromRuns.l0, if_pos (by omega), if_pos (by omega), if_pos (by omega), rdI_nat items i hil, within_eq, Option.bind_some, if_pos (by simpa using hr), decide_eq_false hg]
      · by_cases hE : eqI items[i] ⟨0, 0, 0⟩ = true
        · rw [if_pos hE]
          have hm : (mx 0 (wrap64 (n - (o.length : Int)))).toNat = (n - (o.length : Int)).toNat := by
            rw [w64 (by omega) (by omega)]; unfold mx; split <;> omega
          have hm0 : 0 ≤ mx 0 (wrap64 (n - (o.length : Int))) := by unfold mx; split <;> omega
          refine Ev.step 0 (fun k _ => ?_) (ih (i + 1) (padZ n o) (by omega) (by simp [padZ]; omega))
          show impl_FromRuns.j2 (k + 1) items n o items _ i false _ _ _ = _
          rw [impl_FromRuns.j2, if_neg (by decide), if_pos (show (items[i].f0 == 0 && (items[i].f1 == 0 && (items[i].f2 == 0))) = true from hE), if_pos hm0, hm, if_pos (by omega), wsucc (by omega)]
          rfl
        · rw [if_neg hE]
          by_cases hF : eqI items[i] ⟨15, 0, 0⟩ = true
          · rw [if_pos hF]
            refine Ev.step 0 (fun k _ => ?_) (ih (i + 1) (o ++ List.replicate 16 0) (by omega) (by rw [List.length_append, List.length_replicate]; omega))
            show impl_FromRuns.j2 (k + 1) items n o items _ i false _ _ _ = _
            rw [impl_FromRuns.j2, if_neg (by decide), if_neg (show ¬ (items[i].f0 == 0 && (items[i].f1 == 0 && (items[i].f2 == 0))) = true from hE), if_pos (show (items[i].f0 == 15 && (items[i].f1 == 0 && (items[i].f2 == 0))) = true from hF), if_pos (by omega), wsucc (by omega)]
          · rw [if_neg hF]
            refine Ev.step 1 (fun k hk => ?_) (ih (i + 1) (o ++ List.replicate items[i].f0.toNat 0 ++ [numV items[i].f1 items[i].f2]) (by omega) (by simp only [List.length_append, List.length_replicate, List.length_cons, List.length_nil]; omega))
            show impl_FromRuns.j2 (k + 1) items n o items _ i false _ _ _ = _
            rw [impl_FromRuns.j2, if_neg (by decide), if_neg (show ¬ (items[i].f0 == 0 && (items[i].f1 == 0 && (items[i].f2 == 0))) = true from hE), if_neg (show ¬ (items[i].f0 == 15 && (items[i].f1 == 0 && (items[i].f2 == 0))) = true from hF), if_pos hr.1, if_pos (by omega), Option.bind_some, (num_full _ _).2.2 k hk, Option.bind_some, if_pos (by rw [List.length_append, List.length_replicate]; omega), wsucc (by omega)]
def rng (o : List Int) : Prop := ∀ x ∈ o, -32767 ≤ x ∧ x ≤ 32767
theorem rng_app {a b : List Int} (h : rng a) (h' : rng b) : rng (a ++ b) := by
  intro x hx
  rcases List.mem_append.1 hx with hx | hx
  · exact h x hx
  · exact h' x hx
theorem rng_zeros (q : Nat) : rng (List.replicate q 0) := by
  intro x hx
  rw [(List.mem_replicate.1 hx).2]; omega
theorem rng_num (s b : Int) : rng [numV s b] := by
  intro x hx
  rw [List.mem_singleton.1 hx]; exact (num_full s b).1
theorem decS_rng (n : Int) : ∀ (xs : List S83) (o : List Int), rng o → rng (decS n o xs)
  | [], o, h => h
  | x :: xs, o, h => by
    unfold decS
    split
    · exact decS_rng n xs _ (rng_app h (rng_zeros _))
    · split
      · exact decS_rng n xs _ (rng_app (rng_app h (rng_zeros _)) (rng_num _ _))
      · exact decS_rng n xs _ (rng_app h (rng_zeros _))
theorem decI_rng (n : Int) : ∀ (xs : List S83) (o D : List Int), rng o → decI n o xs = some D → rng D
  | [], o, D, h, e => by
    rw [decI] at e; rw [← Option.some.inj e]; exact h
  | x :: xs, o, D, h, e => by
    unfold decI at e
    split at e
    · cases e
    · split at e
      · exact decI_rng n xs _ D (rng_app h (rng_zeros _)) e
      · split at e
        · exact decI_rng n xs _ D (rng_app h (rng_zeros _)) e
        · exact decI_rng n xs _ D (rng_app (rng_app h (rng_zeros _)) (rng_num _ _)) e
theorem runsR_rng {D : List Int} (h : rng D) (hl : D.length ≤ 64) : runsR D = runsG 0 D := by
  have e : coefsB D = true := by
    unfold coefsB inR
    rw [decide_eq_true (by omega), Bool.true_and, List.all_eq_true]
    intro x hx
    simpa using h x hx
  rw [runsR, if_pos e]
theorem num00 : numV 0 0 = 0 := by decide +kernel
theorem decS_zrl (n : Int) (rest : List S83) : ∀ (q : Nat) (o : List Int), (o.length : Int) + 16 * q ≤ n → decS n o (List.replicate q ⟨15, 0, 0⟩ ++ rest) = decS n (o ++ List.replicate (16 * q) 0) rest := by
  intro q
  induction q with
  | zero => intro o h; simp
  | succ q ih =>
    intro o h
    have hz : runZ n o 15 = o ++ List.replicate 15 0 := by
      unfold runZ
      rw [show min (15 : Int).toNat (n + 1 - (o.length : Int)).toNat = 15 by omega]
    rw [List.replicate_succ, List.cons_append, decS, if_neg (by simp), hz, if_pos (by rw [List.length_append, List.length_replicate]; omega), num00, ih _ (by simp only [List.length_append, List.length_replicate, List.length_cons, List.length_nil]; omega)]
    rw [show (o ++ List.replicate 15 0 ++ [0] : List Int) = o ++ List.replicate 16 0 by simp [List.replicate_succ], List.append_assoc, List.replicate_append_replicate, show 16 + 16 * q = 16 * (q + 1) by omega]
theorem decI_zrl (n : Int) (rest : List S83) : ∀ (q : Nat) (o : List Int), (o.length : Int) + 16 * q ≤ n → decI n o (List.replicate q ⟨15, 0, 0⟩ ++ rest) = decI n (o ++ List.replicate (16 * q) 0) rest := by
  intro q
  induction q with
  | zero => intro o h; simp
  | succ q ih =>
    intro o h
    rw [List.replicate_succ, List.cons_append, decI, if_neg (by simp; omega), if_neg (by simp [eqI]), if_pos (by simp [eqI]), ih _ (by rw [List.length_append, List.length_replicate]; omega)]
    rw [List.append_assoc, List.replicate_append_replicate, show 16 + 16 * q = 16 * (q + 1) by omega]
theorem dec_runs (n : Int) : ∀ (o2 : List Int) (r : Nat) (o1 : List Int), rng o2 → (o1.length : Int) + r + (o2.length : Int) = n → decS n o1 (runsG r o2) = o1 ++ (List.replicate r 0 ++ o2) ∧ decI n o1 (runsG r o2) = some (o1 ++ (List.replicate r 0 ++ o2))
  | [], r, o1, _, hn => by
    simp only [List.length_nil] at hn
    have hp : padZ n o1 = o1 ++ List.replicate r 0 := by
      unfold padZ; rw [show (n - (o1.length : Int)).toNat = r by omega]
    unfold runsG
    by_cases h : 0 < r
    · rw [if_pos h, List.append_nil, decS, decI, if_pos (by simp), if_neg (by simp; omega), if_pos (by simp [eqI]), hp]
      exact ⟨rfl, rfl⟩
    · obtain rfl : r = 0 := by omega
      rw [if_neg h]
      simp [decS, decI]
  | x :: xs, r, o1, hr, hn => by
    simp only [List.length_cons] at hn
    have hxs : rng xs := fun y hy => hr y (List.mem_cons_of_mem _ hy)
    unfold runsG
    by_cases h : x = 0
    · subst h
      rw [if_pos rfl]
      obtain ⟨e1, e2⟩ := dec_runs n xs (r + 1) o1 hxs (by omega)
      rw [e1, e2, List.replicate_succ']
      simp
    · rw [if_neg h]
      obtain ⟨nb, nz⟩ := num_back x (hr x (List.mem_cons_self ..))
      have nz := nz h
      have hrr : 16 * (r / 16) + r % 16 = r := by omega
      rw [decS_zrl n _ (r / 16) o1 (by omega), decI_zrl n _ (r / 16) o1 (by omega)]
      obtain ⟨e1, e2⟩ := dec_runs n xs 0 (o1 ++ List.replicate (16 * (r / 16)) 0 ++ List.replicate (r % 16) 0 ++ [x]) hxs (by simp only [List.length_append, List.length_replicate, List.length_cons, List.length_nil]; omega)
      have hz : runZ n (o1 ++ List.replicate (16 * (r / 16)) 0) ((r % 16 : Nat) : Int) = o1 ++ List.replicate (16 * (r / 16)) 0 ++ List.replicate (r % 16) 0 := by
        unfold runZ
        rw [List.length_append, List.length_replicate, show min ((r % 16 : Nat) : Int).toNat (n + 1 - ((o1.length + 16 * (r / 16) : Nat) : Int)).toNat = r % 16 by omega]
      have hE : o1 ++ List.replicate (16 * (r / 16)) 0 ++ List.replicate (r % 16) 0 ++ [x] ++ (List.replicate 0 0 ++ xs) = o1 ++ (List.replicate r 0 ++ x :: xs) := by
        rw [show List.replicate r (0 : Int) = List.replicate (16 * (r / 16)) 0 ++ List.replicate (r % 16) 0 by rw [List.replicate_append_replicate, hrr]]
        simp
      constructor
      · rw [decS, if_neg (fun h' => nz h'.1), hz, if_pos (by simp only [List.length_append, List.length_replicate]; omega), nb, e1, hE]
      · rw [decI, if_neg (by simp only [List.length_append, List.length_replicate]; omega), if_neg (by simp [eqI, nz]), if_neg (by simp [eqI, nz]), Int.toNat_natCast, nb, e2, hE]
theorem fin_same (items : List S83) (n : Int) (hn : n ≤ 64) : finS items n (decS n [] items) = finI items n (decI n [] items) := by
  have key : ∀ D : List Int, rng D → (D.length : Int) = n → eqL (runsG 0 D) items = true → decS n [] items = D ∧ decI n [] items = some D := by
    intro D hD hl he
    rw [← (eqL_iff _ _).1 he]
    have := dec_runs n D 0 [] hD (by simp; omega)
    simpa using this
  by_cases hS : ((decS n [] items).length : Int) = n ∧ eqL (runsR (decS n [] items)) items = true
  · have hD := decS_rng n items [] (fun x hx => by cases hx)
    have e := runsR_rng hD (by omega)
    obtain ⟨_, e2⟩ := key _ hD hS.1 (by rw [← e]; exact hS.2)
    rw [finS, if_pos hS, e2, finI, if_pos ⟨hS.1, by rw [← e]; exact hS.2⟩]
  · rw [finS, if_neg hS]
    cases hd : decI n [] items with
    | none => rfl
    | some D =>
      rw [finI]
      by_cases hI : (D.length : Int) = n ∧ eqL (runsG 0 D) items = true
      · have hD := decI_rng n items [] D (fun x hx => by cases hx) hd
        obtain ⟨e1, _⟩ := key D hD hI.1 hI.2
        exact absurd ⟨by rw [e1]; exact hI.1, by rw [e1, runsR_rng hD (by omega)]; exact hI.2⟩ hS
      · rw [if_neg hI]
def fromR (l : List S83) (n : Int) : List Int × Bool := if (0 ≤ n ∧ n ≤ 64) ∧ (l.length : Int) ≤ 64 then finS l n (decS n [] l) else ([], false)
theorem specFrom_ends (l : List S83) (n : Int) : Ev (fun k => spec_FromRuns.f k l n) (some (fromR l n)) := by
  have e : ∀ k : Nat, spec_FromRuns.f k l n = spec_FromRuns.j0 k l n [] (!(decide ((0 ≤ n ∧ n ≤ 64) ∧ (l.length : Int) ≤ 64))) := by
    intro k
    unfold spec_FromRuns.f
    rw [Option.bind_some, between_eq, Option.bind_some]
    by_cases h : 0 ≤ n ∧ n ≤ 64
    · rw [if_pos (by simpa using h)]
      congr 1
      simp only [h, and_self, true_and]
      by_cases h2 : (l.length : Int) ≤ 64
      · rw [decide_eq_true h2, decide_eq_false (by omega)]; rfl
      · rw [decide_eq_false h2, decide_eq_true (by omega)]; rfl
    · rw [if_neg (by simpa using h), decide_eq_false (fun h' => h h'.1)]; rfl
  simp only [e]
  unfold fromR
  by_cases h : (0 ≤ n ∧ n ≤ 64) ∧ (l.length : Int) ≤ 64
  · rw [if_pos h, decide_eq_true h]
    refine Ev.step 0 (fun k _ => ?_) (spec_l0 l (by omega) n h.1.1 h.1.2 l.length 0 [] (by omega) (by simp; omega))
    show spec_FromRuns.j0 (k + 1) l n [] (!true) = _
    rw [spec_FromRuns.j0, if_neg (by decide)]; rfl
  · rw [if_neg h, decide_eq_false h]
    refine Ev.done 0 fun k _ => ?_
    show spec_FromRuns.j0 (k + 1) l n [] (!false) = _
    rw [spec_FromRuns.j0, if_pos (by decide)]
theorem implFrom_ends (l : List S83) (n : Int) : Ev (fun k => impl_FromRuns.f k l n) (some (fromR l n)) := by
  have e : ∀ k : Nat, impl_FromRuns.f k l n = impl_FromRuns.j0 k l n (!(decide ((0 ≤ n ∧ n ≤ 64) ∧ (l.length : Int) ≤ 65))) := by
    intro k
    unfold impl_FromRuns.f
    rw [within_eq, Option.bind_some]
    by_cases h : 0 ≤ n ∧ n ≤ 64
    · rw [if_pos (by simpa using h)]
      congr 1
      simp only [h, and_self, true_and]
      by_cases h2 : (l.length : Int) ≤ 65
      · rw [decide_eq_true h2, decide_eq_false (by omega)]; rfl
      · rw [decide_eq_false h2, decide_eq_true (by omega)]; rfl
    · rw [if_neg (by simpa using h), decide_eq_false (fun h' => h h'.1)]; rfl
  simp only [e]
  by_cases h : (0 ≤ n ∧ n ≤ 64) ∧ (l.length : Int) ≤ 65
  · have hv : fromR l n = finI l n (decI n [] l) := by
      unfold fromR
      by_cases h2 : (0 ≤ n ∧ n ≤ 64) ∧ (l.length : Int) ≤ 64
      · rw [if_pos h2]; exact fin_same l n h.1.2
      · rw [if_neg h2]
        cases hd : decI n [] l with
        | none => rfl
        | some D =>
          rw [finI, if_neg]
          rintro ⟨h3, h4⟩
          have h5 := runsG_len D 0
          rw [(eqL_iff _ _).1 h4] at h5
          omega
    rw [hv, decide_eq_true h]
    refine Ev.step 0 (fun k _ => ?_) (impl_l0 l (by omega) n h.1.1 h.1.2 l.length 0 [] (by omega) (by simp; omega))
    show impl_FromRuns.j0 (k + 1) l n (!true) = _
    rw [impl_FromRuns.j0, if_neg (by decide)]; rfl
  · have hv : fromR l n = ([], false) := by
      unfold fromR; rw [if_neg (by omega)]
    rw [hv, decide_eq_false h]
    refine Ev.done 0 fun k _ => ?_
    show impl_FromRuns.j0 (k + 1) l n (!false) = _
    rw [impl_FromRuns.j0, if_pos (by decide)]
theorem finS_len (items : List S83) (n : Int) (D : List Int) (hn : 0 ≤ n ∧ n ≤ 64) : (finS items n D).1.length ≤ 64 := by
  unfold finS
  split
  · show D.length ≤ 64
    omega
  · simp
theorem fromR_len (l : List S83) (n : Int) : (fromR l n).1.length ≤ 64 := by
  unfold fromR
  split
  · exact finS_len l n _ (by omega)
  · simp

theorem drawBlock_all {l : List Int} (hl : BytesL l) (m : Int) (hm : 0 ≤ m ∧ m ≤ 100000) {a s b : Int} (hc : CurOk a s b) (hb : b + 512 ≤ 1152921504606846976) : ∃ o a' s', (∀ k : Nat, 64 < k → spec_l05DrawBlock.f k l a s m = some (o, a', s')) ∧ o.length = 64 ∧ CurOk a' s' (b + 512) := by
  obtain ⟨o, a', s', e, h1, _, h3⟩ := drawBlock_ok hl m hm hc hb 65 (by omega)
  exact ⟨o, a', s', fun k hk => at_rounds (g := fun k => spec_l05DrawBlock.f k l a s m) (fun k => spec_l05DrawBlock.mono _ _ _ _ k) (show 65 ≤ k by omega) e, h1, h3⟩
theorem CurOk.up {a s b c : Int} (h : CurOk a s b) (h1 : b ≤ c) (h2 : c ≤ 1152921504606846976) : CurOk a s c := ⟨h.1, by have := h.2.1; omega, h2, h.2.2.2.1, h.2.2.2.2⟩
theorem drawList_loop (l : List Int) (a s : Int) : ∀ (d i : Nat) (x : List Int), x.length ≤ i + d → x.length ≤ 64 → ∃ o : List Int, o.length = x.length ∧ ∀ k : Nat, d < k → spec_l07DrawList.l0 k x (i : Int) l a s = some (o, a, s) := by
  have stop : ∀ (i : Nat) (x : List Int), x.length ≤ i → x.length ≤ 64 → ∀ k : Nat, spec_l07DrawList.l0 (k + 1) x (i : Int) l a s = some (x, a, s) := by
    intro i x h1 h2 k
    rw [spec_l07DrawList.l0, if_neg (by omega), Option.bind_some, if_pos (by simp; omega)]
    rfl
  intro d
  induction d with
  | zero =>
    intro i x h1 h2
    refine ⟨x, rfl, fun k hk => ?_⟩
    obtain ⟨k, rfl⟩ : ∃ m, k = m + 1 := ⟨k - 1, by omega⟩
    exact stop i x (by omega) h2 k
  | succ d ih =>
    intro i x h1 h2
    by_cases h : x.length ≤ i
    · refine ⟨x, rfl, fun k hk => ?_⟩
      obtain ⟨k, rfl⟩ : ∃ m, k = m + 1 := ⟨k - 1, by omega⟩
      exact stop i x h h2 k
    · obtain ⟨o, ho, e⟩ := ih (i + 1) (x.set i 0) (by simp; omega) (by simp; omega)
      refine ⟨o, by simpa using ho, fun k hk => ?_⟩
      obtain ⟨k, rfl⟩ : ∃ m, k = m + 1 := ⟨k - 1, by omega⟩
      rw [spec_l07DrawList.l0, if_pos (by omega), if_pos (by omega), wsucc (by omega), Int.toNat_natCast]
      exact e k (by omega)
theorem drawList_ok {l : List Int} (hl : BytesL l) {a s b : Int} (hc : CurOk a s b) (hb : b + 600 ≤ 1152921504606846976) : ∃ o a' s', (∀ k : Nat, 200 ≤ k → spec_l07DrawList.f k l a s = some (o, a', s')) ∧ o.length ≤ 64 ∧ CurOk a' s' (b + 600) := by
  obtain ⟨o, a1, s1, e1, l1, c1⟩ := drawBlock_all hl 300 (by omega) hc (by omega)
  obtain ⟨r2, a2, s2, e2, p2, q2, c2⟩ := pick_ok hl 65 c1 (by omega) (by omega)
  obtain ⟨r3, a3, s3, e3, c3⟩ := once_ok hl 3 c2 (by omega) (by omega)
  have ht : (o.take r2.toNat).length ≤ 64 := by rw [List.length_take]; omega
  have g2 : r2 ≤ (o.length : Int) := by omega
  by_cases h : r3 = true
  · obtain ⟨r4, a4, s4, e4, p4, q4, c4⟩ := pick_ok hl 20 c3 (by omega) (by omega)
    obtain ⟨i, rfl⟩ : ∃ i : Nat, r4 = (i : Int) := ⟨r4.toNat, by omega⟩
    obtain ⟨o', hl', ho'⟩ := drawList_loop l a4 s4 64 i (o.take r2.toNat) (by omega) ht
    refine ⟨o', a4, s4, fun k hk => ?_, by omega, c4.up (by omega) hb⟩
    unfold spec_l07DrawList.f
    simp only [e1 k (by omega), Option.bind_some, e2, if_pos p2, if_pos g2, e3, if_pos h, e4]
    exact ho' k (by omega)
  · refine ⟨o.take r2.toNat, a3, s3, fun k hk => ?_, ht, c3.up (by omega) hb⟩
    unfold spec_l07DrawList.f
    simp only [e1 k (by omega), Option.bind_some, e2, if_pos p2, if_pos g2, e3, if_neg h]
    rw [if_pos (by simp; omega)]; rfl
theorem drawRunsOf_ok {l : List Int} (hl : BytesL l) : ∃ t : List Int, (∀ k : Nat, 200 ≤ k → spec_DrawRunsOf.f k l = some t) ∧ t.length ≤ 70 := by
  obtain ⟨s0, e0, c0⟩ := open_ok hl
  obtain ⟨o, a1, s1, e1, l1, c1⟩ := drawList_ok hl c0 (by omega)
  obtain ⟨r2, a2, s2, e2, p2, q2, c2⟩ := pick_ok hl 16 c1 (by omega) (by omega)
  by_cases h0 : r2 = 0
  · obtain ⟨r3, a3, s3, e3, _, c3⟩ := odd_ok hl c2 (by omega)
    refine ⟨o ++ [r3], fun k hk => ?_, by simp; omega⟩
    unfold spec_DrawRunsOf.f
    simp only [e0, e1 k (by omega), Option.bind_some, e2, if_pos h0, e3]
    rw [if_pos (by omega)]
  · by_cases h1 : r2 = 1
    · obtain ⟨r3, a3, s3, e3, p3, q3, c3⟩ := pick_ok hl 2 c2 (by omega) (by omega)
      refine ⟨List.replicate (64 + r3).toNat 0, fun k hk => ?_, by rw [List.length_replicate]; omega⟩
      unfold spec_DrawRunsOf.f
      simp only [e0, e1 k (by omega), Option.bind_some, e2, if_neg h0, if_pos h1, e3]
      rw [w64 (by omega) (by omega), if_pos (by omega), if_pos (by omega)]
    · refine ⟨o, fun k hk => ?_, by omega⟩
      unfold spec_DrawRunsOf.f
      simp only [e0, e1 k (by omega), Option.bind_some, e2, if_neg h0, if_neg h1]
theorem drawFromRuns_ok {l : List Int} (hl : BytesL l) : ∃ (t : List S83) (n : Int), ∀ k : Nat, 1000 ≤ k → spec_DrawFromRuns.f k l = some (t, n) := by
  obtain ⟨s0, e0, c0⟩ := open_ok hl
  obtain ⟨o, a1, s1, e1, l1, c1⟩ := drawList_ok hl c0 (by omega)
  have hr := runsR_len o
  have er := specRunsOf_eq o
  obtain ⟨t, ht⟩ : ∃ t, t = runsR o := ⟨_, rfl⟩
  rw [← ht] at hr er
  obtain ⟨r2, a2, s2, e2, p2, q2, c2⟩ := pick_ok hl 6 c1 (by omega) (by omega)
  by_cases h0 : r2 = 0
  · obtain ⟨r3, a3, s3, e3, p3, q3, c3⟩ := pick_ok hl 67 c2 (by omega) (by omega)
    refine ⟨t, wrap64 (r3 - 1), fun k hk => ?_⟩
    unfold spec_DrawFromRuns.f
    simp only [e0, e1 k (by omega), er k (by omega), Option.bind_some, e2, if_pos h0, e3]
  by_cases h1 : r2 = 1
  · obtain ⟨r3, a3, s3, e3, p3, q3, c3⟩ := pick_ok hl 17 c2 (by omega) (by omega)
    obtain ⟨r4, a4, s4, e4, p4, q4, c4⟩ := pick_ok hl 4 c3 (by omega) (by omega)
    obtain ⟨r5, a5, s5, e5, p5, q5, c5⟩ := pick_ok hl 5 c4 (by omega) (by omega)
    refine ⟨t ++ [⟨r3, r4, r5⟩], (o.length : Int), fun k hk => ?_⟩
    unfold spec_DrawFromRuns.f
    simp only [e0, e1 k (by omega), er k (by omega), Option.bind_some, e2, if_neg h0, if_pos h1, e3, e4, e5]
    rw [if_pos (by omega)]
  by_cases h2 : r2 = 2
  · by_cases hz : (t.length : Int) > 0
    · obtain ⟨r3, a3, s3, e3, p3, q3, c3⟩ := pick_ok hl (t.length : Int) c2 (by omega) (by omega)
      obtain ⟨r4, a4, s4, e4, _, c4⟩ := odd_ok hl c3 (by omega)
      obtain ⟨r5, a5, s5, e5, p5, q5, c5⟩ := pick_ok hl 4 c4 (by omega) (by omega)
      obtain ⟨r6, a6, s6, e6, c6⟩ := once_ok hl 2 c5 (by omega) (by omega)
      have g5 : r5 < (([0, 15, 16, r4] : List Int).length : Int) := by simpa using q5
      by_cases h6 : r6 = true
      · obtain ⟨r7, a7, s7, e7, p7, q7, c7⟩ := pick_ok hl 9 c6 (by omega) (by omega)
        refine ⟨t.set r3.toNat ⟨rd [0, 15, 16, r4] r5, (rd_T83 t r3).f1, r7⟩, (o.length : Int), fun k hk => ?_⟩
        unfold spec_DrawFromRuns.f
        simp only [e0, e1 k (by omega), er k (by omega), Option.bind_some, e2, if_neg h0, if_neg h1, if_pos h2, if_pos hz, e3, if_pos p3, if_pos q3, e4, e5, if_pos p5, if_pos g5, e6, if_pos h6, e7]
      · refine ⟨t.set r3.toNat ⟨rd [0, 15, 16, r4] r5, (rd_T83 t r3).f1, (rd_T83 t r3).f2⟩, (o.length : Int), fun k hk => ?_⟩
        unfold spec_DrawFromRuns.f
        simp only [e0, e1 k (by omega), er k (by omega), Option.bind_some, e2, if_neg h0, if_neg h1, if_pos h2, if_pos hz, e3, if_pos p3, if_pos q3, e4, e5, if_pos p5, if_pos g5, e6, if_neg h6]
    · refine ⟨t, (o.length : Int), fun k hk => ?_⟩
      unfold spec_DrawFromRuns.f
      simp only [e0, e1 k (by omega), er k (by omega), Option.bind_some, e2, if_neg h0, if_neg h1, if_pos h2, if_neg hz]
  · refine ⟨t, (o.length : Int), fun k hk => ?_⟩
    unfold spec_DrawFromRuns.f
    simp only [e0, e1 k (by omega), er k (by omega), Option.bind_some, e2, if_neg h0, if_neg h1, if_neg h2]

theorem big_no {l : List Int} (h : ¬ (l.length : Int) > 1048576) : laws_big.f l = some false := by unfold laws_big.f; rw [decide_eq_false h]
theorem big_yes {l : List Int} (h : (l.length : Int) > 1048576) : laws_big.f l = some true := by unfold laws_big.f; rw [decide_eq_true h]
theorem bytes_of {l : List Int} (h : ¬ (l.length : Int) > 1048576) (hw : ∀ x ∈ l, (Lit.int .u8 x).wf = true) : BytesL l := ⟨by omega, fun x hx => wfu8 (hw x hx)⟩

theorem sameInts_loop (l : List Int) (hl : l.length ≤ 4611686018427387904) : ∀ (d k i : Nat), i + d = l.length → d < k → laws_sameInts.l0 k l l (i : Int) = some true := by
  intro d
  induction d with
  | zero =>
    intro k i hi hk
    obtain ⟨k, rfl⟩ : ∃ m, k = m + 1 := ⟨k - 1, by omega⟩
    rw [laws_sameInts.l0, if_neg (by omega)]
  | succ d ih =>
    intro k i hi hk
    obtain ⟨k, rfl⟩ : ∃ m, k = m + 1 := ⟨k - 1, by omega⟩
    rw [laws_sameInts.l0, if_pos (by omega), if_pos (by omega), if_pos (by omega), if_pos rfl, wsucc (by omega)]
    exact ih k (i + 1) (by omega) (by omega)
theorem sameInts_refl (l : List Int) (hl : l.length ≤ 4611686018427387904) (k : Nat) (hk : l.length < k) : laws_sameInts.f k l l = some true := by
  unfold laws_sameInts.f
  rw [if_pos rfl]
  exact sameInts_loop l hl l.length k 0 (by omega) hk

def okB (l : List Int) : Bool := decide ((l.length : Int) ≤ 64) && inR (-32767) 32767 l
theorem runsBack_loop (x1 t : List Int) (m : List S83) (ht : t.length ≤ 70) (r : Option Bool) (h : if okB t = true then Ev (fun k => (impl_FromRuns.f k m (t.length : Int)).bind fun bt => if bt.2 = true then ((laws_sameInts.f k bt.1 t).bind fun t1 => if t1 = true then laws_FnRunsBack.j3 k x1 else some false) else some false) r else Ev (fun k => laws_FnRunsBack.j3 k x1) r) : ∀ (d i : Nat) (b : Bool), i + d = t.length → (b && inR (-32767) 32767 (t.drop i)) = okB t → Ev (fun k => laws_FnRunsBack.l0 k x1 t m b (i : Int)) r := by
  intro d
  induction d with
  | zero =>
    intro i b hi hb
    rw [List.drop_eq_nil_of_le (by omega), inR_nil, Bool.and_true] at hb
    rw [← hb] at h
    cases b with
    | true =>
      rw [if_pos rfl] at h
      refine Ev.step 0 (fun k _ => ?_) h
      show laws_FnRunsBack.l0 (k + 1) x1 t m true i = _
      rw [laws_FnRunsBack.l0, if_neg (by omega), if_pos rfl]
    | false =>
      rw [if_neg (by decide)] at h
      refine Ev.step 0 (fun k _ => ?_) h
      show laws_FnRunsBack.l0 (k + 1) x1 t m false i = _
      rw [laws_FnRunsBack.l0, if_neg (by omega), if_neg (by decide)]
  | succ d ih =>
    intro i b hi hb
    rw [drop_at t i (by omega), inR_cons] at hb
    cases b with
    | true =>
      obtain ⟨c1, _, _, _, hc⟩ := class_full t[i]
      have e : decide (clsV t[i] ≥ 0) = decide (-32767 ≤ t[i] ∧ t[i] ≤ 32767) := by
        rcases hc with ⟨h1, h2⟩ | ⟨h1, m, h2, _⟩
        · rw [decide_eq_false h2, decide_eq_false (by omega)]
        · rw [decide_eq_true h1, decide_eq_true (by omega)]
      refine Ev.step 40 (fun k hk => ?_) (ih (i + 1) (decide (clsV t[i] ≥ 0)) (by omega) (by rw [e]; simpa using hb))
      show laws_FnRunsBack.l0 (k + 1) x1 t m true i = _
      rw [laws_FnRunsBack.l0, if_pos (by omega), if_pos rfl, if_pos (by omega), rd_nat t i (by omega), c1 k hk, Option.bind_some, wsucc (by omega)]
    | false =>
      refine Ev.step 0 (fun k _ => ?_) (ih (i + 1) false (by omega) (by simpa using hb))
      show laws_FnRunsBack.l0 (k + 1) x1 t m false i = _
      rw [laws_FnRunsBack.l0, if_pos (by omega), if_neg (by decide), wsucc (by omega)]
theorem runsBack_j3 {l : List Int} (hl : BytesL l) : Ev (fun k => laws_FnRunsBack.j3 k l) (some true) := by
  obtain ⟨t, n, e1⟩ := drawFromRuns_ok hl
  obtain ⟨K1, s1⟩ := specFrom_ends t n
  obtain ⟨K2, s2⟩ := implFrom_ends t n
  have hR := fromR_len t n
  refine Ev.done (K1 + K2 + 2000) fun k hk => ?_
  have f1 : spec_FromRuns.f k t n = some (fromR t n) := s1 k (by omega)
  have f2 : impl_FromRuns.f k t n = some (fromR t n) := s2 k (by omega)
  show laws_FnRunsBack.j3 (k + 1) l = _
  rw [laws_FnRunsBack.j3, e1 k (by omega), Option.bind_some]
  show ((impl_FromRuns.f k t n).bind fun bt385 => _) = _
  rw [f2, Option.bind_some]
  show ((spec_FromRuns.f k t n).bind fun bt389 => _) = _
  rw [f1, Option.bind_some, if_pos (by simp), sameInts_refl _ (by omega) k (by omega), Option.bind_some]
theorem fromR_runs (D : List Int) (h : okB D = true) : fromR (runsG 0 D) (D.length : Int) = (D, true) := by
  simp only [okB, Bool.and_eq_true, decide_eq_true_eq] at h
  obtain ⟨h1, h2⟩ := h
  have hD : rng D := by
    intro x hx
    unfold inR at h2
    rw [List.all_eq_true] at h2
    simpa using h2 x hx
  have hl := runsG_len D 0
  obtain ⟨e, _⟩ := dec_runs (D.length : Int) D 0 [] hD (by simp)
  have e' : decS (D.length : Int) [] (runsG 0 D) = D := by simpa using e
  unfold fromR
  rw [if_pos (by omega), finS, e', runsR_rng hD (by omega), if_pos ⟨rfl, (eqL_iff _ _).2 rfl⟩]
theorem FnRunsBack : laws_FnRunsBack.Pure := by
  intro l0 l1 hm0 _ hw0 hm1 _ hw1
  unfold laws_FnRunsBack.f
  by_cases b0 : (l0.length : Int) > 1048576
  · refine ⟨1, ?_⟩
    rw [big_yes b0, Option.bind_some, if_pos rfl, laws_FnRunsBack.j0, if_pos rfl]
  by_cases b1 : (l1.length : Int) > 1048576
  · refine ⟨1, ?_⟩
    rw [big_no b0, Option.bind_some, if_neg (by decide), big_yes b1, Option.bind_some, laws_FnRunsBack.j0, if_pos rfl]
  have hl0 := bytes_of b0 hw0
  have hl1 := bytes_of b1 hw1
  rw [big_no b0, big_no b1]
  obtain ⟨t, e1, ht⟩ := drawRunsOf_ok hl0
  have hg := runsG_len t 0
  have hlen : (runsR t).length ≤ t.length := by
    unfold runsR
    split
    · omega
    · simp
  have key : Ev (fun k => laws_FnRunsBack.l0 k l1 t (runsR t) (decide ((t.length : Int) ≤ 64)) ((0 : Nat) : Int)) (some true) := by
    refine runsBack_loop l1 t (runsR t) ht (some true) ?_ t.length 0 _ (by omega) (by rw [List.drop_zero]; rfl)
    by_cases h : okB t = true
    · rw [if_pos h]
      have hr : runsR t = runsG 0 t := by rw [runsR]; exact if_pos h
      obtain ⟨K2, s2⟩ := implFrom_ends (runsR t) (t.length : Int)
      obtain ⟨K3, s3⟩ := runsBack_j3 hl1
      refine ⟨K2 + K3 + 100, fun k hk => ?_⟩
      have f2 : impl_FromRuns.f k (runsR t) (t.length : Int) = some (t, true) := by
        rw [show impl_FromRuns.f k (runsR t) (t.length : Int) = some (fromR (runsR t) (t.length : Int)) from s2 k (by omega), hr, fromR_runs t h]
      have f3 : laws_FnRunsBack.j3 k l1 = some true := s3 k (by omega)
      show ((impl_FromRuns.f k (runsR t) (t.length : Int)).bind _) = _
      rw [f2, Option.bind_some]
      show (if true = true then _ else _) = _
      rw [if_pos rfl, sameInts_refl t (by omega) k (by omega), Option.bind_some, if_pos rfl, f3]
    · rw [if_neg h]; exact runsBack_j3 hl1
  obtain ⟨K, hK⟩ := key
  refine ⟨K + 2000 + 2, ?_⟩
  rw [Option.bind_some, if_neg (by decide), Option.bind_some, laws_FnRunsBack.j0, if_neg (by decide), e1 _ (by omega), Option.bind_some, implRunsOf_eq t _ (by omega), Option.bind_some, specRunsOf_eq t _ (by omega), Option.bind_some, if_pos rfl, decide_eq_false (by omega), laws_FnRunsBack.j1, if_neg (by decide)]
  exact hK (K + 2000) (by omega)

end Go.Proofs.Yticlmpkbcmanfaa.Pure
