/- The program's SumOfAll returns what the reference's returns, and leaves its argument alone: for every list of rows. -/
import Derived.Test.YtjhbpiboemajeaaRFnExactSumOfAll
import Derived.Test.YtjhbpiboemajeaaBase
namespace Go.Proofs.Ytjhbpiboemajeaa.Pure
open Go.RowKit Go.Proofs.Ytjhbpiboemajeaa.Base Go.Proofs.Ytjhbpiboemajeaa.PFnExactSumOfAll Go.Proofs.YtjhbpiboemajeaaW.PrintWords Go.Proofs.YtjhbpiboemajeaaW.PrintLast
set_option linter.unusedVariables false
set_option linter.unusedSimpArgs false
/-! ### szints -/
def leftI (l : List Int) (a : Int) : Int := if a - (l.length : Int) < 0 then -1 else a - (l.length : Int)
theorem szIntS_eq (l : List Int) (a : Int) (h0 : 0 ≤ a) (h1 : a ≤ 1048576) (hl : l.length ≤ 9223372036854775807) : laws_szIntS.f l a = some (leftI l a) := by
  unfold laws_szIntS.f leftI
  rw [w64 (by omega) (by omega)]
  split <;> rfl
/-! ### ints -/
theorem toIntS_l0 : ∀ (suf pre rest : List Int), (pre ++ suf).length ≤ 1048576 → rest.length = suf.length →
    Ev (fun k => laws_toIntS.l0 k (pre ++ suf) (pre ++ rest) (pre.length : Int)) (pre ++ suf) := by
  intro suf
  induction suf with
  | nil =>
    intro pre rest hb hr
    obtain rfl : rest = [] := by simpa using hr
    refine Ev.step (fun k => by rw [laws_toIntS.l0]) ?_
    exact evNeg (by simp) (Ev.now _)
  | cons x suf ih =>
    intro pre rest hb hr
    obtain ⟨r, rest, rfl⟩ : ∃ r t, rest = r :: t := by
      cases rest with
      | nil => simp at hr
      | cons r t => exact ⟨r, t, rfl⟩
    simp only [List.length_append, List.length_cons] at hb hr
    refine Ev.step (fun k => by rw [laws_toIntS.l0]) ?_
    refine evPos (by simp only [List.length_append, List.length_cons]; omega) (evPos (by omega) (evPos (by simp only [List.length_append, List.length_cons]; omega) ?_))
    rw [rd_mid, set_mid, wsucc (by omega)]
    have h := ih (pre ++ [x]) rest (by simp; omega) (by omega)
    simpa using h
theorem toIntS_ev (l : List Int) (hl : l.length ≤ 1048576) : Ev (fun k => laws_toIntS.f k l) l := by
  unfold laws_toIntS.f
  refine evPos (by omega) (evPos (by omega) ?_)
  have h := toIntS_l0 l [] (List.replicate l.length 0) (by simpa using hl) (by simp)
  simpa using h
theorem eqIntS_l0 : ∀ (suf pre : List Int), (pre ++ suf).length ≤ 1048576 →
    Ev (fun k => laws_eqIntS.l0 k (pre ++ suf) (pre ++ suf) (pre.length : Int)) true := by
  intro suf
  induction suf with
  | nil =>
    intro pre hb
    refine Ev.step (fun k => by rw [laws_eqIntS.l0]) ?_
    exact evNeg (by simp) (Ev.now _)
  | cons x suf ih =>
    intro pre hb
    simp only [List.length_append, List.length_cons] at hb
    refine Ev.step (fun k => by rw [laws_eqIntS.l0]) ?_
    refine evPos (by simp only [List.length_append, List.length_cons]; omega) (evPos (by omega) (evPos (by simp only [List.length_append, List.length_cons]; omega) (evPos rfl ?_)))
    rw [wsucc (by omega)]
    have h := ih (pre ++ [x]) (by simp; omega)
    simpa using h
theorem eqIntS_ev (l : List Int) (hl : l.length ≤ 1048576) : Ev (fun k => laws_eqIntS.f k l l) true := by
  unfold laws_eqIntS.f
  refine evPos rfl ?_
  have h := eqIntS_l0 l [] (by simpa using hl)
  simpa using h
/-! ### intss -/
/-- What is left of a behind the lists' own lengths and the list's length; -1 where it is not enough. -/
def leftR : List (List Int) → Int → Int
  | [], a => a
  | r :: rs, a => if leftI r a < 0 then -1 else leftR rs (leftI r a)
def leftII (l : List (List Int)) (a : Int) : Int := if a - (l.length : Int) < 0 then -1 else leftR l (a - (l.length : Int))
theorem szIntSS_l0 : ∀ (suf pre : List (List Int)) (a : Int), (pre ++ suf).length ≤ 1048576 → 0 ≤ a → a ≤ 1048576 → (∀ r ∈ suf, r.length ≤ 9223372036854775807) →
    Ev (fun k => laws_szIntSS.l0 k (pre ++ suf) a (pre.length : Int)) (leftR suf a) := by
  intro suf
  induction suf with
  | nil =>
    intro pre a hb h0 h1 hr
    refine Ev.step (fun k => by rw [laws_szIntSS.l0]) ?_
    exact evNeg (by simp) (Ev.now _)
  | cons x suf ih =>
    intro pre a hb h0 h1 hr
    simp only [List.length_append, List.length_cons] at hb
    refine Ev.step (fun k => by rw [laws_szIntSS.l0]) ?_
    refine evPos (by simp only [List.length_append, List.length_cons]; omega) (evPos (by omega) ?_)
    rw [rd_L1, getD_mid, wsucc (by omega)]
    refine evSome (szIntS_eq x a h0 h1 (hr x (by simp))) ?_
    by_cases hx : leftI x a < 0
    · refine evPos hx (evEq ?_ (Ev.now _))
      simp [leftR, hx]
    · refine evNeg hx ?_
      have hle : leftI x a ≤ 1048576 := by
        unfold leftI
        split <;> omega
      have h := ih (pre ++ [x]) (leftI x a) (by simp; omega) (by omega) hle (fun r h => hr r (by simp [h]))
      refine evEq ?_ (Ev.congr (fun k => ?_) h)
      · simp [leftR, hx]
      · simp
theorem szIntSS_ev (l : List (List Int)) (a : Int) (h0 : 0 ≤ a) (h1 : a ≤ 1048576) (hl : l.length ≤ 9223372036854775807) (hr : ∀ r ∈ l, r.length ≤ 9223372036854775807) : Ev (fun k => laws_szIntSS.f k l a) (leftII l a) := by
  unfold laws_szIntSS.f
  rw [w64 (by omega) (by omega)]
  by_cases h : a - (l.length : Int) < 0
  · refine evPos h (evEq ?_ (Ev.now _))
    simp [leftII, h]
  · refine evNeg h (evEq ?_ (szIntSS_l0 l [] _ (by simp; omega) (by omega) (by omega) hr))
    simp [leftII, h]
theorem leftR_rows : ∀ (l : List (List Int)) (a : Int), 0 ≤ leftR l a → 0 ≤ a → a ≤ 1048576 → (∀ r ∈ l, r.length ≤ 1048576)
  | [], _, _, _, _ => by simp
  | r :: rs, a, h, h0, h1 => by
    unfold leftR at h
    split at h
    · omega
    · rename_i hx
      have hx' : 0 ≤ leftI r a := by omega
      have hrl : r.length ≤ 1048576 ∧ leftI r a ≤ 1048576 := by
        unfold leftI at hx' ⊢
        split at hx' <;> split <;> omega
      intro q hq
      rcases List.mem_cons.1 hq with rfl | hq
      · exact hrl.1
      · exact leftR_rows rs _ h hx' hrl.2 q hq
/-- Rows that may be examined. -/
def okII (l : List (List Int)) : Prop := l.length ≤ 1048576 ∧ ∀ r ∈ l, r.length ≤ 1048576
theorem leftII_ok {l : List (List Int)} (h : 0 ≤ leftII l 1048576) : okII l := by
  unfold leftII at h
  split at h
  · omega
  · exact ⟨by omega, leftR_rows l _ h (by omega) (by omega)⟩
theorem toIntSS_l0 : ∀ (suf pre rest : List (List Int)), (pre ++ suf).length ≤ 1048576 → rest.length = suf.length → (∀ r ∈ suf, r.length ≤ 1048576) →
    Ev (fun k => laws_toIntSS.l0 k (pre ++ suf) (pre ++ rest) (pre.length : Int)) (pre ++ suf) := by
  intro suf
  induction suf with
  | nil =>
    intro pre rest hb hr hq
    obtain rfl : rest = [] := by simpa using hr
    refine Ev.step (fun k => by rw [laws_toIntSS.l0]) ?_
    exact evNeg (by simp) (Ev.now _)
  | cons x suf ih =>
    intro pre rest hb hr hq
    obtain ⟨r, rest, rfl⟩ : ∃ r t, rest = r :: t := by
      cases rest with
      | nil => simp at hr
      | cons r t => exact ⟨r, t, rfl⟩
    simp only [List.length_append, List.length_cons] at hb hr
    refine Ev.step (fun k => by rw [laws_toIntSS.l0]) ?_
    refine evPos (by simp only [List.length_append, List.length_cons]; omega) (evPos (by omega) ?_)
    rw [rd_L1, getD_mid]
    refine Ev.bind (toIntS_ev x (hq x (by simp))) (evPos (by simp only [List.length_append, List.length_cons]; omega) ?_)
    rw [set_mid, wsucc (by omega)]
    have h := ih (pre ++ [x]) rest (by simp; omega) (by omega) (fun r h => hq r (by simp [h]))
    simpa using h
theorem toIntSS_ev (l : List (List Int)) (hl : okII l) : Ev (fun k => laws_toIntSS.f k l) l := by
  have h0 := hl.1
  unfold laws_toIntSS.f
  refine evPos (by omega) (evPos (by omega) ?_)
  have h := toIntSS_l0 l [] (List.replicate l.length []) (by simpa using hl.1) (by simp) hl.2
  simpa using h
theorem eqIntSS_l0 : ∀ (suf pre : List (List Int)), (pre ++ suf).length ≤ 1048576 → (∀ r ∈ suf, r.length ≤ 1048576) →
    Ev (fun k => laws_eqIntSS.l0 k (pre ++ suf) (pre ++ suf) (pre.length : Int)) true := by
  intro suf
  induction suf with
  | nil =>
    intro pre hb hq
    refine Ev.step (fun k => by rw [laws_eqIntSS.l0]) ?_
    exact evNeg (by simp) (Ev.now _)
  | cons x suf ih =>
    intro pre hb hq
    simp only [List.length_append, List.length_cons] at hb
    refine Ev.step (fun k => by rw [laws_eqIntSS.l0]) ?_
    refine evPos (by simp only [List.length_append, List.length_cons]; omega) (evPos (by omega) (evPos (by simp only [List.length_append, List.length_cons]; omega) ?_))
    rw [rd_L1, getD_mid]
    refine Ev.bind (eqIntS_ev x (hq x (by simp))) (evPos rfl ?_)
    rw [wsucc (by omega)]
    have h := ih (pre ++ [x]) (by simp; omega) (fun r h => hq r (by simp [h]))
    simpa using h
theorem eqIntSS_ev (l : List (List Int)) (hl : okII l) : Ev (fun k => laws_eqIntSS.f k l l) true := by
  unfold laws_eqIntSS.f
  refine evPos rfl ?_
  have h := eqIntSS_l0 l [] (by simpa using hl.1) hl.2
  simpa using h
/-! ### small -/
theorem spec_l1In_eq (a b c : Int) : spec_l1In.f a b c = some (decide (b ≤ a ∧ a ≤ c)) := by
  unfold spec_l1In.f
  by_cases h : a ≥ b
  · rw [if_pos h]
    simp [show b ≤ a from h]
  · rw [if_neg h]
    have : ¬ b ≤ a := h
    simp [this]
/-! ### smod -/
theorem tmod_twice (n m : Int) (h1 : 1 ≤ m) (h2 : m ≤ 1000000000000) : Int.tmod (wrap64 ((Int.tmod n m) + m)) m = n % m := by
  have h3 : -m < Int.tmod n m ∧ Int.tmod n m < m := by
    have a := Int.tmod_lt_of_pos n (show 0 < m by omega)
    have b := Int.lt_tmod_of_pos n (show 0 < m by omega)
    omega
  rw [w64 (by omega) (by omega), Int.tmod_eq_emod_of_nonneg (by omega), Int.add_emod_right]
  rcases Int.le_total 0 n with h | h
  · rw [Int.tmod_eq_emod_of_nonneg h, Int.emod_emod]
  · obtain ⟨p, rfl⟩ : ∃ p, n = -p := ⟨-n, by omega⟩
    rw [Int.neg_tmod, Int.tmod_eq_emod_of_nonneg (by omega)]
    have e := Int.mul_ediv_add_emod p m
    have e2 : -p = -(p % m) + m * (-(p / m)) := by
      rw [Int.mul_neg]
      omega
    rw [e2, Int.add_mul_emod_self_left]
theorem spec_Mod_eq (n m : Int) (h1 : 1 ≤ m) (h2 : m ≤ 1000000000000) : spec_Mod.f n m = some (n % m) := by
  unfold spec_Mod.f
  rw [spec_l1In_eq, Option.bind_some, if_pos (by simp [h1, h2]), if_neg (by omega), tmod_twice n m h1 h2]
/-! ### inrange -/
theorem impl_InRange_eq (a b c : Int) : impl_InRange.f a b c = some (decide (b ≤ a ∧ a ≤ c)) := by
  unfold impl_InRange.f
  by_cases h : b ≤ a
  · rw [if_pos h]
    simp [h]
  · rw [if_neg h]
    simp [h]
/-! ### allin -/
theorem impl_allIn_l0 (lo hi : Int) : ∀ (suf pre : List Int), (pre ++ suf).length ≤ 1048576 →
    Ev (fun k => impl_allIn.l0 k lo hi (pre ++ suf) ((pre ++ suf).length : Int) (pre.length : Int)) (suf.all fun x => decide (lo ≤ x ∧ x ≤ hi)) := by
  intro suf
  induction suf with
  | nil =>
    intro pre hb
    refine Ev.step (fun k => by rw [impl_allIn.l0]) ?_
    exact evNeg (by simp) (Ev.now _)
  | cons x suf ih =>
    intro pre hb
    simp only [List.length_append, List.length_cons] at hb
    refine Ev.step (fun k => by rw [impl_allIn.l0]) ?_
    refine evPos (by simp only [List.length_append, List.length_cons]; omega) (evPos (by omega) (evPos (by simp only [List.length_append, List.length_cons]; omega) ?_))
    rw [rd_mid, wsucc (by omega)]
    refine evSome (impl_InRange_eq _ _ _) ?_
    by_cases hx : lo ≤ x ∧ x ≤ hi
    · refine evPos (by simp [hx]) ?_
      have h := ih (pre ++ [x]) (by simp; omega)
      refine evEq ?_ (Ev.congr (fun k => ?_) h)
      · simp [hx]
      · simp
    · refine evNeg (by simpa using hx) (evEq ?_ (Ev.now _))
      simp [hx]
theorem impl_allIn_ev (l : List Int) (lo hi : Int) (hl : l.length ≤ 1048576) : Ev (fun k => impl_allIn.f k l lo hi) (l.all fun x => decide (lo ≤ x ∧ x ≤ hi)) := by
  have h := impl_allIn_l0 lo hi l [] (by simpa using hl)
  simpa [impl_allIn.f] using h
/-! ### sumi -/
def sumI : List Int → Int
  | [] => 0
  | x :: xs => x + sumI xs
def inW (l : List Int) : Bool := l.all fun x => decide (0 ≤ x ∧ x ≤ 996)
theorem sumI_bounds : ∀ l : List Int, inW l = true → 0 ≤ sumI l ∧ sumI l ≤ 996 * (l.length : Int)
  | [], _ => by simp [sumI]
  | x :: xs, h => by
    simp only [inW, List.all_cons, Bool.and_eq_true, decide_eq_true_eq] at h
    have ih := sumI_bounds xs h.2
    simp only [sumI, List.length_cons]
    omega
theorem spec_l25In_eq (x : Int) : spec_l25In.f x = some (decide (0 ≤ x ∧ x ≤ 996)) := by
  unfold spec_l25In.f
  rw [spec_l1In_eq]
  rfl
/-! ### join -/
def joinV (l : List Int) : Int := if (2 ≤ l.length ∧ l.length ≤ 5) ∧ inW l = true then sumI l % 997 else -1
theorem joinV_range (l : List Int) : -1 ≤ joinV l ∧ joinV l ≤ 996 := by
  unfold joinV
  split
  · omega
  · omega
theorem spec_JoinShares_l0 : ∀ (suf pre : List Int) (s : Int), (pre ++ suf).length ≤ 5 → 0 ≤ s → s ≤ 996 * (pre.length : Int) →
    Ev (fun k => spec_JoinShares.l0 k (pre ++ suf) s (pre.length : Int)) (if inW suf = true then (s + sumI suf) % 997 else -1) := by
  intro suf
  induction suf with
  | nil =>
    intro pre s hb h0 hs
    refine Ev.step (fun k => by rw [spec_JoinShares.l0]) ?_
    refine evNeg (by simp) (evSome (spec_Mod_eq _ _ (by omega) (by omega)) (evEq ?_ (Ev.now _)))
    simp [inW, sumI]
  | cons x suf ih =>
    intro pre s hb h0 hs
    simp only [List.length_append, List.length_cons] at hb
    refine Ev.step (fun k => by rw [spec_JoinShares.l0]) ?_
    refine evPos (by simp only [List.length_append, List.length_cons]; omega) (evPos (by omega) ?_)
    rw [rd_mid, wsucc (by omega)]
    refine evSome (spec_l25In_eq _) ?_
    by_cases hx : 0 ≤ x ∧ x ≤ 996
    · refine evPos (by simp [hx]) ?_
      rw [w64 (by omega) (by omega)]
      have h := ih (pre ++ [x]) (s + x) (by simp; omega) (by omega) (by simp; omega)
      refine evEq ?_ (Ev.congr (fun k => ?_) h)
      · simp [inW, hx, sumI, Int.add_assoc]
      · simp
    · refine evNeg (by simpa using hx) (evEq ?_ (Ev.now _))
      simp [inW, hx]
theorem spec_JoinShares_ev (l : List Int) : Ev (fun k => spec_JoinShares.f k l) (joinV l) := by
  unfold spec_JoinShares.f
  refine evSome (spec_l1In_eq _ _ _) ?_
  by_cases hl : 2 ≤ l.length ∧ l.length ≤ 5
  · refine evPos (by simp; omega) ?_
    have h := spec_JoinShares_l0 l [] 0 (by simpa using hl.2) (by omega) (by simp)
    refine evEq ?_ h
    simp [joinV, hl]
  · refine evNeg (by simp; omega) (evEq ?_ (Ev.now _))
    simp [joinV, hl]
theorem impl_JoinShares_l0 : ∀ (suf pre : List Int) (s : Int), (pre ++ suf).length ≤ 5 → 0 ≤ s → s ≤ 996 * (pre.length : Int) → inW suf = true →
    Ev (fun k => impl_JoinShares.l0 k s (pre ++ suf) ((pre ++ suf).length : Int) (pre.length : Int)) ((s + sumI suf) % 997) := by
  intro suf
  induction suf with
  | nil =>
    intro pre s hb h0 hs _
    refine Ev.step (fun k => by rw [impl_JoinShares.l0]) ?_
    refine evNeg (by simp) (evEq ?_ (Ev.now _))
    rw [Int.tmod_eq_emod_of_nonneg h0]
    simp [sumI]
  | cons x suf ih =>
    intro pre s hb h0 hs hw
    simp only [inW, List.all_cons, Bool.and_eq_true, decide_eq_true_eq] at hw
    simp only [List.length_append, List.length_cons] at hb
    refine Ev.step (fun k => by rw [impl_JoinShares.l0]) ?_
    refine evPos (by simp only [List.length_append, List.length_cons]; omega) (evPos (by omega) (evPos (by simp only [List.length_append, List.length_cons]; omega) ?_))
    rw [rd_mid, wsucc (by omega), w64 (by omega) (by omega)]
    have h := ih (pre ++ [x]) (s + x) (by simp; omega) (by omega) (by simp; omega) hw.2
    refine evEq ?_ (Ev.congr (fun k => ?_) h)
    · simp [sumI, Int.add_assoc]
    · simp
theorem impl_JoinShares_ev (l : List Int) (hl : l.length ≤ 1048576) : Ev (fun k => impl_JoinShares.f k l) (joinV l) := by
  unfold impl_JoinShares.f
  refine evSome (impl_InRange_eq _ _ _) ?_
  by_cases h2 : 2 ≤ l.length ∧ l.length ≤ 5
  · refine evPos (by simp; omega) (Ev.bind (impl_allIn_ev l 0 996 hl) ?_)
    refine Ev.step (fun k => by rw [impl_JoinShares.j0]) ?_
    by_cases hw : inW l = true
    · have hw' : (l.all fun x => decide (0 ≤ x ∧ x ≤ 996)) = true := hw
      rw [hw']
      refine evNeg (by simp) ?_
      have h := impl_JoinShares_l0 l [] 0 (by simpa using h2.2) (by omega) (by simp) hw
      refine evEq ?_ h
      simp [joinV, h2, hw]
    · have hw' : (l.all fun x => decide (0 ≤ x ∧ x ≤ 996)) = false := by simpa [inW] using hw
      rw [hw']
      refine evPos rfl (evEq ?_ (Ev.now _))
      simp [joinV, hw]
  · refine evNeg (by simp; omega) ?_
    refine Ev.step (fun k => by rw [impl_JoinShares.j0]) ?_
    refine evPos rfl (evEq ?_ (Ev.now _))
    simp [joinV, h2]
/-! ### add -/
def addL (a b : List Int) : List Int := List.zipWith (fun x y => (x + y) % 997) a b
def addV (a b : List Int) : List Int := if a.length = b.length ∧ ¬ joinV a < 0 ∧ ¬ joinV b < 0 then addL a b else []
theorem joinV_inW {l : List Int} (h : ¬ joinV l < 0) : inW l = true ∧ l.length ≤ 5 := by
  unfold joinV at h
  split at h
  · rename_i h1
    exact ⟨h1.2, h1.1.2⟩
  · omega
theorem inW_cons {x : Int} {l : List Int} : inW (x :: l) = true ↔ (0 ≤ x ∧ x ≤ 996) ∧ inW l = true := by
  simp [inW]
theorem spec_AddShares_l0 : ∀ (sa sb pa pb out : List Int), sa.length = sb.length → pa.length = pb.length → out.length = pa.length → (pa ++ sa).length ≤ 5 → inW sa = true → inW sb = true →
    Ev (fun k => spec_AddShares.l0 k (pa ++ sa) (pb ++ sb) out (pa.length : Int)) (out ++ addL sa sb) := by
  intro sa
  induction sa with
  | nil =>
    intro sb pa pb out h1 h2 h3 h4 h5 h6
    refine Ev.step (fun k => by rw [spec_AddShares.l0]) ?_
    refine evNeg (by simp) (evEq ?_ (Ev.now _))
    simp [addL]
  | cons x sa ih =>
    intro sb pa pb out h1 h2 h3 h4 h5 h6
    obtain ⟨y, sb, rfl⟩ : ∃ y t, sb = y :: t := by
      cases sb with
      | nil => simp at h1
      | cons y t => exact ⟨y, t, rfl⟩
    simp only [List.length_append, List.length_cons] at h1 h4
    rw [inW_cons] at h5 h6
    refine Ev.step (fun k => by rw [spec_AddShares.l0]) ?_
    refine evPos (by simp only [List.length_append, List.length_cons]; omega) (evPos (by omega) (evPos (by simp only [List.length_append, List.length_cons]; omega) ?_))
    rw [rd_mid, rd_mid' pb sb y h2.symm, wsucc (by omega), w64 (by omega) (by omega)]
    refine evSome (spec_Mod_eq _ _ (by omega) (by omega)) (evPos (by omega) ?_)
    have h := ih sb (pa ++ [x]) (pb ++ [y]) (out ++ [(x + y) % 997]) (by omega) (by simp [h2]) (by simp [h3]) (by simp; omega) h5.2 h6.2
    refine evEq ?_ (Ev.congr (fun k => ?_) h)
    · simp [addL]
    · simp
theorem spec_AddShares_ev (a b : List Int) : Ev (fun k => spec_AddShares.f k a b) (addV a b) := by
  unfold spec_AddShares.f
  refine evSome rfl ?_
  by_cases hl : a.length = b.length
  · refine evPos (by omega) (Ev.bind (spec_JoinShares_ev a) ?_)
    by_cases ha : joinV a < 0
    · refine evPos ha (Ev.step (fun k => by rw [spec_AddShares.j0]) (evPos rfl (evEq ?_ (Ev.now _))))
      simp [addV, ha]
    · refine evNeg ha (Ev.bind (spec_JoinShares_ev b) (Ev.step (fun k => by rw [spec_AddShares.j0]) ?_))
      by_cases hb : joinV b < 0
      · refine evPos (by simpa using hb) (evEq ?_ (Ev.now _))
        simp [addV, hb]
      · refine evNeg (by simpa using hb) ?_
        have h := spec_AddShares_l0 a b [] [] [] hl rfl rfl (by simpa using (joinV_inW ha).2) (joinV_inW ha).1 (joinV_inW hb).1
        refine evEq ?_ h
        simp [addV, hl, ha, hb]
  · refine evNeg (by omega) (Ev.step (fun k => by rw [spec_AddShares.j0]) (evPos rfl (evEq ?_ (Ev.now _))))
    simp [addV, hl]
theorem impl_AddShares_l0 : ∀ (sa sb pa pb out : List Int), sa.length = sb.length → pa.length = pb.length → out.length = pa.length → (pa ++ sa).length ≤ 5 → inW sa = true → inW sb = true →
    Ev (fun k => impl_AddShares.l0 k (pa ++ sa) (pb ++ sb) out ((pa ++ sa).length : Int) (pa.length : Int)) (out ++ addL sa sb) := by
  intro sa
  induction sa with
  | nil =>
    intro sb pa pb out h1 h2 h3 h4 h5 h6
    refine Ev.step (fun k => by rw [impl_AddShares.l0]) ?_
    refine evNeg (by simp) (evEq ?_ (Ev.now _))
    simp [addL]
  | cons x sa ih =>
    intro sb pa pb out h1 h2 h3 h4 h5 h6
    obtain ⟨y, sb, rfl⟩ : ∃ y t, sb = y :: t := by
      cases sb with
      | nil => simp at h1
      | cons y t => exact ⟨y, t, rfl⟩
    simp only [List.length_append, List.length_cons] at h1 h4
    rw [inW_cons] at h5 h6
    refine Ev.step (fun k => by rw [impl_AddShares.l0]) ?_
    refine evPos (by simp only [List.length_append, List.length_cons]; omega) (evPos (by omega) (evPos (by simp only [List.length_append, List.length_cons]; omega) (evPos (by simp only [List.length_append, List.length_cons]; omega) (evPos (by omega) ?_))))
    rw [rd_mid, rd_mid' pb sb y h2.symm, wsucc (by omega), w64 (by omega) (by omega), Int.tmod_eq_emod_of_nonneg (by omega)]
    have h := ih sb (pa ++ [x]) (pb ++ [y]) (out ++ [(x + y) % 997]) (by omega) (by simp [h2]) (by simp [h3]) (by simp; omega) h5.2 h6.2
    refine evEq ?_ (Ev.congr (fun k => ?_) h)
    · simp [addL]
    · simp
theorem impl_AddShares_ev (a b : List Int) (hal : a.length ≤ 1048576) (hbl : b.length ≤ 1048576) : Ev (fun k => impl_AddShares.f k a b) (addV a b) := by
  unfold impl_AddShares.f
  have ra := joinV_range a
  have rb := joinV_range b
  by_cases hl : a.length = b.length
  · refine evPos (by omega) (Ev.bind (impl_JoinShares_ev a hal) ?_)
    by_cases ha : joinV a < 0
    · refine evPos (by omega) (Ev.step (fun k => by rw [impl_AddShares.j0]) (evPos rfl (evEq ?_ (Ev.now _))))
      simp [addV, ha]
    · refine evNeg (by omega) (Ev.bind (impl_JoinShares_ev b hbl) (Ev.step (fun k => by rw [impl_AddShares.j0]) ?_))
      by_cases hb : joinV b < 0
      · refine evPos (by simp; omega) (evEq ?_ (Ev.now _))
        simp [addV, hb]
      · refine evNeg (by simp; omega) ?_
        have h := impl_AddShares_l0 a b [] [] [] hl rfl rfl (by simpa using (joinV_inW ha).2) (joinV_inW ha).1 (joinV_inW hb).1
        refine evEq ?_ h
        simp [addV, hl, ha, hb]
  · refine evNeg (by omega) (Ev.step (fun k => by rw [impl_AddShares.j0]) (evPos rfl (evEq ?_ (Ev.now _))))
    simp [addV, hl]
theorem addV_length (a b : List Int) : (addV a b).length ≤ 5 := by
  unfold addV
  split
  · rename_i h
    have := (joinV_inW h.2.1).2
    simp [addL]
    omega
  · simp
/-! ### sumall -/
def sumAllV : List (List Int) → Int
  | [] => -1
  | x :: xs => joinV (xs.foldl addV x)
theorem impl_SumOfAll_l0 : ∀ (suf pre : List (List Int)) (x : List Int), (pre ++ suf).length ≤ 1048576 → x.length ≤ 1048576 → (∀ r ∈ suf, r.length ≤ 1048576) →
    Ev (fun k => impl_SumOfAll.l0 k x (pre ++ suf) ((pre ++ suf).length : Int) (pre.length : Int)) (joinV (suf.foldl addV x)) := by
  intro suf
  induction suf with
  | nil =>
    intro pre x hb hx hr
    refine Ev.step (fun k => by rw [impl_SumOfAll.l0]) ?_
    exact evNeg (by simp) (Ev.bind (impl_JoinShares_ev x hx) (Ev.now _))
  | cons y suf ih =>
    intro pre x hb hx hr
    simp only [List.length_append, List.length_cons] at hb
    refine Ev.step (fun k => by rw [impl_SumOfAll.l0]) ?_
    refine evPos (by simp only [List.length_append, List.length_cons]; omega) (evPos (by omega) (evPos (by simp only [List.length_append, List.length_cons]; omega) ?_))
    rw [rd_L1, getD_mid, wsucc (by omega)]
    refine Ev.bind (impl_AddShares_ev x y hx (hr y (by simp))) ?_
    have ha := addV_length x y
    have h := ih (pre ++ [y]) (addV x y) (by simp; omega) (by omega) (fun r h => hr r (by simp [h]))
    simpa using h
theorem impl_SumOfAll_ev (l : List (List Int)) (hl : l.length ≤ 1048576) (hr : ∀ r ∈ l, r.length ≤ 1048576) : Ev (fun k => impl_SumOfAll.f k l) (sumAllV l) := by
  unfold impl_SumOfAll.f
  cases l with
  | nil => exact evPos rfl (Ev.now _)
  | cons x xs =>
    simp only [List.length_cons] at hl
    refine evNeg (by simp only [List.length_cons]; omega) (evPos (by simp only [List.length_cons]; omega) (evPos (by simp only [List.length_cons]; omega) (evSome rfl ?_)))
    have h := impl_SumOfAll_l0 xs [] x (by simp; omega) (hr x (by simp)) (fun r h => hr r (by simp [h]))
    simpa [rd_L1, sumAllV] using h
/-! ### ssumall -/
theorem spec_SumOfAll_l0 : ∀ (suf pre : List (List Int)) (x : List Int), (pre ++ suf).length ≤ 1048576 →
    Ev (fun k => spec_SumOfAll.l0 k (pre ++ suf) x (pre.length : Int)) (joinV (suf.foldl addV x)) := by
  intro suf
  induction suf with
  | nil =>
    intro pre x hb
    refine Ev.step (fun k => by rw [spec_SumOfAll.l0]) ?_
    exact evNeg (by simp) (Ev.bind (spec_JoinShares_ev x) (Ev.now _))
  | cons y suf ih =>
    intro pre x hb
    simp only [List.length_append, List.length_cons] at hb
    refine Ev.step (fun k => by rw [spec_SumOfAll.l0]) ?_
    refine evPos (by simp only [List.length_append, List.length_cons]; omega) (evPos (by omega) ?_)
    rw [rd_L1, getD_mid, wsucc (by omega)]
    refine Ev.bind (spec_AddShares_ev x y) ?_
    have h := ih (pre ++ [y]) (addV x y) (by simp; omega)
    simpa using h
theorem spec_SumOfAll_ev (l : List (List Int)) (hl : l.length ≤ 1048576) (hr : ∀ r ∈ l, r.length ≤ 1048576) : Ev (fun k => spec_SumOfAll.f k l) (sumAllV l) := by
  unfold spec_SumOfAll.f
  cases l with
  | nil => exact evPos rfl (Ev.now _)
  | cons x xs =>
    simp only [List.length_cons] at hl
    have hx := hr x (by simp)
    have e : rd_L1 (x :: xs) 0 = x := by simp [rd_L1]
    refine evNeg (by simp only [List.length_cons]; omega) (evSome rfl (evPos (by simp only [List.length_cons]; omega) ?_))
    rw [e]
    refine evPos (by simp; omega) ?_
    have h := spec_SumOfAll_l0 xs [x] x (by simp; omega)
    simpa [sumAllV] using h
/-! ### law_FnExactSumOfAll -/
theorem FnExactSumOfAll : laws_FnExactSumOfAll.PureR := by
  intro l h
  have hr : ∀ r ∈ l, r.length ≤ 9223372036854775807 := fun r hr => (h.2 r hr).1
  refine Ev.rounds ?_
  unfold laws_FnExactSumOfAll.f
  refine Ev.bind (szIntSS_ev l 1048576 (by omega) (by omega) h.1 hr) ?_
  by_cases hb : leftII l 1048576 < 0
  · exact evPos hb (Ev.now _)
  · have hl : okII l := leftII_ok (by omega)
    exact evNeg hb (Ev.bind (toIntSS_ev l hl) (Ev.bind (spec_SumOfAll_ev l hl.1 hl.2) (Ev.bind (toIntSS_ev l hl) (Ev.bind (impl_SumOfAll_ev l hl.1 hl.2) (evPos rfl (Ev.bind (toIntSS_ev l hl) (Ev.bind (eqIntSS_ev l hl) (evPos rfl (Ev.now _)))))))))
end Go.Proofs.Ytjhbpiboemajeaa.Pure
