/- The program's CountSecrets returns what the reference's returns, and leaves its argument alone: for every list and every hidden index. -/
import Derived.Test.YtdhdjlngelcgbaaRFnExactCountSecrets
import Derived.Test.YtdhdjlngelcgbaaBase
namespace Go.Proofs.Ytdhdjlngelcgbaa.Pure
open Go.RowKit Go.Proofs.Ytdhdjlngelcgbaa.Base Go.Proofs.Ytdhdjlngelcgbaa.PFnExactCountSecrets Go.Proofs.YtdhdjlngelcgbaaW.PrintWords Go.Proofs.YtdhdjlngelcgbaaW.PrintLast
set_option linter.unusedVariables false
set_option linter.unusedSimpArgs false
/-! ### ints -/
theorem toIntS_l0 : ∀ (suf pre rest : List Int), (pre ++ suf).length ≤ 1048576 → rest.length = suf.length →
    Ev (fun k => laws_toIntS.l0 k (pre ++ suf) (pre ++ rest) (pre.length : Int)) (pre ++ suf) := by
  intro suf
  induction suf with
  | nil =>
    intro pre rest hb hr
    obtain rfl : rest = [] := by simpa using hr
    refine Ev.step (fun k => by rw [laws_toIntS.l0]) ?_
    exact evNeg (by simp) (Ev.now _)
  | cons x suf ih =>
    intro pre rest hb hr
    obtain ⟨r, rest, rfl⟩ : ∃ r t, rest = r :: t := by
      cases rest with
      | nil => simp at hr
      | cons r t => exact ⟨r, t, rfl⟩
    simp only [List.length_append, List.length_cons] at hb hr
    refine Ev.step (fun k => by rw [laws_toIntS.l0]) ?_
    refine evPos (by simp only [List.length_append, List.length_cons]; omega) (evPos (by omega) (evPos (by simp only [List.length_append, List.length_cons]; omega) ?_))
    rw [rd_mid, set_mid, wsucc (by omega)]
    have h := ih (pre ++ [x]) rest (by simp; omega) (by omega)
    simpa using h
theorem toIntS_ev (l : List Int) (hl : l.length ≤ 1048576) : Ev (fun k => laws_toIntS.f k l) l := by
  unfold laws_toIntS.f
  refine evPos (by omega) (evPos (by omega) ?_)
  have h := toIntS_l0 l [] (List.replicate l.length 0) (by simpa using hl) (by simp)
  simpa using h
theorem eqIntS_l0 : ∀ (suf pre : List Int), (pre ++ suf).length ≤ 1048576 →
    Ev (fun k => laws_eqIntS.l0 k (pre ++ suf) (pre ++ suf) (pre.length : Int)) true := by
  intro suf
  induction suf with
  | nil =>
    intro pre hb
    refine Ev.step (fun k => by rw [laws_eqIntS.l0]) ?_
    exact evNeg (by simp) (Ev.now _)
  | cons x suf ih =>
    intro pre hb
    simp only [List.length_append, List.length_cons] at hb
    refine Ev.step (fun k => by rw [laws_eqIntS.l0]) ?_
    refine evPos (by simp only [List.length_append, List.length_cons]; omega) (evPos (by omega) (evPos (by simp only [List.length_append, List.length_cons]; omega) (evPos rfl ?_)))
    rw [wsucc (by omega)]
    have h := ih (pre ++ [x]) (by simp; omega)
    simpa using h
theorem eqIntS_ev (l : List Int) (hl : l.length ≤ 1048576) : Ev (fun k => laws_eqIntS.f k l l) true := by
  unfold laws_eqIntS.f
  refine evPos rfl ?_
  have h := eqIntS_l0 l [] (by simpa using hl)
  simpa using h
/-! ### small -/
theorem spec_l1In_eq (a b c : Int) : spec_l1In.f a b c = some (decide (b ≤ a ∧ a ≤ c)) := by
  unfold spec_l1In.f
  by_cases h : a ≥ b
  · rw [if_pos h]
    simp [show b ≤ a from h]
  · rw [if_neg h]
    have : ¬ b ≤ a := h
    simp [this]
/-! ### smod -/
theorem tmod_twice (n m : Int) (h1 : 1 ≤ m) (h2 : m ≤ 1000000000000) : Int.tmod (wrap64 ((Int.tmod n m) + m)) m = n % m := by
  have h3 : -m < Int.tmod n m ∧ Int.tmod n m < m := by
    have a := Int.tmod_lt_of_pos n (show 0 < m by omega)
    have b := Int.lt_tmod_of_pos n (show 0 < m by omega)
    omega
  rw [w64 (by omega) (by omega), Int.tmod_eq_emod_of_nonneg (by omega), Int.add_emod_right]
  rcases Int.le_total 0 n with h | h
  · rw [Int.tmod_eq_emod_of_nonneg h, Int.emod_emod]
  · obtain ⟨p, rfl⟩ : ∃ p, n = -p := ⟨-n, by omega⟩
    rw [Int.neg_tmod, Int.tmod_eq_emod_of_nonneg (by omega)]
    have e := Int.mul_ediv_add_emod p m
    have e2 : -p = -(p % m) + m * (-(p / m)) := by
      rw [Int.mul_neg]
      omega
    rw [e2, Int.add_mul_emod_self_left]
theorem spec_Mod_eq (n m : Int) (h1 : 1 ≤ m) (h2 : m ≤ 1000000000000) : spec_Mod.f n m = some (n % m) := by
  unfold spec_Mod.f
  rw [spec_l1In_eq, Option.bind_some, if_pos (by simp [h1, h2]), if_neg (by omega), tmod_twice n m h1 h2]
/-! ### inrange -/
theorem impl_InRange_eq (a b c : Int) : impl_InRange.f a b c = some (decide (b ≤ a ∧ a ≤ c)) := by
  unfold impl_InRange.f
  by_cases h : b ≤ a
  · rw [if_pos h]
    simp [h]
  · rw [if_neg h]
    simp [h]
/-! ### allin -/
theorem impl_allIn_l0 (lo hi : Int) : ∀ (suf pre : List Int), (pre ++ suf).length ≤ 1048576 →
    Ev (fun k => impl_allIn.l0 k lo hi (pre ++ suf) ((pre ++ suf).length : Int) (pre.length : Int)) (suf.all fun x => decide (lo ≤ x ∧ x ≤ hi)) := by
  intro suf
  induction suf with
  | nil =>
    intro pre hb
    refine Ev.step (fun k => by rw [impl_allIn.l0]) ?_
    exact evNeg (by simp) (Ev.now _)
  | cons x suf ih =>
    intro pre hb
    simp only [List.length_append, List.length_cons] at hb
    refine Ev.step (fun k => by rw [impl_allIn.l0]) ?_
    refine evPos (by simp only [List.length_append, List.length_cons]; omega) (evPos (by omega) (evPos (by simp only [List.length_append, List.length_cons]; omega) ?_))
    rw [rd_mid, wsucc (by omega)]
    refine evSome (impl_InRange_eq _ _ _) ?_
    by_cases hx : lo ≤ x ∧ x ≤ hi
    · refine evPos (by simp [hx]) ?_
      have h := ih (pre ++ [x]) (by simp; omega)
      refine evEq ?_ (Ev.congr (fun k => ?_) h)
      · simp [hx]
      · simp
    · refine evNeg (by simpa using hx) (evEq ?_ (Ev.now _))
      simp [hx]
theorem impl_allIn_ev (l : List Int) (lo hi : Int) (hl : l.length ≤ 1048576) : Ev (fun k => impl_allIn.f k l lo hi) (l.all fun x => decide (lo ≤ x ∧ x ≤ hi)) := by
  have h := impl_allIn_l0 lo hi l [] (by simpa using hl)
  simpa [impl_allIn.f] using h
/-! ### sumi -/
def sumI : List Int → Int
  | [] => 0
  | x :: xs => x + sumI xs
def inW (l : List Int) : Bool := l.all fun x => decide (0 ≤ x ∧ x ≤ 996)
theorem sumI_bounds : ∀ l : List Int, inW l = true → 0 ≤ sumI l ∧ sumI l ≤ 996 * (l.length : Int)
  | [], _ => by simp [sumI]
  | x :: xs, h => by
    simp only [inW, List.all_cons, Bool.and_eq_true, decide_eq_true_eq] at h
    have ih := sumI_bounds xs h.2
    simp only [sumI, List.length_cons]
    omega
theorem spec_l25In_eq (x : Int) : spec_l25In.f x = some (decide (0 ≤ x ∧ x ≤ 996)) := by
  unfold spec_l25In.f
  rw [spec_l1In_eq]
  rfl
/-! ### join -/
def joinV (l : List Int) : Int := if (2 ≤ l.length ∧ l.length ≤ 5) ∧ inW l = true then sumI l % 997 else -1
theorem joinV_range (l : List Int) : -1 ≤ joinV l ∧ joinV l ≤ 996 := by
  unfold joinV
  split
  · omega
  · omega
theorem spec_JoinShares_l0 : ∀ (suf pre : List Int) (s : Int), (pre ++ suf).length ≤ 5 → 0 ≤ s → s ≤ 996 * (pre.length : Int) →
    Ev (fun k => spec_JoinShares.l0 k (pre ++ suf) s (pre.length : Int)) (if inW suf = true then (s + sumI suf) % 997 else -1) := by
  intro suf
  induction suf with
  | nil =>
    intro pre s hb h0 hs
    refine Ev.step (fun k => by rw [spec_JoinShares.l0]) ?_
    refine evNeg (by simp) (evSome (spec_Mod_eq _ _ (by omega) (by omega)) (evEq ?_ (Ev.now _)))
    simp [inW, sumI]
  | cons x suf ih =>
    intro pre s hb h0 hs
    simp only [List.length_append, List.length_cons] at hb
    refine Ev.step (fun k => by rw [spec_JoinShares.l0]) ?_
    refine evPos (by simp only [List.length_append, List.length_cons]; omega) (evPos (by omega) ?_)
    rw [rd_mid, wsucc (by omega)]
    refine evSome (spec_l25In_eq _) ?_
    by_cases hx : 0 ≤ x ∧ x ≤ 996
    · refine evPos (by simp [hx]) ?_
      rw [w64 (by omega) (by omega)]
      have h := ih (pre ++ [x]) (s + x) (by simp; omega) (by omega) (by simp; omega)
      refine evEq ?_ (Ev.congr (fun k => ?_) h)
      · simp [inW, hx, sumI, Int.add_assoc]
      · simp
    · refine evNeg (by simpa using hx) (evEq ?_ (Ev.now _))
      simp [inW, hx]
theorem spec_JoinShares_ev (l : List Int) : Ev (fun k => spec_JoinShares.f k l) (joinV l) := by
  unfold spec_JoinShares.f
  refine evSome (spec_l1In_eq _ _ _) ?_
  by_cases hl : 2 ≤ l.length ∧ l.length ≤ 5
  · refine evPos (by simp; omega) ?_
    have h := spec_JoinShares_l0 l [] 0 (by simpa using hl.2) (by omega) (by simp)
    refine evEq ?_ h
    simp [joinV, hl]
  · refine evNeg (by simp; omega) (evEq ?_ (Ev.now _))
    simp [joinV, hl]
theorem impl_JoinShares_l0 : ∀ (suf pre : List Int) (s : Int), (pre ++ suf).length ≤ 5 → 0 ≤ s → s ≤ 996 * (pre.length : Int) → inW suf = true →
    Ev (fun k => impl_JoinShares.l0 k s (pre ++ suf) ((pre ++ suf).length : Int) (pre.length : Int)) ((s + sumI suf) % 997) := by
  intro suf
  induction suf with
  | nil =>
    intro pre s hb h0 hs _
    refine Ev.step (fun k => by rw [impl_JoinShares.l0]) ?_
    refine evNeg (by simp) (evEq ?_ (Ev.now _))
    rw [Int.tmod_eq_emod_of_nonneg h0]
    simp [sumI]
  | cons x suf ih =>
    intro pre s hb h0 hs hw
    simp only [inW, List.all_cons, Bool.and_eq_true, decide_eq_true_eq] at hw
    simp only [List.length_append, List.length_cons] at hb
    refine Ev.step (fun k => by rw [impl_JoinShares.l0]) ?_
    refine evPos (by simp only [List.length_append, List.length_cons]; omega) (evPos (by omega) (evPos (by simp only [List.length_append, List.length_cons]; omega) ?_))
    rw [rd_mid, wsucc (by omega), w64 (by omega) (by omega)]
    have h := ih (pre ++ [x]) (s + x) (by simp; omega) (by omega) (by simp; omega) hw.2
    refine evEq ?_ (Ev.congr (fun k => ?_) h)
    · simp [sumI, Int.add_assoc]
    · simp
theorem impl_JoinShares_ev (l : List Int) (hl : l.length ≤ 1048576) : Ev (fun k => impl_JoinShares.f k l) (joinV l) := by
  unfold impl_JoinShares.f
  refine evSome (impl_InRange_eq _ _ _) ?_
  by_cases h2 : 2 ≤ l.length ∧ l.length ≤ 5
  · refine evPos (by simp; omega) (Ev.bind (impl_allIn_ev l 0 996 hl) ?_)
    refine Ev.step (fun k => by rw [impl_JoinShares.j0]) ?_
    by_cases hw : inW l = true
    · have hw' : (l.all fun x => decide (0 ≤ x ∧ x ≤ 996)) = true := hw
      rw [hw']
      refine evNeg (by simp) ?_
      have h := impl_JoinShares_l0 l [] 0 (by simpa using h2.2) (by omega) (by simp) hw
      refine evEq ?_ h
      simp [joinV, h2, hw]
    · have hw' : (l.all fun x => decide (0 ≤ x ∧ x ≤ 996)) = false := by simpa [inW] using hw
      rw [hw']
      refine evPos rfl (evEq ?_ (Ev.now _))
      simp [joinV, hw]
  · refine evNeg (by simp; omega) ?_
    refine Ev.step (fun k => by rw [impl_JoinShares.j0]) ?_
    refine evPos rfl (evEq ?_ (Ev.now _))
    simp [joinV, h2]
/-! ### at -/
theorem impl_at_eq (a n : Int) : impl_at.f a n = some (decide (0 ≤ a ∧ a < n)) := by
  unfold impl_at.f
  by_cases h : a ≥ 0
  · rw [if_pos h]
    simp [show 0 ≤ a from h]
  · rw [if_neg h]
    have : ¬ 0 ≤ a := h
    simp [this]
/-! ### count -/
def countV (l : List Int) (h : Int) : Int := if joinV l < 0 then 0 else if 0 ≤ h ∧ h < (l.length : Int) then 997 else 1
theorem spec_CountSecrets_ev (l : List Int) (h : Int) (hl : l.length ≤ 1048576) : Ev (fun k => spec_CountSecrets.f k l h) (countV l h) := by
  unfold spec_CountSecrets.f
  refine Ev.bind (spec_JoinShares_ev l) ?_
  by_cases hj : joinV l < 0
  · refine evPos hj (evEq ?_ (Ev.now _))
    simp [countV, hj]
  · refine evNeg hj (evSome (spec_l1In_eq _ _ _) ?_)
    rw [w64 (by omega) (by omega)]
    by_cases hh : 0 ≤ h ∧ h < (l.length : Int)
    · refine evPos (by simp; omega) (evEq ?_ (Ev.now _))
      simp [countV, hj, hh]
    · refine evNeg (by simp; omega) (evEq ?_ (Ev.now _))
      simp [countV, hj, hh]
theorem impl_CountSecrets_ev (l : List Int) (h : Int) (hl : l.length ≤ 1048576) : Ev (fun k => impl_CountSecrets.f k l h) (countV l h) := by
  unfold impl_CountSecrets.f
  refine Ev.bind (impl_JoinShares_ev l hl) ?_
  have hr := joinV_range l
  by_cases hj : joinV l < 0
  · refine evPos (by omega) (evEq ?_ (Ev.now _))
    simp [countV, hj]
  · refine evNeg (by omega) (evSome (impl_at_eq _ _) ?_)
    by_cases hh : 0 ≤ h ∧ h < (l.length : Int)
    · refine evPos (by simpa using hh) (evEq ?_ (Ev.now _))
      simp [countV, hj, hh]
    · refine evNeg (by simpa using hh) (evEq ?_ (Ev.now _))
      simp [countV, hj, hh]
/-! ### law_FnExactCountSecrets -/
theorem FnExactCountSecrets : laws_FnExactCountSecrets.PureR := by
  intro l a h _
  refine Ev.rounds ?_
  unfold laws_FnExactCountSecrets.f
  by_cases hb : (l.length : Int) > 1048576
  · exact evPos hb (Ev.now _)
  · have hl : l.length ≤ 1048576 := by omega
    exact evNeg hb (Ev.bind (toIntS_ev l hl) (Ev.bind (spec_CountSecrets_ev l a hl) (Ev.bind (toIntS_ev l hl) (Ev.bind (impl_CountSecrets_ev l a hl) (evPos rfl (Ev.bind (toIntS_ev l hl) (Ev.bind (eqIntS_ev l hl) (evPos rfl (Ev.now _)))))))))
end Go.Proofs.Ytdhdjlngelcgbaa.Pure
