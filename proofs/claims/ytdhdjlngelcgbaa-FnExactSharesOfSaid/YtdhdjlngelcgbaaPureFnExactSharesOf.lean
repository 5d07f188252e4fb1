/- The program's SharesOf returns what the reference's returns, leaves its argument alone and returns new memory: for every secret and list. -/
import Derived.Test.YtdhdjlngelcgbaaRFnExactSharesOf
import Derived.Test.YtdhdjlngelcgbaaBase
namespace Go.Proofs.Ytdhdjlngelcgbaa.Pure
open Go.RowKit Go.Proofs.Ytdhdjlngelcgbaa.Base Go.Proofs.Ytdhdjlngelcgbaa.PFnExactSharesOf Go.Proofs.YtdhdjlngelcgbaaW.PrintWords Go.Proofs.YtdhdjlngelcgbaaW.PrintLast
set_option linter.unusedVariables false
set_option linter.unusedSimpArgs false
/-! ### ints -/
theorem toIntS_l0 : ∀ (suf pre rest : List Int), (pre ++ suf).length ≤ 1048576 → rest.length = suf.length →
    Ev (fun k => laws_toIntS.l0 k (pre ++ suf) (pre ++ rest) (pre.length : Int)) (pre ++ suf) := by
  intro suf
  induction suf with
  | nil =>
    intro pre rest hb hr
    obtain rfl : rest = [] := by simpa using hr
    refine Ev.step (fun k => by rw [laws_toIntS.l0]) ?_
    exact evNeg (by simp) (Ev.now _)
  | cons x suf ih =>
    intro pre rest hb hr
    obtain ⟨r, rest, rfl⟩ : ∃ r t, rest = r :: t := by
      cases rest with
      | nil => simp at hr
      | cons r t => exact ⟨r, t, rfl⟩
    simp only [List.length_append, List.length_cons] at hb hr
    refine Ev.step (fun k => by rw [laws_toIntS.l0]) ?_
    refine evPos (by simp only [List.length_append, List.length_cons]; omega) (evPos (by omega) (evPos (by simp only [List.length_append, List.length_cons]; omega) ?_))
    rw [rd_mid, set_mid, wsucc (by omega)]
    have h := ih (pre ++ [x]) rest (by simp; omega) (by omega)
    simpa using h
theorem toIntS_ev (l : List Int) (hl : l.length ≤ 1048576) : Ev (fun k => laws_toIntS.f k l) l := by
  unfold laws_toIntS.f
  refine evPos (by omega) (evPos (by omega) ?_)
  have h := toIntS_l0 l [] (List.replicate l.length 0) (by simpa using hl) (by simp)
  simpa using h
theorem eqIntS_l0 : ∀ (suf pre : List Int), (pre ++ suf).length ≤ 1048576 →
    Ev (fun k => laws_eqIntS.l0 k (pre ++ suf) (pre ++ suf) (pre.length : Int)) true := by
  intro suf
  induction suf with
  | nil =>
    intro pre hb
    refine Ev.step (fun k => by rw [laws_eqIntS.l0]) ?_
    exact evNeg (by simp) (Ev.now _)
  | cons x suf ih =>
    intro pre hb
    simp only [List.length_append, List.length_cons] at hb
    refine Ev.step (fun k => by rw [laws_eqIntS.l0]) ?_
    refine evPos (by simp only [List.length_append, List.length_cons]; omega) (evPos (by omega) (evPos (by simp only [List.length_append, List.length_cons]; omega) (evPos rfl ?_)))
    rw [wsucc (by omega)]
    have h := ih (pre ++ [x]) (by simp; omega)
    simpa using h
theorem eqIntS_ev (l : List Int) (hl : l.length ≤ 1048576) : Ev (fun k => laws_eqIntS.f k l l) true := by
  unfold laws_eqIntS.f
  refine evPos rfl ?_
  have h := eqIntS_l0 l [] (by simpa using hl)
  simpa using h
/-! ### mints -/
def mkI : Int → Nat → List Int
  | _, 0 => []
  | k, n + 1 => k :: mkI (k + 1) n
theorem mkI_length : ∀ (n : Nat) (k : Int), (mkI k n).length = n
  | 0, _ => rfl
  | n + 1, k => by simp [mkI, mkI_length n]
theorem markIntS_l0 : ∀ (suf pre : List Int) (m : Int), (pre ++ suf).length ≤ 1048576 → 0 ≤ m → m + suf.length ≤ 4611686018427387904 →
    Ev (fun k => laws_markIntS.l0 k (pre ++ suf) m (pre.length : Int)) (m + suf.length, pre ++ mkI m suf.length) := by
  intro suf
  induction suf with
  | nil =>
    intro pre m hb h0 hm
    refine Ev.step (fun k => by rw [laws_markIntS.l0]) ?_
    refine evNeg (by simp) (evEq ?_ (Ev.now _))
    simp [mkI]
  | cons x suf ih =>
    intro pre m hb h0 hm
    simp only [List.length_append, List.length_cons] at hb hm
    refine Ev.step (fun k => by rw [laws_markIntS.l0]) ?_
    refine evPos (by simp only [List.length_append, List.length_cons]; omega) (evPos (by omega) ?_)
    rw [set_mid, wsucc (by omega), w64 (by omega) (by omega)]
    have h := ih (pre ++ [m]) (m + 1) (by simp; omega) (by omega) (by omega)
    refine evEq ?_ (Ev.congr (fun k => ?_) h)
    · simp [mkI]
      omega
    · simp
theorem markIntS_ev (l : List Int) (m : Int) (hl : l.length ≤ 1048576) (h0 : 0 ≤ m) (hm : m ≤ 1099511627776) : Ev (fun k => laws_markIntS.f k l m) (m + l.length, mkI m l.length) := by
  have h := markIntS_l0 l [] m (by simpa using hl) h0 (by omega)
  simpa [laws_markIntS.f] using h
theorem heldIntS_l0 : ∀ (n : Nat) (pre : List Int) (m : Int), pre.length + n ≤ 1048576 → 0 ≤ m → m + n ≤ 4611686018427387904 →
    Ev (fun k => laws_heldIntS.l0 k (pre ++ mkI m n) m (pre.length : Int)) (m + n) := by
  intro n
  induction n with
  | zero =>
    intro pre m hb h0 hm
    refine Ev.step (fun k => by rw [laws_heldIntS.l0]) ?_
    refine evNeg (by simp [mkI]) (evEq ?_ (Ev.now _))
    simp
  | succ n ih =>
    intro pre m hb h0 hm
    refine Ev.step (fun k => by rw [laws_heldIntS.l0]) ?_
    refine evPos (by simp only [List.length_append, mkI_length]; omega) (evPos (by omega) ?_)
    rw [mkI, rd_mid, wsucc (by omega), w64 (by omega) (by omega)]
    refine evPos rfl ?_
    have h := ih (pre ++ [m]) (m + 1) (by simp; omega) (by omega) (by omega)
    refine evEq ?_ (Ev.congr (fun k => ?_) h)
    · omega
    · simp
theorem heldIntS_ev (n : Nat) (m : Int) (hl : n ≤ 1048576) (h0 : 0 ≤ m) (hm : m ≤ 1099511627776) : Ev (fun k => laws_heldIntS.f k (mkI m n) m) (m + n) := by
  have h := heldIntS_l0 n [] m (by simpa using hl) h0 (by omega)
  simpa [laws_heldIntS.f] using h
/-! ### inrange -/
theorem impl_InRange_eq (a b c : Int) : impl_InRange.f a b c = some (decide (b ≤ a ∧ a ≤ c)) := by
  unfold impl_InRange.f
  by_cases h : b ≤ a
  · rw [if_pos h]
    simp [h]
  · rw [if_neg h]
    simp [h]
/-! ### allin -/
theorem impl_allIn_l0 (lo hi : Int) : ∀ (suf pre : List Int), (pre ++ suf).length ≤ 1048576 →
    Ev (fun k => impl_allIn.l0 k lo hi (pre ++ suf) ((pre ++ suf).length : Int) (pre.length : Int)) (suf.all fun x => decide (lo ≤ x ∧ x ≤ hi)) := by
  intro suf
  induction suf with
  | nil =>
    intro pre hb
    refine Ev.step (fun k => by rw [impl_allIn.l0]) ?_
    exact evNeg (by simp) (Ev.now _)
  | cons x suf ih =>
    intro pre hb
    simp only [List.length_append, List.length_cons] at hb
    refine Ev.step (fun k => by rw [impl_allIn.l0]) ?_
    refine evPos (by simp only [List.length_append, List.length_cons]; omega) (evPos (by omega) (evPos (by simp only [List.length_append, List.length_cons]; omega) ?_))
    rw [rd_mid, wsucc (by omega)]
    refine evSome (impl_InRange_eq _ _ _) ?_
    by_cases hx : lo ≤ x ∧ x ≤ hi
    · refine evPos (by simp [hx]) ?_
      have h := ih (pre ++ [x]) (by simp; omega)
      refine evEq ?_ (Ev.congr (fun k => ?_) h)
      · simp [hx]
      · simp
    · refine evNeg (by simpa using hx) (evEq ?_ (Ev.now _))
      simp [hx]
theorem impl_allIn_ev (l : List Int) (lo hi : Int) (hl : l.length ≤ 1048576) : Ev (fun k => impl_allIn.f k l lo hi) (l.all fun x => decide (lo ≤ x ∧ x ≤ hi)) := by
  have h := impl_allIn_l0 lo hi l [] (by simpa using hl)
  simpa [impl_allIn.f] using h
/-! ### small -/
theorem spec_l1In_eq (a b c : Int) : spec_l1In.f a b c = some (decide (b ≤ a ∧ a ≤ c)) := by
  unfold spec_l1In.f
  by_cases h : a ≥ b
  · rw [if_pos h]
    simp [show b ≤ a from h]
  · rw [if_neg h]
    have : ¬ b ≤ a := h
    simp [this]
/-! ### sumi -/
def sumI : List Int → Int
  | [] => 0
  | x :: xs => x + sumI xs
def inW (l : List Int) : Bool := l.all fun x => decide (0 ≤ x ∧ x ≤ 996)
theorem sumI_bounds : ∀ l : List Int, inW l = true → 0 ≤ sumI l ∧ sumI l ≤ 996 * (l.length : Int)
  | [], _ => by simp [sumI]
  | x :: xs, h => by
    simp only [inW, List.all_cons, Bool.and_eq_true, decide_eq_true_eq] at h
    have ih := sumI_bounds xs h.2
    simp only [sumI, List.length_cons]
    omega
theorem spec_l25In_eq (x : Int) : spec_l25In.f x = some (decide (0 ≤ x ∧ x ≤ 996)) := by
  unfold spec_l25In.f
  rw [spec_l1In_eq]
  rfl
/-! ### clone -/
theorem clone_eq (l : List Int) (hl : l.length ≤ 1048576) : slices_Clone_int_int.f l = some l := by
  unfold slices_Clone_int_int.f
  simp
  omega
/-! ### smod -/
theorem tmod_twice (n m : Int) (h1 : 1 ≤ m) (h2 : m ≤ 1000000000000) : Int.tmod (wrap64 ((Int.tmod n m) + m)) m = n % m := by
  have h3 : -m < Int.tmod n m ∧ Int.tmod n m < m := by
    have a := Int.tmod_lt_of_pos n (show 0 < m by omega)
    have b := Int.lt_tmod_of_pos n (show 0 < m by omega)
    omega
  rw [w64 (by omega) (by omega), Int.tmod_eq_emod_of_nonneg (by omega), Int.add_emod_right]
  rcases Int.le_total 0 n with h | h
  · rw [Int.tmod_eq_emod_of_nonneg h, Int.emod_emod]
  · obtain ⟨p, rfl⟩ : ∃ p, n = -p := ⟨-n, by omega⟩
    rw [Int.neg_tmod, Int.tmod_eq_emod_of_nonneg (by omega)]
    have e := Int.mul_ediv_add_emod p m
    have e2 : -p = -(p % m) + m * (-(p / m)) := by
      rw [Int.mul_neg]
      omega
    rw [e2, Int.add_mul_emod_self_left]
theorem spec_Mod_eq (n m : Int) (h1 : 1 ≤ m) (h2 : m ≤ 1000000000000) : spec_Mod.f n m = some (n % m) := by
  unfold spec_Mod.f
  rw [spec_l1In_eq, Option.bind_some, if_pos (by simp [h1, h2]), if_neg (by omega), tmod_twice n m h1 h2]
/-! ### imod -/
theorem impl_Mod_eq (n m : Int) (h1 : 1 ≤ m) (h2 : m ≤ 1000000000000) : impl_Mod.f n m = some (n % m) := by
  unfold impl_Mod.f
  rw [impl_InRange_eq, Option.bind_some, if_pos (by simp [h1, h2]), if_neg (by omega), tmod_twice n m h1 h2]
/-! ### shares -/
def shareV (s : Int) (p : List Int) : List Int := if (1 ≤ p.length ∧ p.length ≤ 4) ∧ (0 ≤ s ∧ s ≤ 996) ∧ inW p = true then p ++ [(s - sumI p) % 997] else []
theorem shareV_length (s : Int) (p : List Int) : (shareV s p).length ≤ 5 := by
  unfold shareV
  split
  · rename_i h
    simp
    omega
  · simp
theorem inW_cons' {x : Int} {l : List Int} : inW (x :: l) = true ↔ (0 ≤ x ∧ x ≤ 996) ∧ inW l = true := by
  simp [inW]
theorem spec_SharesOf_l0 (s : Int) (h0 : 0 ≤ s ∧ s ≤ 996) : ∀ (suf pre : List Int) (t : Int), (pre ++ suf).length ≤ 4 → 0 ≤ t → t ≤ 996 * (pre.length : Int) →
    Ev (fun k => spec_SharesOf.l0 k s (pre ++ suf) t (pre.length : Int)) (if inW suf = true then pre ++ suf ++ [(s - (t + sumI suf)) % 997] else []) := by
  intro suf
  induction suf with
  | nil =>
    intro pre t hb ht hs
    refine Ev.step (fun k => by rw [spec_SharesOf.l0]) ?_
    simp only [List.length_append, List.length_nil] at hb
    refine evNeg (by simp) (evSome rfl (evPos (by simp; omega) (evSome rfl ?_)))
    rw [w64 (by omega) (by omega)]
    refine evSome (spec_Mod_eq _ _ (by omega) (by omega)) (evPos (by simp; omega) (evEq ?_ (Ev.now _)))
    simp [inW, sumI]
  | cons x suf ih =>
    intro pre t hb ht hs
    simp only [List.length_append, List.length_cons] at hb
    refine Ev.step (fun k => by rw [spec_SharesOf.l0]) ?_
    refine evPos (by simp only [List.length_append, List.length_cons]; omega) (evPos (by omega) ?_)
    rw [rd_mid, wsucc (by omega)]
    refine evSome (spec_l25In_eq _) ?_
    by_cases hx : 0 ≤ x ∧ x ≤ 996
    · refine evPos (by simp [hx]) ?_
      rw [w64 (by omega) (by omega)]
      have h := ih (pre ++ [x]) (t + x) (by simp; omega) (by omega) (by simp; omega)
      refine evEq ?_ (Ev.congr (fun k => ?_) h)
      · simp only [inW_cons', hx, sumI, Int.add_assoc]
        simp
      · simp
    · refine evNeg (by simpa using hx) (evEq ?_ (Ev.now _))
      simp only [inW_cons', hx, false_and, if_false]
theorem spec_SharesOf_ev (s : Int) (p : List Int) : Ev (fun k => spec_SharesOf.f k s p) (shareV s p) := by
  unfold spec_SharesOf.f
  refine evSome (spec_l1In_eq _ _ _) ?_
  by_cases hl : 1 ≤ p.length ∧ p.length ≤ 4
  · refine evPos (by simp; omega) (evSome (spec_l25In_eq _) (Ev.step (fun k => by rw [spec_SharesOf.j0]) ?_))
    by_cases hs : 0 ≤ s ∧ s ≤ 996
    · refine evNeg (by simp [hs]) ?_
      have h := spec_SharesOf_l0 s hs p [] 0 (by simpa using hl.2) (by omega) (by simp)
      refine evEq ?_ h
      simp [shareV, hl, hs]
    · refine evPos (by simp; omega) (evEq ?_ (Ev.now _))
      simp [shareV, hs]
  · refine evNeg (by simp; omega) (Ev.step (fun k => by rw [spec_SharesOf.j0]) (evPos rfl (evEq ?_ (Ev.now _))))
    simp [shareV, hl]
theorem impl_SharesOf_l0 (p : List Int) (hp : p.length ≤ 4) : ∀ (suf pre : List Int) (t : Int), pre ++ suf = p → inW suf = true → -996 * (pre.length : Int) ≤ t → t ≤ 996 →
    Ev (fun k => impl_SharesOf.l0 k p t p (p.length : Int) (pre.length : Int)) (p ++ [(t - sumI suf) % 997]) := by
  intro suf
  induction suf with
  | nil =>
    intro pre t e hw h0 h1
    have hl : p.length = pre.length := by rw [← e]; simp
    refine Ev.step (fun k => by rw [impl_SharesOf.l0]) ?_
    refine evNeg (by omega) (evSome (clone_eq p (by omega)) (evSome (impl_Mod_eq _ _ (by omega) (by omega)) (evPos (by omega) (evEq ?_ (Ev.now _)))))
    simp [sumI]
  | cons x suf ih =>
    intro pre t e hw h0 h1
    rw [inW_cons'] at hw
    have hl : p.length = pre.length + (suf.length + 1) := by rw [← e]; simp
    have hx : rd p (pre.length : Int) = x := by rw [← e, rd_mid]
    refine Ev.step (fun k => by rw [impl_SharesOf.l0]) ?_
    refine evPos (by omega) (evPos (by omega) (evPos (by omega) ?_))
    rw [hx, wsucc (by omega), w64 (by omega) (by omega)]
    have h := ih (pre ++ [x]) (t - x) (by simp [← e]) hw.2 (by simp; omega) (by omega)
    refine evEq ?_ (Ev.congr (fun k => ?_) h)
    · rw [sumI, show t - (x + sumI suf) = t - x - sumI suf by omega]
    · simp
theorem impl_SharesOf_ev (s : Int) (p : List Int) (hp : p.length ≤ 1048576) : Ev (fun k => impl_SharesOf.f k s p) (shareV s p) := by
  unfold impl_SharesOf.f
  refine evSome (impl_InRange_eq _ _ _) ?_
  by_cases hl : 1 ≤ p.length ∧ p.length ≤ 4
  · refine evPos (by simp; omega) (Ev.bind (impl_allIn_ev p 0 996 hp) ?_)
    by_cases hw : inW p = true
    · refine evPos hw (evSome (impl_InRange_eq _ _ _) (Ev.step (fun k => by rw [impl_SharesOf.j0]) ?_))
      by_cases hs : 0 ≤ s ∧ s ≤ 996
      · refine evNeg (by simp [hs]) (evEq ?_ (impl_SharesOf_l0 p hl.2 p [] s rfl hw (by simp; omega) hs.2))
        simp [shareV, hl, hs, hw]
      · refine evPos (by simp; omega) (evEq ?_ (Ev.now _))
        simp [shareV, hs]
    · refine evNeg hw (Ev.step (fun k => by rw [impl_SharesOf.j0]) (evPos rfl (evEq ?_ (Ev.now _))))
      simp [shareV, hw]
  · refine evNeg (by simp; omega) (Ev.step (fun k => by rw [impl_SharesOf.j0]) (evPos rfl (evEq ?_ (Ev.now _))))
    simp [shareV, hl]
/-! ### law_FnExactSharesOf -/
theorem FnExactSharesOf : laws_FnExactSharesOf.PureR := by
  intro s p _ h1
  refine Ev.rounds ?_
  unfold laws_FnExactSharesOf.f
  by_cases hb : (p.length : Int) > 1048576
  · exact evPos hb (Ev.now _)
  have hp : p.length ≤ 1048576 := by omega
  have hv := shareV_length s p
  refine evNeg hb (Ev.bind (toIntS_ev p hp) (Ev.bind (spec_SharesOf_ev s p) (Ev.bind (toIntS_ev p hp) (Ev.bind (impl_SharesOf_ev s p hp) (Ev.bind (eqIntS_ev _ (by omega)) (evPos rfl ?_))))))
  refine Ev.bind (toIntS_ev p hp) (Ev.bind (eqIntS_ev p hp) (evPos rfl (Ev.bind (markIntS_ev p 1 hp (by omega) (by omega)) (evNeg (by simp; omega) (Ev.bind (eqIntS_ev _ (by omega)) ?_)))))
  refine Ev.step (fun k => by rw [laws_FnExactSharesOf.j0]) ?_
  refine evNeg (by simp) (Ev.bind (markIntS_ev _ 1 (by omega) (by omega) (by omega)) (Ev.bind (heldIntS_ev _ 1 (by omega) (by omega) (by omega)) (evNeg (by omega) (evPos rfl ?_))))
  refine Ev.bind (toIntS_ev p hp) (Ev.bind (impl_SharesOf_ev s p hp) (Ev.bind (eqIntS_ev _ (by omega)) (evPos rfl ?_)))
  exact Ev.bind (heldIntS_ev _ 1 (by omega) (by omega) (by omega)) (evNeg (by omega) (evPos rfl (Ev.now _)))
end Go.Proofs.Ytdhdjlngelcgbaa.Pure
