/- The program's IsWorse returns what the reference's returns, and leaves its arguments alone: for every two lists and every number. -/
import Derived.Test.YtkimiekgghfoiaaRFnExactIsWorse
import Derived.Test.YtkimiekgghfoiaaBase
namespace Go.Proofs.Ytkimiekgghfoiaa.Pure
open Go.RowKit Go.Proofs.Ytkimiekgghfoiaa.Base Go.Proofs.Ytkimiekgghfoiaa.PFnExactIsWorse Go.Proofs.YtkimiekgghfoiaaW.PrintWords Go.Proofs.YtkimiekgghfoiaaW.PrintLast
set_option linter.unusedVariables false
set_option linter.unusedSimpArgs false
/-! ### ints -/
theorem toIntS_l0 : ∀ (suf pre rest : List Int), (pre ++ suf).length ≤ 1048576 → rest.length = suf.length →
    Ev (fun k => laws_toIntS.l0 k (pre ++ suf) (pre ++ rest) (pre.length : Int)) (pre ++ suf) := by
  intro suf
  induction suf with
  | nil =>
    intro pre rest hb hr
    obtain rfl : rest = [] := by simpa using hr
    refine Ev.step (fun k => by rw [laws_toIntS.l0]) ?_
    exact evNeg (by simp) (Ev.now _)
  | cons x suf ih =>
    intro pre rest hb hr
    obtain ⟨r, rest, rfl⟩ : ∃ r t, rest = r :: t := by
      cases rest with
      | nil => simp at hr
      | cons r t => exact ⟨r, t, rfl⟩
    simp only [List.length_append, List.length_cons] at hb hr
    refine Ev.step (fun k => by rw [laws_toIntS.l0]) ?_
    refine evPos (by simp only [List.length_append, List.length_cons]; omega) (evPos (by omega) (evPos (by simp only [List.length_append, List.length_cons]; omega) ?_))
    rw [rd_mid, set_mid, wsucc (by omega)]
    have h := ih (pre ++ [x]) rest (by simp; omega) (by omega)
    simpa using h
theorem toIntS_ev (l : List Int) (hl : l.length ≤ 1048576) : Ev (fun k => laws_toIntS.f k l) l := by
  unfold laws_toIntS.f
  refine evPos (by omega) (evPos (by omega) ?_)
  have h := toIntS_l0 l [] (List.replicate l.length 0) (by simpa using hl) (by simp)
  simpa using h
theorem eqIntS_l0 : ∀ (suf pre : List Int), (pre ++ suf).length ≤ 1048576 →
    Ev (fun k => laws_eqIntS.l0 k (pre ++ suf) (pre ++ suf) (pre.length : Int)) true := by
  intro suf
  induction suf with
  | nil =>
    intro pre hb
    refine Ev.step (fun k => by rw [laws_eqIntS.l0]) ?_
    exact evNeg (by simp) (Ev.now _)
  | cons x suf ih =>
    intro pre hb
    simp only [List.length_append, List.length_cons] at hb
    refine Ev.step (fun k => by rw [laws_eqIntS.l0]) ?_
    refine evPos (by simp only [List.length_append, List.length_cons]; omega) (evPos (by omega) (evPos (by simp only [List.length_append, List.length_cons]; omega) (evPos rfl ?_)))
    rw [wsucc (by omega)]
    have h := ih (pre ++ [x]) (by simp; omega)
    simpa using h
theorem eqIntS_ev (l : List Int) (hl : l.length ≤ 1048576) : Ev (fun k => laws_eqIntS.f k l l) true := by
  unfold laws_eqIntS.f
  refine evPos rfl ?_
  have h := eqIntS_l0 l [] (by simpa using hl)
  simpa using h
/-! ### small -/
theorem spec_l1In_eq (a b c : Int) : spec_l1In.f a b c = some (decide (b ≤ a ∧ a ≤ c)) := by
  unfold spec_l1In.f
  by_cases h : a ≥ b
  · rw [if_pos h]
    simp [show b ≤ a from h]
  · rw [if_neg h]
    have : ¬ b ≤ a := h
    simp [this]
/-! ### inrange -/
theorem impl_InRange_eq (a b c : Int) : impl_InRange.f a b c = some (decide (b ≤ a ∧ a ≤ c)) := by
  unfold impl_InRange.f
  by_cases h : b ≤ a
  · rw [if_pos h]
    simp [h]
  · rw [if_neg h]
    simp [h]
/-! ### allin -/
theorem impl_allIn_l0 (lo hi : Int) : ∀ (suf pre : List Int), (pre ++ suf).length ≤ 1048576 →
    Ev (fun k => impl_allIn.l0 k lo hi (pre ++ suf) ((pre ++ suf).length : Int) (pre.length : Int)) (suf.all fun x => decide (lo ≤ x ∧ x ≤ hi)) := by
  intro suf
  induction suf with
  | nil =>
    intro pre hb
    refine Ev.step (fun k => by rw [impl_allIn.l0]) ?_
    exact evNeg (by simp) (Ev.now _)
  | cons x suf ih =>
    intro pre hb
    simp only [List.length_append, List.length_cons] at hb
    refine Ev.step (fun k => by rw [impl_allIn.l0]) ?_
    refine evPos (by simp only [List.length_append, List.length_cons]; omega) (evPos (by omega) (evPos (by simp only [List.length_append, List.length_cons]; omega) ?_))
    rw [rd_mid, wsucc (by omega)]
    refine evSome (impl_InRange_eq _ _ _) ?_
    by_cases hx : lo ≤ x ∧ x ≤ hi
    · refine evPos (by simp [hx]) ?_
      have h := ih (pre ++ [x]) (by simp; omega)
      refine evEq ?_ (Ev.congr (fun k => ?_) h)
      · simp [hx]
      · simp
    · refine evNeg (by simpa using hx) (evEq ?_ (Ev.now _))
      simp [hx]
theorem impl_allIn_ev (l : List Int) (lo hi : Int) (hl : l.length ≤ 1048576) : Ev (fun k => impl_allIn.f k l lo hi) (l.all fun x => decide (lo ≤ x ∧ x ≤ hi)) := by
  have h := impl_allIn_l0 lo hi l [] (by simpa using hl)
  simpa [impl_allIn.f] using h
/-! ### trial -/
def trialB (l : List Int) : Bool := decide (3 ≤ l.length ∧ l.length ≤ 16) && l.all fun x => decide (0 ≤ x ∧ x ≤ 100000)
theorem spec_l9Stamp_eq (x : Int) : spec_l9Stamp.f x = some (decide (0 ≤ x ∧ x ≤ 100000)) := by
  unfold spec_l9Stamp.f
  rw [spec_l1In_eq]
  rfl
theorem spec_l21Ok_l0 : ∀ (suf pre : List Int), (pre ++ suf).length ≤ 1048576 →
    Ev (fun k => spec_l21Ok.l0 k (pre ++ suf) (pre.length : Int)) ((suf.all fun x => decide (0 ≤ x ∧ x ≤ 100000)) && decide ((pre ++ suf).length ≤ 16)) := by
  intro suf
  induction suf with
  | nil =>
    intro pre hb
    refine Ev.step (fun k => by rw [spec_l21Ok.l0]) ?_
    refine evNeg (by simp) (evEq ?_ (Ev.now _))
    simp only [List.all_nil, Bool.true_and]
    exact decide_eq_decide.2 (by omega)
  | cons x suf ih =>
    intro pre hb
    simp only [List.length_append, List.length_cons] at hb
    refine Ev.step (fun k => by rw [spec_l21Ok.l0]) ?_
    refine evPos (by simp only [List.length_append, List.length_cons]; omega) (evPos (by omega) ?_)
    rw [rd_mid, wsucc (by omega)]
    refine evSome (spec_l9Stamp_eq x) ?_
    by_cases hx : 0 ≤ x ∧ x ≤ 100000
    · refine evPos (by simp [hx]) ?_
      have h := ih (pre ++ [x]) (by simp; omega)
      refine evEq ?_ (Ev.congr (fun k => ?_) h)
      · simp [hx]
      · simp
    · refine evNeg (by simpa using hx) (evEq ?_ (Ev.now _))
      simp [hx]
theorem spec_l27List_ev (l : List Int) (hl : l.length ≤ 1048576) : Ev (fun k => spec_l27List.f k l) (trialB l) := by
  unfold spec_l27List.f
  by_cases h3 : (l.length : Int) ≥ 3
  · refine evPos h3 (Ev.bind (spec_l21Ok_l0 l [] (by simpa using hl)) (evEq ?_ (Ev.now _)))
    simp only [trialB, List.nil_append]
    rw [Bool.and_comm]
    congr 1
    exact decide_eq_decide.2 (by omega)
  · refine evNeg h3 (evEq ?_ (Ev.now _))
    have : ¬ (3 ≤ l.length ∧ l.length ≤ 16) := by omega
    simp [trialB, this]
theorem impl_isTrial_ev (l : List Int) (hl : l.length ≤ 1048576) : Ev (fun k => impl_isTrial.f k l) (trialB l) := by
  unfold impl_isTrial.f
  by_cases h3 : (l.length : Int) ≥ 3
  · refine evPos h3 ?_
    by_cases h16 : (l.length : Int) ≤ 16
    · refine Ev.bind (show Ev (fun k => impl_isSeries.f k l) (l.all fun x => decide (0 ≤ x ∧ x ≤ 100000)) from ?_) (evEq ?_ (Ev.now _))
      · unfold impl_isSeries.f
        exact evPos h16 (Ev.bind (impl_allIn_ev l 0 100000 hl) (Ev.now _))
      · have : 3 ≤ l.length ∧ l.length ≤ 16 := by omega
        simp [trialB, this]
    · refine Ev.bind (show Ev (fun k => impl_isSeries.f k l) false from ?_) (evEq ?_ (Ev.now _))
      · unfold impl_isSeries.f
        exact evNeg h16 (Ev.now _)
      · have : ¬ (3 ≤ l.length ∧ l.length ≤ 16) := by omega
        simp [trialB, this]
  · refine evNeg h3 (evEq ?_ (Ev.now _))
    have : ¬ (3 ≤ l.length ∧ l.length ≤ 16) := by omega
    simp [trialB, this]
theorem trialB_len {l : List Int} (h : trialB l = true) : 3 ≤ l.length ∧ l.length ≤ 16 := by
  simp only [trialB, Bool.and_eq_true, decide_eq_true_eq] at h
  exact h.1
theorem medV_range {l : List Int} (h : trialB l = true) : 0 ≤ medV l ∧ medV l ≤ 100000 := by
  have hl := trialB_len h
  simp only [trialB, Bool.and_eq_true, List.all_eq_true, decide_eq_true_eq] at h
  unfold medV
  rw [if_neg (by omega)]
  have hs : (srtd l).length = l.length := List.length_mergeSort l
  have hi : l.length / 2 < (srtd l).length := by omega
  rw [List.getD_eq_getElem?_getD, List.getElem?_eq_getElem hi]
  have hm : (srtd l)[l.length / 2] ∈ l := (List.mergeSort_perm l _).mem_iff.1 (List.getElem_mem hi)
  exact h.2 _ hm
theorem impl_MedianOf_eq (l : List Int) (hl : l.length ≤ 1048576) : impl_MedianOf.f l = some (medV l) := by
  unfold impl_MedianOf.f
  rw [if_pos hl]
theorem spec_MedianOf_eq (l : List Int) (hl : l.length ≤ 1048576) : spec_MedianOf.f l = some (medV l) := by
  unfold spec_MedianOf.f
  by_cases h0 : (l.length : Int) = 0
  · rw [if_pos h0, medV, if_pos (by omega)]
  · rw [if_neg h0]
    have h1 : spec_l21Sorted.f l = some (srtd l) := by
      unfold spec_l21Sorted.f
      rw [if_pos hl, sortI_eq]
      rfl
    rw [h1, Option.bind_some]
    have hs : (srtd l).length = l.length := List.length_mergeSort l
    have hw : wrap64 ((l.length : Int) / 2) = ((l.length / 2 : Nat) : Int) := by rw [w64 (by omega) (by omega)]; omega
    rw [hw, if_pos (by omega), if_pos (by omega), medV, if_neg (by omega)]
    simp only [rd, Int.toNat_natCast]
def betB (a b : List Int) (g : Int) : Bool := trialB a && trialB b && decide (0 ≤ g ∧ g ≤ 100000) && decide (medV b ≤ medV a - g)
def worB (a b : List Int) (g : Int) : Bool := trialB a && trialB b && decide (0 ≤ g ∧ g ≤ 100000) && decide (medV b > medV a + g)
theorem trial_walk {fa : Nat → Option Bool} {fb : Nat → Option Bool} {st : Option Bool} (a b : List Int) (g : Int) (p : Bool) {T : Option Bool} (ha : Ev fa (trialB a)) (hb : Ev fb (trialB b)) (hs : st = some (decide (0 ≤ g ∧ g ≤ 100000))) (ht : trialB a = true → trialB b = true → (0 ≤ g ∧ g ≤ 100000) → T = some p) :
    Ev (fun k => (fa k).bind fun x => if x = true then (fb k).bind fun y => if y = true then st.bind fun z => if z = true then T else some false else some false else some false) (trialB a && trialB b && decide (0 ≤ g ∧ g ≤ 100000) && p) := by
  refine Ev.bind ha ?_
  by_cases h1 : trialB a = true
  · refine evPos h1 (Ev.bind hb ?_)
    by_cases h2 : trialB b = true
    · refine evPos h2 (evSome hs ?_)
      by_cases h3 : 0 ≤ g ∧ g ≤ 100000
      · refine evPos (by simp [h3]) ?_
        rw [ht h1 h2 h3]
        refine evEq ?_ (Ev.now _)
        simp [h1, h2, h3]
      · refine evNeg (by simpa using h3) (evEq ?_ (Ev.now _))
        simp [h3]
    · refine evNeg h2 (evEq ?_ (Ev.now _))
      simp [h2]
  · refine evNeg h1 (evEq ?_ (Ev.now _))
    simp [h1]
theorem spec_IsWorse_ev (a b : List Int) (g : Int) (ha : a.length ≤ 1048576) (hb : b.length ≤ 1048576) : Ev (fun k => spec_IsWorse.f k a b g) (worB a b g) := by
  unfold spec_IsWorse.f
  refine trial_walk a b g _ (spec_l27List_ev a ha) (spec_l27List_ev b hb) (spec_l9Stamp_eq g) (fun h1 h2 h3 => ?_)
  have m1 := medV_range h1
  have m2 := medV_range h2
  rw [spec_MedianOf_eq a ha, spec_MedianOf_eq b hb]
  simp only [Option.bind_some]
  rw [w64 (by omega) (by omega)]
  exact congrArg some (decide_eq_decide.2 (by omega))
theorem impl_IsWorse_ev (a b : List Int) (g : Int) (ha : a.length ≤ 1048576) (hb : b.length ≤ 1048576) : Ev (fun k => impl_IsWorse.f k a b g) (worB a b g) := by
  unfold impl_IsWorse.f
  refine trial_walk a b g _ (impl_isTrial_ev a ha) (impl_isTrial_ev b hb) (impl_InRange_eq g 0 100000) (fun h1 h2 h3 => ?_)
  have m1 := medV_range h1
  have m2 := medV_range h2
  rw [impl_MedianOf_eq a ha, impl_MedianOf_eq b hb]
  simp only [Option.bind_some]
  rw [w64 (by omega) (by omega)]
/-! ### law_FnExactIsWorse -/
theorem FnExactIsWorse : laws_FnExactIsWorse.PureR := by
  intro a b g h h2 h3
  refine Ev.rounds ?_
  unfold laws_FnExactIsWorse.f
  by_cases hb : (a.length : Int) > 1048576
  · exact evPos hb (Ev.now _)
  by_cases hb2 : (b.length : Int) > 1048576
  · exact evNeg hb (evPos hb2 (Ev.now _))
  have ha : a.length ≤ 1048576 := by omega
  have hbl : b.length ≤ 1048576 := by omega
  exact evNeg hb (evNeg hb2 (Ev.bind (toIntS_ev a ha) (Ev.bind (toIntS_ev b hbl) (Ev.bind (spec_IsWorse_ev a b g ha hbl) (Ev.bind (toIntS_ev a ha) (Ev.bind (toIntS_ev b hbl) (Ev.bind (impl_IsWorse_ev a b g ha hbl) (evNeg (by simp) (Ev.bind (toIntS_ev a ha) (Ev.bind (eqIntS_ev a ha) (evPos rfl (Ev.bind (toIntS_ev b hbl) (Ev.bind (eqIntS_ev b hbl) (evPos rfl (Ev.now _)))))))))))))))
end Go.Proofs.Ytkimiekgghfoiaa.Pure
