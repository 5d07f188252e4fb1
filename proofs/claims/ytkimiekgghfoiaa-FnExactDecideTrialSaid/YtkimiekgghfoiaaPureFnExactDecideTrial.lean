/- The program's DecideTrial returns what the reference's returns, and leaves its arguments alone: for all lists and numbers. -/
import Derived.Test.YtkimiekgghfoiaaRFnExactDecideTrial
import Derived.Test.YtkimiekgghfoiaaBase
namespace Go.Proofs.Ytkimiekgghfoiaa.Pure
open Go.RowKit Go.Proofs.Ytkimiekgghfoiaa.Base Go.Proofs.Ytkimiekgghfoiaa.PFnExactDecideTrial Go.Proofs.YtkimiekgghfoiaaW.PrintWords Go.Proofs.YtkimiekgghfoiaaW.PrintLast
set_option linter.unusedVariables false
set_option linter.unusedSimpArgs false
/-! ### ints -/
theorem toIntS_l0 : ∀ (suf pre rest : List Int), (pre ++ suf).length ≤ 1048576 → rest.length = suf.length →
    Ev (fun k => laws_toIntS.l0 k (pre ++ suf) (pre ++ rest) (pre.length : Int)) (pre ++ suf) := by
  intro suf
  induction suf with
  | nil =>
    intro pre rest hb hr
    obtain rfl : rest = [] := by simpa using hr
    refine Ev.step (fun k => by rw [laws_toIntS.l0]) ?_
    exact evNeg (by simp) (Ev.now _)
  | cons x suf ih =>
    intro pre rest hb hr
    obtain ⟨r, rest, rfl⟩ : ∃ r t, rest = r :: t := by
      cases rest with
      | nil => simp at hr
      | cons r t => exact ⟨r, t, rfl⟩
    simp only [List.length_append, List.length_cons] at hb hr
    refine Ev.step (fun k => by rw [laws_toIntS.l0]) ?_
    refine evPos (by simp only [List.length_append, List.length_cons]; omega) (evPos (by omega) (evPos (by simp only [List.length_append, List.length_cons]; omega) ?_))
    rw [rd_mid, set_mid, wsucc (by omega)]
    have h := ih (pre ++ [x]) rest (by simp; omega) (by omega)
    simpa using h
theorem toIntS_ev (l : List Int) (hl : l.length ≤ 1048576) : Ev (fun k => laws_toIntS.f k l) l := by
  unfold laws_toIntS.f
  refine evPos (by omega) (evPos (by omega) ?_)
  have h := toIntS_l0 l [] (List.replicate l.length 0) (by simpa using hl) (by simp)
  simpa using h
theorem eqIntS_l0 : ∀ (suf pre : List Int), (pre ++ suf).length ≤ 1048576 →
    Ev (fun k => laws_eqIntS.l0 k (pre ++ suf) (pre ++ suf) (pre.length : Int)) true := by
  intro suf
  induction suf with
  | nil =>
    intro pre hb
    refine Ev.step (fun k => by rw [laws_eqIntS.l0]) ?_
    exact evNeg (by simp) (Ev.now _)
  | cons x suf ih =>
    intro pre hb
    simp only [List.length_append, List.length_cons] at hb
    refine Ev.step (fun k => by rw [laws_eqIntS.l0]) ?_
    refine evPos (by simp only [List.length_append, List.length_cons]; omega) (evPos (by omega) (evPos (by simp only [List.length_append, List.length_cons]; omega) (evPos rfl ?_)))
    rw [wsucc (by omega)]
    have h := ih (pre ++ [x]) (by simp; omega)
    simpa using h
theorem eqIntS_ev (l : List Int) (hl : l.length ≤ 1048576) : Ev (fun k => laws_eqIntS.f k l l) true := by
  unfold laws_eqIntS.f
  refine evPos rfl ?_
  have h := eqIntS_l0 l [] (by simpa using hl)
  simpa using h
/-! ### szints -/
def leftI (l : List Int) (a : Int) : Int := if a - (l.length : Int) < 0 then -1 else a - (l.length : Int)
theorem szIntS_eq (l : List Int) (a : Int) (h0 : 0 ≤ a) (h1 : a ≤ 1048576) (hl : l.length ≤ 9223372036854775807) : laws_szIntS.f l a = some (leftI l a) := by
  unfold laws_szIntS.f leftI
  rw [w64 (by omega) (by omega)]
  split <;> rfl
/-! ### intss -/
/-- What is left of a behind the lists' own lengths and the list's length; -1 where it is not enough. -/
def leftR : List (List Int) → Int → Int
  | [], a => a
  | r :: rs, a => if leftI r a < 0 then -1 else leftR rs (leftI r a)
def leftII (l : List (List Int)) (a : Int) : Int := if a - (l.length : Int) < 0 then -1 else leftR l (a - (l.length : Int))
theorem szIntSS_l0 : ∀ (suf pre : List (List Int)) (a : Int), (pre ++ suf).length ≤ 1048576 → 0 ≤ a → a ≤ 1048576 → (∀ r ∈ suf, r.length ≤ 9223372036854775807) →
    Ev (fun k => laws_szIntSS.l0 k (pre ++ suf) a (pre.length : Int)) (leftR suf a) := by
  intro suf
  induction suf with
  | nil =>
    intro pre a hb h0 h1 hr
    refine Ev.step (fun k => by rw [laws_szIntSS.l0]) ?_
    exact evNeg (by simp) (Ev.now _)
  | cons x suf ih =>
    intro pre a hb h0 h1 hr
    simp only [List.length_append, List.length_cons] at hb
    refine Ev.step (fun k => by rw [laws_szIntSS.l0]) ?_
    refine evPos (by simp only [List.length_append, List.length_cons]; omega) (evPos (by omega) ?_)
    rw [rd_L1, getD_mid, wsucc (by omega)]
    refine evSome (szIntS_eq x a h0 h1 (hr x (by simp))) ?_
    by_cases hx : leftI x a < 0
    · refine evPos hx (evEq ?_ (Ev.now _))
      simp [leftR, hx]
    · refine evNeg hx ?_
      have hle : leftI x a ≤ 1048576 := by
        unfold leftI
        split <;> omega
      have h := ih (pre ++ [x]) (leftI x a) (by simp; omega) (by omega) hle (fun r h => hr r (by simp [h]))
      refine evEq ?_ (Ev.congr (fun k => ?_) h)
      · simp [leftR, hx]
      · simp
theorem szIntSS_ev (l : List (List Int)) (a : Int) (h0 : 0 ≤ a) (h1 : a ≤ 1048576) (hl : l.length ≤ 9223372036854775807) (hr : ∀ r ∈ l, r.length ≤ 9223372036854775807) : Ev (fun k => laws_szIntSS.f k l a) (leftII l a) := by
  unfold laws_szIntSS.f
  rw [w64 (by omega) (by omega)]
  by_cases h : a - (l.length : Int) < 0
  · refine evPos h (evEq ?_ (Ev.now _))
    simp [leftII, h]
  · refine evNeg h (evEq ?_ (szIntSS_l0 l [] _ (by simp; omega) (by omega) (by omega) hr))
    simp [leftII, h]
theorem leftR_rows : ∀ (l : List (List Int)) (a : Int), 0 ≤ leftR l a → 0 ≤ a → a ≤ 1048576 → (∀ r ∈ l, r.length ≤ 1048576)
  | [], _, _, _, _ => by simp
  | r :: rs, a, h, h0, h1 => by
    unfold leftR at h
    split at h
    · omega
    · rename_i hx
      have hx' : 0 ≤ leftI r a := by omega
      have hrl : r.length ≤ 1048576 ∧ leftI r a ≤ 1048576 := by
        unfold leftI at hx' ⊢
        split at hx' <;> split <;> omega
      intro q hq
      rcases List.mem_cons.1 hq with rfl | hq
      · exact hrl.1
      · exact leftR_rows rs _ h hx' hrl.2 q hq
/-- Rows that may be examined. -/
def okII (l : List (List Int)) : Prop := l.length ≤ 1048576 ∧ ∀ r ∈ l, r.length ≤ 1048576
theorem leftII_ok {l : List (List Int)} (h : 0 ≤ leftII l 1048576) : okII l := by
  unfold leftII at h
  split at h
  · omega
  · exact ⟨by omega, leftR_rows l _ h (by omega) (by omega)⟩
theorem toIntSS_l0 : ∀ (suf pre rest : List (List Int)), (pre ++ suf).length ≤ 1048576 → rest.length = suf.length → (∀ r ∈ suf, r.length ≤ 1048576) →
    Ev (fun k => laws_toIntSS.l0 k (pre ++ suf) (pre ++ rest) (pre.length : Int)) (pre ++ suf) := by
  intro suf
  induction suf with
  | nil =>
    intro pre rest hb hr hq
    obtain rfl : rest = [] := by simpa using hr
    refine Ev.step (fun k => by rw [laws_toIntSS.l0]) ?_
    exact evNeg (by simp) (Ev.now _)
  | cons x suf ih =>
    intro pre rest hb hr hq
    obtain ⟨r, rest, rfl⟩ : ∃ r t, rest = r :: t := by
      cases rest with
      | nil => simp at hr
      | cons r t => exact ⟨r, t, rfl⟩
    simp only [List.length_append, List.length_cons] at hb hr
    refine Ev.step (fun k => by rw [laws_toIntSS.l0]) ?_
    refine evPos (by simp only [List.length_append, List.length_cons]; omega) (evPos (by omega) ?_)
    rw [rd_L1, getD_mid]
    refine Ev.bind (toIntS_ev x (hq x (by simp))) (evPos (by simp only [List.length_append, List.length_cons]; omega) ?_)
    rw [set_mid, wsucc (by omega)]
    have h := ih (pre ++ [x]) rest (by simp; omega) (by omega) (fun r h => hq r (by simp [h]))
    simpa using h
theorem toIntSS_ev (l : List (List Int)) (hl : okII l) : Ev (fun k => laws_toIntSS.f k l) l := by
  have h0 := hl.1
  unfold laws_toIntSS.f
  refine evPos (by omega) (evPos (by omega) ?_)
  have h := toIntSS_l0 l [] (List.replicate l.length []) (by simpa using hl.1) (by simp) hl.2
  simpa using h
theorem eqIntSS_l0 : ∀ (suf pre : List (List Int)), (pre ++ suf).length ≤ 1048576 → (∀ r ∈ suf, r.length ≤ 1048576) →
    Ev (fun k => laws_eqIntSS.l0 k (pre ++ suf) (pre ++ suf) (pre.length : Int)) true := by
  intro suf
  induction suf with
  | nil =>
    intro pre hb hq
    refine Ev.step (fun k => by rw [laws_eqIntSS.l0]) ?_
    exact evNeg (by simp) (Ev.now _)
  | cons x suf ih =>
    intro pre hb hq
    simp only [List.length_append, List.length_cons] at hb
    refine Ev.step (fun k => by rw [laws_eqIntSS.l0]) ?_
    refine evPos (by simp only [List.length_append, List.length_cons]; omega) (evPos (by omega) (evPos (by simp only [List.length_append, List.length_cons]; omega) ?_))
    rw [rd_L1, getD_mid]
    refine Ev.bind (eqIntS_ev x (hq x (by simp))) (evPos rfl ?_)
    rw [wsucc (by omega)]
    have h := ih (pre ++ [x]) (by simp; omega) (fun r h => hq r (by simp [h]))
    simpa using h
theorem eqIntSS_ev (l : List (List Int)) (hl : okII l) : Ev (fun k => laws_eqIntSS.f k l l) true := by
  unfold laws_eqIntSS.f
  refine evPos rfl ?_
  have h := eqIntSS_l0 l [] (by simpa using hl.1) hl.2
  simpa using h
/-! ### small -/
theorem spec_l1In_eq (a b c : Int) : spec_l1In.f a b c = some (decide (b ≤ a ∧ a ≤ c)) := by
  unfold spec_l1In.f
  by_cases h : a ≥ b
  · rw [if_pos h]
    simp [show b ≤ a from h]
  · rw [if_neg h]
    have : ¬ b ≤ a := h
    simp [this]
/-! ### inrange -/
theorem impl_InRange_eq (a b c : Int) : impl_InRange.f a b c = some (decide (b ≤ a ∧ a ≤ c)) := by
  unfold impl_InRange.f
  by_cases h : b ≤ a
  · rw [if_pos h]
    simp [h]
  · rw [if_neg h]
    simp [h]
/-! ### allin -/
theorem impl_allIn_l0 (lo hi : Int) : ∀ (suf pre : List Int), (pre ++ suf).length ≤ 1048576 →
    Ev (fun k => impl_allIn.l0 k lo hi (pre ++ suf) ((pre ++ suf).length : Int) (pre.length : Int)) (suf.all fun x => decide (lo ≤ x ∧ x ≤ hi)) := by
  intro suf
  induction suf with
  | nil =>
    intro pre hb
    refine Ev.step (fun k => by rw [impl_allIn.l0]) ?_
    exact evNeg (by simp) (Ev.now _)
  | cons x suf ih =>
    intro pre hb
    simp only [List.length_append, List.length_cons] at hb
    refine Ev.step (fun k => by rw [impl_allIn.l0]) ?_
    refine evPos (by simp only [List.length_append, List.length_cons]; omega) (evPos (by omega) (evPos (by simp only [List.length_append, List.length_cons]; omega) ?_))
    rw [rd_mid, wsucc (by omega)]
    refine evSome (impl_InRange_eq _ _ _) ?_
    by_cases hx : lo ≤ x ∧ x ≤ hi
    · refine evPos (by simp [hx]) ?_
      have h := ih (pre ++ [x]) (by simp; omega)
      refine evEq ?_ (Ev.congr (fun k => ?_) h)
      · simp [hx]
      · simp
    · refine evNeg (by simpa using hx) (evEq ?_ (Ev.now _))
      simp [hx]
theorem impl_allIn_ev (l : List Int) (lo hi : Int) (hl : l.length ≤ 1048576) : Ev (fun k => impl_allIn.f k l lo hi) (l.all fun x => decide (lo ≤ x ∧ x ≤ hi)) := by
  have h := impl_allIn_l0 lo hi l [] (by simpa using hl)
  simpa [impl_allIn.f] using h
/-! ### trial -/
def trialB (l : List Int) : Bool := decide (3 ≤ l.length ∧ l.length ≤ 16) && l.all fun x => decide (0 ≤ x ∧ x ≤ 100000)
theorem spec_l9Stamp_eq (x : Int) : spec_l9Stamp.f x = some (decide (0 ≤ x ∧ x ≤ 100000)) := by
  unfold spec_l9Stamp.f
  rw [spec_l1In_eq]
  rfl
theorem spec_l21Ok_l0 : ∀ (suf pre : List Int), (pre ++ suf).length ≤ 1048576 →
    Ev (fun k => spec_l21Ok.l0 k (pre ++ suf) (pre.length : Int)) ((suf.all fun x => decide (0 ≤ x ∧ x ≤ 100000)) && decide ((pre ++ suf).length ≤ 16)) := by
  intro suf
  induction suf with
  | nil =>
    intro pre hb
    refine Ev.step (fun k => by rw [spec_l21Ok.l0]) ?_
    refine evNeg (by simp) (evEq ?_ (Ev.now _))
    simp only [List.all_nil, Bool.true_and]
    exact decide_eq_decide.2 (by omega)
  | cons x suf ih =>
    intro pre hb
    simp only [List.length_append, List.length_cons] at hb
    refine Ev.step (fun k => by rw [spec_l21Ok.l0]) ?_
    refine evPos (by simp only [List.length_append, List.length_cons]; omega) (evPos (by omega) ?_)
    rw [rd_mid, wsucc (by omega)]
    refine evSome (spec_l9Stamp_eq x) ?_
    by_cases hx : 0 ≤ x ∧ x ≤ 100000
    · refine evPos (by simp [hx]) ?_
      have h := ih (pre ++ [x]) (by simp; omega)
      refine evEq ?_ (Ev.congr (fun k => ?_) h)
      · simp [hx]
      · simp
    · refine evNeg (by simpa using hx) (evEq ?_ (Ev.now _))
      simp [hx]
theorem spec_l27List_ev (l : List Int) (hl : l.length ≤ 1048576) : Ev (fun k => spec_l27List.f k l) (trialB l) := by
  unfold spec_l27List.f
  by_cases h3 : (l.length : Int) ≥ 3
  · refine evPos h3 (Ev.bind (spec_l21Ok_l0 l [] (by simpa using hl)) (evEq ?_ (Ev.now _)))
    simp only [trialB, List.nil_append]
    rw [Bool.and_comm]
    congr 1
    exact decide_eq_decide.2 (by omega)
  · refine evNeg h3 (evEq ?_ (Ev.now _))
    have : ¬ (3 ≤ l.length ∧ l.length ≤ 16) := by omega
    simp [trialB, this]
theorem impl_isTrial_ev (l : List Int) (hl : l.length ≤ 1048576) : Ev (fun k => impl_isTrial.f k l) (trialB l) := by
  unfold impl_isTrial.f
  by_cases h3 : (l.length : Int) ≥ 3
  · refine evPos h3 ?_
    by_cases h16 : (l.length : Int) ≤ 16
    · refine Ev.bind (show Ev (fun k => impl_isSeries.f k l) (l.all fun x => decide (0 ≤ x ∧ x ≤ 100000)) from ?_) (evEq ?_ (Ev.now _))
      · unfold impl_isSeries.f
        exact evPos h16 (Ev.bind (impl_allIn_ev l 0 100000 hl) (Ev.now _))
      · have : 3 ≤ l.length ∧ l.length ≤ 16 := by omega
        simp [trialB, this]
    · refine Ev.bind (show Ev (fun k => impl_isSeries.f k l) false from ?_) (evEq ?_ (Ev.now _))
      · unfold impl_isSeries.f
        exact evNeg h16 (Ev.now _)
      · have : ¬ (3 ≤ l.length ∧ l.length ≤ 16) := by omega
        simp [trialB, this]
  · refine evNeg h3 (evEq ?_ (Ev.now _))
    have : ¬ (3 ≤ l.length ∧ l.length ≤ 16) := by omega
    simp [trialB, this]
theorem trialB_len {l : List Int} (h : trialB l = true) : 3 ≤ l.length ∧ l.length ≤ 16 := by
  simp only [trialB, Bool.and_eq_true, decide_eq_true_eq] at h
  exact h.1
theorem medV_range {l : List Int} (h : trialB l = true) : 0 ≤ medV l ∧ medV l ≤ 100000 := by
  have hl := trialB_len h
  simp only [trialB, Bool.and_eq_true, List.all_eq_true, decide_eq_true_eq] at h
  unfold medV
  rw [if_neg (by omega)]
  have hs : (srtd l).length = l.length := List.length_mergeSort l
  have hi : l.length / 2 < (srtd l).length := by omega
  rw [List.getD_eq_getElem?_getD, List.getElem?_eq_getElem hi]
  have hm : (srtd l)[l.length / 2] ∈ l := (List.mergeSort_perm l _).mem_iff.1 (List.getElem_mem hi)
  exact h.2 _ hm
theorem impl_MedianOf_eq (l : List Int) (hl : l.length ≤ 1048576) : impl_MedianOf.f l = some (medV l) := by
  unfold impl_MedianOf.f
  rw [if_pos hl]
theorem spec_MedianOf_eq (l : List Int) (hl : l.length ≤ 1048576) : spec_MedianOf.f l = some (medV l) := by
  unfold spec_MedianOf.f
  by_cases h0 : (l.length : Int) = 0
  · rw [if_pos h0, medV, if_pos (by omega)]
  · rw [if_neg h0]
    have h1 : spec_l21Sorted.f l = some (srtd l) := by
      unfold spec_l21Sorted.f
      rw [if_pos hl, sortI_eq]
      rfl
    rw [h1, Option.bind_some]
    have hs : (srtd l).length = l.length := List.length_mergeSort l
    have hw : wrap64 ((l.length : Int) / 2) = ((l.length / 2 : Nat) : Int) := by rw [w64 (by omega) (by omega)]; omega
    rw [hw, if_pos (by omega), if_pos (by omega), medV, if_neg (by omega)]
    simp only [rd, Int.toNat_natCast]
def betB (a b : List Int) (g : Int) : Bool := trialB a && trialB b && decide (0 ≤ g ∧ g ≤ 100000) && decide (medV b ≤ medV a - g)
def worB (a b : List Int) (g : Int) : Bool := trialB a && trialB b && decide (0 ≤ g ∧ g ≤ 100000) && decide (medV b > medV a + g)
theorem trial_walk {fa : Nat → Option Bool} {fb : Nat → Option Bool} {st : Option Bool} (a b : List Int) (g : Int) (p : Bool) {T : Option Bool} (ha : Ev fa (trialB a)) (hb : Ev fb (trialB b)) (hs : st = some (decide (0 ≤ g ∧ g ≤ 100000))) (ht : trialB a = true → trialB b = true → (0 ≤ g ∧ g ≤ 100000) → T = some p) :
    Ev (fun k => (fa k).bind fun x => if x = true then (fb k).bind fun y => if y = true then st.bind fun z => if z = true then T else some false else some false else some false) (trialB a && trialB b && decide (0 ≤ g ∧ g ≤ 100000) && p) := by
  refine Ev.bind ha ?_
  by_cases h1 : trialB a = true
  · refine evPos h1 (Ev.bind hb ?_)
    by_cases h2 : trialB b = true
    · refine evPos h2 (evSome hs ?_)
      by_cases h3 : 0 ≤ g ∧ g ≤ 100000
      · refine evPos (by simp [h3]) ?_
        rw [ht h1 h2 h3]
        refine evEq ?_ (Ev.now _)
        simp [h1, h2, h3]
      · refine evNeg (by simpa using h3) (evEq ?_ (Ev.now _))
        simp [h3]
    · refine evNeg h2 (evEq ?_ (Ev.now _))
      simp [h2]
  · refine evNeg h1 (evEq ?_ (Ev.now _))
    simp [h1]
theorem spec_IsBetter_ev (a b : List Int) (g : Int) (ha : a.length ≤ 1048576) (hb : b.length ≤ 1048576) : Ev (fun k => spec_IsBetter.f k a b g) (betB a b g) := by
  unfold spec_IsBetter.f
  refine trial_walk a b g _ (spec_l27List_ev a ha) (spec_l27List_ev b hb) (spec_l9Stamp_eq g) (fun h1 h2 h3 => ?_)
  have m1 := medV_range h1
  have m2 := medV_range h2
  rw [spec_MedianOf_eq a ha, spec_MedianOf_eq b hb]
  simp only [Option.bind_some]
  rw [w64 (by omega) (by omega)]
theorem impl_IsBetter_ev (a b : List Int) (g : Int) (ha : a.length ≤ 1048576) (hb : b.length ≤ 1048576) : Ev (fun k => impl_IsBetter.f k a b g) (betB a b g) := by
  unfold impl_IsBetter.f
  refine trial_walk a b g _ (impl_isTrial_ev a ha) (impl_isTrial_ev b hb) (impl_InRange_eq g 0 100000) (fun h1 h2 h3 => ?_)
  have m1 := medV_range h1
  have m2 := medV_range h2
  rw [impl_MedianOf_eq a ha, impl_MedianOf_eq b hb]
  simp only [Option.bind_some]
  rw [w64 (by omega) (by omega)]
theorem spec_IsWorse_ev (a b : List Int) (g : Int) (ha : a.length ≤ 1048576) (hb : b.length ≤ 1048576) : Ev (fun k => spec_IsWorse.f k a b g) (worB a b g) := by
  unfold spec_IsWorse.f
  refine trial_walk a b g _ (spec_l27List_ev a ha) (spec_l27List_ev b hb) (spec_l9Stamp_eq g) (fun h1 h2 h3 => ?_)
  have m1 := medV_range h1
  have m2 := medV_range h2
  rw [spec_MedianOf_eq a ha, spec_MedianOf_eq b hb]
  simp only [Option.bind_some]
  rw [w64 (by omega) (by omega)]
  exact congrArg some (decide_eq_decide.2 (by omega))
theorem impl_IsWorse_ev (a b : List Int) (g : Int) (ha : a.length ≤ 1048576) (hb : b.length ≤ 1048576) : Ev (fun k => impl_IsWorse.f k a b g) (worB a b g) := by
  unfold impl_IsWorse.f
  refine trial_walk a b g _ (impl_isTrial_ev a ha) (impl_isTrial_ev b hb) (impl_InRange_eq g 0 100000) (fun h1 h2 h3 => ?_)
  have m1 := medV_range h1
  have m2 := medV_range h2
  rw [impl_MedianOf_eq a ha, impl_MedianOf_eq b hb]
  simp only [Option.bind_some]
  rw [w64 (by omega) (by omega)]
/-! ### decide -/
theorem leftR_le : ∀ (l : List (List Int)) (a : Int), a ≤ 1048576 → leftR l a ≤ 1048576
  | [], _, h => h
  | r :: rs, a, h => by
    unfold leftR
    split
    · omega
    · refine leftR_le rs _ ?_
      unfold leftI
      split <;> omega
theorem leftII_le (l : List (List Int)) (a : Int) (h : a ≤ 1048576) : leftII l a ≤ 1048576 := by
  unfold leftII
  split
  · omega
  · exact leftR_le l _ (by omega)
theorem leftII_ok' {l : List (List Int)} {a : Int} (ha : a ≤ 1048576) (h : 0 ≤ leftII l a) : okII l := by
  unfold leftII at h
  split at h
  · omega
  · exact ⟨by omega, leftR_rows l _ h (by omega) (by omega)⟩
def allT (zs : List (List Int × List Int)) : Bool := zs.all fun p => trialB p.1 && trialB p.2
def anyW (zs : List (List Int × List Int)) (m : Int) : Bool := zs.any fun p => worB p.1 p.2 m
theorem anyW_cons (p : List Int × List Int) (zs : List (List Int × List Int)) (m : Int) : anyW (p :: zs) m = (worB p.1 p.2 m || anyW zs m) := rfl
theorem allT_cons (p : List Int × List Int) (zs : List (List Int × List Int)) : allT (p :: zs) = (trialB p.1 && trialB p.2 && allT zs) := rfl
def decV (a b : List Int) (xs ys : List (List Int)) (g m : Int) : Int :=
  if (0 ≤ g ∧ g ≤ 100000) ∧ (0 ≤ m ∧ m ≤ 100000) ∧ xs.length = ys.length ∧ trialB a = true ∧ trialB b = true ∧ allT (xs.zip ys) = true then (if anyW (xs.zip ys) m = true then 2 else if betB a b g = true then 1 else 2) else 3
theorem rdz (zs pre suf : List (List Int × List Int)) (p : List Int × List Int) (f : List Int × List Int → List Int) (e : zs = pre ++ p :: suf) : rd_L1 (zs.map f) (pre.length : Int) = f p := by
  subst e
  rw [rd_L1, List.map_append, List.map_cons, getD_mid' _ _ _ _ (by simp)]
theorem spec_DecideTrial_l1 (a b : List Int) (g m : Int) (ha : a.length ≤ 1048576) (hb : b.length ≤ 1048576) : ∀ (suf pre : List (List Int × List Int)), (pre ++ suf).length ≤ 1048576 → (∀ p ∈ suf, p.1.length ≤ 1048576 ∧ p.2.length ≤ 1048576) →
    Ev (fun k => spec_DecideTrial.l1 k a b ((pre ++ suf).map (·.1)) ((pre ++ suf).map (·.2)) g m (pre.length : Int)) (if anyW suf m = true then 2 else if betB a b g = true then 1 else 2) := by
  intro suf
  induction suf with
  | nil =>
    intro pre hl hs
    refine Ev.step (fun k => by rw [spec_DecideTrial.l1]) ?_
    refine evNeg (by simp) (Ev.bind (spec_IsBetter_ev a b g ha hb) ?_)
    by_cases h : betB a b g = true
    · exact evPos h (evEq (by simp [anyW, h]) (Ev.now _))
    · exact evNeg h (evEq (by simp [anyW, h]) (Ev.now _))
  | cons p suf ih =>
    intro pre hl hs
    have h0 := hs p (by simp)
    simp only [List.length_append, List.length_cons] at hl
    refine Ev.step (fun k => by rw [spec_DecideTrial.l1]) ?_
    refine evPos (by simp only [List.length_map, List.length_append, List.length_cons]; omega) (evPos (by omega) (evPos (by simp only [List.length_map, List.length_append, List.length_cons]; omega) ?_))
    rw [rdz _ pre suf p (·.1) rfl, rdz _ pre suf p (·.2) rfl, wsucc (by omega)]
    refine Ev.bind (spec_IsWorse_ev p.1 p.2 m h0.1 h0.2) ?_
    by_cases h : worB p.1 p.2 m = true
    · exact evPos h (evEq (by rw [anyW_cons, h]; simp) (Ev.now _))
    · refine evNeg h ?_
      have h2 := ih (pre ++ [p]) (by simp; omega) (fun q hq => hs q (by simp [hq]))
      refine evEq ?_ (Ev.congr (fun k => ?_) h2)
      · rw [anyW_cons, show worB p.1 p.2 m = false by simpa using h, Bool.false_or]
      · simp
theorem spec_DecideTrial_l0 (a b : List Int) (g m : Int) (ha : a.length ≤ 1048576) (hb : b.length ≤ 1048576) : ∀ (suf pre : List (List Int × List Int)), (pre ++ suf).length ≤ 1048576 → (∀ p ∈ pre ++ suf, p.1.length ≤ 1048576 ∧ p.2.length ≤ 1048576) →
    Ev (fun k => spec_DecideTrial.l0 k a b ((pre ++ suf).map (·.1)) ((pre ++ suf).map (·.2)) g m true (pre.length : Int)) (if allT suf = true then (if anyW (pre ++ suf) m = true then 2 else if betB a b g = true then 1 else 2) else 3) := by
  intro suf
  induction suf with
  | nil =>
    intro pre hl hs
    refine Ev.step (fun k => by rw [spec_DecideTrial.l0]) ?_
    refine evNeg (by simp) (Ev.step (fun k => by rw [spec_DecideTrial.j2]) (evNeg (by simp) (evPos rfl ?_)))
    have h := spec_DecideTrial_l1 a b g m ha hb (pre ++ []) [] (by simpa using hl) hs
    exact evEq (by simp [allT]) (Ev.congr (fun k => by simp) h)
  | cons p suf ih =>
    intro pre hl hs
    have h0 := hs p (by simp)
    have hl' := hl
    simp only [List.length_append, List.length_cons] at hl
    have bad : ∀ j : Int, Ev (fun k => spec_DecideTrial.l0 k a b ((pre ++ p :: suf).map (·.1)) ((pre ++ p :: suf).map (·.2)) g m false j) 3 := by
      intro j
      refine Ev.step (fun k => by rw [spec_DecideTrial.l0]) ?_
      by_cases hj : j < (((pre ++ p :: suf).map (·.1)).length : Int)
      · exact evPos hj (Ev.step (fun k => by rw [spec_DecideTrial.j2]) (evNeg (by simp) (evNeg (by simp) (Ev.now _))))
      · exact evNeg hj (Ev.step (fun k => by rw [spec_DecideTrial.j2]) (evNeg (by simp) (evNeg (by simp) (Ev.now _))))
    refine Ev.step (fun k => by rw [spec_DecideTrial.l0]) ?_
    refine evPos (by simp only [List.length_map, List.length_append, List.length_cons]; omega) (Ev.step (fun k => by rw [spec_DecideTrial.j2]) (evPos rfl (evPos (by omega) (evPos (by simp only [List.length_map, List.length_append, List.length_cons]; omega) ?_))))
    rw [rdz _ pre suf p (·.1) rfl, rdz _ pre suf p (·.2) rfl, wsucc (by omega)]
    refine Ev.bind (spec_l27List_ev p.1 h0.1) ?_
    by_cases h1 : trialB p.1 = true
    · refine evPos h1 (evPos (by simp only [List.length_map, List.length_append, List.length_cons]; omega) (Ev.bind (spec_l27List_ev p.2 h0.2) ?_))
      by_cases h2 : trialB p.2 = true
      · rw [h2]
        have h3 := ih (pre ++ [p]) (by simp; omega) (by simpa using hs)
        refine evEq ?_ (Ev.congr (fun k => ?_) h3)
        · rw [allT_cons, h1, h2, List.append_assoc]; rfl
        · simp
      · rw [show trialB p.2 = false by simpa using h2]
        exact evEq (by simp [allT, h2]) (bad _)
    · refine evNeg h1 (evEq (by simp [allT, h1]) (bad _))
theorem impl_DecideTrial_l0 (a b : List Int) (g m : Int) (ha : a.length ≤ 1048576) (hb : b.length ≤ 1048576) : ∀ (suf pre : List (List Int × List Int)) (harm : Bool), (pre ++ suf).length ≤ 1048576 → (∀ p ∈ suf, p.1.length ≤ 1048576 ∧ p.2.length ≤ 1048576) →
    Ev (fun k => impl_DecideTrial.l0 k a b ((pre ++ suf).map (·.1)) ((pre ++ suf).map (·.2)) g m harm (((pre ++ suf).map (·.1)).length : Int) (pre.length : Int)) (if allT suf = true then (if (harm || anyW suf m) = true then 2 else if betB a b g = true then 1 else 2) else 3) := by
  intro suf
  induction suf with
  | nil =>
    intro pre harm hl hs
    refine Ev.step (fun k => by rw [impl_DecideTrial.l0]) ?_
    refine evNeg (by simp) (Ev.bind (impl_IsBetter_ev a b g ha hb) ?_)
    by_cases h : betB a b g = true
    · refine evPos h ?_
      by_cases h2 : harm = true
      · exact evPos h2 (evEq (by simp [allT, h2]) (Ev.now _))
      · exact evNeg h2 (evEq (by simp [allT, anyW, h2, h]) (Ev.now _))
    · exact evNeg h (evEq (by simp [allT, anyW, h]) (Ev.now _))
  | cons p suf ih =>
    intro pre harm hl hs
    have h0 := hs p (by simp)
    simp only [List.length_append, List.length_cons] at hl
    refine Ev.step (fun k => by rw [impl_DecideTrial.l0]) ?_
    refine evPos (by simp only [List.length_map, List.length_append, List.length_cons]; omega) (evPos (by omega) (evPos (by simp only [List.length_map, List.length_append, List.length_cons]; omega) ?_))
    rw [rdz _ pre suf p (·.1) rfl, rdz _ pre suf p (·.2) rfl, wsucc (by omega)]
    refine Ev.bind (impl_isTrial_ev p.1 h0.1) ?_
    by_cases h1 : trialB p.1 = true
    · refine evPos h1 (evPos (by simp only [List.length_map, List.length_append, List.length_cons]; omega) (Ev.bind (impl_isTrial_ev p.2 h0.2) ?_))
      by_cases h2 : trialB p.2 = true
      · refine evPos h2 ?_
        by_cases h4 : harm = true
        · refine evPos h4 ?_
          have h3 := ih (pre ++ [p]) true (by simp; omega) (fun q hq => hs q (by simp [hq]))
          refine evEq ?_ (Ev.congr (fun k => ?_) h3)
          · rw [allT_cons, h1, h2, h4]; simp only [Bool.true_or, Bool.and_self, Bool.true_and]
          · simp
        · refine evNeg h4 (Ev.bind (impl_IsWorse_ev p.1 p.2 m h0.1 h0.2) ?_)
          have h3 := ih (pre ++ [p]) (worB p.1 p.2 m) (by simp; omega) (fun q hq => hs q (by simp [hq]))
          refine evEq ?_ (Ev.congr (fun k => ?_) h3)
          · rw [allT_cons, anyW_cons, h1, h2, show harm = false by simpa using h4]; simp only [Bool.false_or, Bool.and_self, Bool.true_and]
          · simp
      · exact evNeg h2 (evEq (by simp [allT, h2]) (Ev.now _))
    · exact evNeg h1 (evEq (by simp [allT, h1]) (Ev.now _))
theorem zip_fst : ∀ (xs ys : List (List Int)), xs.length = ys.length → (xs.zip ys).map (·.1) = xs
  | [], [], _ => rfl
  | [], _ :: _, h => by simp at h
  | _ :: _, [], h => by simp at h
  | x :: xs, y :: ys, h => by simp [zip_fst xs ys (by simpa using h)]
theorem zip_snd : ∀ (xs ys : List (List Int)), xs.length = ys.length → (xs.zip ys).map (·.2) = ys
  | [], [], _ => rfl
  | [], _ :: _, h => by simp at h
  | _ :: _, [], h => by simp at h
  | x :: xs, y :: ys, h => by simp [zip_snd xs ys (by simpa using h)]
theorem zip_ok {xs ys : List (List Int)} (hx : ∀ r ∈ xs, r.length ≤ 1048576) (hy : ∀ r ∈ ys, r.length ≤ 1048576) : ∀ p ∈ xs.zip ys, p.1.length ≤ 1048576 ∧ p.2.length ≤ 1048576 := by
  intro p hp
  obtain ⟨p1, p2⟩ := p
  have := List.of_mem_zip hp
  exact ⟨hx _ this.1, hy _ this.2⟩
theorem spec_DecideTrial_ev (a b : List Int) (xs ys : List (List Int)) (g m : Int) (ha : a.length ≤ 1048576) (hb : b.length ≤ 1048576) (hxl : xs.length ≤ 1048576) (hyl : ys.length ≤ 1048576) (hx : ∀ r ∈ xs, r.length ≤ 1048576) (hy : ∀ r ∈ ys, r.length ≤ 1048576) :
    Ev (fun k => spec_DecideTrial.f k a b xs ys g m) (decV a b xs ys g m) := by
  have bad : Ev (fun k => spec_DecideTrial.j0 k a b xs ys g m false) 3 := by
    refine Ev.step (fun k => by rw [spec_DecideTrial.j0]) (Ev.step (fun k => by rw [spec_DecideTrial.l0]) ?_)
    by_cases hj : (0 : Int) < (xs.length : Int)
    · exact evPos hj (Ev.step (fun k => by rw [spec_DecideTrial.j2]) (evNeg (by simp) (evNeg (by simp) (Ev.now _))))
    · exact evNeg hj (Ev.step (fun k => by rw [spec_DecideTrial.j2]) (evNeg (by simp) (evNeg (by simp) (Ev.now _))))
  unfold spec_DecideTrial.f
  refine evSome (spec_l9Stamp_eq g) ?_
  by_cases h1 : 0 ≤ g ∧ g ≤ 100000
  · refine evPos (by simp [h1]) (evSome (spec_l9Stamp_eq m) ?_)
    by_cases h2 : 0 ≤ m ∧ m ≤ 100000
    · refine evPos (by simp [h2]) ?_
      by_cases h3 : xs.length = ys.length
      · refine evPos (by omega) (Ev.bind (spec_l27List_ev a ha) ?_)
        by_cases h4 : trialB a = true
        · refine evPos h4 (Ev.bind (spec_l27List_ev b hb) ?_)
          by_cases h5 : trialB b = true
          · rw [h5]
            refine Ev.step (fun k => by rw [spec_DecideTrial.j0]) ?_
            have h := spec_DecideTrial_l0 a b g m ha hb (xs.zip ys) [] (by simp; omega) (by simpa using zip_ok hx hy)
            rw [List.nil_append, zip_fst xs ys h3, zip_snd xs ys h3] at h
            refine evEq ?_ h
            simp [decV, h1, h2, h3, h4, h5]
          · rw [show trialB b = false by simpa using h5]
            exact evEq (by simp [decV, h5]) bad
        · exact evNeg h4 (evEq (by simp [decV, h4]) bad)
      · exact evNeg (by omega) (evEq (by simp [decV, h3]) bad)
    · exact evNeg (by simpa using h2) (evEq (by simp [decV, h2]) bad)
  · exact evNeg (by simpa using h1) (evEq (by simp [decV, h1]) bad)
theorem impl_DecideTrial_ev (a b : List Int) (xs ys : List (List Int)) (g m : Int) (ha : a.length ≤ 1048576) (hb : b.length ≤ 1048576) (hxl : xs.length ≤ 1048576) (hyl : ys.length ≤ 1048576) (hx : ∀ r ∈ xs, r.length ≤ 1048576) (hy : ∀ r ∈ ys, r.length ≤ 1048576) :
    Ev (fun k => impl_DecideTrial.f k a b xs ys g m) (decV a b xs ys g m) := by
  have bad : Ev (fun k => impl_DecideTrial.j0 k a b xs ys g m true) 3 :=
    Ev.step (fun k => by rw [impl_DecideTrial.j0]) (evPos rfl (Ev.now _))
  unfold impl_DecideTrial.f
  refine evSome (impl_InRange_eq g 0 100000) ?_
  by_cases h1 : 0 ≤ g ∧ g ≤ 100000
  · refine evPos (by simp [h1]) (evSome (impl_InRange_eq m 0 100000) ?_)
    by_cases h2 : 0 ≤ m ∧ m ≤ 100000
    · refine evPos (by simp [h2]) ?_
      by_cases h3 : xs.length = ys.length
      · refine evPos (by omega) (Ev.bind (impl_isTrial_ev a ha) ?_)
        by_cases h4 : trialB a = true
        · refine evPos h4 (Ev.bind (impl_isTrial_ev b hb) ?_)
          by_cases h5 : trialB b = true
          · rw [h5]
            refine Ev.step (fun k => by rw [impl_DecideTrial.j0]) (evNeg (by simp) ?_)
            have h := impl_DecideTrial_l0 a b g m ha hb (xs.zip ys) [] false (by simp; omega) (by simpa using zip_ok hx hy)
            rw [List.nil_append, zip_fst xs ys h3, zip_snd xs ys h3] at h
            refine evEq ?_ h
            simp [decV, h1, h2, h3, h4, h5]
          · rw [show trialB b = false by simpa using h5]
            exact evEq (by simp [decV, h5]) bad
        · exact evNeg h4 (evEq (by simp [decV, h4]) bad)
      · exact evNeg (by omega) (evEq (by simp [decV, h3]) bad)
    · exact evNeg (by simpa using h2) (evEq (by simp [decV, h2]) bad)
  · exact evNeg (by simpa using h1) (evEq (by simp [decV, h1]) bad)
/-! ### law_FnExactDecideTrial -/
theorem FnExactDecideTrial : laws_FnExactDecideTrial.PureR := by
  intro a b xs ys g m h h2 h3 h4 h5 h6
  have hr : ∀ r ∈ xs, r.length ≤ 9223372036854775807 := fun r hr => (h3.2 r hr).1
  have hr2 : ∀ r ∈ ys, r.length ≤ 9223372036854775807 := fun r hr => (h4.2 r hr).1
  refine Ev.rounds ?_
  unfold laws_FnExactDecideTrial.f
  by_cases hb : (a.length : Int) > 1048576
  · exact evPos hb (Ev.now _)
  by_cases hb2 : (b.length : Int) > 1048576
  · exact evNeg hb (evPos hb2 (Ev.now _))
  have ha : a.length ≤ 1048576 := by omega
  have hbl : b.length ≤ 1048576 := by omega
  refine evNeg hb (evNeg hb2 (Ev.bind (szIntSS_ev xs 1048576 (by omega) (by omega) h3.1 hr) ?_))
  by_cases hx : leftII xs 1048576 < 0
  · exact evPos hx (Ev.now _)
  have hxo := leftII_ok (l := xs) (by omega)
  have hxl := leftII_le xs 1048576 (by omega)
  refine evNeg hx (Ev.bind (szIntSS_ev ys _ (by omega) hxl h4.1 hr2) ?_)
  by_cases hy : leftII ys (leftII xs 1048576) < 0
  · exact evPos hy (Ev.now _)
  have hyo := leftII_ok' (l := ys) hxl (by omega)
  refine evNeg hy (Ev.bind (toIntS_ev a ha) (Ev.bind (toIntS_ev b hbl) (Ev.bind (toIntSS_ev xs hxo) (Ev.bind (toIntSS_ev ys hyo) ?_))))
  refine Ev.bind (spec_DecideTrial_ev a b xs ys g m ha hbl hxo.1 hyo.1 hxo.2 hyo.2) (Ev.bind (toIntS_ev a ha) (Ev.bind (toIntS_ev b hbl) (Ev.bind (toIntSS_ev xs hxo) (Ev.bind (toIntSS_ev ys hyo) ?_))))
  refine Ev.bind (impl_DecideTrial_ev a b xs ys g m ha hbl hxo.1 hyo.1 hxo.2 hyo.2) (evPos rfl ?_)
  refine Ev.bind (toIntS_ev a ha) (Ev.bind (eqIntS_ev a ha) (evPos rfl (Ev.bind (toIntS_ev b hbl) (Ev.bind (eqIntS_ev b hbl) (evPos rfl ?_)))))
  exact Ev.bind (toIntSS_ev xs hxo) (Ev.bind (eqIntSS_ev xs hxo) (evPos rfl (Ev.bind (toIntSS_ev ys hyo) (Ev.bind (eqIntSS_ev ys hyo) (evPos rfl (Ev.now _))))))
end Go.Proofs.Ytkimiekgghfoiaa.Pure
