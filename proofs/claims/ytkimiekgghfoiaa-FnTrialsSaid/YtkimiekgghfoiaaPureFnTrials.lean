/- A repair is kept only if it helps, and never if it harms another path: for all drawn inputs. -/
import Derived.Test.YtkimiekgghfoiaaRFnTrials
import Derived.Test.YtkimiekgghfoiaaBase
namespace Go.Proofs.Ytkimiekgghfoiaa.Pure
open Go.RowKit Go.Proofs.Ytkimiekgghfoiaa.Base Go.Proofs.Ytkimiekgghfoiaa.PFnTrials Go.Proofs.YtkimiekgghfoiaaW.PrintWords Go.Proofs.YtkimiekgghfoiaaW.PrintLast
set_option linter.unusedVariables false
set_option linter.unusedSimpArgs false
/-! ### draw -/
/-- A cursor that a draw may go on with: it stands within the bytes. -/
def cur (b : List Int) (i : Int) : Prop := b.length ≤ 9223372036854775807 ∧ 0 ≤ i ∧ i ≤ (b.length : Int)
theorem l1New_l0 (b : List Int) (hb : b.length ≤ 9223372036854775806) : ∀ (d j : Nat) (h : Int), j + d = b.length → ∃ h', Ev (fun k => spec_l1New.l0 k b h (j : Int)) (b, 0, h') := by
  intro d
  induction d with
  | zero =>
    intro j h e
    exact ⟨h, (by refine Ev.step (fun k => by rw [spec_l1New.l0]) ?_; exact evNeg (by omega) (Ev.now _))⟩
  | succ d ih =>
    intro j h e
    by_cases hj : (j : Int) < 4000
    · obtain ⟨h', he⟩ := ih (j + 1) (Go.bits .and .i64 (wrap64 ((wrap64 ((wrap64 (h * 137)) + (wrap64 (rd b (j : Int))))) + 11)) 1073741823) (by omega)
      refine ⟨h', ?_⟩
      refine Ev.step (fun k => by rw [spec_l1New.l0]) ?_
      refine evPos (by omega) (evPos hj (evPos (by omega) ?_))
      rw [wsucc (by omega)]
      exact he
    · exact ⟨h, Ev.step (fun k => by rw [spec_l1New.l0]) (evPos (by omega) (evNeg hj (Ev.now _)))⟩
theorem l1New_ev (b : List Int) (hb : b.length ≤ 9223372036854775806) : ∃ h, Ev (fun k => spec_l1New.f k b) (b, 0, h) ∧ cur b 0 := by
  obtain ⟨h, he⟩ := l1New_l0 b hb b.length 0 (wrap64 (193017 + (b.length : Int))) (by omega)
  exact ⟨h, he, by omega, by omega, by omega⟩
theorem l1Byte_eq (b : List Int) (i h : Int) (hc : cur b i) : ∃ v i' h', spec_l1Byte.f b i h = some (v, i', h') ∧ cur b i' ∧ 0 ≤ v ∧ v ≤ 255 := by
  obtain ⟨h1, h2, h3⟩ := hc
  unfold spec_l1Byte.f
  by_cases hi : i < (b.length : Int)
  · rw [if_pos hi, if_pos h2]
    have ha := and255 (wrap64 ((Go.bits .and .i64 (Go.bits .xor .i64 ((wrap64 ((wrap64 (h * 6364136223846793005)) + 1442695040888963407)) / 8589934592) ((wrap64 ((wrap64 (h * 6364136223846793005)) + 1442695040888963407)) / 140737488355328)) 255) + (wrap64 (rd b i))))
    refine ⟨_, _, _, rfl, ⟨h1, ?_, ?_⟩, ha.1, ha.2⟩
    · rw [w64 (by omega) (by omega)]
      omega
    · rw [w64 (by omega) (by omega)]
      omega
  · rw [if_neg hi]
    have ha := and255 (Go.bits .xor .i64 ((wrap64 ((wrap64 (h * 6364136223846793005)) + 1442695040888963407)) / 8589934592) ((wrap64 ((wrap64 (h * 6364136223846793005)) + 1442695040888963407)) / 140737488355328))
    exact ⟨_, _, _, rfl, ⟨h1, h2, h3⟩, ha.1, ha.2⟩
theorem l1Below_eq (b : List Int) (i h n : Int) (hc : cur b i) (hn : 1 ≤ n) : ∃ v i' h', spec_l1Below.f b i h n = some (v, i', h') ∧ cur b i' ∧ 0 ≤ v ∧ v < n := by
  unfold spec_l1Below.f
  rw [if_neg (by omega)]
  obtain ⟨v1, i1, h1, e1, c1, p1, q1⟩ := l1Byte_eq b i h hc
  by_cases hs : n ≤ 256
  · rw [if_pos hs, e1]
    have hr := tmod_range hn p1
    exact ⟨_, _, _, by rw [Option.bind_some, if_neg (by omega)], c1, hr.1, hr.2⟩
  · obtain ⟨v2, i2, h2, e2, c2, p2, q2⟩ := l1Byte_eq b i1 h1 c1
    obtain ⟨v3, i3, h3, e3, c3, p3, q3⟩ := l1Byte_eq b i2 h2 c2
    rw [if_neg hs, e1, Option.bind_some, e2, Option.bind_some, e3, Option.bind_some, if_neg (by omega)]
    dsimp only
    rw [w64 (n := v1 * 65536) (by omega) (by omega), w64 (n := v2 * 256) (by omega) (by omega), w64 (n := v1 * 65536 + v2 * 256) (by omega) (by omega), w64 (n := v1 * 65536 + v2 * 256 + v3) (by omega) (by omega)]
    have hr := tmod_range (a := v1 * 65536 + v2 * 256 + v3) hn (by omega)
    exact ⟨_, _, _, rfl, c3, hr.1, hr.2⟩
theorem l1Below_zero (b : List Int) (i h n : Int) (hn : n ≤ 0) : spec_l1Below.f b i h n = some (0, i, h) := by
  unfold spec_l1Below.f
  rw [if_pos hn]
theorem l1Int_eq (b : List Int) (i h : Int) (l : List Int) (hc : cur b i) (hl : l ≠ []) : ∃ v i' h', spec_l1Int.f b i h l = some (v, i', h') ∧ cur b i' ∧ v ∈ l := by
  have hp : 0 < l.length := List.length_pos_iff.2 hl
  obtain ⟨v, i', h', e, c, p, q⟩ := l1Below_eq b i h (l.length : Int) hc (by omega)
  unfold spec_l1Int.f
  rw [e, Option.bind_some, if_pos p, if_pos q]
  refine ⟨_, _, _, rfl, c, ?_⟩
  have hv : v.toNat < l.length := by omega
  have : rd l v = l[v.toNat] := by simp [rd, hv]
  rw [this]
  exact List.getElem_mem hv
theorem l1Once_eq (b : List Int) (i h n : Int) (hc : cur b i) (hn : 1 ≤ n) : ∃ v i' h', spec_l1Once.f b i h n = some (v, i', h') ∧ cur b i' := by
  obtain ⟨v, i', h', e, c, _⟩ := l1Below_eq b i h n hc hn
  unfold spec_l1Once.f
  rw [e]
  exact ⟨_, _, _, rfl, c⟩
theorem big_eq (l : List Int) : laws_big.f l = some (decide ((l.length : Int) > 1048576)) := rfl
/-! ### small -/
/-! ### inrange -/
theorem impl_InRange_eq (a b c : Int) : impl_InRange.f a b c = some (decide (b ≤ a ∧ a ≤ c)) := by
  unfold impl_InRange.f
  by_cases h : b ≤ a
  · rw [if_pos h]
    simp [h]
  · rw [if_neg h]
    simp [h]
/-! ### allin -/
theorem impl_allIn_l0 (lo hi : Int) : ∀ (suf pre : List Int), (pre ++ suf).length ≤ 1048576 →
    Ev (fun k => impl_allIn.l0 k lo hi (pre ++ suf) ((pre ++ suf).length : Int) (pre.length : Int)) (suf.all fun x => decide (lo ≤ x ∧ x ≤ hi)) := by
  intro suf
  induction suf with
  | nil =>
    intro pre hb
    refine Ev.step (fun k => by rw [impl_allIn.l0]) ?_
    exact evNeg (by simp) (Ev.now _)
  | cons x suf ih =>
    intro pre hb
    simp only [List.length_append, List.length_cons] at hb
    refine Ev.step (fun k => by rw [impl_allIn.l0]) ?_
    refine evPos (by simp only [List.length_append, List.length_cons]; omega) (evPos (by omega) (evPos (by simp only [List.length_append, List.length_cons]; omega) ?_))
    rw [rd_mid, wsucc (by omega)]
    refine evSome (impl_InRange_eq _ _ _) ?_
    by_cases hx : lo ≤ x ∧ x ≤ hi
    · refine evPos (by simp [hx]) ?_
      have h := ih (pre ++ [x]) (by simp; omega)
      refine evEq ?_ (Ev.congr (fun k => ?_) h)
      · simp [hx]
      · simp
    · refine evNeg (by simpa using hx) (evEq ?_ (Ev.now _))
      simp [hx]
theorem impl_allIn_ev (l : List Int) (lo hi : Int) (hl : l.length ≤ 1048576) : Ev (fun k => impl_allIn.f k l lo hi) (l.all fun x => decide (lo ≤ x ∧ x ≤ hi)) := by
  have h := impl_allIn_l0 lo hi l [] (by simpa using hl)
  simpa [impl_allIn.f] using h
/-! ### trial -/
def trialB (l : List Int) : Bool := decide (3 ≤ l.length ∧ l.length ≤ 16) && l.all fun x => decide (0 ≤ x ∧ x ≤ 100000)
theorem impl_isTrial_ev (l : List Int) (hl : l.length ≤ 1048576) : Ev (fun k => impl_isTrial.f k l) (trialB l) := by
  unfold impl_isTrial.f
  by_cases h3 : (l.length : Int) ≥ 3
  · refine evPos h3 ?_
    by_cases h16 : (l.length : Int) ≤ 16
    · refine Ev.bind (show Ev (fun k => impl_isSeries.f k l) (l.all fun x => decide (0 ≤ x ∧ x ≤ 100000)) from ?_) (evEq ?_ (Ev.now _))
      · unfold impl_isSeries.f
        exact evPos h16 (Ev.bind (impl_allIn_ev l 0 100000 hl) (Ev.now _))
      · have : 3 ≤ l.length ∧ l.length ≤ 16 := by omega
        simp [trialB, this]
    · refine Ev.bind (show Ev (fun k => impl_isSeries.f k l) false from ?_) (evEq ?_ (Ev.now _))
      · unfold impl_isSeries.f
        exact evNeg h16 (Ev.now _)
      · have : ¬ (3 ≤ l.length ∧ l.length ≤ 16) := by omega
        simp [trialB, this]
  · refine evNeg h3 (evEq ?_ (Ev.now _))
    have : ¬ (3 ≤ l.length ∧ l.length ≤ 16) := by omega
    simp [trialB, this]
theorem trialB_len {l : List Int} (h : trialB l = true) : 3 ≤ l.length ∧ l.length ≤ 16 := by
  simp only [trialB, Bool.and_eq_true, decide_eq_true_eq] at h
  exact h.1
theorem medV_range {l : List Int} (h : trialB l = true) : 0 ≤ medV l ∧ medV l ≤ 100000 := by
  have hl := trialB_len h
  simp only [trialB, Bool.and_eq_true, List.all_eq_true, decide_eq_true_eq] at h
  unfold medV
  rw [if_neg (by omega)]
  have hs : (srtd l).length = l.length := List.length_mergeSort l
  have hi : l.length / 2 < (srtd l).length := by omega
  rw [List.getD_eq_getElem?_getD, List.getElem?_eq_getElem hi]
  have hm : (srtd l)[l.length / 2] ∈ l := (List.mergeSort_perm l _).mem_iff.1 (List.getElem_mem hi)
  exact h.2 _ hm
theorem impl_MedianOf_eq (l : List Int) (hl : l.length ≤ 1048576) : impl_MedianOf.f l = some (medV l) := by
  unfold impl_MedianOf.f
  rw [if_pos hl]
def betB (a b : List Int) (g : Int) : Bool := trialB a && trialB b && decide (0 ≤ g ∧ g ≤ 100000) && decide (medV b ≤ medV a - g)
def worB (a b : List Int) (g : Int) : Bool := trialB a && trialB b && decide (0 ≤ g ∧ g ≤ 100000) && decide (medV b > medV a + g)
theorem trial_walk {fa : Nat → Option Bool} {fb : Nat → Option Bool} {st : Option Bool} (a b : List Int) (g : Int) (p : Bool) {T : Option Bool} (ha : Ev fa (trialB a)) (hb : Ev fb (trialB b)) (hs : st = some (decide (0 ≤ g ∧ g ≤ 100000))) (ht : trialB a = true → trialB b = true → (0 ≤ g ∧ g ≤ 100000) → T = some p) :
    Ev (fun k => (fa k).bind fun x => if x = true then (fb k).bind fun y => if y = true then st.bind fun z => if z = true then T else some false else some false else some false) (trialB a && trialB b && decide (0 ≤ g ∧ g ≤ 100000) && p) := by
  refine Ev.bind ha ?_
  by_cases h1 : trialB a = true
  · refine evPos h1 (Ev.bind hb ?_)
    by_cases h2 : trialB b = true
    · refine evPos h2 (evSome hs ?_)
      by_cases h3 : 0 ≤ g ∧ g ≤ 100000
      · refine evPos (by simp [h3]) ?_
        rw [ht h1 h2 h3]
        refine evEq ?_ (Ev.now _)
        simp [h1, h2, h3]
      · refine evNeg (by simpa using h3) (evEq ?_ (Ev.now _))
        simp [h3]
    · refine evNeg h2 (evEq ?_ (Ev.now _))
      simp [h2]
  · refine evNeg h1 (evEq ?_ (Ev.now _))
    simp [h1]
theorem impl_IsBetter_ev (a b : List Int) (g : Int) (ha : a.length ≤ 1048576) (hb : b.length ≤ 1048576) : Ev (fun k => impl_IsBetter.f k a b g) (betB a b g) := by
  unfold impl_IsBetter.f
  refine trial_walk a b g _ (impl_isTrial_ev a ha) (impl_isTrial_ev b hb) (impl_InRange_eq g 0 100000) (fun h1 h2 h3 => ?_)
  have m1 := medV_range h1
  have m2 := medV_range h2
  rw [impl_MedianOf_eq a ha, impl_MedianOf_eq b hb]
  simp only [Option.bind_some]
  rw [w64 (by omega) (by omega)]
theorem impl_IsWorse_ev (a b : List Int) (g : Int) (ha : a.length ≤ 1048576) (hb : b.length ≤ 1048576) : Ev (fun k => impl_IsWorse.f k a b g) (worB a b g) := by
  unfold impl_IsWorse.f
  refine trial_walk a b g _ (impl_isTrial_ev a ha) (impl_isTrial_ev b hb) (impl_InRange_eq g 0 100000) (fun h1 h2 h3 => ?_)
  have m1 := medV_range h1
  have m2 := medV_range h2
  rw [impl_MedianOf_eq a ha, impl_MedianOf_eq b hb]
  simp only [Option.bind_some]
  rw [w64 (by omega) (by omega)]
/-! ### szints -/
def leftI (l : List Int) (a : Int) : Int := if a - (l.length : Int) < 0 then -1 else a - (l.length : Int)
/-! ### ints -/
/-! ### intss -/
/-- What is left of a behind the lists' own lengths and the list's length; -1 where it is not enough. -/
def leftR : List (List Int) → Int → Int
  | [], a => a
  | r :: rs, a => if leftI r a < 0 then -1 else leftR rs (leftI r a)
def leftII (l : List (List Int)) (a : Int) : Int := if a - (l.length : Int) < 0 then -1 else leftR l (a - (l.length : Int))
theorem leftR_rows : ∀ (l : List (List Int)) (a : Int), 0 ≤ leftR l a → 0 ≤ a → a ≤ 1048576 → (∀ r ∈ l, r.length ≤ 1048576)
  | [], _, _, _, _ => by simp
  | r :: rs, a, h, h0, h1 => by
    unfold leftR at h
    split at h
    · omega
    · rename_i hx
      have hx' : 0 ≤ leftI r a := by omega
      have hrl : r.length ≤ 1048576 ∧ leftI r a ≤ 1048576 := by
        unfold leftI at hx' ⊢
        split at hx' <;> split <;> omega
      intro q hq
      rcases List.mem_cons.1 hq with rfl | hq
      · exact hrl.1
      · exact leftR_rows rs _ h hx' hrl.2 q hq
/-- Rows that may be examined. -/
def okII (l : List (List Int)) : Prop := l.length ≤ 1048576 ∧ ∀ r ∈ l, r.length ≤ 1048576
theorem leftII_ok {l : List (List Int)} (h : 0 ≤ leftII l 1048576) : okII l := by
  unfold leftII at h
  split at h
  · omega
  · exact ⟨by omega, leftR_rows l _ h (by omega) (by omega)⟩
/-! ### decide -/
theorem leftR_le : ∀ (l : List (List Int)) (a : Int), a ≤ 1048576 → leftR l a ≤ 1048576
  | [], _, h => h
  | r :: rs, a, h => by
    unfold leftR
    split
    · omega
    · refine leftR_le rs _ ?_
      unfold leftI
      split <;> omega
theorem leftII_le (l : List (List Int)) (a : Int) (h : a ≤ 1048576) : leftII l a ≤ 1048576 := by
  unfold leftII
  split
  · omega
  · exact leftR_le l _ (by omega)
theorem leftII_ok' {l : List (List Int)} {a : Int} (ha : a ≤ 1048576) (h : 0 ≤ leftII l a) : okII l := by
  unfold leftII at h
  split at h
  · omega
  · exact ⟨by omega, leftR_rows l _ h (by omega) (by omega)⟩
def allT (zs : List (List Int × List Int)) : Bool := zs.all fun p => trialB p.1 && trialB p.2
def anyW (zs : List (List Int × List Int)) (m : Int) : Bool := zs.any fun p => worB p.1 p.2 m
theorem anyW_cons (p : List Int × List Int) (zs : List (List Int × List Int)) (m : Int) : anyW (p :: zs) m = (worB p.1 p.2 m || anyW zs m) := rfl
theorem allT_cons (p : List Int × List Int) (zs : List (List Int × List Int)) : allT (p :: zs) = (trialB p.1 && trialB p.2 && allT zs) := rfl
def decV (a b : List Int) (xs ys : List (List Int)) (g m : Int) : Int :=
  if (0 ≤ g ∧ g ≤ 100000) ∧ (0 ≤ m ∧ m ≤ 100000) ∧ xs.length = ys.length ∧ trialB a = true ∧ trialB b = true ∧ allT (xs.zip ys) = true then (if anyW (xs.zip ys) m = true then 2 else if betB a b g = true then 1 else 2) else 3
theorem rdz (zs pre suf : List (List Int × List Int)) (p : List Int × List Int) (f : List Int × List Int → List Int) (e : zs = pre ++ p :: suf) : rd_L1 (zs.map f) (pre.length : Int) = f p := by
  subst e
  rw [rd_L1, List.map_append, List.map_cons, getD_mid' _ _ _ _ (by simp)]
theorem impl_DecideTrial_l0 (a b : List Int) (g m : Int) (ha : a.length ≤ 1048576) (hb : b.length ≤ 1048576) : ∀ (suf pre : List (List Int × List Int)) (harm : Bool), (pre ++ suf).length ≤ 1048576 → (∀ p ∈ suf, p.1.length ≤ 1048576 ∧ p.2.length ≤ 1048576) →
    Ev (fun k => impl_DecideTrial.l0 k a b ((pre ++ suf).map (·.1)) ((pre ++ suf).map (·.2)) g m harm (((pre ++ suf).map (·.1)).length : Int) (pre.length : Int)) (if allT suf = true then (if (harm || anyW suf m) = true then 2 else if betB a b g = true then 1 else 2) else 3) := by
  intro suf
  induction suf with
  | nil =>
    intro pre harm hl hs
    refine Ev.step (fun k => by rw [impl_DecideTrial.l0]) ?_
    refine evNeg (by simp) (Ev.bind (impl_IsBetter_ev a b g ha hb) ?_)
    by_cases h : betB a b g = true
    · refine evPos h ?_
      by_cases h2 : harm = true
      · exact evPos h2 (evEq (by simp [allT, h2]) (Ev.now _))
      · exact evNeg h2 (evEq (by simp [allT, anyW, h2, h]) (Ev.now _))
    · exact evNeg h (evEq (by simp [allT, anyW, h]) (Ev.now _))
  | cons p suf ih =>
    intro pre harm hl hs
    have h0 := hs p (by simp)
    simp only [List.length_append, List.length_cons] at hl
    refine Ev.step (fun k => by rw [impl_DecideTrial.l0]) ?_
    refine evPos (by simp only [List.length_map, List.length_append, List.length_cons]; omega) (evPos (by omega) (evPos (by simp only [List.length_map, List.length_append, List.length_cons]; omega) ?_))
    rw [rdz _ pre suf p (·.1) rfl, rdz _ pre suf p (·.2) rfl, wsucc (by omega)]
    refine Ev.bind (impl_isTrial_ev p.1 h0.1) ?_
    by_cases h1 : trialB p.1 = true
    · refine evPos h1 (evPos (by simp only [List.length_map, List.length_append, List.length_cons]; omega) (Ev.bind (impl_isTrial_ev p.2 h0.2) ?_))
      by_cases h2 : trialB p.2 = true
      · refine evPos h2 ?_
        by_cases h4 : harm = true
        · refine evPos h4 ?_
          have h3 := ih (pre ++ [p]) true (by simp; omega) (fun q hq => hs q (by simp [hq]))
          refine evEq ?_ (Ev.congr (fun k => ?_) h3)
          · rw [allT_cons, h1, h2, h4]; simp only [Bool.true_or, Bool.and_self, Bool.true_and]
          · simp
        · refine evNeg h4 (Ev.bind (impl_IsWorse_ev p.1 p.2 m h0.1 h0.2) ?_)
          have h3 := ih (pre ++ [p]) (worB p.1 p.2 m) (by simp; omega) (fun q hq => hs q (by simp [hq]))
          refine evEq ?_ (Ev.congr (fun k => ?_) h3)
          · rw [allT_cons, anyW_cons, h1, h2, show harm = false by simpa using h4]; simp only [Bool.false_or, Bool.and_self, Bool.true_and]
          · simp
      · exact evNeg h2 (evEq (by simp [allT, h2]) (Ev.now _))
    · exact evNeg h1 (evEq (by simp [allT, h1]) (Ev.now _))
theorem zip_fst : ∀ (xs ys : List (List Int)), xs.length = ys.length → (xs.zip ys).map (·.1) = xs
  | [], [], _ => rfl
  | [], _ :: _, h => by simp at h
  | _ :: _, [], h => by simp at h
  | x :: xs, y :: ys, h => by simp [zip_fst xs ys (by simpa using h)]
theorem zip_snd : ∀ (xs ys : List (List Int)), xs.length = ys.length → (xs.zip ys).map (·.2) = ys
  | [], [], _ => rfl
  | [], _ :: _, h => by simp at h
  | _ :: _, [], h => by simp at h
  | x :: xs, y :: ys, h => by simp [zip_snd xs ys (by simpa using h)]
theorem zip_ok {xs ys : List (List Int)} (hx : ∀ r ∈ xs, r.length ≤ 1048576) (hy : ∀ r ∈ ys, r.length ≤ 1048576) : ∀ p ∈ xs.zip ys, p.1.length ≤ 1048576 ∧ p.2.length ≤ 1048576 := by
  intro p hp
  obtain ⟨p1, p2⟩ := p
  have := List.of_mem_zip hp
  exact ⟨hx _ this.1, hy _ this.2⟩
theorem impl_DecideTrial_ev (a b : List Int) (xs ys : List (List Int)) (g m : Int) (ha : a.length ≤ 1048576) (hb : b.length ≤ 1048576) (hxl : xs.length ≤ 1048576) (hyl : ys.length ≤ 1048576) (hx : ∀ r ∈ xs, r.length ≤ 1048576) (hy : ∀ r ∈ ys, r.length ≤ 1048576) :
    Ev (fun k => impl_DecideTrial.f k a b xs ys g m) (decV a b xs ys g m) := by
  have bad : Ev (fun k => impl_DecideTrial.j0 k a b xs ys g m true) 3 :=
    Ev.step (fun k => by rw [impl_DecideTrial.j0]) (evPos rfl (Ev.now _))
  unfold impl_DecideTrial.f
  refine evSome (impl_InRange_eq g 0 100000) ?_
  by_cases h1 : 0 ≤ g ∧ g ≤ 100000
  · refine evPos (by simp [h1]) (evSome (impl_InRange_eq m 0 100000) ?_)
    by_cases h2 : 0 ≤ m ∧ m ≤ 100000
    · refine evPos (by simp [h2]) ?_
      by_cases h3 : xs.length = ys.length
      · refine evPos (by omega) (Ev.bind (impl_isTrial_ev a ha) ?_)
        by_cases h4 : trialB a = true
        · refine evPos h4 (Ev.bind (impl_isTrial_ev b hb) ?_)
          by_cases h5 : trialB b = true
          · rw [h5]
            refine Ev.step (fun k => by rw [impl_DecideTrial.j0]) (evNeg (by simp) ?_)
            have h := impl_DecideTrial_l0 a b g m ha hb (xs.zip ys) [] false (by simp; omega) (by simpa using zip_ok hx hy)
            rw [List.nil_append, zip_fst xs ys h3, zip_snd xs ys h3] at h
            refine evEq ?_ h
            simp [decV, h1, h2, h3, h4, h5]
          · rw [show trialB b = false by simpa using h5]
            exact evEq (by simp [decV, h5]) bad
        · exact evNeg h4 (evEq (by simp [decV, h4]) bad)
      · exact evNeg (by omega) (evEq (by simp [decV, h3]) bad)
    · exact evNeg (by simpa using h2) (evEq (by simp [decV, h2]) bad)
  · exact evNeg (by simpa using h1) (evEq (by simp [decV, h1]) bad)
/-! ### law_FnTrials -/
theorem l9Raw_eq' (b : List Int) (i h : Int) (hc : cur b i) : ∃ v i' h', spec_l9Raw.f b i h = some (v, i', h') ∧ cur b i' := by
  obtain ⟨t, i1, h1, e1, c1⟩ := l1Once_eq b i h 6 hc (by omega)
  unfold spec_l9Raw.f
  rw [e1, Option.bind_some]
  cases t with
  | true =>
    obtain ⟨v, i2, h2, e2, c2, _⟩ := l1Int_eq b i1 h1 [(-1), 0, 100000, 100001, (-100000), (-100001), 9223372036854775807, (-9223372036854775808)] c1 (by simp)
    exact ⟨_, _, _, by rw [if_pos rfl, e2]; rfl, c2⟩
  | false =>
    obtain ⟨v, i2, h2, e2, c2, _⟩ := l1Below_eq b i1 h1 60 c1 (by omega)
    exact ⟨_, _, _, by rw [if_neg (by simp), e2]; rfl, c2⟩
theorem l27Draw_l0 (b : List Int) (x4 : Int) : ∀ (d : Nat) (out : List Int) (i h : Int), cur b i → out.length + d ≤ 6 →
    ∃ r i' h', Ev (fun k => spec_l27Draw.l0 k out x4 (d : Int) b i h) (r, i', h') ∧ cur b i' ∧ r.length = out.length + d := by
  intro d
  induction d with
  | zero =>
    intro out i h hc hl
    exact ⟨_, _, _, Ev.step (fun k => by rw [spec_l27Draw.l0]) (evNeg (by omega) (Ev.now _)), hc, rfl⟩
  | succ d ih =>
    intro out i h hc hl
    obtain ⟨v, i1, h1, e1, c1, p1, q1⟩ := l1Below_eq b i h 9 hc (by omega)
    obtain ⟨r, i', h', he, hc', hr⟩ := ih (out ++ [wrap64 (x4 + v)]) i1 h1 c1 (by simp; omega)
    refine ⟨r, i', h', ?_, hc', by rw [hr]; simp; omega⟩
    refine Ev.step (fun k => by rw [spec_l27Draw.l0]) ?_
    refine evPos (by omega) (evSome e1 (evPos (by omega) ?_))
    rw [w64 (n := ((d + 1 : Nat) : Int) - 1) (by omega) (by omega), show ((d + 1 : Nat) : Int) - 1 = (d : Int) by omega]
    exact he
theorem l27Draw_ev (b : List Int) (i h : Int) (hc : cur b i) : ∃ r i' h', Ev (fun k => spec_l27Draw.f k b i h) (r, i', h') ∧ cur b i' ∧ 2 ≤ r.length ∧ r.length ≤ 6 := by
  obtain ⟨v, i1, h1, e1, c1, p1, q1⟩ := l1Below_eq b i h 30 hc (by omega)
  obtain ⟨v2, i2, h2, e2, c2, p2, q2⟩ := l1Below_eq b i1 h1 5 c1 (by omega)
  obtain ⟨r, i', h', he, hc', hr⟩ := l27Draw_l0 b (wrap64 (10 + v)) (2 + v2).toNat [] i2 h2 c2 (by simp; omega)
  simp only [List.length_nil] at hr
  refine ⟨r, i', h', ?_, hc', by omega, by omega⟩
  unfold spec_l27Draw.f
  refine evSome e1 (evSome e2 ?_)
  rw [w64 (n := 2 + v2) (by omega) (by omega), show 2 + v2 = ((2 + v2).toNat : Int) by omega]
  exact he
theorem drawIsBetter_ev (b : List Int) (hb : b.length ≤ 1048576) : ∃ x y g, Ev (fun k => spec_DrawIsBetter.f k b) (x, y, g) ∧ (2 ≤ x.length ∧ x.length ≤ 6) ∧ y.length ≤ 6 := by
  obtain ⟨h0, e0, c0⟩ := l1New_ev b (by omega)
  obtain ⟨r, i1, h1, e1, c1, r1, r2⟩ := l27Draw_ev b 0 h0 c0
  obtain ⟨s, i2, h2, e2, c2, s1, s2⟩ := l27Draw_ev b i1 h1 c1
  obtain ⟨g, i3, h3, e3, c3, _⟩ := l1Int_eq b i2 h2 [0, 1, 5, 20, (-1), 100001] c2 (by simp)
  exact ⟨r, s, g, Ev.bind e0 (Ev.bind e1 (Ev.bind e2 (evSome e3 (Ev.now _)))), ⟨r1, r2⟩, s2⟩
def okD (x y : List Int) (xs ys : List (List Int)) : Prop := x.length ≤ 6 ∧ y.length ≤ 6 ∧ xs.length ≤ 3 ∧ ys.length ≤ 3 ∧ (∀ r ∈ xs, r.length ≤ 6) ∧ (∀ r ∈ ys, r.length ≤ 6)
theorem drawDecide_j1 (b x y : List Int) (g : Int) (hx : 2 ≤ x.length ∧ x.length ≤ 6) (hy : y.length ≤ 6) (xs ys : List (List Int)) (h1 : xs.length ≤ 3) (h2 : ys.length ≤ 3) (h3 : ∀ r ∈ xs, r.length ≤ 6) (h4 : ∀ r ∈ ys, r.length ≤ 6) (i h : Int) (hc : cur b i) :
    ∃ x' xs' ys' g' m, Ev (fun k => spec_DrawDecideTrial.j1 k x y g xs ys b i h) (x', y, xs', ys', g', m) ∧ okD x' y xs' ys' := by
  obtain ⟨t, i1, h1', e1, c1⟩ := l1Once_eq b i h 8 hc (by omega)
  cases t with
  | true =>
    obtain ⟨v, i2, h2', e2, c2⟩ := l9Raw_eq' b i1 h1' c1
    obtain ⟨m, i3, h3', e3, c3, _⟩ := l1Int_eq b i2 h2' [0, 5, 50, 50, (-1)] c2 (by simp)
    refine ⟨x.set (0 : Int).toNat v, xs, ys, g, m, ?_, by rw [List.length_set]; exact hx.2, hy, h1, h2, h3, h4⟩
    have hx0 : (0 : Int) < (x.length : Int) := by omega
    refine Ev.step (fun k => by rw [spec_DrawDecideTrial.j1]) ?_
    refine evSome e1 (evPos rfl ?_)
    refine evSome e2 (evPos hx0 ?_)
    refine evSome e3 ?_
    exact Ev.now _
  | false =>
    obtain ⟨m, i3, h3', e3, c3, _⟩ := l1Int_eq b i1 h1' [0, 5, 50, 50, (-1)] c1 (by simp)
    refine ⟨x, xs, ys, g, m, ?_, hx.2, hy, h1, h2, h3, h4⟩
    refine Ev.step (fun k => by rw [spec_DrawDecideTrial.j1]) ?_
    refine evSome e1 (evNeg Bool.false_ne_true ?_)
    refine evSome e3 ?_
    exact Ev.now _
theorem drawDecide_l0 (b x y : List Int) (g : Int) (hx : 2 ≤ x.length ∧ x.length ≤ 6) (hy : y.length ≤ 6) : ∀ (d : Nat) (xs ys : List (List Int)) (i h : Int), cur b i → xs.length + d ≤ 2 → ys.length + d ≤ 2 → (∀ r ∈ xs, r.length ≤ 6) → (∀ r ∈ ys, r.length ≤ 6) →
    ∃ x' xs' ys' g' m, Ev (fun k => spec_DrawDecideTrial.l0 k x y g xs ys (d : Int) b i h) (x', y, xs', ys', g', m) ∧ okD x' y xs' ys' := by
  intro d
  induction d with
  | zero =>
    intro xs ys i h hc h1 h2 h3 h4
    have hd0 : ¬ ((0 : Nat) : Int) > 0 := by omega
    obtain ⟨t, i1, h1', e1, c1⟩ := l1Once_eq b i h 8 hc (by omega)
    cases t with
    | true =>
      obtain ⟨r, i2, h2', e2, c2, r1, r2⟩ := l27Draw_ev b i1 h1' c1
      obtain ⟨x', xs', ys', g', m, he, hok⟩ := drawDecide_j1 b x y g hx hy xs (ys ++ [r]) (by omega) (by simp; omega) h3 (by
        intro q hq
        rcases List.mem_append.1 hq with hq | hq
        · exact h4 q hq
        · rw [List.mem_singleton.1 hq]; exact r2) i2 h2' c2
      refine ⟨x', xs', ys', g', m, ?_, hok⟩
      have hys : ys.length < 5864062014805 := by omega
      exact Ev.step (fun k => by rw [spec_DrawDecideTrial.l0]) (evNeg hd0 (evSome e1 (evPos rfl (Ev.bind e2 (evPos hys he)))))
    | false =>
      obtain ⟨x', xs', ys', g', m, he, hok⟩ := drawDecide_j1 b x y g hx hy xs ys (by omega) (by omega) h3 h4 i1 h1' c1
      refine ⟨x', xs', ys', g', m, ?_, hok⟩
      exact Ev.step (fun k => by rw [spec_DrawDecideTrial.l0]) (evNeg hd0 (evSome e1 (evNeg Bool.false_ne_true he)))
  | succ d ih =>
    intro xs ys i h hc h1 h2 h3 h4
    obtain ⟨r, i1, h1', e1, c1, r1, r2⟩ := l27Draw_ev b i h hc
    obtain ⟨s, i2, h2', e2, c2, s1, s2⟩ := l27Draw_ev b i1 h1' c1
    obtain ⟨x', xs', ys', g', m, he, hok⟩ := ih (xs ++ [r]) (ys ++ [s]) i2 h2' c2 (by simp; omega) (by simp; omega) (by
        intro q hq
        rcases List.mem_append.1 hq with hq | hq
        · exact h3 q hq
        · rw [List.mem_singleton.1 hq]; exact r2) (by
        intro q hq
        rcases List.mem_append.1 hq with hq | hq
        · exact h4 q hq
        · rw [List.mem_singleton.1 hq]; exact s2)
    refine ⟨x', xs', ys', g', m, ?_, hok⟩
    have hxs : xs.length < 5864062014805 := by omega
    have hys : ys.length < 5864062014805 := by omega
    have hd0 : ((d + 1 : Nat) : Int) > 0 := by omega
    refine Ev.step (fun k => by rw [spec_DrawDecideTrial.l0]) (evPos hd0 (Ev.bind e1 (evPos hxs (Ev.bind e2 (evPos hys ?_)))))
    rw [w64 (n := ((d + 1 : Nat) : Int) - 1) (by omega) (by omega), show ((d + 1 : Nat) : Int) - 1 = (d : Int) by omega]
    exact he
theorem drawDecide_ev (b : List Int) (hb : b.length ≤ 1048576) : ∃ x y xs ys g m, Ev (fun k => spec_DrawDecideTrial.f k b) (x, y, xs, ys, g, m) ∧ okD x y xs ys := by
  obtain ⟨x, y, g, e0, hx, hy⟩ := drawIsBetter_ev b hb
  obtain ⟨h1, e1, c1⟩ := l1New_ev b (by omega)
  obtain ⟨v, i2, h2, e2, c2, p2, q2⟩ := l1Below_eq b 0 h1 3 c1 (by omega)
  obtain ⟨x', xs', ys', g', m, he, hok⟩ := drawDecide_l0 b x y g hx hy v.toNat [] [] i2 h2 c2 (by simp; omega) (by simp; omega) (by simp) (by simp)
  rw [show ((v.toNat : Nat) : Int) = v by omega] at he
  exact ⟨x', y, xs', ys', g', m, Ev.bind e0 (Ev.bind e1 (evSome e2 he)), hok⟩
theorem trials_end (b : List Int) (hb : b.length ≤ 1048576) (xs ys : List (List Int)) (m n j : Int) : Ev (fun k => laws_FnTrials.j3 k b xs ys m n j false) true := by
  obtain ⟨x, y, g, e0, hx, hy⟩ := drawIsBetter_ev b hb
  refine Ev.step (fun k => by rw [laws_FnTrials.j3]) (evNeg (by simp) (Ev.bind e0 (Ev.bind (impl_IsBetter_ev x y g (by omega) (by omega)) ?_)))
  by_cases hbt : betB x y g = true
  · refine evPos hbt (Ev.bind (impl_IsWorse_ev x y g (by omega) (by omega)) (evEq ?_ (Ev.now _)))
    simp only [betB, Bool.and_eq_true, decide_eq_true_eq] at hbt
    have : ¬ (medV y > medV x + g) := by omega
    simp [worB, this]
  · exact evNeg hbt (Ev.now _)
theorem trials_l0 (b : List Int) (hb : b.length ≤ 1048576) (m : Int) : ∀ (suf pre : List (List Int × List Int)), (pre ++ suf).length ≤ 1048576 → (∀ p ∈ suf, p.1.length ≤ 1048576 ∧ p.2.length ≤ 1048576) → anyW suf m = false →
    Ev (fun k => laws_FnTrials.l0 k b ((pre ++ suf).map (·.1)) ((pre ++ suf).map (·.2)) m 1 (pre.length : Int)) true := by
  intro suf
  induction suf with
  | nil =>
    intro pre hl hs hw
    exact Ev.step (fun k => by rw [laws_FnTrials.l0]) (evNeg (by simp) (trials_end b hb _ _ _ _ _))
  | cons p suf ih =>
    intro pre hl hs hw
    have h0 := hs p (by simp)
    have hw' : worB p.1 p.2 m = false ∧ anyW suf m = false := by simpa [anyW] using hw
    simp only [List.length_append, List.length_cons] at hl
    refine Ev.step (fun k => by rw [laws_FnTrials.l0]) ?_
    refine evPos (by simp only [List.length_map, List.length_append, List.length_cons]; omega) ?_
    refine Ev.step (fun k => by rw [laws_FnTrials.j3]) ?_
    refine evPos rfl (evPos (by omega) (evPos (by simp only [List.length_map, List.length_append, List.length_cons]; omega) (evPos (by simp only [List.length_map, List.length_append, List.length_cons]; omega) ?_)))
    rw [rdz _ pre suf p (·.1) rfl, rdz _ pre suf p (·.2) rfl, wsucc (by omega)]
    refine Ev.bind (impl_IsWorse_ev p.1 p.2 m h0.1 h0.2) (evNeg (by rw [hw'.1]; simp) ?_)
    have h2 := ih (pre ++ [p]) (by simp; omega) (fun q hq => hs q (by simp [hq])) hw'.2
    refine Ev.congr (fun k => ?_) h2
    simp
theorem FnTrials : laws_FnTrials.PureR := by
  intro b h
  refine Ev.rounds ?_
  unfold laws_FnTrials.f
  refine evSome (big_eq b) ?_
  by_cases hb : (b.length : Int) > 1048576
  · exact evPos (by simp [hb]) (Ev.now _)
  have hb' : b.length ≤ 1048576 := by omega
  obtain ⟨x, y, xs, ys, g, m, e, hok⟩ := drawDecide_ev b hb'
  obtain ⟨o1, o2, o3, o4, o5, o6⟩ := hok
  refine evNeg (by simpa using hb) (Ev.bind e (Ev.bind (impl_DecideTrial_ev x y xs ys g m (by omega) (by omega) (by omega) (by omega) (fun r hr => by have := o5 r hr; omega) (fun r hr => by have := o6 r hr; omega)) ?_))
  obtain ⟨n, hn⟩ : ∃ n, n = decV x y xs ys g m := ⟨_, rfl⟩
  rw [← hn]
  have hn3 : n = 1 ∨ n = 2 ∨ n = 3 := by
    rw [hn]; unfold decV
    (repeat' split) <;> simp
  refine evNeg (by omega) (evNeg (by omega) ?_)
  have hname : ∃ s, impl_TrialName.f n = some s ∧ (s.toList == ([] : List UInt8)) = false := by
    rcases hn3 with rfl | rfl | rfl
    · exact ⟨_, rfl, by decide +kernel⟩
    · exact ⟨_, rfl, by decide +kernel⟩
    · exact ⟨_, rfl, by decide +kernel⟩
  obtain ⟨s, es, hs⟩ := hname
  refine evSome es ?_
  rw [hs]
  refine Ev.step (fun k => by rw [laws_FnTrials.j0]) (evNeg (by simp) ?_)
  by_cases h1' : n = 1
  · subst h1'
    have hk := hn.symm
    unfold decV at hk
    split at hk
    · rename_i hc
      obtain ⟨hg, hm, hl, ha, hbb, hall⟩ := hc
      split at hk
      · omega
      · rename_i hw
        split at hk
        · rename_i hbt
          refine evPos rfl (Ev.bind (impl_IsBetter_ev x y g (by omega) (by omega)) ?_)
          rw [hbt]
          refine Ev.step (fun k => by rw [laws_FnTrials.j1]) (evNeg (by simp) ?_)
          have h := trials_l0 b hb' m (xs.zip ys) [] (by simp; omega) (zip_ok (fun r hr => by have := o5 r hr; omega) (fun r hr => by have := o6 r hr; omega)) (by simpa using hw)
          rw [List.nil_append, zip_fst xs ys hl, zip_snd xs ys hl] at h
          exact h
        · omega
    · omega
  · refine evNeg h1' (Ev.step (fun k => by rw [laws_FnTrials.j1]) (evNeg (by simp) (Ev.step (fun k => by rw [laws_FnTrials.l0]) ?_)))
    by_cases hz : (0 : Int) < (xs.length : Int)
    · refine evPos hz ?_
      rw [show (n == 1) = false by simpa using h1']
      exact trials_end b hb' _ _ _ _ _
    · exact evNeg hz (trials_end b hb' _ _ _ _ _)
end Go.Proofs.Ytkimiekgghfoiaa.Pure
