/- The program's AreSeen returns what the reference's returns, and leaves its argument alone: for every list and all bounds. -/
import Derived.Test.YtdhdjlngelcgbaaRFnExactAreSeen
import Derived.Test.YtdhdjlngelcgbaaBase
namespace Go.Proofs.Ytdhdjlngelcgbaa.Pure
open Go.RowKit Go.Proofs.Ytdhdjlngelcgbaa.Base Go.Proofs.Ytdhdjlngelcgbaa.PFnExactAreSeen Go.Proofs.YtdhdjlngelcgbaaW.PrintWords Go.Proofs.YtdhdjlngelcgbaaW.PrintLast
set_option linter.unusedVariables false
set_option linter.unusedSimpArgs false
/-! ### seens -/
def leftL {α : Type} (l : List α) (a : Int) : Int := if a - (l.length : Int) < 0 then -1 else a - (l.length : Int)
theorem szSeenS_eq (l : List S67) (a : Int) (h0 : 0 ≤ a) (h1 : a ≤ 1048576) (hl : l.length ≤ 9223372036854775807) : laws_szSeenS.f l a = some (leftL l a) := by
  unfold laws_szSeenS.f leftL
  rw [w64 (by omega) (by omega)]
  split <;> rfl
theorem leftL_ok {α : Type} {l : List α} (h : 0 ≤ leftL l 1048576) : l.length ≤ 1048576 := by
  unfold leftL at h
  split at h <;> omega
def cvSeen (x : S67) : S65 := ⟨x.f0, x.f1, x.f2, x.f3, x.f4⟩
theorem toSeenS_l0 : ∀ (suf pre : List S67) (rest : List S65), (pre ++ suf).length ≤ 1048576 → rest.length = suf.length →
    Ev (fun k => laws_toSeenS.l0 k (pre ++ suf) (pre.map cvSeen ++ rest) (pre.length : Int)) ((pre ++ suf).map cvSeen) := by
  intro suf
  induction suf with
  | nil =>
    intro pre rest hb hr
    obtain rfl : rest = [] := by simpa using hr
    refine Ev.step (fun k => by rw [laws_toSeenS.l0]) ?_
    refine evNeg (by simp) (evEq ?_ (Ev.now _))
    simp
  | cons x suf ih =>
    intro pre rest hb hr
    obtain ⟨r, rest, rfl⟩ : ∃ r t, rest = r :: t := by
      cases rest with
      | nil => simp at hr
      | cons r t => exact ⟨r, t, rfl⟩
    simp only [List.length_append, List.length_cons] at hb hr
    refine Ev.step (fun k => by rw [laws_toSeenS.l0]) ?_
    refine evPos (by simp only [List.length_append, List.length_cons]; omega) (evPos (by omega) ?_)
    simp only [rd_T67, getD_mid]
    refine evSome rfl (evPos (by simp only [List.length_append, List.length_cons, List.length_map]; omega) ?_)
    rw [wsucc (by omega)]
    have h := ih (pre ++ [x]) rest (by simp; omega) (by omega)
    refine evEq ?_ (Ev.congr (fun k => ?_) h)
    · simp
    · have e : (pre.length : Int) = ((pre.map cvSeen).length : Int) := by simp
      rw [e, set_mid]
      simp [cvSeen]
theorem toSeenS_ev (l : List S67) (hl : l.length ≤ 1048576) : Ev (fun k => laws_toSeenS.f k l) (l.map cvSeen) := by
  unfold laws_toSeenS.f
  refine evPos (by omega) (evPos (by omega) ?_)
  have h := toSeenS_l0 l [] (List.replicate l.length z65) (by simpa using hl) (by simp)
  simpa using h
theorem eqSeen_eq (x : S65) : laws_eqSeen.f x.f0 x.f1 x.f2 x.f3 x.f4 x.f0 x.f1 x.f2 x.f3 x.f4 = some true := by
  simp [laws_eqSeen.f]
theorem eqSeenS_l0 : ∀ (suf pre : List S65), (pre ++ suf).length ≤ 1048576 →
    Ev (fun k => laws_eqSeenS.l0 k (pre ++ suf) (pre ++ suf) (pre.length : Int)) true := by
  intro suf
  induction suf with
  | nil =>
    intro pre hb
    refine Ev.step (fun k => by rw [laws_eqSeenS.l0]) ?_
    exact evNeg (by simp) (Ev.now _)
  | cons x suf ih =>
    intro pre hb
    simp only [List.length_append, List.length_cons] at hb
    refine Ev.step (fun k => by rw [laws_eqSeenS.l0]) ?_
    refine evPos (by simp only [List.length_append, List.length_cons]; omega) (evPos (by omega) (evPos (by simp only [List.length_append, List.length_cons]; omega) ?_))
    simp only [rd_T65, getD_mid]
    refine evSome (eqSeen_eq x) (evPos rfl ?_)
    rw [wsucc (by omega)]
    have h := ih (pre ++ [x]) (by simp; omega)
    simpa using h
theorem eqSeenS_ev (l : List S65) (hl : l.length ≤ 1048576) : Ev (fun k => laws_eqSeenS.f k l l) true := by
  unfold laws_eqSeenS.f
  refine evPos rfl ?_
  have h := eqSeenS_l0 l [] (by simpa using hl)
  simpa using h
/-! ### small -/
theorem spec_l1In_eq (a b c : Int) : spec_l1In.f a b c = some (decide (b ≤ a ∧ a ≤ c)) := by
  unfold spec_l1In.f
  by_cases h : a ≥ b
  · rw [if_pos h]
    simp [show b ≤ a from h]
  · rw [if_neg h]
    have : ¬ b ≤ a := h
    simp [this]
/-! ### inrange -/
theorem impl_InRange_eq (a b c : Int) : impl_InRange.f a b c = some (decide (b ≤ a ∧ a ≤ c)) := by
  unfold impl_InRange.f
  by_cases h : b ≤ a
  · rw [if_pos h]
    simp [h]
  · rw [if_neg h]
    simp [h]
/-! ### at -/
theorem impl_at_eq (a n : Int) : impl_at.f a n = some (decide (0 ≤ a ∧ a < n)) := by
  unfold impl_at.f
  by_cases h : a ≥ 0
  · rw [if_pos h]
    simp [show 0 ≤ a from h]
  · rw [if_neg h]
    have : ¬ 0 ≤ a := h
    simp [this]
/-! ### areseen -/
def snOk (p n : Int) (x : S65) : Bool := decide ((0 ≤ x.f0 ∧ x.f0 < p) ∧ (0 ≤ x.f1 ∧ x.f1 ≤ 5) ∧ (0 ≤ x.f2 ∧ x.f2 ≤ n) ∧ (0 ≤ x.f3 ∧ x.f3 ≤ 1000))
def snBad (x : S65) : Bool := !x.f4 || decide (x.f3 = 0)
def seenF (p n : Int) : Int → List S65 → Bool
  | _, [] => true
  | last, x :: xs => snOk p n x && (snBad x && (decide (last ≤ x.f2) && seenF p n x.f2 xs))
def areSeenB (l : List S65) (p n : Int) : Bool := seenF p n 0 l && decide (l.length ≤ 60)
theorem spec_AreSeen_j1t (l : List S65) (p n i a b c d : Int) (e : Bool) : Ev (fun k => spec_AreSeen.j1 k l p n i true a b c d e) false :=
  Ev.step (fun k => by rw [spec_AreSeen.j1]) (evPos rfl (Ev.now _))
def lastOf (l : List S65) : Int := match l.getLast? with | some q => q.f2 | none => 0
theorem spec_AreSeen_j1f (p n : Int) (pre suf : List S65) (x : S65) (R : Bool) (hb : (pre ++ x :: suf).length ≤ 1048576) (h0 : 0 ≤ x.f2)
    (hk : Ev (fun k => spec_AreSeen.l0 k (pre ++ x :: suf) p n ((pre.length + 1 : Nat) : Int)) R) :
    Ev (fun k => spec_AreSeen.j1 k (pre ++ x :: suf) p n (pre.length : Int) false x.f0 x.f1 x.f2 x.f3 x.f4) (snBad x && (decide (lastOf pre ≤ x.f2) && R)) := by
  simp only [List.length_append, List.length_cons] at hb
  refine Ev.step (fun k => by rw [spec_AreSeen.j1]) ?_
  refine evNeg (by simp) ?_
  have key : Ev (fun k => if (pre.length : Int) > 0 then (if 0 ≤ (wrap64 ((pre.length : Int) - 1)) then (if (wrap64 ((pre.length : Int) - 1)) < ((pre ++ x :: suf).length : Int) then (if ((rd_T65 (pre ++ x :: suf) (wrap64 ((pre.length : Int) - 1))).f2) > x.f2 then (some false) else (spec_AreSeen.l0 k (pre ++ x :: suf) p n (wrap64 ((pre.length : Int) + 1)))) else (none)) else (none)) else (spec_AreSeen.l0 k (pre ++ x :: suf) p n (wrap64 ((pre.length : Int) + 1)))) (decide (lastOf pre ≤ x.f2) && R) := by
    rw [wsucc (by omega), w64 (by omega) (by omega)]
    rcases List.eq_nil_or_concat pre with rfl | ⟨q, y, rfl⟩
    · refine evNeg (by simp) (evEq ?_ hk)
      simp [lastOf, h0]
    · have e1 : ((q ++ [y]).length : Int) - 1 = (q.length : Int) := by simp
      have e2 : (q ++ [y]) ++ x :: suf = q ++ y :: x :: suf := by simp
      have e3 : rd_T65 ((q ++ [y]) ++ x :: suf) (q.length : Int) = y := by rw [rd_T65, e2, getD_mid]
      have e4 : lastOf (q ++ [y]) = y.f2 := by simp [lastOf]
      rw [List.concat_eq_append] at *
      rw [e1, e3, e4]
      refine evPos (by simp <;> omega) (evPos (by omega) (evPos (by simp only [List.length_append, List.length_cons, List.length_nil]; omega) ?_))
      by_cases hc : y.f2 > x.f2
      · refine evPos hc (evEq ?_ (Ev.now _))
        have : decide (y.f2 ≤ x.f2) = false := by simp; omega
        simp [this]
      · refine evNeg hc (evEq ?_ hk)
        have : decide (y.f2 ≤ x.f2) = true := by simp; omega
        simp [this]
  by_cases h4 : x.f4 = true
  · refine evPos h4 ?_
    by_cases h3 : x.f3 = 0
    · refine evPos h3 (evEq ?_ key)
      simp [snBad, h3]
    · refine evNeg h3 (evEq ?_ (Ev.now _))
      simp [snBad, h3, h4]
  · refine evNeg h4 (evEq ?_ key)
    have : x.f4 = false := by simpa using h4
    simp [snBad, this]
theorem spec_AreSeen_l0 (p n : Int) : ∀ (suf pre : List S65), (pre ++ suf).length ≤ 1048576 →
    Ev (fun k => spec_AreSeen.l0 k (pre ++ suf) p n (pre.length : Int)) (seenF p n (lastOf pre) suf && decide ((pre ++ suf).length ≤ 60)) := by
  intro suf
  induction suf with
  | nil =>
    intro pre hb
    refine Ev.step (fun k => by rw [spec_AreSeen.l0]) ?_
    refine evNeg (by simp) (evEq ?_ (Ev.now _))
    simp only [seenF, Bool.true_and, decide_eq_decide] <;> omega
  | cons x suf ih =>
    intro pre hb
    have hb' := hb
    simp only [List.length_append, List.length_cons] at hb'
    refine Ev.step (fun k => by rw [spec_AreSeen.l0]) ?_
    refine evPos (by simp only [List.length_append, List.length_cons]; omega) (evPos (by omega) ?_)
    simp only [rd_T65, getD_mid]
    have h := ih (pre ++ [x]) (by simpa using hb)
    have e1 : lastOf (pre ++ [x]) = x.f2 := by simp [lastOf]
    rw [e1] at h
    have h' : Ev (fun k => spec_AreSeen.l0 k (pre ++ x :: suf) p n ((pre.length + 1 : Nat) : Int)) (seenF p n x.f2 suf && decide ((pre ++ x :: suf).length ≤ 60)) := by simpa using h
    have bad : snOk p n x = false → false = (seenF p n (lastOf pre) (x :: suf) && decide ((pre ++ x :: suf).length ≤ 60)) := by
      intro hx
      simp [seenF, hx]
    by_cases c1 : x.f0 < 0
    · refine evPos c1 (evEq (bad ?_) (spec_AreSeen_j1t _ _ _ _ _ _ _ _ _))
      simp [snOk]
      omega
    refine evNeg c1 ?_
    by_cases c2 : x.f0 ≥ p
    · refine evPos c2 (evEq (bad ?_) (spec_AreSeen_j1t _ _ _ _ _ _ _ _ _))
      simp [snOk]
      omega
    refine evNeg c2 (evSome (spec_l1In_eq _ _ _) ?_)
    by_cases c3 : 0 ≤ x.f1 ∧ x.f1 ≤ 5
    · refine evPos (by simpa using c3) (evSome (spec_l1In_eq _ _ _) ?_)
      by_cases c4 : 0 ≤ x.f2 ∧ x.f2 ≤ n
      · refine evPos (by simpa using c4) (evSome (spec_l1In_eq _ _ _) ?_)
        by_cases c5 : 0 ≤ x.f3 ∧ x.f3 ≤ 1000
        · have e : (!decide (0 ≤ x.f3 ∧ x.f3 ≤ 1000)) = false := by simp [c5]
          rw [e]
          refine evEq ?_ (spec_AreSeen_j1f p n pre suf x _ hb c4.1 h')
          have hx : snOk p n x = true := by
            simp [snOk]
            omega
          simp only [seenF, hx, Bool.true_and, Bool.and_assoc]
        · have e : (!decide (0 ≤ x.f3 ∧ x.f3 ≤ 1000)) = true := by simp [c5]
          rw [e]
          refine evEq (bad ?_) (spec_AreSeen_j1t _ _ _ _ _ _ _ _ _)
          simp [snOk]
          omega
      · refine evNeg (by simpa using c4) (evEq (bad ?_) (spec_AreSeen_j1t _ _ _ _ _ _ _ _ _))
        simp [snOk]
        omega
    · refine evNeg (by simpa using c3) (evEq (bad ?_) (spec_AreSeen_j1t _ _ _ _ _ _ _ _ _))
      simp [snOk]
      omega
theorem spec_AreSeen_ev (l : List S65) (p n : Int) (hl : l.length ≤ 1048576) : Ev (fun k => spec_AreSeen.f k l p n) (areSeenB l p n) := by
  unfold spec_AreSeen.f
  exact spec_AreSeen_l0 p n l [] (by simpa using hl)
theorem impl_AreSeen_l0 (p n : Int) : ∀ (suf pre : List S65) (last : Int), (pre ++ suf).length ≤ 60 → 0 ≤ last →
    Ev (fun k => impl_AreSeen.l0 k p n last (pre ++ suf) ((pre ++ suf).length : Int) (pre.length : Int)) (seenF p n last suf) := by
  intro suf
  induction suf with
  | nil =>
    intro pre last hb h0
    refine Ev.step (fun k => by rw [impl_AreSeen.l0]) ?_
    exact evNeg (by simp) (Ev.now _)
  | cons x suf ih =>
    intro pre last hb h0
    simp only [List.length_append, List.length_cons] at hb
    refine Ev.step (fun k => by rw [impl_AreSeen.l0]) ?_
    refine evPos (by simp only [List.length_append, List.length_cons]; omega) (evPos (by omega) (evPos (by simp only [List.length_append, List.length_cons]; omega) ?_))
    simp only [rd_T65, getD_mid]
    rw [wsucc (by omega)]
    have bad : (snOk p n x && decide (last ≤ x.f2)) = false → false = seenF p n last (x :: suf) := by
      intro hx
      rw [seenF]
      cases h1 : snOk p n x <;> cases h2 : decide (last ≤ x.f2) <;> simp_all
    refine evSome (impl_at_eq _ _) ?_
    by_cases c1 : 0 ≤ x.f0 ∧ x.f0 < p
    · refine evPos (by simpa using c1) (evSome (impl_at_eq _ _) ?_)
      by_cases c2 : 0 ≤ x.f1 ∧ x.f1 < 6
      · refine evPos (by simpa using c2) (evSome (impl_InRange_eq _ _ _) ?_)
        by_cases c3 : last ≤ x.f2 ∧ x.f2 ≤ n
        · refine evPos (by simpa using c3) (evSome (impl_InRange_eq _ _ _) ?_)
          by_cases c4 : 0 ≤ x.f3 ∧ x.f3 ≤ 1000
          · refine evPos (by simpa using c4) ?_
            have h := ih (pre ++ [x]) x.f2 (by simp; omega) (by omega)
            have h' : Ev (fun k => impl_AreSeen.l0 k p n x.f2 (pre ++ x :: suf) ((pre ++ x :: suf).length : Int) ((pre.length + 1 : Nat) : Int)) (seenF p n x.f2 suf) := by simpa using h
            have hx : snOk p n x = true := by
              simp [snOk]
              omega
            have hd : decide (last ≤ x.f2) = true := by simp [c3.1]
            by_cases h4 : x.f4 = true
            · refine evPos h4 ?_
              by_cases h3 : x.f3 = 0
              · refine evPos h3 (evEq ?_ h')
                simp only [seenF, hx, hd, snBad, h3, decide_true, Bool.or_true, Bool.true_and]
              · refine evNeg h3 (evEq ?_ (Ev.now _))
                simp [seenF, hx, snBad, h3, h4]
            · refine evNeg h4 (evEq ?_ h')
              have : x.f4 = false := by simpa using h4
              simp only [seenF, hx, hd, snBad, this, Bool.not_false, Bool.true_or, Bool.true_and]
          · refine evNeg (by simpa using c4) (evEq (bad ?_) (Ev.now _))
            simp [snOk]
            omega
        · refine evNeg (by simpa using c3) (evEq (bad ?_) (Ev.now _))
          simp [snOk]
          omega
      · refine evNeg (by simpa using c2) (evEq (bad ?_) (Ev.now _))
        simp [snOk]
        omega
    · refine evNeg (by simpa using c1) (evEq (bad ?_) (Ev.now _))
      simp [snOk]
      omega
theorem impl_AreSeen_ev (l : List S65) (p n : Int) (hl : l.length ≤ 1048576) : Ev (fun k => impl_AreSeen.f k l p n) (areSeenB l p n) := by
  unfold impl_AreSeen.f
  by_cases h : (l.length : Int) > 60
  · refine evPos h (evEq ?_ (Ev.now _))
    have : decide (l.length ≤ 60) = false := by simp; omega
    simp [areSeenB, this]
  · refine evNeg h (evEq ?_ (impl_AreSeen_l0 p n l [] 0 (by simp; omega) (by omega)))
    have : decide (l.length ≤ 60) = true := by simp; omega
    simp [areSeenB, this]
/-! ### law_FnExactAreSeen -/
theorem FnExactAreSeen : laws_FnExactAreSeen.PureR := by
  intro l p n h _ _
  refine Ev.rounds ?_
  unfold laws_FnExactAreSeen.f
  refine evSome (szSeenS_eq l 1048576 (by omega) (by omega) h.1) ?_
  by_cases hb : leftL l 1048576 < 0
  · exact evPos hb (Ev.now _)
  · have hl : l.length ≤ 1048576 := leftL_ok (by omega)
    have hm : (l.map cvSeen).length ≤ 1048576 := by simpa using hl
    exact evNeg hb (Ev.bind (toSeenS_ev l hl) (Ev.bind (spec_AreSeen_ev _ p n hm) (Ev.bind (toSeenS_ev l hl) (Ev.bind (impl_AreSeen_ev _ p n hm) (evNeg (by simp) (Ev.bind (toSeenS_ev l hl) (Ev.bind (eqSeenS_ev _ hm) (evPos rfl (Ev.now _)))))))))
end Go.Proofs.Ytdhdjlngelcgbaa.Pure
