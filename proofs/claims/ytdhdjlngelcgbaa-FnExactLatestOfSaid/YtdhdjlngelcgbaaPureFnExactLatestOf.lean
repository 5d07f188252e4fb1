/- The program's LatestOf returns what the reference's returns, and leaves its argument alone: for every list, probe and kind. -/
import Derived.Test.YtdhdjlngelcgbaaRFnExactLatestOf
import Derived.Test.YtdhdjlngelcgbaaBase
namespace Go.Proofs.Ytdhdjlngelcgbaa.Pure
open Go.RowKit Go.Proofs.Ytdhdjlngelcgbaa.Base Go.Proofs.Ytdhdjlngelcgbaa.PFnExactLatestOf Go.Proofs.YtdhdjlngelcgbaaW.PrintWords Go.Proofs.YtdhdjlngelcgbaaW.PrintLast
set_option linter.unusedVariables false
set_option linter.unusedSimpArgs false
/-! ### seens -/
def leftL {α : Type} (l : List α) (a : Int) : Int := if a - (l.length : Int) < 0 then -1 else a - (l.length : Int)
theorem szSeenS_eq (l : List S67) (a : Int) (h0 : 0 ≤ a) (h1 : a ≤ 1048576) (hl : l.length ≤ 9223372036854775807) : laws_szSeenS.f l a = some (leftL l a) := by
  unfold laws_szSeenS.f leftL
  rw [w64 (by omega) (by omega)]
  split <;> rfl
theorem leftL_ok {α : Type} {l : List α} (h : 0 ≤ leftL l 1048576) : l.length ≤ 1048576 := by
  unfold leftL at h
  split at h <;> omega
def cvSeen (x : S67) : S65 := ⟨x.f0, x.f1, x.f2, x.f3, x.f4⟩
theorem toSeenS_l0 : ∀ (suf pre : List S67) (rest : List S65), (pre ++ suf).length ≤ 1048576 → rest.length = suf.length →
    Ev (fun k => laws_toSeenS.l0 k (pre ++ suf) (pre.map cvSeen ++ rest) (pre.length : Int)) ((pre ++ suf).map cvSeen) := by
  intro suf
  induction suf with
  | nil =>
    intro pre rest hb hr
    obtain rfl : rest = [] := by simpa using hr
    refine Ev.step (fun k => by rw [laws_toSeenS.l0]) ?_
    refine evNeg (by simp) (evEq ?_ (Ev.now _))
    simp
  | cons x suf ih =>
    intro pre rest hb hr
    obtain ⟨r, rest, rfl⟩ : ∃ r t, rest = r :: t := by
      cases rest with
      | nil => simp at hr
      | cons r t => exact ⟨r, t, rfl⟩
    simp only [List.length_append, List.length_cons] at hb hr
    refine Ev.step (fun k => by rw [laws_toSeenS.l0]) ?_
    refine evPos (by simp only [List.length_append, List.length_cons]; omega) (evPos (by omega) ?_)
    simp only [rd_T67, getD_mid]
    refine evSome rfl (evPos (by simp only [List.length_append, List.length_cons, List.length_map]; omega) ?_)
    rw [wsucc (by omega)]
    have h := ih (pre ++ [x]) rest (by simp; omega) (by omega)
    refine evEq ?_ (Ev.congr (fun k => ?_) h)
    · simp
    · have e : (pre.length : Int) = ((pre.map cvSeen).length : Int) := by simp
      rw [e, set_mid]
      simp [cvSeen]
theorem toSeenS_ev (l : List S67) (hl : l.length ≤ 1048576) : Ev (fun k => laws_toSeenS.f k l) (l.map cvSeen) := by
  unfold laws_toSeenS.f
  refine evPos (by omega) (evPos (by omega) ?_)
  have h := toSeenS_l0 l [] (List.replicate l.length z65) (by simpa using hl) (by simp)
  simpa using h
theorem eqSeen_eq (x : S65) : laws_eqSeen.f x.f0 x.f1 x.f2 x.f3 x.f4 x.f0 x.f1 x.f2 x.f3 x.f4 = some true := by
  simp [laws_eqSeen.f]
theorem eqSeenS_l0 : ∀ (suf pre : List S65), (pre ++ suf).length ≤ 1048576 →
    Ev (fun k => laws_eqSeenS.l0 k (pre ++ suf) (pre ++ suf) (pre.length : Int)) true := by
  intro suf
  induction suf with
  | nil =>
    intro pre hb
    refine Ev.step (fun k => by rw [laws_eqSeenS.l0]) ?_
    exact evNeg (by simp) (Ev.now _)
  | cons x suf ih =>
    intro pre hb
    simp only [List.length_append, List.length_cons] at hb
    refine Ev.step (fun k => by rw [laws_eqSeenS.l0]) ?_
    refine evPos (by simp only [List.length_append, List.length_cons]; omega) (evPos (by omega) (evPos (by simp only [List.length_append, List.length_cons]; omega) ?_))
    simp only [rd_T65, getD_mid]
    refine evSome (eqSeen_eq x) (evPos rfl ?_)
    rw [wsucc (by omega)]
    have h := ih (pre ++ [x]) (by simp; omega)
    simpa using h
theorem eqSeenS_ev (l : List S65) (hl : l.length ≤ 1048576) : Ev (fun k => laws_eqSeenS.f k l l) true := by
  unfold laws_eqSeenS.f
  refine evPos rfl ?_
  have h := eqSeenS_l0 l [] (by simpa using hl)
  simpa using h
/-! ### latest -/
abbrev Sn := S65
def mt (p : Int) (b : Bool) (x : Sn) : Bool := decide (x.f0 = p) && (x.f4 == b)
def latF (p : Int) (b : Bool) : Nat → Int → List Sn → Int
  | _, k, [] => k
  | i, k, x :: xs => latF p b (i + 1) (if mt p b x = true then (i : Int) else k) xs
def latV (l : List Sn) (p : Int) (b : Bool) : Int := latF p b 0 (-1) l
theorem latF_snoc (p : Int) (b : Bool) (x : Sn) : ∀ (l : List Sn) (i : Nat) (k : Int), latF p b i k (l ++ [x]) = if mt p b x = true then ((i + l.length : Nat) : Int) else latF p b i k l
  | [], i, k => by simp [latF]
  | y :: l, i, k => by
    rw [List.cons_append, latF, latF_snoc p b x l, latF]
    simp only [List.length_cons]
    rw [show i + 1 + l.length = i + (l.length + 1) by omega]
theorem spec_LatestOf_l0 (p : Int) (b : Bool) : ∀ (suf pre : List Sn) (m : Int), (pre ++ suf).length ≤ 1048576 →
    Ev (fun k => spec_LatestOf.l0 k (pre ++ suf) p b m (pre.length : Int)) (latF p b pre.length m suf) := by
  intro suf
  induction suf with
  | nil =>
    intro pre m hb
    refine Ev.step (fun k => by rw [spec_LatestOf.l0]) ?_
    exact evNeg (by simp) (Ev.now _)
  | cons x suf ih =>
    intro pre m hb
    simp only [List.length_append, List.length_cons] at hb
    refine Ev.step (fun k => by rw [spec_LatestOf.l0]) ?_
    refine evPos (by simp only [List.length_append, List.length_cons]; omega) (evPos (by omega) ?_)
    simp only [rd_T65, getD_mid]
    rw [wsucc (by omega)]
    have h := fun m => ih (pre ++ [x]) m (by simp; omega)
    have h' : ∀ m, Ev (fun k => spec_LatestOf.l0 k (pre ++ x :: suf) p b m ((pre.length + 1 : Nat) : Int)) (latF p b (pre.length + 1) m suf) := fun m => by simpa using h m
    by_cases h1 : x.f0 = p
    · refine evPos h1 ?_
      by_cases h2 : (x.f4 == b) = true
      · refine evPos h2 (evEq ?_ (h' _))
        simp only [latF, mt, h1, h2, decide_true, Bool.true_and, if_true]
      · refine evNeg h2 (evEq ?_ (h' _))
        simp only [latF, mt, h1, h2, decide_true, Bool.true_and, if_false]
        simp
    · refine evNeg h1 (evEq ?_ (h' _))
      simp [latF, mt, h1]
theorem spec_LatestOf_ev (l : List Sn) (p : Int) (b : Bool) (hl : l.length ≤ 1048576) : Ev (fun k => spec_LatestOf.f k l p b) (latV l p b) := by
  unfold spec_LatestOf.f
  exact spec_LatestOf_l0 p b l [] (-1) (by simpa using hl)
theorem impl_LatestOf_l0 (l : List Sn) (p : Int) (b : Bool) (hl : l.length ≤ 1048576) : ∀ n : Nat, n ≤ l.length →
    Ev (fun k => impl_LatestOf.l0 k l p b ((n : Int) - 1)) (latV (l.take n) p b) := by
  intro n
  induction n with
  | zero =>
    intro _
    refine Ev.step (fun k => by rw [impl_LatestOf.l0]) ?_
    exact evNeg (by omega) (Ev.now _)
  | succ n ih =>
    intro hn
    have e : ((n + 1 : Nat) : Int) - 1 = (n : Int) := by omega
    rw [e]
    have et : l.take (n + 1) = l.take n ++ [l[n]] := by rw [List.take_succ_eq_append_getElem (by omega)]
    have ev : latV (l.take (n + 1)) p b = if mt p b l[n] = true then (n : Int) else latV (l.take n) p b := by
      rw [et, latV, latF_snoc]
      simp only [Nat.zero_add, List.length_take, Nat.min_eq_left (show n ≤ l.length by omega)]
      rfl
    rw [ev]
    refine Ev.step (fun k => by rw [impl_LatestOf.l0]) ?_
    refine evPos (by omega) (evPos (by omega) (evPos (by omega) ?_))
    simp only [rd_T65, getD_at l _ n (show n < l.length by omega)]
    rw [w64 (by omega) (by omega)]
    by_cases h1 : l[n].f0 = p
    · refine evPos h1 ?_
      by_cases h2 : (l[n].f4 == b) = true
      · refine evPos h2 (evEq ?_ (Ev.now _))
        rw [if_pos (by simp only [mt, h1, h2, decide_true, Bool.true_and])]
      · refine evNeg h2 (evEq ?_ (ih (by omega)))
        rw [if_neg (by simp only [mt, h1, decide_true, Bool.true_and]; exact h2)]
    · refine evNeg h1 (evEq ?_ (ih (by omega)))
      rw [if_neg (by simp [mt, h1])]
theorem impl_LatestOf_ev (l : List Sn) (p : Int) (b : Bool) (hl : l.length ≤ 1048576) : Ev (fun k => impl_LatestOf.f k l p b) (latV l p b) := by
  unfold impl_LatestOf.f
  rw [w64 (by omega) (by omega)]
  have h := impl_LatestOf_l0 l p b hl l.length (Nat.le_refl _)
  rw [List.take_length] at h
  exact h
theorem latV_range (l : List Sn) (p : Int) (b : Bool) : -1 ≤ latV l p b ∧ latV l p b < l.length := by
  have key : ∀ (l : List Sn) (i : Nat) (k : Int), -1 ≤ k → k < i → -1 ≤ latF p b i k l ∧ latF p b i k l < i + l.length := by
    intro l
    induction l with
    | nil =>
      intro i k h1 h2
      simp [latF]
      omega
    | cons x l ih =>
      intro i k h1 h2
      rw [latF]
      have h := ih (i + 1) (if mt p b x = true then (i : Int) else k) (by split <;> omega) (by split <;> omega)
      simp only [List.length_cons]
      omega
  have h := key l 0 (-1) (by omega) (by omega)
  unfold latV
  omega
/-! ### law_FnExactLatestOf -/
theorem FnExactLatestOf : laws_FnExactLatestOf.PureR := by
  intro l p b h _
  refine Ev.rounds ?_
  unfold laws_FnExactLatestOf.f
  refine evSome (szSeenS_eq l 1048576 (by omega) (by omega) h.1) ?_
  by_cases hb : leftL l 1048576 < 0
  · exact evPos hb (Ev.now _)
  · have hl : l.length ≤ 1048576 := leftL_ok (by omega)
    have hm : (l.map cvSeen).length ≤ 1048576 := by simpa using hl
    exact evNeg hb (Ev.bind (toSeenS_ev l hl) (Ev.bind (spec_LatestOf_ev _ p b hm) (Ev.bind (toSeenS_ev l hl) (Ev.bind (impl_LatestOf_ev _ p b hm) (evPos rfl (Ev.bind (toSeenS_ev l hl) (Ev.bind (eqSeenS_ev _ hm) (evPos rfl (Ev.now _)))))))))
end Go.Proofs.Ytdhdjlngelcgbaa.Pure
