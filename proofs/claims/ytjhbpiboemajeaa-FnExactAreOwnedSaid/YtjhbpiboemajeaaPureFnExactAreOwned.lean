/- The program's AreOwned returns what the reference's returns, and leaves its arguments alone: for all lists and numbers. -/
import Derived.Test.YtjhbpiboemajeaaRFnExactAreOwned
import Derived.Test.YtjhbpiboemajeaaBase
namespace Go.Proofs.Ytjhbpiboemajeaa.Pure
open Go.RowKit Go.Proofs.Ytjhbpiboemajeaa.Base Go.Proofs.Ytjhbpiboemajeaa.PFnExactAreOwned Go.Proofs.YtjhbpiboemajeaaW.PrintWords Go.Proofs.YtjhbpiboemajeaaW.PrintLast
set_option linter.unusedVariables false
set_option linter.unusedSimpArgs false
/-! ### szints -/
def leftI (l : List Int) (a : Int) : Int := if a - (l.length : Int) < 0 then -1 else a - (l.length : Int)
theorem szIntS_eq (l : List Int) (a : Int) (h0 : 0 ≤ a) (h1 : a ≤ 1048576) (hl : l.length ≤ 9223372036854775807) : laws_szIntS.f l a = some (leftI l a) := by
  unfold laws_szIntS.f leftI
  rw [w64 (by omega) (by omega)]
  split <;> rfl
/-! ### ints -/
theorem toIntS_l0 : ∀ (suf pre rest : List Int), (pre ++ suf).length ≤ 1048576 → rest.length = suf.length →
    Ev (fun k => laws_toIntS.l0 k (pre ++ suf) (pre ++ rest) (pre.length : Int)) (pre ++ suf) := by
  intro suf
  induction suf with
  | nil =>
    intro pre rest hb hr
    obtain rfl : rest = [] := by simpa using hr
    refine Ev.step (fun k => by rw [laws_toIntS.l0]) ?_
    exact evNeg (by simp) (Ev.now _)
  | cons x suf ih =>
    intro pre rest hb hr
    obtain ⟨r, rest, rfl⟩ : ∃ r t, rest = r :: t := by
      cases rest with
      | nil => simp at hr
      | cons r t => exact ⟨r, t, rfl⟩
    simp only [List.length_append, List.length_cons] at hb hr
    refine Ev.step (fun k => by rw [laws_toIntS.l0]) ?_
    refine evPos (by simp only [List.length_append, List.length_cons]; omega) (evPos (by omega) (evPos (by simp only [List.length_append, List.length_cons]; omega) ?_))
    rw [rd_mid, set_mid, wsucc (by omega)]
    have h := ih (pre ++ [x]) rest (by simp; omega) (by omega)
    simpa using h
theorem toIntS_ev (l : List Int) (hl : l.length ≤ 1048576) : Ev (fun k => laws_toIntS.f k l) l := by
  unfold laws_toIntS.f
  refine evPos (by omega) (evPos (by omega) ?_)
  have h := toIntS_l0 l [] (List.replicate l.length 0) (by simpa using hl) (by simp)
  simpa using h
theorem eqIntS_l0 : ∀ (suf pre : List Int), (pre ++ suf).length ≤ 1048576 →
    Ev (fun k => laws_eqIntS.l0 k (pre ++ suf) (pre ++ suf) (pre.length : Int)) true := by
  intro suf
  induction suf with
  | nil =>
    intro pre hb
    refine Ev.step (fun k => by rw [laws_eqIntS.l0]) ?_
    exact evNeg (by simp) (Ev.now _)
  | cons x suf ih =>
    intro pre hb
    simp only [List.length_append, List.length_cons] at hb
    refine Ev.step (fun k => by rw [laws_eqIntS.l0]) ?_
    refine evPos (by simp only [List.length_append, List.length_cons]; omega) (evPos (by omega) (evPos (by simp only [List.length_append, List.length_cons]; omega) (evPos rfl ?_)))
    rw [wsucc (by omega)]
    have h := ih (pre ++ [x]) (by simp; omega)
    simpa using h
theorem eqIntS_ev (l : List Int) (hl : l.length ≤ 1048576) : Ev (fun k => laws_eqIntS.f k l l) true := by
  unfold laws_eqIntS.f
  refine evPos rfl ?_
  have h := eqIntS_l0 l [] (by simpa using hl)
  simpa using h
/-! ### intss -/
/-- What is left of a behind the lists' own lengths and the list's length; -1 where it is not enough. -/
def leftR : List (List Int) → Int → Int
  | [], a => a
  | r :: rs, a => if leftI r a < 0 then -1 else leftR rs (leftI r a)
def leftII (l : List (List Int)) (a : Int) : Int := if a - (l.length : Int) < 0 then -1 else leftR l (a - (l.length : Int))
theorem szIntSS_l0 : ∀ (suf pre : List (List Int)) (a : Int), (pre ++ suf).length ≤ 1048576 → 0 ≤ a → a ≤ 1048576 → (∀ r ∈ suf, r.length ≤ 9223372036854775807) →
    Ev (fun k => laws_szIntSS.l0 k (pre ++ suf) a (pre.length : Int)) (leftR suf a) := by
  intro suf
  induction suf with
  | nil =>
    intro pre a hb h0 h1 hr
    refine Ev.step (fun k => by rw [laws_szIntSS.l0]) ?_
    exact evNeg (by simp) (Ev.now _)
  | cons x suf ih =>
    intro pre a hb h0 h1 hr
    simp only [List.length_append, List.length_cons] at hb
    refine Ev.step (fun k => by rw [laws_szIntSS.l0]) ?_
    refine evPos (by simp only [List.length_append, List.length_cons]; omega) (evPos (by omega) ?_)
    rw [rd_L1, getD_mid, wsucc (by omega)]
    refine evSome (szIntS_eq x a h0 h1 (hr x (by simp))) ?_
    by_cases hx : leftI x a < 0
    · refine evPos hx (evEq ?_ (Ev.now _))
      simp [leftR, hx]
    · refine evNeg hx ?_
      have hle : leftI x a ≤ 1048576 := by
        unfold leftI
        split <;> omega
      have h := ih (pre ++ [x]) (leftI x a) (by simp; omega) (by omega) hle (fun r h => hr r (by simp [h]))
      refine evEq ?_ (Ev.congr (fun k => ?_) h)
      · simp [leftR, hx]
      · simp
theorem szIntSS_ev (l : List (List Int)) (a : Int) (h0 : 0 ≤ a) (h1 : a ≤ 1048576) (hl : l.length ≤ 9223372036854775807) (hr : ∀ r ∈ l, r.length ≤ 9223372036854775807) : Ev (fun k => laws_szIntSS.f k l a) (leftII l a) := by
  unfold laws_szIntSS.f
  rw [w64 (by omega) (by omega)]
  by_cases h : a - (l.length : Int) < 0
  · refine evPos h (evEq ?_ (Ev.now _))
    simp [leftII, h]
  · refine evNeg h (evEq ?_ (szIntSS_l0 l [] _ (by simp; omega) (by omega) (by omega) hr))
    simp [leftII, h]
theorem leftR_rows : ∀ (l : List (List Int)) (a : Int), 0 ≤ leftR l a → 0 ≤ a → a ≤ 1048576 → (∀ r ∈ l, r.length ≤ 1048576)
  | [], _, _, _, _ => by simp
  | r :: rs, a, h, h0, h1 => by
    unfold leftR at h
    split at h
    · omega
    · rename_i hx
      have hx' : 0 ≤ leftI r a := by omega
      have hrl : r.length ≤ 1048576 ∧ leftI r a ≤ 1048576 := by
        unfold leftI at hx' ⊢
        split at hx' <;> split <;> omega
      intro q hq
      rcases List.mem_cons.1 hq with rfl | hq
      · exact hrl.1
      · exact leftR_rows rs _ h hx' hrl.2 q hq
/-- Rows that may be examined. -/
def okII (l : List (List Int)) : Prop := l.length ≤ 1048576 ∧ ∀ r ∈ l, r.length ≤ 1048576
theorem leftII_ok {l : List (List Int)} (h : 0 ≤ leftII l 1048576) : okII l := by
  unfold leftII at h
  split at h
  · omega
  · exact ⟨by omega, leftR_rows l _ h (by omega) (by omega)⟩
theorem toIntSS_l0 : ∀ (suf pre rest : List (List Int)), (pre ++ suf).length ≤ 1048576 → rest.length = suf.length → (∀ r ∈ suf, r.length ≤ 1048576) →
    Ev (fun k => laws_toIntSS.l0 k (pre ++ suf) (pre ++ rest) (pre.length : Int)) (pre ++ suf) := by
  intro suf
  induction suf with
  | nil =>
    intro pre rest hb hr hq
    obtain rfl : rest = [] := by simpa using hr
    refine Ev.step (fun k => by rw [laws_toIntSS.l0]) ?_
    exact evNeg (by simp) (Ev.now _)
  | cons x suf ih =>
    intro pre rest hb hr hq
    obtain ⟨r, rest, rfl⟩ : ∃ r t, rest = r :: t := by
      cases rest with
      | nil => simp at hr
      | cons r t => exact ⟨r, t, rfl⟩
    simp only [List.length_append, List.length_cons] at hb hr
    refine Ev.step (fun k => by rw [laws_toIntSS.l0]) ?_
    refine evPos (by simp only [List.length_append, List.length_cons]; omega) (evPos (by omega) ?_)
    rw [rd_L1, getD_mid]
    refine Ev.bind (toIntS_ev x (hq x (by simp))) (evPos (by simp only [List.length_append, List.length_cons]; omega) ?_)
    rw [set_mid, wsucc (by omega)]
    have h := ih (pre ++ [x]) rest (by simp; omega) (by omega) (fun r h => hq r (by simp [h]))
    simpa using h
theorem toIntSS_ev (l : List (List Int)) (hl : okII l) : Ev (fun k => laws_toIntSS.f k l) l := by
  have h0 := hl.1
  unfold laws_toIntSS.f
  refine evPos (by omega) (evPos (by omega) ?_)
  have h := toIntSS_l0 l [] (List.replicate l.length []) (by simpa using hl.1) (by simp) hl.2
  simpa using h
theorem eqIntSS_l0 : ∀ (suf pre : List (List Int)), (pre ++ suf).length ≤ 1048576 → (∀ r ∈ suf, r.length ≤ 1048576) →
    Ev (fun k => laws_eqIntSS.l0 k (pre ++ suf) (pre ++ suf) (pre.length : Int)) true := by
  intro suf
  induction suf with
  | nil =>
    intro pre hb hq
    refine Ev.step (fun k => by rw [laws_eqIntSS.l0]) ?_
    exact evNeg (by simp) (Ev.now _)
  | cons x suf ih =>
    intro pre hb hq
    simp only [List.length_append, List.length_cons] at hb
    refine Ev.step (fun k => by rw [laws_eqIntSS.l0]) ?_
    refine evPos (by simp only [List.length_append, List.length_cons]; omega) (evPos (by omega) (evPos (by simp only [List.length_append, List.length_cons]; omega) ?_))
    rw [rd_L1, getD_mid]
    refine Ev.bind (eqIntS_ev x (hq x (by simp))) (evPos rfl ?_)
    rw [wsucc (by omega)]
    have h := ih (pre ++ [x]) (by simp; omega) (fun r h => hq r (by simp [h]))
    simpa using h
theorem eqIntSS_ev (l : List (List Int)) (hl : okII l) : Ev (fun k => laws_eqIntSS.f k l l) true := by
  unfold laws_eqIntSS.f
  refine evPos rfl ?_
  have h := eqIntSS_l0 l [] (by simpa using hl.1) hl.2
  simpa using h
/-! ### inrange -/
theorem impl_InRange_eq (a b c : Int) : impl_InRange.f a b c = some (decide (b ≤ a ∧ a ≤ c)) := by
  unfold impl_InRange.f
  by_cases h : b ≤ a
  · rw [if_pos h]
    simp [h]
  · rw [if_neg h]
    simp [h]
/-! ### allin -/
theorem impl_allIn_l0 (lo hi : Int) : ∀ (suf pre : List Int), (pre ++ suf).length ≤ 1048576 →
    Ev (fun k => impl_allIn.l0 k lo hi (pre ++ suf) ((pre ++ suf).length : Int) (pre.length : Int)) (suf.all fun x => decide (lo ≤ x ∧ x ≤ hi)) := by
  intro suf
  induction suf with
  | nil =>
    intro pre hb
    refine Ev.step (fun k => by rw [impl_allIn.l0]) ?_
    exact evNeg (by simp) (Ev.now _)
  | cons x suf ih =>
    intro pre hb
    simp only [List.length_append, List.length_cons] at hb
    refine Ev.step (fun k => by rw [impl_allIn.l0]) ?_
    refine evPos (by simp only [List.length_append, List.length_cons]; omega) (evPos (by omega) (evPos (by simp only [List.length_append, List.length_cons]; omega) ?_))
    rw [rd_mid, wsucc (by omega)]
    refine evSome (impl_InRange_eq _ _ _) ?_
    by_cases hx : lo ≤ x ∧ x ≤ hi
    · refine evPos (by simp [hx]) ?_
      have h := ih (pre ++ [x]) (by simp; omega)
      refine evEq ?_ (Ev.congr (fun k => ?_) h)
      · simp [hx]
      · simp
    · refine evNeg (by simpa using hx) (evEq ?_ (Ev.now _))
      simp [hx]
theorem impl_allIn_ev (l : List Int) (lo hi : Int) (hl : l.length ≤ 1048576) : Ev (fun k => impl_allIn.f k l lo hi) (l.all fun x => decide (lo ≤ x ∧ x ≤ hi)) := by
  have h := impl_allIn_l0 lo hi l [] (by simpa using hl)
  simpa [impl_allIn.f] using h
/-! ### matrix -/
def cellR (v : Int) : Bool := decide (-2 ≤ v ∧ v ≤ 2)
def matB (m : List (List Int)) (c : Int) : Bool := decide (1 ≤ c ∧ c ≤ 6) && (decide (m.length ≤ 12) && m.all fun r => decide ((r.length : Int) = c) && r.all cellR)
theorem impl_IsMatrix_l0 (c : Int) : ∀ (suf pre : List (List Int)), (pre ++ suf).length ≤ 12 → (∀ r ∈ suf, r.length ≤ 1048576) →
    Ev (fun k => impl_IsMatrix.l0 k c (pre ++ suf) ((pre ++ suf).length : Int) (pre.length : Int)) (suf.all fun r => decide ((r.length : Int) = c) && r.all cellR) := by
  intro suf
  induction suf with
  | nil =>
    intro pre hb hr
    refine Ev.step (fun k => by rw [impl_IsMatrix.l0]) ?_
    exact evNeg (by simp) (Ev.now _)
  | cons x suf ih =>
    intro pre hb hr
    simp only [List.length_append, List.length_cons] at hb
    refine Ev.step (fun k => by rw [impl_IsMatrix.l0]) ?_
    refine evPos (by simp only [List.length_append, List.length_cons]; omega) (evPos (by omega) (evPos (by simp only [List.length_append, List.length_cons]; omega) ?_))
    rw [rd_L1, getD_mid, wsucc (by omega)]
    have h := ih (pre ++ [x]) (by simp; omega) (fun r h => hr r (by simp [h]))
    have h' : Ev (fun k => impl_IsMatrix.l0 k c (pre ++ x :: suf) ((pre ++ x :: suf).length : Int) ((pre.length + 1 : Nat) : Int)) (suf.all fun r => decide ((r.length : Int) = c) && r.all cellR) := by simpa using h
    by_cases hx : (x.length : Int) = c
    · refine evPos hx (Ev.bind (impl_allIn_ev x (-2) 2 (hr x (by simp))) ?_)
      have ea : (x.all fun v => decide (-2 ≤ v ∧ v ≤ 2)) = x.all cellR := rfl
      rw [ea]
      by_cases ha : x.all cellR = true
      · refine evPos ha (evEq ?_ h')
        simp only [List.all_cons, decide_eq_true hx, ha, Bool.true_and]
      · have ha' : x.all cellR = false := by simpa using ha
        refine evNeg ha (evEq ?_ (Ev.now _))
        simp only [List.all_cons, ha', Bool.and_false, Bool.false_and]
    · refine evNeg hx (evEq ?_ (Ev.now _))
      simp only [List.all_cons, decide_eq_false hx, Bool.false_and]
theorem impl_IsMatrix_ev (m : List (List Int)) (c : Int) (hr : ∀ r ∈ m, r.length ≤ 1048576) : Ev (fun k => impl_IsMatrix.f k m c) (matB m c) := by
  unfold impl_IsMatrix.f
  refine evSome (impl_InRange_eq _ _ _) ?_
  by_cases h1 : 1 ≤ c ∧ c ≤ 6
  · refine evPos (by simpa using h1) (Ev.step (fun k => by rw [impl_IsMatrix.j0]) ?_)
    by_cases h2 : m.length ≤ 12
    · refine evNeg (by simp; omega) (evEq ?_ (impl_IsMatrix_l0 c m [] (by simpa using h2) hr))
      simp only [matB, decide_eq_true h1, decide_eq_true h2, Bool.true_and]
    · refine evPos (by simp; omega) (evEq ?_ (Ev.now _))
      simp only [matB, decide_eq_false h2, Bool.and_false, Bool.false_and]
  · refine evNeg (by simpa using h1) (Ev.step (fun k => by rw [impl_IsMatrix.j0]) (evPos rfl (evEq ?_ (Ev.now _))))
    simp only [matB, decide_eq_false h1, Bool.false_and]
/-! ### small -/
theorem spec_l1In_eq (a b c : Int) : spec_l1In.f a b c = some (decide (b ≤ a ∧ a ≤ c)) := by
  unfold spec_l1In.f
  by_cases h : a ≥ b
  · rw [if_pos h]
    simp [show b ≤ a from h]
  · rw [if_neg h]
    have : ¬ b ≤ a := h
    simp [this]
/-! ### smatrix -/
theorem spec_IsMatrix_l1 (pre suf : List (List Int)) (row : List Int) (R : Bool) (hb : (pre ++ row :: suf).length ≤ 12) (hr : row.length ≤ 6)
    (hk : Ev (fun k => spec_IsMatrix.l0 k (pre ++ row :: suf) (row.length : Int) ((pre.length + 1 : Nat) : Int)) R) : ∀ (rs rp : List Int), row = rp ++ rs →
    Ev (fun k => spec_IsMatrix.l1 k (pre ++ row :: suf) (row.length : Int) (pre.length : Int) (rp.length : Int)) (rs.all cellR && R) := by
  intro rs
  simp only [List.length_append, List.length_cons] at hb
  induction rs with
  | nil =>
    intro rp e
    have hl : row.length = rp.length := by rw [e]; simp
    refine Ev.step (fun k => by rw [spec_IsMatrix.l1]) ?_
    refine evNeg (by omega) ?_
    rw [wsucc (by omega)]
    simpa using hk
  | cons v vs ih =>
    intro rp e
    have hl : row.length = rp.length + (vs.length + 1) := by rw [e]; simp
    have ev : rd row (rp.length : Int) = v := by rw [e, rd_mid]
    refine Ev.step (fun k => by rw [spec_IsMatrix.l1]) ?_
    simp only [rd_L1, getD_mid]
    refine evPos (by omega) (evPos (by omega) (evPos (by simp only [List.length_append, List.length_cons]; omega) (evPos (by omega) (evPos (by omega) ?_))))
    rw [ev, wsucc (by omega)]
    refine evSome (spec_l1In_eq _ _ _) ?_
    have h := ih (rp ++ [v]) (by simp [e])
    have h' : Ev (fun k => spec_IsMatrix.l1 k (pre ++ row :: suf) (row.length : Int) (pre.length : Int) ((rp.length + 1 : Nat) : Int)) (vs.all cellR && R) := by simpa using h
    by_cases hv : -2 ≤ v ∧ v ≤ 2
    · refine evPos (by simpa using hv) (evEq ?_ h')
      simp only [List.all_cons, show cellR v = true from decide_eq_true hv, Bool.true_and]
    · refine evNeg (by simpa using hv) (evEq ?_ (Ev.now _))
      simp only [List.all_cons, show cellR v = false from decide_eq_false hv, Bool.false_and]
theorem spec_IsMatrix_l0 (c : Int) (hc : 1 ≤ c ∧ c ≤ 6) : ∀ (suf pre : List (List Int)), (pre ++ suf).length ≤ 12 →
    Ev (fun k => spec_IsMatrix.l0 k (pre ++ suf) c (pre.length : Int)) (suf.all fun r => decide ((r.length : Int) = c) && r.all cellR) := by
  intro suf
  induction suf with
  | nil =>
    intro pre hb
    refine Ev.step (fun k => by rw [spec_IsMatrix.l0]) ?_
    exact evNeg (by simp) (Ev.now _)
  | cons x suf ih =>
    intro pre hb
    have hb' := hb
    simp only [List.length_append, List.length_cons] at hb'
    refine Ev.step (fun k => by rw [spec_IsMatrix.l0]) ?_
    refine evPos (by simp only [List.length_append, List.length_cons]; omega) (evPos (by omega) ?_)
    have e : rd_L1 (pre ++ x :: suf) (pre.length : Int) = x := by rw [rd_L1, getD_mid]
    rw [e]
    by_cases hx : (x.length : Int) = c
    · refine evPos hx ?_
      subst hx
      have h := ih (pre ++ [x]) (by simpa using hb)
      have h' : Ev (fun k => spec_IsMatrix.l0 k (pre ++ x :: suf) (x.length : Int) ((pre.length + 1 : Nat) : Int)) (suf.all fun r => decide ((r.length : Int) = (x.length : Int)) && r.all cellR) := by simpa using h
      refine evEq ?_ (spec_IsMatrix_l1 pre suf x _ hb (by omega) h' x [] rfl)
      simp only [List.all_cons, decide_true, Bool.true_and]
    · refine evNeg hx (evEq ?_ (Ev.now _))
      simp only [List.all_cons, decide_eq_false hx, Bool.false_and]
theorem spec_IsMatrix_ev (m : List (List Int)) (c : Int) : Ev (fun k => spec_IsMatrix.f k m c) (matB m c) := by
  unfold spec_IsMatrix.f
  refine evSome (spec_l1In_eq _ _ _) ?_
  by_cases h1 : 1 ≤ c ∧ c ≤ 6
  · refine evPos (by simpa using h1) (Ev.step (fun k => by rw [spec_IsMatrix.j0]) ?_)
    by_cases h2 : m.length ≤ 12
    · refine evNeg (by simp; omega) (evEq ?_ (spec_IsMatrix_l0 c h1 m [] (by simpa using h2)))
      simp only [matB, decide_eq_true h1, decide_eq_true h2, Bool.true_and]
    · refine evPos (by simp; omega) (evEq ?_ (Ev.now _))
      simp only [matB, decide_eq_false h2, Bool.and_false, Bool.false_and]
  · refine evNeg (by simpa using h1) (Ev.step (fun k => by rw [spec_IsMatrix.j0]) (evPos rfl (evEq ?_ (Ev.now _))))
    simp only [matB, decide_eq_false h1, Bool.false_and]
/-! ### system -/
def sysB (m : List (List Int)) (v : List Int) (c : Int) : Bool := matB m c && (decide (v.length = m.length) && v.all fun x => decide (-1000 ≤ x ∧ x ≤ 1000))
theorem impl_IsSystem_ev (m : List (List Int)) (v : List Int) (c : Int) (hr : ∀ r ∈ m, r.length ≤ 1048576) (hv : v.length ≤ 1048576) : Ev (fun k => impl_IsSystem.f k m v c) (sysB m v c) := by
  unfold impl_IsSystem.f
  refine Ev.bind (impl_IsMatrix_ev m c hr) ?_
  by_cases h1 : matB m c = true
  · refine evPos h1 ?_
    by_cases h2 : v.length = m.length
    · refine evPos (by omega) (Ev.bind (impl_allIn_ev v (-1000) 1000 hv) (evEq ?_ (Ev.now _)))
      simp only [sysB, h1, decide_eq_true h2, Bool.true_and]
    · refine evNeg (by omega) (evEq ?_ (Ev.now _))
      simp only [sysB, decide_eq_false h2, Bool.and_false, Bool.false_and]
  · have h1' : matB m c = false := by simpa using h1
    refine evNeg h1 (evEq ?_ (Ev.now _))
    simp only [sysB, h1', Bool.false_and]
theorem spec_IsSystem_l0 (m : List (List Int)) (c : Int) : ∀ (suf pre : List Int), (pre ++ suf).length ≤ 1048576 →
    Ev (fun k => spec_IsSystem.l0 k m (pre ++ suf) c (pre.length : Int)) (matB m c && (decide ((pre ++ suf).length = m.length) && suf.all fun x => decide (-1000 ≤ x ∧ x ≤ 1000))) := by
  intro suf
  induction suf with
  | nil =>
    intro pre hb
    refine Ev.step (fun k => by rw [spec_IsSystem.l0]) ?_
    refine evNeg (by simp) (Ev.bind (spec_IsMatrix_ev m c) ?_)
    by_cases h1 : matB m c = true
    · refine evPos h1 (evEq ?_ (Ev.now _))
      rw [h1]
      simp only [Bool.true_and, List.all_nil, Bool.and_true]
      by_cases h2 : (pre ++ []).length = m.length
      · rw [decide_eq_true h2, h2]
        simp
      · rw [decide_eq_false h2, beq_eq_false_iff_ne]
        omega
    · have h1' : matB m c = false := by simpa using h1
      refine evNeg h1 (evEq ?_ (Ev.now _))
      rw [h1', Bool.false_and]
  | cons x suf ih =>
    intro pre hb
    have hb' := hb
    simp only [List.length_append, List.length_cons] at hb'
    refine Ev.step (fun k => by rw [spec_IsSystem.l0]) ?_
    refine evPos (by simp only [List.length_append, List.length_cons]; omega) (evPos (by omega) ?_)
    rw [rd_mid, wsucc (by omega)]
    refine evSome (spec_l1In_eq _ _ _) ?_
    by_cases hx : -1000 ≤ x ∧ x ≤ 1000
    · have h := ih (pre ++ [x]) (by simpa using hb)
      refine evPos (by simpa using hx) (evEq ?_ (Ev.congr (fun k => ?_) h))
      · simp only [List.all_cons, decide_eq_true hx, Bool.true_and]
        simp
      · simp
    · refine evNeg (by simpa using hx) (evEq ?_ (Ev.now _))
      simp only [List.all_cons, decide_eq_false hx, Bool.false_and, Bool.and_false]
theorem spec_IsSystem_ev (m : List (List Int)) (v : List Int) (c : Int) (hv : v.length ≤ 1048576) : Ev (fun k => spec_IsSystem.f k m v c) (sysB m v c) := by
  unfold spec_IsSystem.f
  exact spec_IsSystem_l0 m c v [] (by simpa using hv)
/-! ### owned -/
def ownB (m : List (List Int)) (v o : List Int) (c : Int) : Bool := sysB m v c && (decide (o.length = m.length) && o.all fun x => decide (0 ≤ x ∧ x ≤ 5))
theorem impl_AreOwned_ev (m : List (List Int)) (v o : List Int) (c : Int) (hr : ∀ r ∈ m, r.length ≤ 1048576) (hv : v.length ≤ 1048576) (ho : o.length ≤ 1048576) : Ev (fun k => impl_AreOwned.f k m v o c) (ownB m v o c) := by
  unfold impl_AreOwned.f
  refine Ev.bind (impl_IsSystem_ev m v c hr hv) ?_
  by_cases h1 : sysB m v c = true
  · refine evPos h1 ?_
    by_cases h2 : o.length = m.length
    · refine evPos (by omega) (Ev.bind (impl_allIn_ev o 0 5 ho) (evEq ?_ (Ev.now _)))
      simp only [ownB, h1, decide_eq_true h2, Bool.true_and]
    · refine evNeg (by omega) (evEq ?_ (Ev.now _))
      simp only [ownB, decide_eq_false h2, Bool.and_false, Bool.false_and]
  · have h1' : sysB m v c = false := by simpa using h1
    refine evNeg h1 (evEq ?_ (Ev.now _))
    simp only [ownB, h1', Bool.false_and]
theorem spec_AreOwned_l0 (m : List (List Int)) (v : List Int) (c : Int) (hv : v.length ≤ 1048576) : ∀ (suf pre : List Int), (pre ++ suf).length ≤ 1048576 →
    Ev (fun k => spec_AreOwned.l0 k m v (pre ++ suf) c (pre.length : Int)) (sysB m v c && (decide ((pre ++ suf).length = m.length) && suf.all fun x => decide (0 ≤ x ∧ x ≤ 5))) := by
  intro suf
  induction suf with
  | nil =>
    intro pre hb
    refine Ev.step (fun k => by rw [spec_AreOwned.l0]) ?_
    refine evNeg (by simp) (Ev.bind (spec_IsSystem_ev m v c hv) ?_)
    by_cases h1 : sysB m v c = true
    · refine evPos h1 (evEq ?_ (Ev.now _))
      rw [h1]
      simp only [Bool.true_and, List.all_nil, Bool.and_true]
      by_cases h2 : (pre ++ []).length = m.length
      · rw [decide_eq_true h2, h2]
        simp
      · rw [decide_eq_false h2, beq_eq_false_iff_ne]
        omega
    · have h1' : sysB m v c = false := by simpa using h1
      refine evNeg h1 (evEq ?_ (Ev.now _))
      rw [h1', Bool.false_and]
  | cons x suf ih =>
    intro pre hb
    have hb' := hb
    simp only [List.length_append, List.length_cons] at hb'
    refine Ev.step (fun k => by rw [spec_AreOwned.l0]) ?_
    refine evPos (by simp only [List.length_append, List.length_cons]; omega) (evPos (by omega) ?_)
    rw [rd_mid, wsucc (by omega)]
    refine evSome (spec_l1In_eq _ _ _) ?_
    by_cases hx : 0 ≤ x ∧ x ≤ 5
    · have h := ih (pre ++ [x]) (by simpa using hb)
      refine evPos (by simpa using hx) (evEq ?_ (Ev.congr (fun k => ?_) h))
      · simp only [List.all_cons, decide_eq_true hx, Bool.true_and]
        simp
      · simp
    · refine evNeg (by simpa using hx) (evEq ?_ (Ev.now _))
      simp only [List.all_cons, decide_eq_false hx, Bool.false_and, Bool.and_false]
theorem spec_AreOwned_ev (m : List (List Int)) (v o : List Int) (c : Int) (hv : v.length ≤ 1048576) (ho : o.length ≤ 1048576) : Ev (fun k => spec_AreOwned.f k m v o c) (ownB m v o c) := by
  unfold spec_AreOwned.f
  exact spec_AreOwned_l0 m v c hv o [] (by simpa using ho)
/-! ### law_FnExactAreOwned -/
theorem FnExactAreOwned : laws_FnExactAreOwned.PureR := by
  intro m v o c h hv ho _
  have hr : ∀ r ∈ m, r.length ≤ 9223372036854775807 := fun r hr => (h.2 r hr).1
  refine Ev.rounds ?_
  unfold laws_FnExactAreOwned.f
  by_cases b1 : (v.length : Int) > 1048576
  · exact evPos b1 (Ev.now _)
  by_cases b2 : (o.length : Int) > 1048576
  · exact evNeg b1 (evPos b2 (Ev.now _))
  refine evNeg b1 (evNeg b2 (Ev.bind (szIntSS_ev m 1048576 (by omega) (by omega) h.1 hr) ?_))
  have h1 : v.length ≤ 1048576 := by omega
  have h2 : o.length ≤ 1048576 := by omega
  by_cases hb : leftII m 1048576 < 0
  · exact evPos hb (Ev.now _)
  · have hl : okII m := leftII_ok (by omega)
    refine evNeg hb (Ev.bind (toIntSS_ev m hl) (Ev.bind (toIntS_ev v h1) (Ev.bind (toIntS_ev o h2) (Ev.bind (spec_AreOwned_ev m v o c h1 h2) ?_))))
    refine Ev.bind (toIntSS_ev m hl) (Ev.bind (toIntS_ev v h1) (Ev.bind (toIntS_ev o h2) (Ev.bind (impl_AreOwned_ev m v o c hl.2 h1 h2) (evNeg (by simp) ?_))))
    refine Ev.bind (toIntSS_ev m hl) (Ev.bind (eqIntSS_ev m hl) (evPos rfl (Ev.bind (toIntS_ev v h1) (Ev.bind (eqIntS_ev v h1) (evPos rfl ?_)))))
    exact Ev.bind (toIntS_ev o h2) (Ev.bind (eqIntS_ev o h2) (evPos rfl (Ev.now _)))
end Go.Proofs.Ytjhbpiboemajeaa.Pure
