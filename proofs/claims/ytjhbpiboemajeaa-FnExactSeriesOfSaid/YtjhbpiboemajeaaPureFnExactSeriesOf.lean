/- The program's SeriesOf returns what the reference's returns, leaves its argument alone and returns new memory: for every list and number. -/
import Derived.Test.YtjhbpiboemajeaaRFnExactSeriesOf
import Derived.Test.YtjhbpiboemajeaaBase
namespace Go.Proofs.Ytjhbpiboemajeaa.Pure
open Go.RowKit Go.Proofs.Ytjhbpiboemajeaa.Base Go.Proofs.Ytjhbpiboemajeaa.PFnExactSeriesOf Go.Proofs.YtjhbpiboemajeaaW.PrintWords Go.Proofs.YtjhbpiboemajeaaW.PrintLast
set_option linter.unusedVariables false
set_option linter.unusedSimpArgs false
/-! ### seens -/
def leftL {α : Type} (l : List α) (a : Int) : Int := if a - (l.length : Int) < 0 then -1 else a - (l.length : Int)
theorem szSeenS_eq (l : List S64) (a : Int) (h0 : 0 ≤ a) (h1 : a ≤ 1048576) (hl : l.length ≤ 9223372036854775807) : laws_szSeenS.f l a = some (leftL l a) := by
  unfold laws_szSeenS.f leftL
  rw [w64 (by omega) (by omega)]
  split <;> rfl
theorem leftL_ok {α : Type} {l : List α} (h : 0 ≤ leftL l 1048576) : l.length ≤ 1048576 := by
  unfold leftL at h
  split at h <;> omega
def cvSeen (x : S64) : S51 := ⟨x.f0, x.f1, x.f2, x.f3, x.f4⟩
theorem toSeenS_l0 : ∀ (suf pre : List S64) (rest : List S51), (pre ++ suf).length ≤ 1048576 → rest.length = suf.length →
    Ev (fun k => laws_toSeenS.l0 k (pre ++ suf) (pre.map cvSeen ++ rest) (pre.length : Int)) ((pre ++ suf).map cvSeen) := by
  intro suf
  induction suf with
  | nil =>
    intro pre rest hb hr
    obtain rfl : rest = [] := by simpa using hr
    refine Ev.step (fun k => by rw [laws_toSeenS.l0]) ?_
    refine evNeg (by simp) (evEq ?_ (Ev.now _))
    simp
  | cons x suf ih =>
    intro pre rest hb hr
    obtain ⟨r, rest, rfl⟩ : ∃ r t, rest = r :: t := by
      cases rest with
      | nil => simp at hr
      | cons r t => exact ⟨r, t, rfl⟩
    simp only [List.length_append, List.length_cons] at hb hr
    refine Ev.step (fun k => by rw [laws_toSeenS.l0]) ?_
    refine evPos (by simp only [List.length_append, List.length_cons]; omega) (evPos (by omega) ?_)
    simp only [rd_T64, getD_mid]
    refine evSome rfl (evPos (by simp only [List.length_append, List.length_cons, List.length_map]; omega) ?_)
    rw [wsucc (by omega)]
    have h := ih (pre ++ [x]) rest (by simp; omega) (by omega)
    refine evEq ?_ (Ev.congr (fun k => ?_) h)
    · simp
    · have e : (pre.length : Int) = ((pre.map cvSeen).length : Int) := by simp
      rw [e, set_mid]
      simp [cvSeen]
theorem toSeenS_ev (l : List S64) (hl : l.length ≤ 1048576) : Ev (fun k => laws_toSeenS.f k l) (l.map cvSeen) := by
  unfold laws_toSeenS.f
  refine evPos (by omega) (evPos (by omega) ?_)
  have h := toSeenS_l0 l [] (List.replicate l.length z51) (by simpa using hl) (by simp)
  simpa using h
theorem eqSeen_eq (x : S51) : laws_eqSeen.f x.f0 x.f1 x.f2 x.f3 x.f4 x.f0 x.f1 x.f2 x.f3 x.f4 = some true := by
  simp [laws_eqSeen.f]
theorem eqSeenS_l0 : ∀ (suf pre : List S51), (pre ++ suf).length ≤ 1048576 →
    Ev (fun k => laws_eqSeenS.l0 k (pre ++ suf) (pre ++ suf) (pre.length : Int)) true := by
  intro suf
  induction suf with
  | nil =>
    intro pre hb
    refine Ev.step (fun k => by rw [laws_eqSeenS.l0]) ?_
    exact evNeg (by simp) (Ev.now _)
  | cons x suf ih =>
    intro pre hb
    simp only [List.length_append, List.length_cons] at hb
    refine Ev.step (fun k => by rw [laws_eqSeenS.l0]) ?_
    refine evPos (by simp only [List.length_append, List.length_cons]; omega) (evPos (by omega) (evPos (by simp only [List.length_append, List.length_cons]; omega) ?_))
    simp only [rd_T51, getD_mid]
    refine evSome (eqSeen_eq x) (evPos rfl ?_)
    rw [wsucc (by omega)]
    have h := ih (pre ++ [x]) (by simp; omega)
    simpa using h
theorem eqSeenS_ev (l : List S51) (hl : l.length ≤ 1048576) : Ev (fun k => laws_eqSeenS.f k l l) true := by
  unfold laws_eqSeenS.f
  refine evPos rfl ?_
  have h := eqSeenS_l0 l [] (by simpa using hl)
  simpa using h
/-! ### mseens -/
def mkS : Int → Nat → List S51
  | _, 0 => []
  | k, n + 1 => ⟨k, k + 1, k + 2, k + 3, Int.tmod (k + 4) 3 == 0⟩ :: mkS (k + 5) n
theorem mkS_length : ∀ (n : Nat) (k : Int), (mkS k n).length = n
  | 0, _ => rfl
  | n + 1, k => by simp [mkS, mkS_length n]
theorem markSeenS_l0 : ∀ (suf pre : List S51) (m : Int), (pre ++ suf).length ≤ 1048576 → 0 ≤ m → m + 5 * suf.length ≤ 4611686018427387904 →
    Ev (fun k => laws_markSeenS.l0 k (pre ++ suf) m (pre.length : Int)) (m + 5 * suf.length, pre ++ mkS m suf.length) := by
  intro suf
  induction suf with
  | nil =>
    intro pre m hb h0 hm
    refine Ev.step (fun k => by rw [laws_markSeenS.l0]) ?_
    refine evNeg (by simp) (evEq ?_ (Ev.now _))
    simp [mkS]
  | cons x suf ih =>
    intro pre m hb h0 hm
    simp only [List.length_append, List.length_cons] at hb hm
    refine Ev.step (fun k => by rw [laws_markSeenS.l0]) ?_
    refine evPos (by simp only [List.length_append, List.length_cons]; omega) (evPos (by omega) ?_)
    simp only [Option.bind_some, rd_T51, set_mid, getD_mid]
    rw [wsucc (by omega), w64 (n := m + 1) (by omega) (by omega), w64 (n := m + 1 + 1) (by omega) (by omega), w64 (n := m + 1 + 1 + 1) (by omega) (by omega), w64 (n := m + 1 + 1 + 1 + 1) (by omega) (by omega), w64 (n := m + 1 + 1 + 1 + 1 + 1) (by omega) (by omega)]
    have h := ih (pre ++ [⟨m, m + 1, m + 2, m + 3, Int.tmod (m + 4) 3 == 0⟩]) (m + 5) (by simp; omega) (by omega) (by omega)
    refine evEq ?_ (Ev.congr (fun k => ?_) h)
    · simp [mkS]
      omega
    · simp [Int.add_assoc]
theorem markSeenS_ev (l : List S51) (m : Int) (hl : l.length ≤ 1048576) (h0 : 0 ≤ m) (hm : m ≤ 1099511627776) : Ev (fun k => laws_markSeenS.f k l m) (m + 5 * l.length, mkS m l.length) := by
  have h := markSeenS_l0 l [] m (by simpa using hl) h0 (by omega)
  simpa [laws_markSeenS.f] using h
/-! ### ints -/
theorem eqIntS_l0 : ∀ (suf pre : List Int), (pre ++ suf).length ≤ 1048576 →
    Ev (fun k => laws_eqIntS.l0 k (pre ++ suf) (pre ++ suf) (pre.length : Int)) true := by
  intro suf
  induction suf with
  | nil =>
    intro pre hb
    refine Ev.step (fun k => by rw [laws_eqIntS.l0]) ?_
    exact evNeg (by simp) (Ev.now _)
  | cons x suf ih =>
    intro pre hb
    simp only [List.length_append, List.length_cons] at hb
    refine Ev.step (fun k => by rw [laws_eqIntS.l0]) ?_
    refine evPos (by simp only [List.length_append, List.length_cons]; omega) (evPos (by omega) (evPos (by simp only [List.length_append, List.length_cons]; omega) (evPos rfl ?_)))
    rw [wsucc (by omega)]
    have h := ih (pre ++ [x]) (by simp; omega)
    simpa using h
theorem eqIntS_ev (l : List Int) (hl : l.length ≤ 1048576) : Ev (fun k => laws_eqIntS.f k l l) true := by
  unfold laws_eqIntS.f
  refine evPos rfl ?_
  have h := eqIntS_l0 l [] (by simpa using hl)
  simpa using h
/-! ### mints -/
def mkI : Int → Nat → List Int
  | _, 0 => []
  | k, n + 1 => k :: mkI (k + 1) n
theorem mkI_length : ∀ (n : Nat) (k : Int), (mkI k n).length = n
  | 0, _ => rfl
  | n + 1, k => by simp [mkI, mkI_length n]
theorem markIntS_l0 : ∀ (suf pre : List Int) (m : Int), (pre ++ suf).length ≤ 1048576 → 0 ≤ m → m + suf.length ≤ 4611686018427387904 →
    Ev (fun k => laws_markIntS.l0 k (pre ++ suf) m (pre.length : Int)) (m + suf.length, pre ++ mkI m suf.length) := by
  intro suf
  induction suf with
  | nil =>
    intro pre m hb h0 hm
    refine Ev.step (fun k => by rw [laws_markIntS.l0]) ?_
    refine evNeg (by simp) (evEq ?_ (Ev.now _))
    simp [mkI]
  | cons x suf ih =>
    intro pre m hb h0 hm
    simp only [List.length_append, List.length_cons] at hb hm
    refine Ev.step (fun k => by rw [laws_markIntS.l0]) ?_
    refine evPos (by simp only [List.length_append, List.length_cons]; omega) (evPos (by omega) ?_)
    rw [set_mid, wsucc (by omega), w64 (by omega) (by omega)]
    have h := ih (pre ++ [m]) (m + 1) (by simp; omega) (by omega) (by omega)
    refine evEq ?_ (Ev.congr (fun k => ?_) h)
    · simp [mkI]
      omega
    · simp
theorem markIntS_ev (l : List Int) (m : Int) (hl : l.length ≤ 1048576) (h0 : 0 ≤ m) (hm : m ≤ 1099511627776) : Ev (fun k => laws_markIntS.f k l m) (m + l.length, mkI m l.length) := by
  have h := markIntS_l0 l [] m (by simpa using hl) h0 (by omega)
  simpa [laws_markIntS.f] using h
theorem heldIntS_l0 : ∀ (n : Nat) (pre : List Int) (m : Int), pre.length + n ≤ 1048576 → 0 ≤ m → m + n ≤ 4611686018427387904 →
    Ev (fun k => laws_heldIntS.l0 k (pre ++ mkI m n) m (pre.length : Int)) (m + n) := by
  intro n
  induction n with
  | zero =>
    intro pre m hb h0 hm
    refine Ev.step (fun k => by rw [laws_heldIntS.l0]) ?_
    refine evNeg (by simp [mkI]) (evEq ?_ (Ev.now _))
    simp
  | succ n ih =>
    intro pre m hb h0 hm
    refine Ev.step (fun k => by rw [laws_heldIntS.l0]) ?_
    refine evPos (by simp only [List.length_append, mkI_length]; omega) (evPos (by omega) ?_)
    rw [mkI, rd_mid, wsucc (by omega), w64 (by omega) (by omega)]
    refine evPos rfl ?_
    have h := ih (pre ++ [m]) (m + 1) (by simp; omega) (by omega) (by omega)
    refine evEq ?_ (Ev.congr (fun k => ?_) h)
    · omega
    · simp
theorem heldIntS_ev (n : Nat) (m : Int) (hl : n ≤ 1048576) (h0 : 0 ≤ m) (hm : m ≤ 1099511627776) : Ev (fun k => laws_heldIntS.f k (mkI m n) m) (m + n) := by
  have h := heldIntS_l0 n [] m (by simpa using hl) h0 (by omega)
  simpa [laws_heldIntS.f] using h
/-! ### series -/
def serV (l : List S51) (p : Int) : List Int := (l.filter fun x => decide (x.f0 = p) && !x.f4).map (·.f3)
theorem serV_length (l : List S51) (p : Int) : (serV l p).length ≤ l.length := by
  unfold serV
  rw [List.length_map]
  exact List.length_filter_le _ _
theorem impl_SeriesOf_l0 (p : Int) : ∀ (suf pre : List S51) (out : List Int), (pre ++ suf).length ≤ 1048576 → out.length ≤ pre.length →
    Ev (fun k => impl_SeriesOf.l0 k p out (pre ++ suf) ((pre ++ suf).length : Int) (pre.length : Int)) (out ++ serV suf p) := by
  intro suf
  induction suf with
  | nil =>
    intro pre out hb ho
    refine Ev.step (fun k => by rw [impl_SeriesOf.l0]) ?_
    refine evNeg (by simp) (evEq ?_ (Ev.now _))
    simp [serV]
  | cons x suf ih =>
    intro pre out hb ho
    simp only [List.length_append, List.length_cons] at hb
    refine Ev.step (fun k => by rw [impl_SeriesOf.l0]) ?_
    refine evPos (by simp only [List.length_append, List.length_cons]; omega) (evPos (by omega) (evPos (by simp only [List.length_append, List.length_cons]; omega) ?_))
    simp only [rd_T51, getD_mid]
    rw [wsucc (by omega)]
    have h := fun out ho => ih (pre ++ [x]) out (by simp; omega) ho
    have hno := h out (by simp; omega)
    by_cases h1 : x.f0 = p
    · refine evPos h1 ?_
      by_cases h4 : x.f4 = true
      · refine evPos h4 (evEq ?_ (Ev.congr (fun k => ?_) hno))
        · simp [serV, h1, h4]
        · simp
      · have h' := h (out ++ [x.f3]) (by simp; omega)
        refine evNeg h4 (evPos (by omega) (evEq ?_ (Ev.congr (fun k => ?_) h')))
        · simp [serV, h1, h4]
        · simp
    · refine evNeg h1 (evEq ?_ (Ev.congr (fun k => ?_) hno))
      · simp [serV, h1]
      · simp
theorem impl_SeriesOf_ev (l : List S51) (p : Int) (hl : l.length ≤ 1048576) : Ev (fun k => impl_SeriesOf.f k l p) (serV l p) := by
  have h := impl_SeriesOf_l0 p l [] [] (by simpa using hl) (by simp)
  simpa [impl_SeriesOf.f] using h
/-! ### sseries -/
theorem spec_SeriesOf_l0 (p : Int) : ∀ (suf pre : List S51) (out : List Int), (pre ++ suf).length ≤ 1048576 → out.length ≤ pre.length →
    Ev (fun k => spec_SeriesOf.l0 k (pre ++ suf) p out (pre.length : Int)) (out ++ serV suf p) := by
  intro suf
  induction suf with
  | nil =>
    intro pre out hb ho
    refine Ev.step (fun k => by rw [spec_SeriesOf.l0]) ?_
    refine evNeg (by simp) (evEq ?_ (Ev.now _))
    simp [serV]
  | cons x suf ih =>
    intro pre out hb ho
    simp only [List.length_append, List.length_cons] at hb
    refine Ev.step (fun k => by rw [spec_SeriesOf.l0]) ?_
    refine evPos (by simp only [List.length_append, List.length_cons]; omega) (evPos (by omega) ?_)
    simp only [rd_T51, getD_mid]
    rw [wsucc (by omega)]
    have h := fun out ho => ih (pre ++ [x]) out (by simp; omega) ho
    have hno := h out (by simp; omega)
    by_cases h1 : x.f0 = p
    · refine evPos h1 ?_
      by_cases h4 : x.f4 = true
      · refine evPos h4 (evEq ?_ (Ev.congr (fun k => ?_) hno))
        · simp [serV, h1, h4]
        · simp
      · have h' := h (out ++ [x.f3]) (by simp; omega)
        refine evNeg h4 (evPos (by omega) (evEq ?_ (Ev.congr (fun k => ?_) h')))
        · simp [serV, h1, h4]
        · simp
    · refine evNeg h1 (evEq ?_ (Ev.congr (fun k => ?_) hno))
      · simp [serV, h1]
      · simp
theorem spec_SeriesOf_ev (l : List S51) (p : Int) (hl : l.length ≤ 1048576) : Ev (fun k => spec_SeriesOf.f k l p) (serV l p) := by
  have h := spec_SeriesOf_l0 p l [] [] (by simpa using hl) (by simp)
  simpa [spec_SeriesOf.f] using h
/-! ### law_FnExactSeriesOf -/
theorem FnExactSeriesOf : laws_FnExactSeriesOf.PureR := by
  intro l b h _
  refine Ev.rounds ?_
  unfold laws_FnExactSeriesOf.f
  refine evSome (szSeenS_eq l 1048576 (by omega) (by omega) h.1) ?_
  by_cases hb : leftL l 1048576 < 0
  · exact evPos hb (Ev.now _)
  · have hl : l.length ≤ 1048576 := leftL_ok (by omega)
    have hm : (l.map cvSeen).length ≤ 1048576 := by simpa using hl
    have hf := serV_length (l.map cvSeen) b
    refine evNeg hb (Ev.bind (toSeenS_ev l hl) (Ev.bind (spec_SeriesOf_ev _ b hm) (Ev.bind (toSeenS_ev l hl) (Ev.bind (impl_SeriesOf_ev _ b hm) (Ev.bind (eqIntS_ev _ (by omega)) (evPos rfl ?_))))))
    refine Ev.bind (toSeenS_ev l hl) (Ev.bind (eqSeenS_ev _ hm) (evPos rfl (Ev.bind (markSeenS_ev _ 1 hm (by omega) (by omega)) (evNeg (by simp; omega) (Ev.bind (eqIntS_ev _ (by omega)) ?_)))))
    refine Ev.step (fun k => by rw [laws_FnExactSeriesOf.j0]) ?_
    refine evNeg (by simp) (Ev.bind (markIntS_ev _ 1 (by omega) (by omega) (by omega)) (Ev.bind (heldIntS_ev _ 1 (by omega) (by omega) (by omega)) (evNeg (by omega) (evPos rfl ?_))))
    refine Ev.bind (toSeenS_ev l hl) (Ev.bind (impl_SeriesOf_ev _ b hm) (Ev.bind (eqIntS_ev _ (by omega)) (evPos rfl ?_)))
    exact Ev.bind (heldIntS_ev _ 1 (by omega) (by omega) (by omega)) (evNeg (by omega) (evPos rfl (Ev.now _)))
end Go.Proofs.Ytjhbpiboemajeaa.Pure
