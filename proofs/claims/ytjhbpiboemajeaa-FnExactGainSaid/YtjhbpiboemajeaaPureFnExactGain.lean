/- The program's Gain returns what the reference's returns, and leaves its argument alone: for every list of rows and all hosts. -/
import Derived.Test.YtjhbpiboemajeaaRFnExactGain
import Derived.Test.YtjhbpiboemajeaaBase
namespace Go.Proofs.Ytjhbpiboemajeaa.Pure
open Go.RowKit Go.Proofs.Ytjhbpiboemajeaa.Base Go.Proofs.Ytjhbpiboemajeaa.PFnExactGain Go.Proofs.YtjhbpiboemajeaaW.PrintWords Go.Proofs.YtjhbpiboemajeaaW.PrintLast
set_option linter.unusedVariables false
set_option linter.unusedSimpArgs false
/-! ### szints -/
def leftI (l : List Int) (a : Int) : Int := if a - (l.length : Int) < 0 then -1 else a - (l.length : Int)
theorem szIntS_eq (l : List Int) (a : Int) (h0 : 0 ≤ a) (h1 : a ≤ 1048576) (hl : l.length ≤ 9223372036854775807) : laws_szIntS.f l a = some (leftI l a) := by
  unfold laws_szIntS.f leftI
  rw [w64 (by omega) (by omega)]
  split <;> rfl
/-! ### ints -/
theorem toIntS_l0 : ∀ (suf pre rest : List Int), (pre ++ suf).length ≤ 1048576 → rest.length = suf.length →
    Ev (fun k => laws_toIntS.l0 k (pre ++ suf) (pre ++ rest) (pre.length : Int)) (pre ++ suf) := by
  intro suf
  induction suf with
  | nil =>
    intro pre rest hb hr
    obtain rfl : rest = [] := by simpa using hr
    refine Ev.step (fun k => by rw [laws_toIntS.l0]) ?_
    exact evNeg (by simp) (Ev.now _)
  | cons x suf ih =>
    intro pre rest hb hr
    obtain ⟨r, rest, rfl⟩ : ∃ r t, rest = r :: t := by
      cases rest with
      | nil => simp at hr
      | cons r t => exact ⟨r, t, rfl⟩
    simp only [List.length_append, List.length_cons] at hb hr
    refine Ev.step (fun k => by rw [laws_toIntS.l0]) ?_
    refine evPos (by simp only [List.length_append, List.length_cons]; omega) (evPos (by omega) (evPos (by simp only [List.length_append, List.length_cons]; omega) ?_))
    rw [rd_mid, set_mid, wsucc (by omega)]
    have h := ih (pre ++ [x]) rest (by simp; omega) (by omega)
    simpa using h
theorem toIntS_ev (l : List Int) (hl : l.length ≤ 1048576) : Ev (fun k => laws_toIntS.f k l) l := by
  unfold laws_toIntS.f
  refine evPos (by omega) (evPos (by omega) ?_)
  have h := toIntS_l0 l [] (List.replicate l.length 0) (by simpa using hl) (by simp)
  simpa using h
theorem eqIntS_l0 : ∀ (suf pre : List Int), (pre ++ suf).length ≤ 1048576 →
    Ev (fun k => laws_eqIntS.l0 k (pre ++ suf) (pre ++ suf) (pre.length : Int)) true := by
  intro suf
  induction suf with
  | nil =>
    intro pre hb
    refine Ev.step (fun k => by rw [laws_eqIntS.l0]) ?_
    exact evNeg (by simp) (Ev.now _)
  | cons x suf ih =>
    intro pre hb
    simp only [List.length_append, List.length_cons] at hb
    refine Ev.step (fun k => by rw [laws_eqIntS.l0]) ?_
    refine evPos (by simp only [List.length_append, List.length_cons]; omega) (evPos (by omega) (evPos (by simp only [List.length_append, List.length_cons]; omega) (evPos rfl ?_)))
    rw [wsucc (by omega)]
    have h := ih (pre ++ [x]) (by simp; omega)
    simpa using h
theorem eqIntS_ev (l : List Int) (hl : l.length ≤ 1048576) : Ev (fun k => laws_eqIntS.f k l l) true := by
  unfold laws_eqIntS.f
  refine evPos rfl ?_
  have h := eqIntS_l0 l [] (by simpa using hl)
  simpa using h
/-! ### intss -/
/-- What is left of a behind the lists' own lengths and the list's length; -1 where it is not enough. -/
def leftR : List (List Int) → Int → Int
  | [], a => a
  | r :: rs, a => if leftI r a < 0 then -1 else leftR rs (leftI r a)
def leftII (l : List (List Int)) (a : Int) : Int := if a - (l.length : Int) < 0 then -1 else leftR l (a - (l.length : Int))
theorem szIntSS_l0 : ∀ (suf pre : List (List Int)) (a : Int), (pre ++ suf).length ≤ 1048576 → 0 ≤ a → a ≤ 1048576 → (∀ r ∈ suf, r.length ≤ 9223372036854775807) →
    Ev (fun k => laws_szIntSS.l0 k (pre ++ suf) a (pre.length : Int)) (leftR suf a) := by
  intro suf
  induction suf with
  | nil =>
    intro pre a hb h0 h1 hr
    refine Ev.step (fun k => by rw [laws_szIntSS.l0]) ?_
    exact evNeg (by simp) (Ev.now _)
  | cons x suf ih =>
    intro pre a hb h0 h1 hr
    simp only [List.length_append, List.length_cons] at hb
    refine Ev.step (fun k => by rw [laws_szIntSS.l0]) ?_
    refine evPos (by simp only [List.length_append, List.length_cons]; omega) (evPos (by omega) ?_)
    rw [rd_L1, getD_mid, wsucc (by omega)]
    refine evSome (szIntS_eq x a h0 h1 (hr x (by simp))) ?_
    by_cases hx : leftI x a < 0
    · refine evPos hx (evEq ?_ (Ev.now _))
      simp [leftR, hx]
    · refine evNeg hx ?_
      have hle : leftI x a ≤ 1048576 := by
        unfold leftI
        split <;> omega
      have h := ih (pre ++ [x]) (leftI x a) (by simp; omega) (by omega) hle (fun r h => hr r (by simp [h]))
      refine evEq ?_ (Ev.congr (fun k => ?_) h)
      · simp [leftR, hx]
      · simp
theorem szIntSS_ev (l : List (List Int)) (a : Int) (h0 : 0 ≤ a) (h1 : a ≤ 1048576) (hl : l.length ≤ 9223372036854775807) (hr : ∀ r ∈ l, r.length ≤ 9223372036854775807) : Ev (fun k => laws_szIntSS.f k l a) (leftII l a) := by
  unfold laws_szIntSS.f
  rw [w64 (by omega) (by omega)]
  by_cases h : a - (l.length : Int) < 0
  · refine evPos h (evEq ?_ (Ev.now _))
    simp [leftII, h]
  · refine evNeg h (evEq ?_ (szIntSS_l0 l [] _ (by simp; omega) (by omega) (by omega) hr))
    simp [leftII, h]
theorem leftR_rows : ∀ (l : List (List Int)) (a : Int), 0 ≤ leftR l a → 0 ≤ a → a ≤ 1048576 → (∀ r ∈ l, r.length ≤ 1048576)
  | [], _, _, _, _ => by simp
  | r :: rs, a, h, h0, h1 => by
    unfold leftR at h
    split at h
    · omega
    · rename_i hx
      have hx' : 0 ≤ leftI r a := by omega
      have hrl : r.length ≤ 1048576 ∧ leftI r a ≤ 1048576 := by
        unfold leftI at hx' ⊢
        split at hx' <;> split <;> omega
      intro q hq
      rcases List.mem_cons.1 hq with rfl | hq
      · exact hrl.1
      · exact leftR_rows rs _ h hx' hrl.2 q hq
/-- Rows that may be examined. -/
def okII (l : List (List Int)) : Prop := l.length ≤ 1048576 ∧ ∀ r ∈ l, r.length ≤ 1048576
theorem leftII_ok {l : List (List Int)} (h : 0 ≤ leftII l 1048576) : okII l := by
  unfold leftII at h
  split at h
  · omega
  · exact ⟨by omega, leftR_rows l _ h (by omega) (by omega)⟩
theorem toIntSS_l0 : ∀ (suf pre rest : List (List Int)), (pre ++ suf).length ≤ 1048576 → rest.length = suf.length → (∀ r ∈ suf, r.length ≤ 1048576) →
    Ev (fun k => laws_toIntSS.l0 k (pre ++ suf) (pre ++ rest) (pre.length : Int)) (pre ++ suf) := by
  intro suf
  induction suf with
  | nil =>
    intro pre rest hb hr hq
    obtain rfl : rest = [] := by simpa using hr
    refine Ev.step (fun k => by rw [laws_toIntSS.l0]) ?_
    exact evNeg (by simp) (Ev.now _)
  | cons x suf ih =>
    intro pre rest hb hr hq
    obtain ⟨r, rest, rfl⟩ : ∃ r t, rest = r :: t := by
      cases rest with
      | nil => simp at hr
      | cons r t => exact ⟨r, t, rfl⟩
    simp only [List.length_append, List.length_cons] at hb hr
    refine Ev.step (fun k => by rw [laws_toIntSS.l0]) ?_
    refine evPos (by simp only [List.length_append, List.length_cons]; omega) (evPos (by omega) ?_)
    rw [rd_L1, getD_mid]
    refine Ev.bind (toIntS_ev x (hq x (by simp))) (evPos (by simp only [List.length_append, List.length_cons]; omega) ?_)
    rw [set_mid, wsucc (by omega)]
    have h := ih (pre ++ [x]) rest (by simp; omega) (by omega) (fun r h => hq r (by simp [h]))
    simpa using h
theorem toIntSS_ev (l : List (List Int)) (hl : okII l) : Ev (fun k => laws_toIntSS.f k l) l := by
  have h0 := hl.1
  unfold laws_toIntSS.f
  refine evPos (by omega) (evPos (by omega) ?_)
  have h := toIntSS_l0 l [] (List.replicate l.length []) (by simpa using hl.1) (by simp) hl.2
  simpa using h
theorem eqIntSS_l0 : ∀ (suf pre : List (List Int)), (pre ++ suf).length ≤ 1048576 → (∀ r ∈ suf, r.length ≤ 1048576) →
    Ev (fun k => laws_eqIntSS.l0 k (pre ++ suf) (pre ++ suf) (pre.length : Int)) true := by
  intro suf
  induction suf with
  | nil =>
    intro pre hb hq
    refine Ev.step (fun k => by rw [laws_eqIntSS.l0]) ?_
    exact evNeg (by simp) (Ev.now _)
  | cons x suf ih =>
    intro pre hb hq
    simp only [List.length_append, List.length_cons] at hb
    refine Ev.step (fun k => by rw [laws_eqIntSS.l0]) ?_
    refine evPos (by simp only [List.length_append, List.length_cons]; omega) (evPos (by omega) (evPos (by simp only [List.length_append, List.length_cons]; omega) ?_))
    rw [rd_L1, getD_mid]
    refine Ev.bind (eqIntS_ev x (hq x (by simp))) (evPos rfl ?_)
    rw [wsucc (by omega)]
    have h := ih (pre ++ [x]) (by simp; omega) (fun r h => hq r (by simp [h]))
    simpa using h
theorem eqIntSS_ev (l : List (List Int)) (hl : okII l) : Ev (fun k => laws_eqIntSS.f k l l) true := by
  unfold laws_eqIntSS.f
  refine evPos rfl ?_
  have h := eqIntSS_l0 l [] (by simpa using hl.1) hl.2
  simpa using h
/-! ### small -/
theorem spec_l1In_eq (a b c : Int) : spec_l1In.f a b c = some (decide (b ≤ a ∧ a ≤ c)) := by
  unfold spec_l1In.f
  by_cases h : a ≥ b
  · rw [if_pos h]
    simp [show b ≤ a from h]
  · rw [if_neg h]
    have : ¬ b ≤ a := h
    simp [this]
/-! ### inrange -/
theorem impl_InRange_eq (a b c : Int) : impl_InRange.f a b c = some (decide (b ≤ a ∧ a ≤ c)) := by
  unfold impl_InRange.f
  by_cases h : b ≤ a
  · rw [if_pos h]
    simp [h]
  · rw [if_neg h]
    simp [h]
/-! ### allin -/
theorem impl_allIn_l0 (lo hi : Int) : ∀ (suf pre : List Int), (pre ++ suf).length ≤ 1048576 →
    Ev (fun k => impl_allIn.l0 k lo hi (pre ++ suf) ((pre ++ suf).length : Int) (pre.length : Int)) (suf.all fun x => decide (lo ≤ x ∧ x ≤ hi)) := by
  intro suf
  induction suf with
  | nil =>
    intro pre hb
    refine Ev.step (fun k => by rw [impl_allIn.l0]) ?_
    exact evNeg (by simp) (Ev.now _)
  | cons x suf ih =>
    intro pre hb
    simp only [List.length_append, List.length_cons] at hb
    refine Ev.step (fun k => by rw [impl_allIn.l0]) ?_
    refine evPos (by simp only [List.length_append, List.length_cons]; omega) (evPos (by omega) (evPos (by simp only [List.length_append, List.length_cons]; omega) ?_))
    rw [rd_mid, wsucc (by omega)]
    refine evSome (impl_InRange_eq _ _ _) ?_
    by_cases hx : lo ≤ x ∧ x ≤ hi
    · refine evPos (by simp [hx]) ?_
      have h := ih (pre ++ [x]) (by simp; omega)
      refine evEq ?_ (Ev.congr (fun k => ?_) h)
      · simp [hx]
      · simp
    · refine evNeg (by simpa using hx) (evEq ?_ (Ev.now _))
      simp [hx]
theorem impl_allIn_ev (l : List Int) (lo hi : Int) (hl : l.length ≤ 1048576) : Ev (fun k => impl_allIn.f k l lo hi) (l.all fun x => decide (lo ≤ x ∧ x ≤ hi)) := by
  have h := impl_allIn_l0 lo hi l [] (by simpa using hl)
  simpa [impl_allIn.f] using h
/-! ### times -/
def tmR (v : Int) : Bool := decide (-1 ≤ v ∧ v ≤ 100000)
def rowTail (i : Nat) : Nat → List Int → Bool
  | _, [] => true
  | j, v :: vs => tmR v && (decide (i ≠ j) || decide (v = 0)) && rowTail i (j + 1) vs
def rowOk (n i : Nat) (row : List Int) : Bool := decide (row.length = n) && rowTail i 0 row
def rowsOk (n : Nat) : Nat → List (List Int) → Bool
  | _, [] => true
  | i, r :: rs => rowOk n i r && rowsOk n (i + 1) rs
def timesB (t : List (List Int)) : Bool := decide (1 ≤ t.length ∧ t.length ≤ 6) && rowsOk t.length 0 t
theorem rowTail_eq (i : Nat) : ∀ (j : Nat) (row : List Int), rowTail i j row = (row.all tmR && (decide (i < j) || decide (j + row.length ≤ i) || decide (row.getD (i - j) 0 = 0)))
  | j, [] => by
    simp [rowTail] <;> omega
  | j, v :: vs => by
    rw [rowTail, rowTail_eq i (j + 1) vs, List.all_cons]
    by_cases hij : i = j
    · subst hij
      by_cases hv : v = 0 <;> by_cases ht : tmR v = true <;> by_cases ha : vs.all tmR = true <;> simp_all
    · by_cases hlt : i < j
      · by_cases ht : tmR v = true <;> by_cases ha : vs.all tmR = true <;> simp_all <;> omega
      · obtain ⟨d, hd⟩ : ∃ d, i - j = d + 1 := ⟨i - j - 1, by omega⟩
        have hd' : i - (j + 1) = d := by omega
        rw [hd, hd', List.getD_cons_succ]
        have e1 : decide (i < j + 1) = false := by simp; omega
        have e2 : decide (i < j) = false := by simp; omega
        have e3 : decide (j + 1 + vs.length ≤ i) = decide (j + (v :: vs).length ≤ i) := by simp [Nat.add_assoc, Nat.add_comm 1]
        rw [e1, e2, e3]
        simp [hij, Bool.and_assoc]
theorem rowOk_eq (n i : Nat) (row : List Int) (hi : i < n) : rowOk n i row = (decide (row.length = n) && (row.all tmR && decide (row.getD i 0 = 0))) := by
  unfold rowOk
  rw [rowTail_eq]
  by_cases hl : row.length = n
  · have e : decide (0 + row.length ≤ i) = false := by simp; omega
    rw [e]
    simp [hl]
  · simp [hl]
theorem spec_IsTimes_l1 (pre suf : List (List Int)) (row : List Int) (R : Bool) (hb : (pre ++ row :: suf).length ≤ 1048576) (hr : row.length ≤ 1048576)
    (hk : Ev (fun k => spec_IsTimes.l0 k (pre ++ row :: suf) ((pre.length + 1 : Nat) : Int)) R) : ∀ (rs rp : List Int), row = rp ++ rs →
    Ev (fun k => spec_IsTimes.l1 k (pre ++ row :: suf) (pre.length : Int) (rp.length : Int)) (rowTail pre.length rp.length rs && R) := by
  intro rs
  simp only [List.length_append, List.length_cons] at hb
  induction rs with
  | nil =>
    intro rp e
    refine Ev.step (fun k => by rw [spec_IsTimes.l1]) ?_
    simp only [rd_L1, getD_mid]
    refine evPos (by omega) (evPos (by simp only [List.length_append, List.length_cons]; omega) (evNeg (by rw [e]; simp) ?_))
    rw [wsucc (by omega)]
    simpa [rowTail] using hk
  | cons v vs ih =>
    intro rp e
    have hl : row.length = rp.length + (vs.length + 1) := by rw [e]; simp
    refine Ev.step (fun k => by rw [spec_IsTimes.l1]) ?_
    simp only [rd_L1, getD_mid]
    refine evPos (by omega) (evPos (by simp only [List.length_append, List.length_cons]; omega) (evPos (by omega) (evPos (by omega) ?_)))
    have ev : rd row (rp.length : Int) = v := by rw [e, rd_mid]
    rw [ev, wsucc (by omega)]
    refine evSome (spec_l1In_eq _ _ _) ?_
    have h := ih (rp ++ [v]) (by simp [e])
    have h' : Ev (fun k => spec_IsTimes.l1 k (pre ++ row :: suf) (pre.length : Int) ((rp.length + 1 : Nat) : Int)) (rowTail pre.length (rp.length + 1) vs && R) := by simpa using h
    by_cases ht : -1 ≤ v ∧ v ≤ 100000
    · refine evPos (by simpa using ht) ?_
      have ht' : tmR v = true := by simpa [tmR] using ht
      by_cases hij : pre.length = rp.length
      · refine evPos (by omega) ?_
        by_cases hv : v = 0
        · refine evPos hv (evEq ?_ h')
          simp only [rowTail, ht', decide_eq_true hv, Bool.or_true, Bool.true_and]
        · refine evNeg hv (evEq ?_ (Ev.now _))
          simp [rowTail, hv, hij]
      · refine evNeg (by omega) (evEq ?_ h')
        simp [rowTail, ht', hij]
    · refine evNeg (by simpa using ht) (evEq ?_ (Ev.now _))
      have ht' : tmR v = false := by simpa [tmR] using ht
      simp [rowTail, ht']
theorem spec_IsTimes_l0 (n : Nat) : ∀ (suf pre : List (List Int)), (pre ++ suf).length = n → n ≤ 1048576 → (∀ r ∈ suf, r.length ≤ 1048576) →
    Ev (fun k => spec_IsTimes.l0 k (pre ++ suf) (pre.length : Int)) (rowsOk n pre.length suf && decide (1 ≤ n ∧ n ≤ 6)) := by
  intro suf
  induction suf with
  | nil =>
    intro pre hn hb hr
    refine Ev.step (fun k => by rw [spec_IsTimes.l0]) ?_
    refine evNeg (by simp) (evSome (spec_l1In_eq _ _ _) (evEq ?_ (Ev.now _)))
    rw [hn]
    simp only [rowsOk, Bool.true_and, decide_eq_decide]
    omega
  | cons x suf ih =>
    intro pre hn hb hr
    have hn' := hn
    simp only [List.length_append, List.length_cons] at hn'
    refine Ev.step (fun k => by rw [spec_IsTimes.l0]) ?_
    refine evPos (by simp only [List.length_append, List.length_cons]; omega) (evPos (by omega) ?_)
    simp only [rd_L1, getD_mid]
    by_cases hx : x.length = n
    · refine evPos (by rw [hn]; omega) ?_
      have h := ih (pre ++ [x]) (by rw [← hn]; simp) hb (fun r h => hr r (by simp [h]))
      have h' : Ev (fun k => spec_IsTimes.l0 k (pre ++ x :: suf) ((pre.length + 1 : Nat) : Int)) (rowsOk n (pre.length + 1) suf && decide (1 ≤ n ∧ n ≤ 6)) := by simpa using h
      have h2 := spec_IsTimes_l1 pre suf x _ (by rw [hn]; omega) (hr x (by simp)) h' x [] rfl
      refine evEq ?_ h2
      simp [rowsOk, rowOk, hx, Bool.and_assoc]
    · refine evNeg (by rw [hn]; omega) (evEq ?_ (Ev.now _))
      simp [rowsOk, rowOk, hx]
theorem spec_IsTimes_ev (t : List (List Int)) (h : t.length ≤ 1048576) (hr : ∀ r ∈ t, r.length ≤ 1048576) : Ev (fun k => spec_IsTimes.f k t) (timesB t) := by
  have h := spec_IsTimes_l0 t.length t [] (by simp) h hr
  unfold spec_IsTimes.f
  refine evEq ?_ h
  simp only [timesB, List.length_nil]
  rw [Bool.and_comm]
theorem impl_IsTimes_l0 (t : List (List Int)) : ∀ (suf pre : List (List Int)), pre ++ suf = t → t.length ≤ 6 → (∀ r ∈ suf, r.length ≤ 1048576) →
    Ev (fun k => impl_IsTimes.l0 k t t (t.length : Int) (pre.length : Int)) (rowsOk t.length pre.length suf) := by
  intro suf
  induction suf with
  | nil =>
    intro pre e hb hr
    refine Ev.step (fun k => by rw [impl_IsTimes.l0]) ?_
    refine evNeg (by rw [← e]; simp) (evEq ?_ (Ev.now _))
    simp [rowsOk]
  | cons x suf ih =>
    intro pre e hb hr
    have hn : t.length = pre.length + (suf.length + 1) := by rw [← e]; simp
    have hx : t.getD ((pre.length : Int).toNat) [] = x := by rw [← e, getD_mid]
    refine Ev.step (fun k => by rw [impl_IsTimes.l0]) ?_
    simp only [rd_L1, hx]
    refine evPos (by omega) (evPos (by omega) (evPos (by omega) ?_))
    rw [wsucc (by omega)]
    have h := ih (pre ++ [x]) (by simp [← e]) hb (fun r h => hr r (by simp [h]))
    have h' : Ev (fun k => impl_IsTimes.l0 k t t (t.length : Int) ((pre.length + 1 : Nat) : Int)) (rowsOk t.length (pre.length + 1) suf) := by simpa using h
    rw [rowsOk, rowOk_eq _ _ _ (by omega)]
    by_cases hl : x.length = t.length
    · refine evPos (by omega) (Ev.bind (impl_allIn_ev x (-1) 100000 (hr x (by simp))) ?_)
      have ea : (x.all fun v => decide (-1 ≤ v ∧ v ≤ 100000)) = x.all tmR := rfl
      rw [ea]
      by_cases ha : x.all tmR = true
      · refine evPos ha (evPos (by omega) ?_)
        have er : rd x (pre.length : Int) = x.getD pre.length 0 := by simp [rd]
        rw [er]
        by_cases hz : x.getD pre.length 0 = 0
        · refine evPos hz (evEq ?_ h')
          simp only [hl, ha, hz, decide_true, Bool.true_and]
        · refine evNeg hz (evEq ?_ (Ev.now _))
          simp only [hz, decide_false, Bool.and_false, Bool.false_and]
      · have ha' : x.all tmR = false := by simpa using ha
        refine evNeg ha (evEq ?_ (Ev.now _))
        rw [ha']
        simp
    · refine evNeg (by omega) (evEq ?_ (Ev.now _))
      simp [hl]
theorem impl_IsTimes_ev (t : List (List Int)) (hr : ∀ r ∈ t, r.length ≤ 1048576) : Ev (fun k => impl_IsTimes.f k t) (timesB t) := by
  unfold impl_IsTimes.f
  refine evSome (impl_InRange_eq _ _ _) ?_
  by_cases hl : 1 ≤ t.length ∧ t.length ≤ 6
  · refine evPos (by simp; omega) (evEq ?_ (impl_IsTimes_l0 t t [] rfl hl.2 hr))
    simp [timesB, hl]
  · refine evNeg (by simp; omega) (evEq ?_ (Ev.now _))
    simp [timesB, hl]
/-! ### at -/
theorem impl_at_eq (a n : Int) : impl_at.f a n = some (decide (0 ≤ a ∧ a < n)) := by
  unfold impl_at.f
  by_cases h : a ≥ 0
  · rw [if_pos h]
    simp [show 0 ≤ a from h]
  · rw [if_neg h]
    have : ¬ 0 ≤ a := h
    simp [this]
/-! ### timeover -/
/-- A time of a table: 0 where there is none. -/
def tm (t : List (List Int)) (a b : Int) : Int := (t.getD a.toNat []).getD b.toNat 0
def hostB (t : List (List Int)) (a : Int) : Bool := decide (0 ≤ a ∧ a < (t.length : Int))
def overV (t : List (List Int)) (a r b : Int) : Int :=
  if timesB t = true ∧ hostB t a = true ∧ hostB t r = true ∧ hostB t b = true ∧ ¬ tm t a r < 0 ∧ ¬ tm t r b < 0 then tm t a r + tm t r b else -1
theorem rowsOk_get (n : Nat) : ∀ (rs : List (List Int)) (i j : Nat) (row : List Int), rowsOk n i rs = true → rs[j]? = some row → rowOk n (i + j) row = true
  | [], _, _, _, _, h => by simp at h
  | r :: rs, i, 0, row, h, e => by
    simp only [rowsOk, Bool.and_eq_true] at h
    simp at e
    subst e
    exact h.1
  | r :: rs, i, j + 1, row, h, e => by
    simp only [rowsOk, Bool.and_eq_true] at h
    simp at e
    have := rowsOk_get n rs (i + 1) j row h.2 e
    rwa [show i + 1 + j = i + (j + 1) by omega] at this
theorem times_row {t : List (List Int)} (ht : timesB t = true) {a : Int} (ha : hostB t a = true) : (t.getD a.toNat []).length = t.length ∧ t.length ≤ 6 ∧ (∀ v ∈ t.getD a.toNat [], -1 ≤ v ∧ v ≤ 100000) ∧ (t.getD a.toNat []).getD a.toNat 0 = 0 := by
  simp only [timesB, Bool.and_eq_true, decide_eq_true_eq] at ht
  simp only [hostB, decide_eq_true_eq] at ha
  have hlt : a.toNat < t.length := by omega
  have e : t[a.toNat]? = some (t.getD a.toNat []) := by simp [List.getD, hlt]
  have h := rowsOk_get t.length t 0 a.toNat _ ht.2 e
  rw [Nat.zero_add, rowOk_eq _ _ _ hlt] at h
  simp only [Bool.and_eq_true, decide_eq_true_eq, List.all_eq_true, tmR] at h
  exact ⟨h.1, ht.1.2, h.2.1, h.2.2⟩
theorem tm_range {t : List (List Int)} (ht : timesB t = true) {a b : Int} (ha : hostB t a = true) : -1 ≤ tm t a b ∧ tm t a b ≤ 100000 := by
  obtain ⟨h1, h2, h3, _⟩ := times_row ht ha
  unfold tm
  rw [List.getD_eq_getElem?_getD]
  rcases e : (t.getD a.toNat [])[b.toNat]? with _ | v
  · simp
  · exact h3 v (List.mem_of_getElem? e)
theorem spec_l26Host_eq (t : List (List Int)) (a : Int) (hl : t.length ≤ 1048576) : spec_l26Host.f t a = some (hostB t a) := by
  unfold spec_l26Host.f
  rw [spec_l1In_eq, w64 (by omega) (by omega)]
  simp only [Option.bind_some, hostB, Option.some.injEq, decide_eq_decide]
  omega
theorem rdrd (t : List (List Int)) (a b : Int) : rd (t.getD a.toNat []) b = tm t a b := rfl
theorem spec_TimeOver_ev (t : List (List Int)) (a r b : Int) (hl : t.length ≤ 1048576) (hr : ∀ r ∈ t, r.length ≤ 1048576) : Ev (fun k => spec_TimeOver.f k t a r b) (overV t a r b) := by
  unfold spec_TimeOver.f
  refine Ev.bind (spec_IsTimes_ev t hl hr) ?_
  by_cases ht : timesB t = true
  · refine evPos ht (evSome (spec_l26Host_eq t a hl) ?_)
    by_cases ha : hostB t a = true
    · refine evPos ha (evSome (spec_l26Host_eq t r hl) ?_)
      by_cases hh : hostB t r = true
      · refine evPos hh (evSome (spec_l26Host_eq t b hl) ?_)
        by_cases hb : hostB t b = true
        · have ra := times_row ht ha
          have rr := times_row ht hh
          have ta := tm_range (b := r) ht ha
          have tr := tm_range (b := b) ht hh
          have ha' := ha
          have hh' := hh
          have hb' := hb
          simp only [hostB, decide_eq_true_eq] at ha' hh' hb'
          refine evPos hb ?_
          simp only [rd_L1, rdrd]
          refine evPos ha'.1 (evPos ha'.2 (evPos hh'.1 (evPos (by omega) ?_)))
          by_cases h1 : tm t a r < 0
          · refine evPos h1 (evEq ?_ (Ev.now _))
            simp [overV, h1]
          · refine evNeg h1 (evPos hh'.2 (evPos hb'.1 (evPos (by omega) ?_)))
            by_cases h2 : tm t r b < 0
            · refine evPos h2 (evEq ?_ (Ev.now _))
              simp [overV, h2]
            · refine evNeg h2 (evEq ?_ (Ev.now _))
              rw [w64 (by omega) (by omega)]
              simp [overV, h1, h2, ht, ha, hb, hh]
        · refine evNeg hb (evEq ?_ (Ev.now _))
          simp [overV, hb]
      · refine evNeg hh (evEq ?_ (Ev.now _))
        simp [overV, hh]
    · refine evNeg ha (evEq ?_ (Ev.now _))
      simp [overV, ha]
  · refine evNeg ht (evEq ?_ (Ev.now _))
    simp [overV, ht]
theorem impl_at_host (t : List (List Int)) (a : Int) : impl_at.f a (t.length : Int) = some (hostB t a) := impl_at_eq _ _
theorem impl_TimeOver_ev (t : List (List Int)) (a r b : Int) (hr : ∀ r ∈ t, r.length ≤ 1048576) : Ev (fun k => impl_TimeOver.f k t a r b) (overV t a r b) := by
  unfold impl_TimeOver.f
  refine Ev.bind (impl_IsTimes_ev t hr) ?_
  by_cases ht : timesB t = true
  · refine evPos ht (evSome (impl_at_host t a) ?_)
    by_cases ha : hostB t a = true
    · refine evPos ha (evSome (impl_at_host t r) ?_)
      by_cases hh : hostB t r = true
      · refine evPos hh (evSome (impl_at_host t b) ?_)
        by_cases hb : hostB t b = true
        · have ra := times_row ht ha
          have rr := times_row ht hh
          have ta := tm_range (b := r) ht ha
          have tr := tm_range (b := b) ht hh
          have ha' := ha
          have hh' := hh
          have hb' := hb
          simp only [hostB, decide_eq_true_eq] at ha' hh' hb'
          refine evPos hb ?_
          simp only [rd_L1, rdrd]
          refine evPos ha'.1 (evPos ha'.2 (evPos hh'.1 (evPos (by omega) ?_)))
          by_cases h1 : tm t a r < 0
          · refine evPos (by omega) (evEq ?_ (Ev.now _))
            simp [overV, h1]
          · refine evNeg (by omega) (evPos hh'.2 (evPos hb'.1 (evPos (by omega) ?_)))
            by_cases h2 : tm t r b < 0
            · refine evPos (by omega) (evEq ?_ (Ev.now _))
              simp [overV, h2]
            · refine evNeg (by omega) (evEq ?_ (Ev.now _))
              rw [w64 (by omega) (by omega)]
              simp [overV, h1, h2, ht, ha, hb, hh]
        · refine evNeg hb (evEq ?_ (Ev.now _))
          simp [overV, hb]
      · refine evNeg hh (evEq ?_ (Ev.now _))
        simp [overV, hh]
    · refine evNeg ha (evEq ?_ (Ev.now _))
      simp [overV, ha]
  · refine evNeg ht (evEq ?_ (Ev.now _))
    simp [overV, ht]
/-! ### bestrelay -/
def bestS (t : List (List Int)) (a b : Int) (best r : Int) : Int := if r = a ∨ r = b ∨ overV t a r b < 0 then best else if best < 0 ∨ overV t a r b < overV t a best b then r else best
def bestF (t : List (List Int)) (a b : Int) : Nat → Nat → Int → Int
  | 0, _, best => best
  | d + 1, r, best => bestF t a b d (r + 1) (bestS t a b best (r : Int))
def bestV (t : List (List Int)) (a b : Int) : Int := bestF t a b t.length 0 (-1)
theorem impl_BestRelay_l0 (t : List (List Int)) (a b : Int) (hl : t.length ≤ 1048576) (hr : ∀ r ∈ t, r.length ≤ 1048576) : ∀ (d r : Nat) (best : Int), r + d = t.length →
    Ev (fun k => impl_BestRelay.l0 k t a b best (t.length : Int) (r : Int)) (bestF t a b d r best) := by
  intro d
  induction d with
  | zero =>
    intro r best e
    refine Ev.step (fun k => by rw [impl_BestRelay.l0]) ?_
    exact evNeg (by omega) (Ev.now _)
  | succ d ih =>
    intro r best e
    have step : ∀ c : Bool, c = decide ((r : Int) = a ∨ (r : Int) = b) → Ev (fun k => impl_BestRelay.j1 k t a b best (r : Int) (t.length : Int) (r : Int) c) (bestF t a b (d + 1) r best) := by
      intro c hc
      refine Ev.step (fun k => by rw [impl_BestRelay.j1]) ?_
      rw [wsucc (by omega)]
      by_cases h : (r : Int) = a ∨ (r : Int) = b
      · refine evPos (by rw [hc]; exact decide_eq_true h) (evEq ?_ (ih (r + 1) best (by omega)))
        rw [bestF, bestS, if_pos (by rcases h with h | h <;> simp [h])]
      · have hno : ¬ ((r : Int) = a ∨ (r : Int) = b ∨ overV t a r b < 0) ↔ ¬ overV t a r b < 0 := by
          constructor
          · exact fun c c2 => c (.inr (.inr c2))
          · rintro c (c2 | c2 | c2)
            · exact h (.inl c2)
            · exact h (.inr c2)
            · exact c c2
        refine evNeg (by rw [hc]; simpa using h) (Ev.bind (impl_TimeOver_ev t a r b hr) ?_)
        by_cases h0 : overV t a r b < 0
        · refine evNeg (by omega) (evEq ?_ (ih (r + 1) best (by omega)))
          rw [bestF, bestS, if_pos (.inr (.inr h0))]
        · refine evPos (by omega) ?_
          by_cases hb : best < 0
          · refine evPos hb (evEq ?_ (ih (r + 1) r (by omega)))
            rw [bestF, bestS, if_neg (hno.2 h0), if_pos (.inl hb)]
          · refine evNeg hb (Ev.bind (impl_TimeOver_ev t a best b hr) ?_)
            by_cases hc2 : overV t a r b < overV t a best b
            · refine evPos hc2 (evEq ?_ (ih (r + 1) r (by omega)))
              rw [bestF, bestS, if_neg (hno.2 h0), if_pos (.inr hc2)]
            · refine evNeg hc2 (evEq ?_ (ih (r + 1) best (by omega)))
              rw [bestF, bestS, if_neg (hno.2 h0), if_neg (fun c2 => c2.elim hb hc2)]
    refine Ev.step (fun k => by rw [impl_BestRelay.l0]) ?_
    refine evPos (by omega) ?_
    by_cases ha : (r : Int) = a
    · exact evPos ha (step true (by simp [ha]))
    · refine evNeg ha (step _ ?_)
      by_cases hb : (r : Int) = b
      · simp [hb]
      · simp [ha, hb]
theorem impl_BestRelay_ev (t : List (List Int)) (a b : Int) (hl : t.length ≤ 1048576) (hr : ∀ r ∈ t, r.length ≤ 1048576) : Ev (fun k => impl_BestRelay.f k t a b) (bestV t a b) := by
  unfold impl_BestRelay.f
  exact impl_BestRelay_l0 t a b hl hr t.length 0 (-1) (by omega)
theorem spec_BestRelay_l0 (t : List (List Int)) (a b : Int) (hl : t.length ≤ 1048576) (hr : ∀ r ∈ t, r.length ≤ 1048576) : ∀ (d r : Nat) (best : Int), r + d = t.length →
    Ev (fun k => spec_BestRelay.l0 k t a b best (r : Int)) (bestF t a b d r best) := by
  intro d
  induction d with
  | zero =>
    intro r best e
    refine Ev.step (fun k => by rw [spec_BestRelay.l0]) ?_
    exact evNeg (by omega) (Ev.now _)
  | succ d ih =>
    intro r best e
    have step : ∀ c : Bool, c = decide ((r : Int) = a ∨ (r : Int) = b ∨ overV t a r b < 0) → Ev (fun k => spec_BestRelay.j1 k t a b best (r : Int) (overV t a r b) c) (bestF t a b (d + 1) r best) := by
      intro c hc
      refine Ev.step (fun k => by rw [spec_BestRelay.j1]) ?_
      rw [wsucc (by omega)]
      by_cases h : (r : Int) = a ∨ (r : Int) = b ∨ overV t a r b < 0
      · refine evPos (by rw [hc]; exact decide_eq_true h) (evEq ?_ (ih (r + 1) best (by omega)))
        rw [bestF, bestS, if_pos h]
      · refine evNeg (by rw [hc]; simpa using h) ?_
        by_cases hb : best < 0
        · refine evPos hb (evEq ?_ (ih (r + 1) r (by omega)))
          rw [bestF, bestS, if_neg h, if_pos (.inl hb)]
        · refine evNeg hb (Ev.bind (spec_TimeOver_ev t a best b hl hr) ?_)
          by_cases hc2 : overV t a r b < overV t a best b
          · refine evPos hc2 (evEq ?_ (ih (r + 1) r (by omega)))
            rw [bestF, bestS, if_neg h, if_pos (.inr hc2)]
          · refine evNeg hc2 (evEq ?_ (ih (r + 1) best (by omega)))
            rw [bestF, bestS, if_neg h, if_neg (fun c2 => c2.elim hb hc2)]
    refine Ev.step (fun k => by rw [spec_BestRelay.l0]) ?_
    refine evPos (by omega) (Ev.bind (spec_TimeOver_ev t a r b hl hr) ?_)
    by_cases ha : (r : Int) = a
    · exact evPos ha (step true (by simp [ha]))
    · refine evNeg ha ?_
      by_cases hb : (r : Int) = b
      · exact evPos hb (step true (by simp [hb]))
      · exact evNeg hb (step _ (by simp [ha, hb]))
theorem spec_BestRelay_ev (t : List (List Int)) (a b : Int) (hl : t.length ≤ 1048576) (hr : ∀ r ∈ t, r.length ≤ 1048576) : Ev (fun k => spec_BestRelay.f k t a b) (bestV t a b) := by
  unfold spec_BestRelay.f
  exact spec_BestRelay_l0 t a b hl hr t.length 0 (-1) (by omega)
/-! ### gain -/
theorem bestF_inv (t : List (List Int)) (a b : Int) : ∀ (d r : Nat) (best : Int), (best = -1 ∨ 0 ≤ best ∧ best ≠ a ∧ best ≠ b ∧ 0 ≤ overV t a best b) → (bestF t a b d r best = -1 ∨ 0 ≤ bestF t a b d r best ∧ bestF t a b d r best ≠ a ∧ bestF t a b d r best ≠ b ∧ 0 ≤ overV t a (bestF t a b d r best) b)
  | 0, _, _, h => h
  | d + 1, r, best, h => by
    rw [bestF]
    refine bestF_inv t a b d (r + 1) _ ?_
    unfold bestS
    split
    · exact h
    · rename_i h1
      split
      · refine .inr ⟨by omega, fun c => h1 (.inl c), fun c => h1 (.inr (.inl c)), ?_⟩
        have : ¬ overV t a r b < 0 := fun c => h1 (.inr (.inr c))
        omega
      · exact h
theorem bestV_inv (t : List (List Int)) (a b : Int) : bestV t a b = -1 ∨ 0 ≤ bestV t a b ∧ bestV t a b ≠ a ∧ bestV t a b ≠ b ∧ 0 ≤ overV t a (bestV t a b) b := bestF_inv t a b _ _ _ (.inl rfl)
theorem overV_pos {t : List (List Int)} {a r b : Int} (h : 0 ≤ overV t a r b) : timesB t = true ∧ hostB t a = true ∧ hostB t r = true ∧ hostB t b = true ∧ 0 ≤ tm t a r ∧ 0 ≤ tm t r b ∧ overV t a r b = tm t a r + tm t r b := by
  unfold overV at h ⊢
  split at h
  · rename_i h1
    rw [if_pos h1]
    exact ⟨h1.1, h1.2.1, h1.2.2.1, h1.2.2.2.1, by omega, by omega, rfl⟩
  · omega
def gainV (t : List (List Int)) (a b : Int) : Int := if bestV t a b < 0 then 0 else if tm t a b < 0 then 100000 else if tm t a b - overV t a (bestV t a b) b < 0 then 0 else tm t a b - overV t a (bestV t a b) b
theorem spec_Max_eq (a b : Int) : spec_Max.f a b = some (if a < b then b else a) := by
  unfold spec_Max.f
  by_cases h : b > a
  · rw [if_pos h, if_pos (show a < b from h)]
  · rw [if_neg h, if_neg (show ¬ a < b from h)]
theorem spec_Gain_ev (t : List (List Int)) (a b : Int) (hl : t.length ≤ 1048576) (hr : ∀ r ∈ t, r.length ≤ 1048576) : Ev (fun k => spec_Gain.f k t a b) (gainV t a b) := by
  unfold spec_Gain.f
  refine Ev.bind (spec_BestRelay_ev t a b hl hr) ?_
  by_cases h0 : bestV t a b < 0
  · refine evPos h0 (evEq ?_ (Ev.now _))
    simp [gainV, h0]
  · refine evNeg h0 ?_
    rcases bestV_inv t a b with hb | ⟨_, _, _, hb⟩
    · omega
    obtain ⟨ht, ha, hq, hbb, p1, p2, e⟩ := overV_pos hb
    have ra := times_row ht ha
    have rq := tm_range (b := bestV t a b) ht ha
    have rq2 := tm_range (b := b) ht hq
    have rab := tm_range (b := b) ht ha
    simp only [hostB, decide_eq_true_eq] at ha hbb
    simp only [rd_L1, rdrd]
    refine evPos ha.1 (evPos ha.2 (evPos hbb.1 (evPos (by omega) ?_)))
    by_cases h1 : tm t a b < 0
    · refine evPos h1 (evEq ?_ (Ev.now _))
      simp [gainV, h0, h1]
    · refine evNeg h1 (Ev.bind (spec_TimeOver_ev t a _ b hl hr) ?_)
      rw [w64 (by omega) (by omega)]
      refine evSome (spec_Max_eq _ _) (evEq ?_ (Ev.now _))
      simp only [gainV, h0, h1, if_false]
      split <;> split <;> omega
theorem impl_Gain_ev (t : List (List Int)) (a b : Int) (hl : t.length ≤ 1048576) (hr : ∀ r ∈ t, r.length ≤ 1048576) : Ev (fun k => impl_Gain.f k t a b) (gainV t a b) := by
  unfold impl_Gain.f
  have no : ¬ (timesB t = true ∧ hostB t a = true ∧ hostB t b = true) → Ev (fun k => impl_Gain.j0 k t a b true) (gainV t a b) := by
    intro c
    refine Ev.step (fun k => by rw [impl_Gain.j0]) (evPos rfl (evEq ?_ (Ev.now _)))
    have : bestV t a b < 0 := by
      rcases bestV_inv t a b with hb | ⟨_, _, _, hb⟩
      · omega
      · obtain ⟨ht, ha, hq, hbb, p1, p2, e⟩ := overV_pos hb
        exact absurd ⟨ht, ha, hbb⟩ c
    simp [gainV, this]
  refine Ev.bind (impl_IsTimes_ev t hr) ?_
  by_cases ht : timesB t = true
  · refine evPos ht (evSome (impl_at_host t a) ?_)
    by_cases ha : hostB t a = true
    · refine evPos ha (evSome (impl_at_host t b) ?_)
      by_cases hb : hostB t b = true
      · rw [hb]
        refine Ev.step (fun k => by rw [impl_Gain.j0]) (evNeg (by simp) (Ev.bind (impl_BestRelay_ev t a b hl hr) ?_))
        by_cases h0 : bestV t a b < 0
        · refine evPos h0 (evEq ?_ (Ev.now _))
          simp [gainV, h0]
        · refine evNeg h0 ?_
          rcases bestV_inv t a b with hbv | ⟨_, _, _, hbv⟩
          · omega
          obtain ⟨_, _, hq, _, p1, p2, e⟩ := overV_pos hbv
          have ra := times_row ht ha
          have rq := tm_range (b := bestV t a b) ht ha
          have rq2 := tm_range (b := b) ht hq
          have rab := tm_range (b := b) ht ha
          simp only [hostB, decide_eq_true_eq] at ha hb
          simp only [rd_L1, rdrd]
          refine evPos ha.1 (evPos ha.2 (evPos hb.1 (evPos (by omega) ?_)))
          by_cases h1 : tm t a b < 0
          · refine evPos (by omega) (evEq ?_ (Ev.now _))
            simp [gainV, h0, h1]
          · refine evNeg (by omega) (Ev.bind (impl_TimeOver_ev t a _ b hr) (evEq ?_ (Ev.now _)))
            rw [w64 (by omega) (by omega)]
            simp only [gainV, h0, h1, if_false]
            unfold mx
            split <;> split <;> omega
      · have e : hostB t b = false := by simpa using hb
        rw [e]
        exact no (fun c => hb c.2.2)
    · exact evNeg ha (no (fun c => ha c.2.1))
  · exact evNeg ht (no (fun c => ht c.1))
/-! ### law_FnExactGain -/
theorem FnExactGain : laws_FnExactGain.PureR := by
  intro l a b h _ _
  have hr : ∀ r ∈ l, r.length ≤ 9223372036854775807 := fun r hr => (h.2 r hr).1
  refine Ev.rounds ?_
  unfold laws_FnExactGain.f
  refine Ev.bind (szIntSS_ev l 1048576 (by omega) (by omega) h.1 hr) ?_
  by_cases hb : leftII l 1048576 < 0
  · exact evPos hb (Ev.now _)
  · have hl : okII l := leftII_ok (by omega)
    exact evNeg hb (Ev.bind (toIntSS_ev l hl) (Ev.bind (spec_Gain_ev l a b hl.1 hl.2) (Ev.bind (toIntSS_ev l hl) (Ev.bind (impl_Gain_ev l a b hl.1 hl.2) (evPos rfl (Ev.bind (toIntSS_ev l hl) (Ev.bind (eqIntSS_ev l hl) (evPos rfl (Ev.now _)))))))))
end Go.Proofs.Ytjhbpiboemajeaa.Pure
