/- Lemmas: besttimes own zz_FnExactBestTimes -/
import Derived.Test.YtakembkodcjbjaaPFnExactBestTimesx0
import Derived.Test.YtakembkodcjbjaaPFnExactBestTimesx1
import Derived.Test.YtakembkodcjbjaaPFnExactBestTimesx2
import Derived.Test.YtakembkodcjbjaaPFnExactBestTimesx3
import Derived.Test.YtakembkodcjbjaaPFnExactBestTimesx4
import Derived.Test.YtakembkodcjbjaaPFnExactBestTimesx5
import Derived.Test.YtakembkodcjbjaaBase
namespace Go.Proofs.Ytakembkodcjbjaa.Pure
open Go.RowKit Go.Proofs.Ytakembkodcjbjaa.Base Go.Proofs.Ytakembkodcjbjaa.PFnExactBestTimes Go.Proofs.YtakembkodcjbjaaW.PrintWords Go.Proofs.YtakembkodcjbjaaW.PrintLast Go.Proofs.YtakembkodcjbjaaW.PrintMore
set_option linter.unusedVariables false
set_option linter.unusedSimpArgs false
/-! ### small -/
theorem spec_l1In_eq (a b c : Int) : spec_l1In.f a b c = some (decide (b ≤ a ∧ a ≤ c)) := by
  unfold spec_l1In.f
  by_cases h : a ≥ b
  · rw [if_pos h]
    simp [show b ≤ a from h]
  · rw [if_neg h]
    have : ¬ b ≤ a := h
    simp [this]
/-! ### inrange -/
theorem impl_InRange_eq (a b c : Int) : impl_InRange.f a b c = some (decide (b ≤ a ∧ a ≤ c)) := by
  unfold impl_InRange.f
  by_cases h : b ≤ a
  · rw [if_pos h]
    simp [h]
  · rw [if_neg h]
    simp [h]
/-! ### allin -/
theorem impl_allIn_l0 (lo hi : Int) : ∀ (suf pre : List Int), (pre ++ suf).length ≤ 1048576 →
    Ev (fun k => impl_allIn.l0 k lo hi (pre ++ suf) ((pre ++ suf).length : Int) (pre.length : Int)) (suf.all fun x => decide (lo ≤ x ∧ x ≤ hi)) := by
  intro suf
  induction suf with
  | nil =>
    intro pre hb
    refine Ev.step (fun k => by rw [impl_allIn.l0]) ?_
    exact evNeg (by simp) (Ev.now _)
  | cons x suf ih =>
    intro pre hb
    simp only [List.length_append, List.length_cons] at hb
    refine Ev.step (fun k => by rw [impl_allIn.l0]) ?_
    refine evPos (by simp only [List.length_append, List.length_cons]; omega) (evPos (by omega) (evPos (by simp only [List.length_append, List.length_cons]; omega) ?_))
    rw [rd_mid, wsucc (by omega)]
    refine evSome (impl_InRange_eq _ _ _) ?_
    by_cases hx : lo ≤ x ∧ x ≤ hi
    · refine evPos (by simp [hx]) ?_
      have h := ih (pre ++ [x]) (by simp; omega)
      refine evEq ?_ (Ev.congr (fun k => ?_) h)
      · simp [hx]
      · simp
    · refine evNeg (by simpa using hx) (evEq ?_ (Ev.now _))
      simp [hx]
theorem impl_allIn_ev (l : List Int) (lo hi : Int) (hl : l.length ≤ 1048576) : Ev (fun k => impl_allIn.f k l lo hi) (l.all fun x => decide (lo ≤ x ∧ x ≤ hi)) := by
  have h := impl_allIn_l0 lo hi l [] (by simpa using hl)
  simpa [impl_allIn.f] using h
/-! ### times -/
def tmR (v : Int) : Bool := decide (-1 ≤ v ∧ v ≤ 100000)
def rowTail (i : Nat) : Nat → List Int → Bool
  | _, [] => true
  | j, v :: vs => tmR v && (decide (i ≠ j) || decide (v = 0)) && rowTail i (j + 1) vs
def rowOk (n i : Nat) (row : List Int) : Bool := decide (row.length = n) && rowTail i 0 row
def rowsOk (n : Nat) : Nat → List (List Int) → Bool
  | _, [] => true
  | i, r :: rs => rowOk n i r && rowsOk n (i + 1) rs
def timesB (t : List (List Int)) : Bool := decide (1 ≤ t.length ∧ t.length ≤ 6) && rowsOk t.length 0 t
theorem rowTail_eq (i : Nat) : ∀ (j : Nat) (row : List Int), rowTail i j row = (row.all tmR && (decide (i < j) || decide (j + row.length ≤ i) || decide (row.getD (i - j) 0 = 0)))
  | j, [] => by
    simp [rowTail] <;> omega
  | j, v :: vs => by
    rw [rowTail, rowTail_eq i (j + 1) vs, List.all_cons]
    by_cases hij : i = j
    · subst hij
      by_cases hv : v = 0 <;> by_cases ht : tmR v = true <;> by_cases ha : vs.all tmR = true <;> simp_all
    · by_cases hlt : i < j
      · by_cases ht : tmR v = true <;> by_cases ha : vs.all tmR = true <;> simp_all <;> omega
      · obtain ⟨d, hd⟩ : ∃ d, i - j = d + 1 := ⟨i - j - 1, by omega⟩
        have hd' : i - (j + 1) = d := by omega
        rw [hd, hd', List.getD_cons_succ]
        have e1 : decide (i < j + 1) = false := by simp; omega
        have e2 : decide (i < j) = false := by simp; omega
        have e3 : decide (j + 1 + vs.length ≤ i) = decide (j + (v :: vs).length ≤ i) := by simp [Nat.add_assoc, Nat.add_comm 1]
        rw [e1, e2, e3]
        simp [hij, Bool.and_assoc]
theorem rowOk_eq (n i : Nat) (row : List Int) (hi : i < n) : rowOk n i row = (decide (row.length = n) && (row.all tmR && decide (row.getD i 0 = 0))) := by
  unfold rowOk
  rw [rowTail_eq]
  by_cases hl : row.length = n
  · have e : decide (0 + row.length ≤ i) = false := by simp; omega
    rw [e]
    simp [hl]
  · simp [hl]
theorem spec_IsTimes_l1 (pre suf : List (List Int)) (row : List Int) (R : Bool) (hb : (pre ++ row :: suf).length ≤ 1048576) (hr : row.length ≤ 1048576)
    (hk : Ev (fun k => spec_IsTimes.l0 k (pre ++ row :: suf) ((pre.length + 1 : Nat) : Int)) R) : ∀ (rs rp : List Int), row = rp ++ rs →
    Ev (fun k => spec_IsTimes.l1 k (pre ++ row :: suf) (pre.length : Int) (rp.length : Int)) (rowTail pre.length rp.length rs && R) := by
  intro rs
  simp only [List.length_append, List.length_cons] at hb
  induction rs with
  | nil =>
    intro rp e
    refine Ev.step (fun k => by rw [spec_IsTimes.l1]) ?_
    simp only [rd_L1, getD_mid]
    refine evPos (by omega) (evPos (by simp only [List.length_append, List.length_cons]; omega) (evNeg (by rw [e]; simp) ?_))
    rw [wsucc (by omega)]
    simpa [rowTail] using hk
  | cons v vs ih =>
    intro rp e
    have hl : row.length = rp.length + (vs.length + 1) := by rw [e]; simp
    refine Ev.step (fun k => by rw [spec_IsTimes.l1]) ?_
    simp only [rd_L1, getD_mid]
    refine evPos (by omega) (evPos (by simp only [List.length_append, List.length_cons]; omega) (evPos (by omega) (evPos (by omega) ?_)))
    have ev : rd row (rp.length : Int) = v := by rw [e, rd_mid]
    rw [ev, wsucc (by omega)]
    refine evSome (spec_l1In_eq _ _ _) ?_
    have h := ih (rp ++ [v]) (by simp [e])
    have h' : Ev (fun k => spec_IsTimes.l1 k (pre ++ row :: suf) (pre.length : Int) ((rp.length + 1 : Nat) : Int)) (rowTail pre.length (rp.length + 1) vs && R) := by simpa using h
    by_cases ht : -1 ≤ v ∧ v ≤ 100000
    · refine evPos (by simpa using ht) ?_
      have ht' : tmR v = true := by simpa [tmR] using ht
      by_cases hij : pre.length = rp.length
      · refine evPos (by omega) ?_
        by_cases hv : v = 0
        · refine evPos hv (evEq ?_ h')
          simp only [rowTail, ht', decide_eq_true hv, Bool.or_true, Bool.true_and]
        · refine evNeg hv (evEq ?_ (Ev.now _))
          simp [rowTail, hv, hij]
      · refine evNeg (by omega) (evEq ?_ h')
        simp [rowTail, ht', hij]
    · refine evNeg (by simpa using ht) (evEq ?_ (Ev.now _))
      have ht' : tmR v = false := by simpa [tmR] using ht
      simp [rowTail, ht']
theorem spec_IsTimes_l0 (n : Nat) : ∀ (suf pre : List (List Int)), (pre ++ suf).length = n → n ≤ 1048576 → (∀ r ∈ suf, r.length ≤ 1048576) →
    Ev (fun k => spec_IsTimes.l0 k (pre ++ suf) (pre.length : Int)) (rowsOk n pre.length suf && decide (1 ≤ n ∧ n ≤ 6)) := by
  intro suf
  induction suf with
  | nil =>
    intro pre hn hb hr
    refine Ev.step (fun k => by rw [spec_IsTimes.l0]) ?_
    refine evNeg (by simp) (evSome (spec_l1In_eq _ _ _) (evEq ?_ (Ev.now _)))
    rw [hn]
    simp only [rowsOk, Bool.true_and, decide_eq_decide]
    omega
  | cons x suf ih =>
    intro pre hn hb hr
    have hn' := hn
    simp only [List.length_append, List.length_cons] at hn'
    refine Ev.step (fun k => by rw [spec_IsTimes.l0]) ?_
    refine evPos (by simp only [List.length_append, List.length_cons]; omega) (evPos (by omega) ?_)
    simp only [rd_L1, getD_mid]
    by_cases hx : x.length = n
    · refine evPos (by rw [hn]; omega) ?_
      have h := ih (pre ++ [x]) (by rw [← hn]; simp) hb (fun r h => hr r (by simp [h]))
      have h' : Ev (fun k => spec_IsTimes.l0 k (pre ++ x :: suf) ((pre.length + 1 : Nat) : Int)) (rowsOk n (pre.length + 1) suf && decide (1 ≤ n ∧ n ≤ 6)) := by simpa using h
      have h2 := spec_IsTimes_l1 pre suf x _ (by rw [hn]; omega) (hr x (by simp)) h' x [] rfl
      refine evEq ?_ h2
      simp [rowsOk, rowOk, hx, Bool.and_assoc]
    · refine evNeg (by rw [hn]; omega) (evEq ?_ (Ev.now _))
      simp [rowsOk, rowOk, hx]
theorem spec_IsTimes_ev (t : List (List Int)) (h : t.length ≤ 1048576) (hr : ∀ r ∈ t, r.length ≤ 1048576) : Ev (fun k => spec_IsTimes.f k t) (timesB t) := by
  have h := spec_IsTimes_l0 t.length t [] (by simp) h hr
  unfold spec_IsTimes.f
  refine evEq ?_ h
  simp only [timesB, List.length_nil]
  rw [Bool.and_comm]
theorem impl_IsTimes_l0 (t : List (List Int)) : ∀ (suf pre : List (List Int)), pre ++ suf = t → t.length ≤ 6 → (∀ r ∈ suf, r.length ≤ 1048576) →
    Ev (fun k => impl_IsTimes.l0 k t t (t.length : Int) (pre.length : Int)) (rowsOk t.length pre.length suf) := by
  intro suf
  induction suf with
  | nil =>
    intro pre e hb hr
    refine Ev.step (fun k => by rw [impl_IsTimes.l0]) ?_
    refine evNeg (by rw [← e]; simp) (evEq ?_ (Ev.now _))
    simp [rowsOk]
  | cons x suf ih =>
    intro pre e hb hr
    have hn : t.length = pre.length + (suf.length + 1) := by rw [← e]; simp
    have hx : t.getD ((pre.length : Int).toNat) [] = x := by rw [← e, getD_mid]
    refine Ev.step (fun k => by rw [impl_IsTimes.l0]) ?_
    simp only [rd_L1, hx]
    refine evPos (by omega) (evPos (by omega) (evPos (by omega) ?_))
    rw [wsucc (by omega)]
    have h := ih (pre ++ [x]) (by simp [← e]) hb (fun r h => hr r (by simp [h]))
    have h' : Ev (fun k => impl_IsTimes.l0 k t t (t.length : Int) ((pre.length + 1 : Nat) : Int)) (rowsOk t.length (pre.length + 1) suf) := by simpa using h
    rw [rowsOk, rowOk_eq _ _ _ (by omega)]
    by_cases hl : x.length = t.length
    · refine evPos (by omega) (Ev.bind (impl_allIn_ev x (-1) 100000 (hr x (by simp))) ?_)
      have ea : (x.all fun v => decide (-1 ≤ v ∧ v ≤ 100000)) = x.all tmR := rfl
      rw [ea]
      by_cases ha : x.all tmR = true
      · refine evPos ha (evPos (by omega) ?_)
        have er : rd x (pre.length : Int) = x.getD pre.length 0 := by simp [rd]
        rw [er]
        by_cases hz : x.getD pre.length 0 = 0
        · refine evPos hz (evEq ?_ h')
          simp only [hl, ha, hz, decide_true, Bool.true_and]
        · refine evNeg hz (evEq ?_ (Ev.now _))
          simp only [hz, decide_false, Bool.and_false, Bool.false_and]
      · have ha' : x.all tmR = false := by simpa using ha
        refine evNeg ha (evEq ?_ (Ev.now _))
        rw [ha']
        simp
    · refine evNeg (by omega) (evEq ?_ (Ev.now _))
      simp [hl]
theorem impl_IsTimes_ev (t : List (List Int)) (hr : ∀ r ∈ t, r.length ≤ 1048576) : Ev (fun k => impl_IsTimes.f k t) (timesB t) := by
  unfold impl_IsTimes.f
  refine evSome (impl_InRange_eq _ _ _) ?_
  by_cases hl : 1 ≤ t.length ∧ t.length ≤ 6
  · refine evPos (by simp; omega) (evEq ?_ (impl_IsTimes_l0 t t [] rfl hl.2 hr))
    simp [timesB, hl]
  · refine evNeg (by simp; omega) (evEq ?_ (Ev.now _))
    simp [timesB, hl]
/-! ### at -/
theorem impl_at_eq (a n : Int) : impl_at.f a n = some (decide (0 ≤ a ∧ a < n)) := by
  unfold impl_at.f
  by_cases h : a ≥ 0
  · rw [if_pos h]
    simp [show 0 ≤ a from h]
  · rw [if_neg h]
    have : ¬ 0 ≤ a := h
    simp [this]
/-! ### timeover -/
/-- A time of a table: 0 where there is none. -/
def tm (t : List (List Int)) (a b : Int) : Int := (t.getD a.toNat []).getD b.toNat 0
def hostB (t : List (List Int)) (a : Int) : Bool := decide (0 ≤ a ∧ a < (t.length : Int))
def overV (t : List (List Int)) (a r b : Int) : Int :=
  if timesB t = true ∧ hostB t a = true ∧ hostB t r = true ∧ hostB t b = true ∧ ¬ tm t a r < 0 ∧ ¬ tm t r b < 0 then tm t a r + tm t r b else -1
theorem rowsOk_get (n : Nat) : ∀ (rs : List (List Int)) (i j : Nat) (row : List Int), rowsOk n i rs = true → rs[j]? = some row → rowOk n (i + j) row = true
  | [], _, _, _, _, h => by simp at h
  | r :: rs, i, 0, row, h, e => by
    simp only [rowsOk, Bool.and_eq_true] at h
    simp at e
    subst e
    exact h.1
  | r :: rs, i, j + 1, row, h, e => by
    simp only [rowsOk, Bool.and_eq_true] at h
    simp at e
    have := rowsOk_get n rs (i + 1) j row h.2 e
    rwa [show i + 1 + j = i + (j + 1) by omega] at this
theorem times_row {t : List (List Int)} (ht : timesB t = true) {a : Int} (ha : hostB t a = true) : (t.getD a.toNat []).length = t.length ∧ t.length ≤ 6 ∧ (∀ v ∈ t.getD a.toNat [], -1 ≤ v ∧ v ≤ 100000) ∧ (t.getD a.toNat []).getD a.toNat 0 = 0 := by
  simp only [timesB, Bool.and_eq_true, decide_eq_true_eq] at ht
  simp only [hostB, decide_eq_true_eq] at ha
  have hlt : a.toNat < t.length := by omega
  have e : t[a.toNat]? = some (t.getD a.toNat []) := by simp [List.getD, hlt]
  have h := rowsOk_get t.length t 0 a.toNat _ ht.2 e
  rw [Nat.zero_add, rowOk_eq _ _ _ hlt] at h
  simp only [Bool.and_eq_true, decide_eq_true_eq, List.all_eq_true, tmR] at h
  exact ⟨h.1, ht.1.2, h.2.1, h.2.2⟩
theorem tm_range {t : List (List Int)} (ht : timesB t = true) {a b : Int} (ha : hostB t a = true) : -1 ≤ tm t a b ∧ tm t a b ≤ 100000 := by
  obtain ⟨h1, h2, h3, _⟩ := times_row ht ha
  unfold tm
  rw [List.getD_eq_getElem?_getD]
  rcases e : (t.getD a.toNat [])[b.toNat]? with _ | v
  · simp
  · exact h3 v (List.mem_of_getElem? e)
theorem spec_l26Host_eq (t : List (List Int)) (a : Int) (hl : t.length ≤ 1048576) : spec_l26Host.f t a = some (hostB t a) := by
  unfold spec_l26Host.f
  rw [spec_l1In_eq, w64 (by omega) (by omega)]
  simp only [Option.bind_some, hostB, Option.some.injEq, decide_eq_decide]
  omega
theorem rdrd (t : List (List Int)) (a b : Int) : rd (t.getD a.toNat []) b = tm t a b := rfl
theorem spec_TimeOver_ev (t : List (List Int)) (a r b : Int) (hl : t.length ≤ 1048576) (hr : ∀ r ∈ t, r.length ≤ 1048576) : Ev (fun k => spec_TimeOver.f k t a r b) (overV t a r b) := by
  unfold spec_TimeOver.f
  refine Ev.bind (spec_IsTimes_ev t hl hr) ?_
  by_cases ht : timesB t = true
  · refine evPos ht (evSome (spec_l26Host_eq t a hl) ?_)
    by_cases ha : hostB t a = true
    · refine evPos ha (evSome (spec_l26Host_eq t r hl) ?_)
      by_cases hh : hostB t r = true
      · refine evPos hh (evSome (spec_l26Host_eq t b hl) ?_)
        by_cases hb : hostB t b = true
        · have ra := times_row ht ha
          have rr := times_row ht hh
          have ta := tm_range (b := r) ht ha
          have tr := tm_range (b := b) ht hh
          have ha' := ha
          have hh' := hh
          have hb' := hb
          simp only [hostB, decide_eq_true_eq] at ha' hh' hb'
          refine evPos hb ?_
          simp only [rd_L1, rdrd]
          refine evPos ha'.1 (evPos ha'.2 (evPos hh'.1 (evPos (by omega) ?_)))
          by_cases h1 : tm t a r < 0
          · refine evPos h1 (evEq ?_ (Ev.now _))
            simp [overV, h1]
          · refine evNeg h1 (evPos hh'.2 (evPos hb'.1 (evPos (by omega) ?_)))
            by_cases h2 : tm t r b < 0
            · refine evPos h2 (evEq ?_ (Ev.now _))
              simp [overV, h2]
            · refine evNeg h2 (evEq ?_ (Ev.now _))
              rw [w64 (by omega) (by omega)]
              simp [overV, h1, h2, ht, ha, hb, hh]
        · refine evNeg hb (evEq ?_ (Ev.now _))
          simp [overV, hb]
      · refine evNeg hh (evEq ?_ (Ev.now _))
        simp [overV, hh]
    · refine evNeg ha (evEq ?_ (Ev.now _))
      simp [overV, ha]
  · refine evNeg ht (evEq ?_ (Ev.now _))
    simp [overV, ht]
theorem impl_at_host (t : List (List Int)) (a : Int) : impl_at.f a (t.length : Int) = some (hostB t a) := impl_at_eq _ _
theorem impl_TimeOver_ev (t : List (List Int)) (a r b : Int) (hr : ∀ r ∈ t, r.length ≤ 1048576) : Ev (fun k => impl_TimeOver.f k t a r b) (overV t a r b) := by
  unfold impl_TimeOver.f
  refine Ev.bind (impl_IsTimes_ev t hr) ?_
  by_cases ht : timesB t = true
  · refine evPos ht (evSome (impl_at_host t a) ?_)
    by_cases ha : hostB t a = true
    · refine evPos ha (evSome (impl_at_host t r) ?_)
      by_cases hh : hostB t r = true
      · refine evPos hh (evSome (impl_at_host t b) ?_)
        by_cases hb : hostB t b = true
        · have ra := times_row ht ha
          have rr := times_row ht hh
          have ta := tm_range (b := r) ht ha
          have tr := tm_range (b := b) ht hh
          have ha' := ha
          have hh' := hh
          have hb' := hb
          simp only [hostB, decide_eq_true_eq] at ha' hh' hb'
          refine evPos hb ?_
          simp only [rd_L1, rdrd]
          refine evPos ha'.1 (evPos ha'.2 (evPos hh'.1 (evPos (by omega) ?_)))
          by_cases h1 : tm t a r < 0
          · refine evPos (by omega) (evEq ?_ (Ev.now _))
            simp [overV, h1]
          · refine evNeg (by omega) (evPos hh'.2 (evPos hb'.1 (evPos (by omega) ?_)))
            by_cases h2 : tm t r b < 0
            · refine evPos (by omega) (evEq ?_ (Ev.now _))
              simp [overV, h2]
            · refine evNeg (by omega) (evEq ?_ (Ev.now _))
              rw [w64 (by omega) (by omega)]
              simp [overV, h1, h2, ht, ha, hb, hh]
        · refine evNeg hb (evEq ?_ (Ev.now _))
          simp [overV, hb]
      · refine evNeg hh (evEq ?_ (Ev.now _))
        simp [overV, hh]
    · refine evNeg ha (evEq ?_ (Ev.now _))
      simp [overV, ha]
  · refine evNeg ht (evEq ?_ (Ev.now _))
    simp [overV, ht]
/-! ### bestrelay -/
def bestS (t : List (List Int)) (a b : Int) (best r : Int) : Int := if r = a ∨ r = b ∨ overV t a r b < 0 then best else if best < 0 ∨ overV t a r b < overV t a best b then r else best
def bestF (t : List (List Int)) (a b : Int) : Nat → Nat → Int → Int
  | 0, _, best => best
  | d + 1, r, best => bestF t a b d (r + 1) (bestS t a b best (r : Int))
def bestV (t : List (List Int)) (a b : Int) : Int := bestF t a b t.length 0 (-1)
theorem impl_BestRelay_l0 (t : List (List Int)) (a b : Int) (hl : t.length ≤ 1048576) (hr : ∀ r ∈ t, r.length ≤ 1048576) : ∀ (d r : Nat) (best : Int), r + d = t.length →
    Ev (fun k => impl_BestRelay.l0 k t a b best (t.length : Int) (r : Int)) (bestF t a b d r best) := by
  intro d
  induction d with
  | zero =>
    intro r best e
    refine Ev.step (fun k => by rw [impl_BestRelay.l0]) ?_
    exact evNeg (by omega) (Ev.now _)
  | succ d ih =>
    intro r best e
    have step : ∀ c : Bool, c = decide ((r : Int) = a ∨ (r : Int) = b) → Ev (fun k => impl_BestRelay.j1 k t a b best (r : Int) (t.length : Int) (r : Int) c) (bestF t a b (d + 1) r best) := by
      intro c hc
      refine Ev.step (fun k => by rw [impl_BestRelay.j1]) ?_
      rw [wsucc (by omega)]
      by_cases h : (r : Int) = a ∨ (r : Int) = b
      · refine evPos (by rw [hc]; exact decide_eq_true h) (evEq ?_ (ih (r + 1) best (by omega)))
        rw [bestF, bestS, if_pos (by rcases h with h | h <;> simp [h])]
      · have hno : ¬ ((r : Int) = a ∨ (r : Int) = b ∨ overV t a r b < 0) ↔ ¬ overV t a r b < 0 := by
          constructor
          · exact fun c c2 => c (.inr (.inr c2))
          · rintro c (c2 | c2 | c2)
            · exact h (.inl c2)
            · exact h (.inr c2)
            · exact c c2
        refine evNeg (by rw [hc]; simpa using h) (Ev.bind (impl_TimeOver_ev t a r b hr) ?_)
        by_cases h0 : overV t a r b < 0
        · refine evNeg (by omega) (evEq ?_ (ih (r + 1) best (by omega)))
          rw [bestF, bestS, if_pos (.inr (.inr h0))]
        · refine evPos (by omega) ?_
          by_cases hb : best < 0
          · refine evPos hb (evEq ?_ (ih (r + 1) r (by omega)))
            rw [bestF, bestS, if_neg (hno.2 h0), if_pos (.inl hb)]
          · refine evNeg hb (Ev.bind (impl_TimeOver_ev t a best b hr) ?_)
            by_cases hc2 : overV t a r b < overV t a best b
            · refine evPos hc2 (evEq ?_ (ih (r + 1) r (by omega)))
              rw [bestF, bestS, if_neg (hno.2 h0), if_pos (.inr hc2)]
            · refine evNeg hc2 (evEq ?_ (ih (r + 1) best (by omega)))
              rw [bestF, bestS, if_neg (hno.2 h0), if_neg (fun c2 => c2.elim hb hc2)]
    refine Ev.step (fun k => by rw [impl_BestRelay.l0]) ?_
    refine evPos (by omega) ?_
    by_cases ha : (r : Int) = a
    · exact evPos ha (step true (by simp [ha]))
    · refine evNeg ha (step _ ?_)
      by_cases hb : (r : Int) = b
      · simp [hb]
      · simp [ha, hb]
theorem impl_BestRelay_ev (t : List (List Int)) (a b : Int) (hl : t.length ≤ 1048576) (hr : ∀ r ∈ t, r.length ≤ 1048576) : Ev (fun k => impl_BestRelay.f k t a b) (bestV t a b) := by
  unfold impl_BestRelay.f
  exact impl_BestRelay_l0 t a b hl hr t.length 0 (-1) (by omega)
theorem spec_BestRelay_l0 (t : List (List Int)) (a b : Int) (hl : t.length ≤ 1048576) (hr : ∀ r ∈ t, r.length ≤ 1048576) : ∀ (d r : Nat) (best : Int), r + d = t.length →
    Ev (fun k => spec_BestRelay.l0 k t a b best (r : Int)) (bestF t a b d r best) := by
  intro d
  induction d with
  | zero =>
    intro r best e
    refine Ev.step (fun k => by rw [spec_BestRelay.l0]) ?_
    exact evNeg (by omega) (Ev.now _)
  | succ d ih =>
    intro r best e
    have step : ∀ c : Bool, c = decide ((r : Int) = a ∨ (r : Int) = b ∨ overV t a r b < 0) → Ev (fun k => spec_BestRelay.j1 k t a b best (r : Int) (overV t a r b) c) (bestF t a b (d + 1) r best) := by
      intro c hc
      refine Ev.step (fun k => by rw [spec_BestRelay.j1]) ?_
      rw [wsucc (by omega)]
      by_cases h : (r : Int) = a ∨ (r : Int) = b ∨ overV t a r b < 0
      · refine evPos (by rw [hc]; exact decide_eq_true h) (evEq ?_ (ih (r + 1) best (by omega)))
        rw [bestF, bestS, if_pos h]
      · refine evNeg (by rw [hc]; simpa using h) ?_
        by_cases hb : best < 0
        · refine evPos hb (evEq ?_ (ih (r + 1) r (by omega)))
          rw [bestF, bestS, if_neg h, if_pos (.inl hb)]
        · refine evNeg hb (Ev.bind (spec_TimeOver_ev t a best b hl hr) ?_)
          by_cases hc2 : overV t a r b < overV t a best b
          · refine evPos hc2 (evEq ?_ (ih (r + 1) r (by omega)))
            rw [bestF, bestS, if_neg h, if_pos (.inr hc2)]
          · refine evNeg hc2 (evEq ?_ (ih (r + 1) best (by omega)))
            rw [bestF, bestS, if_neg h, if_neg (fun c2 => c2.elim hb hc2)]
    refine Ev.step (fun k => by rw [spec_BestRelay.l0]) ?_
    refine evPos (by omega) (Ev.bind (spec_TimeOver_ev t a r b hl hr) ?_)
    by_cases ha : (r : Int) = a
    · exact evPos ha (step true (by simp [ha]))
    · refine evNeg ha ?_
      by_cases hb : (r : Int) = b
      · exact evPos hb (step true (by simp [hb]))
      · exact evNeg hb (step _ (by simp [ha, hb]))
theorem spec_BestRelay_ev (t : List (List Int)) (a b : Int) (hl : t.length ≤ 1048576) (hr : ∀ r ∈ t, r.length ≤ 1048576) : Ev (fun k => spec_BestRelay.f k t a b) (bestV t a b) := by
  unfold spec_BestRelay.f
  exact spec_BestRelay_l0 t a b hl hr t.length 0 (-1) (by omega)
/-! ### gain -/
theorem bestF_inv (t : List (List Int)) (a b : Int) : ∀ (d r : Nat) (best : Int), (best = -1 ∨ 0 ≤ best ∧ best ≠ a ∧ best ≠ b ∧ 0 ≤ overV t a best b) → (bestF t a b d r best = -1 ∨ 0 ≤ bestF t a b d r best ∧ bestF t a b d r best ≠ a ∧ bestF t a b d r best ≠ b ∧ 0 ≤ overV t a (bestF t a b d r best) b)
  | 0, _, _, h => h
  | d + 1, r, best, h => by
    rw [bestF]
    refine bestF_inv t a b d (r + 1) _ ?_
    unfold bestS
    split
    · exact h
    · rename_i h1
      split
      · refine .inr ⟨by omega, fun c => h1 (.inl c), fun c => h1 (.inr (.inl c)), ?_⟩
        have : ¬ overV t a r b < 0 := fun c => h1 (.inr (.inr c))
        omega
      · exact h
theorem bestV_inv (t : List (List Int)) (a b : Int) : bestV t a b = -1 ∨ 0 ≤ bestV t a b ∧ bestV t a b ≠ a ∧ bestV t a b ≠ b ∧ 0 ≤ overV t a (bestV t a b) b := bestF_inv t a b _ _ _ (.inl rfl)
theorem overV_pos {t : List (List Int)} {a r b : Int} (h : 0 ≤ overV t a r b) : timesB t = true ∧ hostB t a = true ∧ hostB t r = true ∧ hostB t b = true ∧ 0 ≤ tm t a r ∧ 0 ≤ tm t r b ∧ overV t a r b = tm t a r + tm t r b := by
  unfold overV at h ⊢
  split at h
  · rename_i h1
    rw [if_pos h1]
    exact ⟨h1.1, h1.2.1, h1.2.2.1, h1.2.2.2.1, by omega, by omega, rfl⟩
  · omega
def gainV (t : List (List Int)) (a b : Int) : Int := if bestV t a b < 0 then 0 else if tm t a b < 0 then 100000 else if tm t a b - overV t a (bestV t a b) b < 0 then 0 else tm t a b - overV t a (bestV t a b) b
/-! ### clone -/
theorem clone_eq (l : List Int) (hl : l.length ≤ 1048576) : slices_Clone_int_int.f l = some l := by
  unfold slices_Clone_int_int.f
  simp
  omega
/-! ### ibest -/
/-- The best time with at most one relay. -/
def cellV (t : List (List Int)) (a b : Int) : Int := if 0 ≤ overV t a (bestV t a b) b ∧ (tm t a b < 0 ∨ overV t a (bestV t a b) b < tm t a b) then overV t a (bestV t a b) b else tm t a b
def mixC (t : List (List Int)) (a b i j : Nat) : Int := if i < a ∨ i = a ∧ j < b then cellV t i j else tm t i j
def mixV (t : List (List Int)) (a b : Nat) : List (List Int) := (List.range t.length).map fun i => (List.range t.length).map fun j => mixC t a b i j
def btV (t : List (List Int)) : List (List Int) := if timesB t = true then mixV t t.length 0 else []
theorem mixV_length (t : List (List Int)) (a b : Nat) : (mixV t a b).length = t.length := by simp [mixV]
theorem mixV_row (t : List (List Int)) (a b i : Nat) (hi : i < t.length) : (mixV t a b).getD i [] = (List.range t.length).map fun j => mixC t a b i j := by
  simp [mixV, hi]
theorem mixV_cell (t : List (List Int)) (a b i j : Nat) (hi : i < t.length) (hj : j < t.length) : ((mixV t a b).getD i []).getD j 0 = mixC t a b i j := by
  rw [mixV_row t a b i hi]
  simp [hj]
theorem mixV_next (t : List (List Int)) (a : Nat) : mixV t a t.length = mixV t (a + 1) 0 := by
  unfold mixV
  refine List.map_congr_left fun i hi => List.map_congr_left fun j hj => ?_
  rw [List.mem_range] at hi hj
  unfold mixC
  by_cases c : i < a ∨ i = a ∧ j < t.length
  · rw [if_pos c, if_pos (by omega)]
  · rw [if_neg c, if_neg (by omega)]
theorem mixV_same (t : List (List Int)) (a b : Nat) (h : cellV t a b = tm t a b) : mixV t a b = mixV t a (b + 1) := by
  unfold mixV
  refine List.map_congr_left fun i hi => List.map_congr_left fun j hj => ?_
  unfold mixC
  by_cases c : i = a ∧ j = b
  · obtain ⟨rfl, rfl⟩ := c
    rw [if_neg (by omega), if_pos (by omega), h]
  · by_cases c2 : i < a ∨ i = a ∧ j < b
    · rw [if_pos c2, if_pos (by omega)]
    · rw [if_neg c2, if_neg (by omega)]
theorem mixV_set (t : List (List Int)) (a b : Nat) (ha : a < t.length) (hb : b < t.length) : (mixV t a b).set a (((mixV t a b).getD a []).set b (cellV t a b)) = mixV t a (b + 1) := by
  rw [mixV_row t a b a ha]
  apply List.ext_getElem
  · simp [mixV]
  · intro i h1 h2
    have hi : i < t.length := by simpa [mixV] using h2
    rw [List.getElem_set]
    by_cases e : a = i
    · rw [if_pos e]
      subst e
      apply List.ext_getElem
      · simp [mixV]
      · intro j g1 g2
        have hj : j < t.length := by simpa using g1
        rw [List.getElem_set]
        by_cases e2 : b = j
        · rw [if_pos e2]
          subst e2
          simp [mixV, mixC]
        · rw [if_neg e2]
          simp only [mixV, mixC, List.getElem_map, List.getElem_range]
          by_cases c : j < b
          · have c2 : j < b + 1 := by omega
            simp [c, c2]
          · have c2 : ¬ j < b + 1 := by omega
            simp [c, c2]
    · rw [if_neg e]
      simp only [mixV, List.getElem_map, List.getElem_range]
      refine List.map_congr_left fun j hj => ?_
      unfold mixC
      by_cases c : i < a ∨ i = a ∧ j < b
      · rw [if_pos c, if_pos (by omega)]
      · rw [if_neg c, if_neg (by omega)]
theorem mixV_start (t : List (List Int)) (ht : timesB t = true) : mixV t 0 0 = t := by
  apply List.ext_getElem
  · simp [mixV]
  · intro i h1 h2
    have hrow := times_row ht (a := (i : Int)) (by simp [hostB, h2])
    have hg : t.getD ((i : Int).toNat) [] = t[i] := by simp [h2]
    rw [hg] at hrow
    simp only [mixV, List.getElem_map, List.getElem_range]
    apply List.ext_getElem
    · simp [hrow.1]
    · intro j g1 g2
      simp only [List.getElem_map, List.getElem_range, mixC]
      rw [if_neg (by omega)]
      simp [tm, h2, g2]
theorem copyRows_l0 : ∀ (suf pre : List (List Int)), (pre ++ suf).length ≤ 1048576 → (∀ r ∈ suf, r.length ≤ 1048576) →
    Ev (fun k => impl_copyRows.l0 k pre (pre ++ suf) ((pre ++ suf).length : Int) (pre.length : Int)) (pre ++ suf) := by
  intro suf
  induction suf with
  | nil =>
    intro pre hb hr
    refine Ev.step (fun k => by rw [impl_copyRows.l0]) (evNeg (by simp) (evEq (by simp) (Ev.now _)))
  | cons y suf ih =>
    intro pre hb hr
    have hb' := hb
    simp only [List.length_append, List.length_cons] at hb
    refine Ev.step (fun k => by rw [impl_copyRows.l0]) ?_
    refine evPos (by simp only [List.length_append, List.length_cons]; omega) (evPos (by omega) (evPos (by simp only [List.length_append, List.length_cons]; omega) ?_))
    rw [rd_L1, getD_mid, wsucc (by omega)]
    refine evSome (clone_eq y (hr y (by simp))) (evPos (by omega) ?_)
    have h := ih (pre ++ [y]) (by simpa using hb') (fun r h => hr r (by simp [h]))
    simpa using h
theorem copyRows_ev (l : List (List Int)) (hl : l.length ≤ 1048576) (hr : ∀ r ∈ l, r.length ≤ 1048576) : Ev (fun k => impl_copyRows.f k l) l := by
  have h := copyRows_l0 l [] (by simpa using hl) hr
  simpa [impl_copyRows.f] using h
theorem impl_BestTimes_l1 (t : List (List Int)) (hl : t.length ≤ 1048576) (hr : ∀ r ∈ t, r.length ≤ 1048576) (a : Nat) (ha : a < t.length) (R : List (List Int))
    (hk : Ev (fun k => impl_BestTimes.l0 k t (mixV t (a + 1) 0) (t.length : Int) ((a + 1 : Nat) : Int)) R) : ∀ (d b : Nat), b + d = t.length →
    Ev (fun k => impl_BestTimes.l1 k t (mixV t a b) (a : Int) (t.length : Int) (a : Int) (t.length : Int) (b : Int)) R := by
  intro d
  induction d with
  | zero =>
    intro b e
    obtain rfl : b = t.length := by omega
    refine Ev.step (fun k => by rw [impl_BestTimes.l1]) (evNeg (by omega) ?_)
    rw [wsucc (by omega), mixV_next]
    exact hk
  | succ d ih =>
    intro b e
    have hn := ih (b + 1) (by omega)
    have hb : b < t.length := by omega
    have ec : rd (rd_L1 (mixV t a b) (a : Int)) (b : Int) = tm t a b := by
      have h := mixV_cell t a b a b ha hb
      rw [mixC, if_neg (by omega)] at h
      exact h
    have erow : (rd_L1 (mixV t a b) (a : Int)).length = t.length := by
      have h := mixV_row t a b a ha
      have e2 : rd_L1 (mixV t a b) (a : Int) = (mixV t a b).getD a [] := rfl
      rw [e2, h]
      simp
    refine Ev.step (fun k => by rw [impl_BestTimes.l1]) (evPos (by omega) (Ev.bind (impl_BestRelay_ev t a b hl hr) (Ev.bind (impl_TimeOver_ev t a (bestV t a b) b hr) ?_)))
    rw [wsucc (by omega)]
    have hset : 0 ≤ overV t a (bestV t a b) b ∧ (tm t a b < 0 ∨ overV t a (bestV t a b) b < tm t a b) → (mixV t a b).set ((a : Int)).toNat ((rd_L1 (mixV t a b) (a : Int)).set ((b : Int)).toNat (overV t a (bestV t a b) b)) = mixV t a (b + 1) := fun c => by
      have h := mixV_set t a b ha hb
      rw [cellV, if_pos c] at h
      exact h
    have hkeep : ¬ (0 ≤ overV t a (bestV t a b) b ∧ (tm t a b < 0 ∨ overV t a (bestV t a b) b < tm t a b)) → mixV t a b = mixV t a (b + 1) := fun c => mixV_same t a b (by rw [cellV, if_neg c])
    by_cases c0 : overV t a (bestV t a b) b ≥ 0
    · refine evPos c0 (evPos (by omega) (evPos (by rw [mixV_length]; omega) (evPos (by omega) (evPos (by rw [erow]; omega) ?_))))
      rw [ec]
      by_cases c1 : tm t a b < 0
      · refine evPos c1 ?_
        rw [hset ⟨c0, .inl c1⟩]
        exact hn
      · by_cases c2 : overV t a (bestV t a b) b < tm t a b
        · refine evNeg c1 (evPos c2 ?_)
          rw [hset ⟨c0, .inr c2⟩]
          exact hn
        · refine evNeg c1 (evNeg c2 ?_)
          rw [hkeep (fun h => by omega)]
          exact hn
    · refine evNeg c0 ?_
      rw [hkeep (fun h => by omega)]
      exact hn
theorem impl_BestTimes_l0 (t : List (List Int)) (hl : t.length ≤ 1048576) (hr : ∀ r ∈ t, r.length ≤ 1048576) : ∀ (d a : Nat), a + d = t.length →
    Ev (fun k => impl_BestTimes.l0 k t (mixV t a 0) (t.length : Int) (a : Int)) (mixV t t.length 0) := by
  intro d
  induction d with
  | zero =>
    intro a e
    obtain rfl : a = t.length := by omega
    exact Ev.step (fun k => by rw [impl_BestTimes.l0]) (evNeg (by omega) (Ev.now _))
  | succ d ih =>
    intro a e
    refine Ev.step (fun k => by rw [impl_BestTimes.l0]) ?_
    exact evPos (by omega) (impl_BestTimes_l1 t hl hr a (by omega) _ (ih (a + 1) (by omega)) t.length 0 (by omega))
theorem impl_BestTimes_ev (t : List (List Int)) (hl : t.length ≤ 1048576) (hr : ∀ r ∈ t, r.length ≤ 1048576) : Ev (fun k => impl_BestTimes.f k t) (btV t) := by
  unfold impl_BestTimes.f btV
  refine Ev.bind (impl_IsTimes_ev t hr) ?_
  by_cases c : timesB t = true
  · rw [if_pos c]
    refine evPos c (Ev.bind (copyRows_ev t hl hr) ?_)
    have h := impl_BestTimes_l0 t hl hr t.length 0 (by omega)
    rw [mixV_start t c] at h
    exact h
  · rw [if_neg c]
    exact evNeg c (Ev.now _)
theorem bestF_min (t : List (List Int)) (a b : Int) : ∀ (d r : Nat) (best : Int), (∀ k : Nat, k < r → ¬ (k : Int) = a → ¬ (k : Int) = b → 0 ≤ overV t a k b → 0 ≤ best ∧ overV t a best b ≤ overV t a k b) →
    ∀ k : Nat, k < r + d → ¬ (k : Int) = a → ¬ (k : Int) = b → 0 ≤ overV t a k b → 0 ≤ bestF t a b d r best ∧ overV t a (bestF t a b d r best) b ≤ overV t a k b
  | 0, _, _, h => h
  | d + 1, r, best, h => by
    rw [bestF]
    have ih := bestF_min t a b d (r + 1) (bestS t a b best (r : Int)) (fun k hk ha hb ho => by
      unfold bestS
      by_cases e : k = r
      · subst e
        rw [if_neg (by omega)]
        split
        · exact ⟨by omega, Int.le_refl _⟩
        · omega
      · have hp := h k (by omega) ha hb ho
        split
        · exact hp
        · split
          · exact ⟨by omega, by omega⟩
          · exact hp)
    intro k hk
    exact ih k (by omega)
theorem bestV_min (t : List (List Int)) (a b : Int) (k : Nat) (hk : k < t.length) (ha : ¬ (k : Int) = a) (hb : ¬ (k : Int) = b) (ho : 0 ≤ overV t a k b) : 0 ≤ bestV t a b ∧ overV t a (bestV t a b) b ≤ overV t a k b :=
  bestF_min t a b t.length 0 (-1) (fun k hk => by omega) k (by omega) ha hb ho
/-! ### szints -/
def leftI (l : List Int) (a : Int) : Int := if a - (l.length : Int) < 0 then -1 else a - (l.length : Int)
theorem szIntS_eq (l : List Int) (a : Int) (h0 : 0 ≤ a) (h1 : a ≤ 1048576) (hl : l.length ≤ 9223372036854775807) : laws_szIntS.f l a = some (leftI l a) := by
  unfold laws_szIntS.f leftI
  rw [w64 (by omega) (by omega)]
  split <;> rfl
/-! ### ints -/
theorem toIntS_l0 : ∀ (suf pre rest : List Int), (pre ++ suf).length ≤ 1048576 → rest.length = suf.length →
    Ev (fun k => laws_toIntS.l0 k (pre ++ suf) (pre ++ rest) (pre.length : Int)) (pre ++ suf) := by
  intro suf
  induction suf with
  | nil =>
    intro pre rest hb hr
    obtain rfl : rest = [] := by simpa using hr
    refine Ev.step (fun k => by rw [laws_toIntS.l0]) ?_
    exact evNeg (by simp) (Ev.now _)
  | cons x suf ih =>
    intro pre rest hb hr
    obtain ⟨r, rest, rfl⟩ : ∃ r t, rest = r :: t := by
      cases rest with
      | nil => simp at hr
      | cons r t => exact ⟨r, t, rfl⟩
    simp only [List.length_append, List.length_cons] at hb hr
    refine Ev.step (fun k => by rw [laws_toIntS.l0]) ?_
    refine evPos (by simp only [List.length_append, List.length_cons]; omega) (evPos (by omega) (evPos (by simp only [List.length_append, List.length_cons]; omega) ?_))
    rw [rd_mid, set_mid, wsucc (by omega)]
    have h := ih (pre ++ [x]) rest (by simp; omega) (by omega)
    simpa using h
theorem toIntS_ev (l : List Int) (hl : l.length ≤ 1048576) : Ev (fun k => laws_toIntS.f k l) l := by
  unfold laws_toIntS.f
  refine evPos (by omega) (evPos (by omega) ?_)
  have h := toIntS_l0 l [] (List.replicate l.length 0) (by simpa using hl) (by simp)
  simpa using h
theorem eqIntS_l0 : ∀ (suf pre : List Int), (pre ++ suf).length ≤ 1048576 →
    Ev (fun k => laws_eqIntS.l0 k (pre ++ suf) (pre ++ suf) (pre.length : Int)) true := by
  intro suf
  induction suf with
  | nil =>
    intro pre hb
    refine Ev.step (fun k => by rw [laws_eqIntS.l0]) ?_
    exact evNeg (by simp) (Ev.now _)
  | cons x suf ih =>
    intro pre hb
    simp only [List.length_append, List.length_cons] at hb
    refine Ev.step (fun k => by rw [laws_eqIntS.l0]) ?_
    refine evPos (by simp only [List.length_append, List.length_cons]; omega) (evPos (by omega) (evPos (by simp only [List.length_append, List.length_cons]; omega) (evPos rfl ?_)))
    rw [wsucc (by omega)]
    have h := ih (pre ++ [x]) (by simp; omega)
    simpa using h
theorem eqIntS_ev (l : List Int) (hl : l.length ≤ 1048576) : Ev (fun k => laws_eqIntS.f k l l) true := by
  unfold laws_eqIntS.f
  refine evPos rfl ?_
  have h := eqIntS_l0 l [] (by simpa using hl)
  simpa using h
/-! ### intss -/
/-- What is left of a behind the lists' own lengths and the list's length; -1 where it is not enough. -/
def leftR : List (List Int) → Int → Int
  | [], a => a
  | r :: rs, a => if leftI r a < 0 then -1 else leftR rs (leftI r a)
def leftII (l : List (List Int)) (a : Int) : Int := if a - (l.length : Int) < 0 then -1 else leftR l (a - (l.length : Int))
theorem szIntSS_l0 : ∀ (suf pre : List (List Int)) (a : Int), (pre ++ suf).length ≤ 1048576 → 0 ≤ a → a ≤ 1048576 → (∀ r ∈ suf, r.length ≤ 9223372036854775807) →
    Ev (fun k => laws_szIntSS.l0 k (pre ++ suf) a (pre.length : Int)) (leftR suf a) := by
  intro suf
  induction suf with
  | nil =>
    intro pre a hb h0 h1 hr
    refine Ev.step (fun k => by rw [laws_szIntSS.l0]) ?_
    exact evNeg (by simp) (Ev.now _)
  | cons x suf ih =>
    intro pre a hb h0 h1 hr
    simp only [List.length_append, List.length_cons] at hb
    refine Ev.step (fun k => by rw [laws_szIntSS.l0]) ?_
    refine evPos (by simp only [List.length_append, List.length_cons]; omega) (evPos (by omega) ?_)
    rw [rd_L1, getD_mid, wsucc (by omega)]
    refine evSome (szIntS_eq x a h0 h1 (hr x (by simp))) ?_
    by_cases hx : leftI x a < 0
    · refine evPos hx (evEq ?_ (Ev.now _))
      simp [leftR, hx]
    · refine evNeg hx ?_
      have hle : leftI x a ≤ 1048576 := by
        unfold leftI
        split <;> omega
      have h := ih (pre ++ [x]) (leftI x a) (by simp; omega) (by omega) hle (fun r h => hr r (by simp [h]))
      refine evEq ?_ (Ev.congr (fun k => ?_) h)
      · simp [leftR, hx]
      · simp
theorem szIntSS_ev (l : List (List Int)) (a : Int) (h0 : 0 ≤ a) (h1 : a ≤ 1048576) (hl : l.length ≤ 9223372036854775807) (hr : ∀ r ∈ l, r.length ≤ 9223372036854775807) : Ev (fun k => laws_szIntSS.f k l a) (leftII l a) := by
  unfold laws_szIntSS.f
  rw [w64 (by omega) (by omega)]
  by_cases h : a - (l.length : Int) < 0
  · refine evPos h (evEq ?_ (Ev.now _))
    simp [leftII, h]
  · refine evNeg h (evEq ?_ (szIntSS_l0 l [] _ (by simp; omega) (by omega) (by omega) hr))
    simp [leftII, h]
theorem leftR_rows : ∀ (l : List (List Int)) (a : Int), 0 ≤ leftR l a → 0 ≤ a → a ≤ 1048576 → (∀ r ∈ l, r.length ≤ 1048576)
  | [], _, _, _, _ => by simp
  | r :: rs, a, h, h0, h1 => by
    unfold leftR at h
    split at h
    · omega
    · rename_i hx
      have hx' : 0 ≤ leftI r a := by omega
      have hrl : r.length ≤ 1048576 ∧ leftI r a ≤ 1048576 := by
        unfold leftI at hx' ⊢
        split at hx' <;> split <;> omega
      intro q hq
      rcases List.mem_cons.1 hq with rfl | hq
      · exact hrl.1
      · exact leftR_rows rs _ h hx' hrl.2 q hq
/-- Rows that may be examined. -/
def okII (l : List (List Int)) : Prop := l.length ≤ 1048576 ∧ ∀ r ∈ l, r.length ≤ 1048576
theorem leftII_ok {l : List (List Int)} (h : 0 ≤ leftII l 1048576) : okII l := by
  unfold leftII at h
  split at h
  · omega
  · exact ⟨by omega, leftR_rows l _ h (by omega) (by omega)⟩
theorem toIntSS_l0 : ∀ (suf pre rest : List (List Int)), (pre ++ suf).length ≤ 1048576 → rest.length = suf.length → (∀ r ∈ suf, r.length ≤ 1048576) →
    Ev (fun k => laws_toIntSS.l0 k (pre ++ suf) (pre ++ rest) (pre.length : Int)) (pre ++ suf) := by
  intro suf
  induction suf with
  | nil =>
    intro pre rest hb hr hq
    obtain rfl : rest = [] := by simpa using hr
    refine Ev.step (fun k => by rw [laws_toIntSS.l0]) ?_
    exact evNeg (by simp) (Ev.now _)
  | cons x suf ih =>
    intro pre rest hb hr hq
    obtain ⟨r, rest, rfl⟩ : ∃ r t, rest = r :: t := by
      cases rest with
      | nil => simp at hr
      | cons r t => exact ⟨r, t, rfl⟩
    simp only [List.length_append, List.length_cons] at hb hr
    refine Ev.step (fun k => by rw [laws_toIntSS.l0]) ?_
    refine evPos (by simp only [List.length_append, List.length_cons]; omega) (evPos (by omega) ?_)
    rw [rd_L1, getD_mid]
    refine Ev.bind (toIntS_ev x (hq x (by simp))) (evPos (by simp only [List.length_append, List.length_cons]; omega) ?_)
    rw [set_mid, wsucc (by omega)]
    have h := ih (pre ++ [x]) rest (by simp; omega) (by omega) (fun r h => hq r (by simp [h]))
    simpa using h
theorem toIntSS_ev (l : List (List Int)) (hl : okII l) : Ev (fun k => laws_toIntSS.f k l) l := by
  have h0 := hl.1
  unfold laws_toIntSS.f
  refine evPos (by omega) (evPos (by omega) ?_)
  have h := toIntSS_l0 l [] (List.replicate l.length []) (by simpa using hl.1) (by simp) hl.2
  simpa using h
theorem eqIntSS_l0 : ∀ (suf pre : List (List Int)), (pre ++ suf).length ≤ 1048576 → (∀ r ∈ suf, r.length ≤ 1048576) →
    Ev (fun k => laws_eqIntSS.l0 k (pre ++ suf) (pre ++ suf) (pre.length : Int)) true := by
  intro suf
  induction suf with
  | nil =>
    intro pre hb hq
    refine Ev.step (fun k => by rw [laws_eqIntSS.l0]) ?_
    exact evNeg (by simp) (Ev.now _)
  | cons x suf ih =>
    intro pre hb hq
    simp only [List.length_append, List.length_cons] at hb
    refine Ev.step (fun k => by rw [laws_eqIntSS.l0]) ?_
    refine evPos (by simp only [List.length_append, List.length_cons]; omega) (evPos (by omega) (evPos (by simp only [List.length_append, List.length_cons]; omega) ?_))
    rw [rd_L1, getD_mid]
    refine Ev.bind (eqIntS_ev x (hq x (by simp))) (evPos rfl ?_)
    rw [wsucc (by omega)]
    have h := ih (pre ++ [x]) (by simp; omega) (fun r h => hq r (by simp [h]))
    simpa using h
theorem eqIntSS_ev (l : List (List Int)) (hl : okII l) : Ev (fun k => laws_eqIntSS.f k l l) true := by
  unfold laws_eqIntSS.f
  refine evPos rfl ?_
  have h := eqIntSS_l0 l [] (by simpa using hl.1) hl.2
  simpa using h
/-! ### mints -/
def mkI : Int → Nat → List Int
  | _, 0 => []
  | k, n + 1 => k :: mkI (k + 1) n
theorem mkI_length : ∀ (n : Nat) (k : Int), (mkI k n).length = n
  | 0, _ => rfl
  | n + 1, k => by simp [mkI, mkI_length n]
theorem markIntS_l0 : ∀ (suf pre : List Int) (m : Int), (pre ++ suf).length ≤ 1048576 → 0 ≤ m → m + suf.length ≤ 4611686018427387904 →
    Ev (fun k => laws_markIntS.l0 k (pre ++ suf) m (pre.length : Int)) (m + suf.length, pre ++ mkI m suf.length) := by
  intro suf
  induction suf with
  | nil =>
    intro pre m hb h0 hm
    refine Ev.step (fun k => by rw [laws_markIntS.l0]) ?_
    refine evNeg (by simp) (evEq ?_ (Ev.now _))
    simp [mkI]
  | cons x suf ih =>
    intro pre m hb h0 hm
    simp only [List.length_append, List.length_cons] at hb hm
    refine Ev.step (fun k => by rw [laws_markIntS.l0]) ?_
    refine evPos (by simp only [List.length_append, List.length_cons]; omega) (evPos (by omega) ?_)
    rw [set_mid, wsucc (by omega), w64 (by omega) (by omega)]
    have h := ih (pre ++ [m]) (m + 1) (by simp; omega) (by omega) (by omega)
    refine evEq ?_ (Ev.congr (fun k => ?_) h)
    · simp [mkI]
      omega
    · simp
theorem markIntS_ev (l : List Int) (m : Int) (hl : l.length ≤ 1048576) (h0 : 0 ≤ m) (hm : m ≤ 1099511627776) : Ev (fun k => laws_markIntS.f k l m) (m + l.length, mkI m l.length) := by
  have h := markIntS_l0 l [] m (by simpa using hl) h0 (by omega)
  simpa [laws_markIntS.f] using h
theorem heldIntS_l0 : ∀ (n : Nat) (pre : List Int) (m : Int), pre.length + n ≤ 1048576 → 0 ≤ m → m + n ≤ 4611686018427387904 →
    Ev (fun k => laws_heldIntS.l0 k (pre ++ mkI m n) m (pre.length : Int)) (m + n) := by
  intro n
  induction n with
  | zero =>
    intro pre m hb h0 hm
    refine Ev.step (fun k => by rw [laws_heldIntS.l0]) ?_
    refine evNeg (by simp [mkI]) (evEq ?_ (Ev.now _))
    simp
  | succ n ih =>
    intro pre m hb h0 hm
    refine Ev.step (fun k => by rw [laws_heldIntS.l0]) ?_
    refine evPos (by simp only [List.length_append, mkI_length]; omega) (evPos (by omega) ?_)
    rw [mkI, rd_mid, wsucc (by omega), w64 (by omega) (by omega)]
    refine evPos rfl ?_
    have h := ih (pre ++ [m]) (m + 1) (by simp; omega) (by omega) (by omega)
    refine evEq ?_ (Ev.congr (fun k => ?_) h)
    · omega
    · simp
theorem heldIntS_ev (n : Nat) (m : Int) (hl : n ≤ 1048576) (h0 : 0 ≤ m) (hm : m ≤ 1099511627776) : Ev (fun k => laws_heldIntS.f k (mkI m n) m) (m + n) := by
  have h := heldIntS_l0 n [] m (by simpa using hl) h0 (by omega)
  simpa [laws_heldIntS.f] using h
/-! ### markintss -/
def totL : List (List Int) → Nat
  | [] => 0
  | r :: rs => r.length + totL rs
def mkII : Int → List (List Int) → List (List Int)
  | _, [] => []
  | a, r :: rs => mkI a r.length :: mkII (a + r.length) rs
theorem mkII_length : ∀ (l : List (List Int)) (a : Int), (mkII a l).length = l.length
  | [], _ => rfl
  | r :: rs, a => by simp [mkII, mkII_length rs]
theorem totL_snoc : ∀ (l : List (List Int)) (x : List Int), totL (l ++ [x]) = totL l + x.length
  | [], x => by simp [totL]
  | r :: rs, x => by simp only [List.cons_append, totL, totL_snoc rs x]; omega
theorem mkII_snoc : ∀ (l : List (List Int)) (x : List Int) (a : Int), mkII a (l ++ [x]) = mkII a l ++ [mkI (a + totL l) x.length]
  | [], x, a => by simp [mkII, totL]
  | r :: rs, x, a => by
    simp only [List.cons_append, mkII, totL, mkII_snoc rs x]
    rw [show a + (r.length : Int) + (totL rs : Int) = a + ((r.length + totL rs : Nat) : Int) by omega]
theorem totL_append : ∀ (l m : List (List Int)), totL (l ++ m) = totL l + totL m
  | [], m => by simp [totL]
  | r :: rs, m => by simp only [List.cons_append, totL, totL_append rs m]; omega
set_option maxHeartbeats 2000000 in
theorem markIntSS_c (P0 : Nat → Prop) (u : Value) (l0 : List (List Int)) (a1 : Int) (w0 w : World) (hB : Below w0.heap.size w0 w) (ho0 : Kd.S (Kd.slice 3 (Kd.int .i64)) 23 w w0.heap.size P0 u l0) (hl : okII l0) (h0 : 0 ≤ a1) (h1 : a1 + totL l0 ≤ 1099511627776) :
    Calls Try.prog 22 #[u, .int .i64 a1] w fun e w' => e = .returned (.int .i64 (a1 + totL l0)) ∧ Kd.S (Kd.slice 3 (Kd.int .i64)) 23 w' w0.heap.size P0 u (mkII a1 l0) ∧ Below w0.heap.size w0 w' ∧ Kept w w' P0 := by
  obtain ⟨A, c, rfl⟩ := Kd.S_slice ho0
  have HB0 := Aside0.mk hB
  have HO0 := Aside0.mk ho0
  have HL := Aside0.mk hl
  clear hB ho0 hl
  have h0' := Aside0.mk h0
  have h1' := Aside0.mk h1
  clear h0 h1
  go_enter Try.func22, Try.ntmps22
  go_wp2
  go_loopg [1, 5] l0.length (fun gg v1 v5 wr => ∃ (pre suf : List (List Int)), gg = suf.length ∧ Aside0 (l0 = pre ++ suf) ∧ v1 = .int .i64 (a1 + totL pre) ∧ v5 = .int .i64 (pre.length : Int) ∧ Aside0 (Kd.S (Kd.slice 3 (Kd.int .i64)) 23 wr w0.heap.size P0 (.slice A l0.length c) (mkII a1 pre ++ suf)) ∧ Aside0 (Below w0.heap.size w0 wr) ∧ Aside0 (Kept w wr P0))
  case atStart => exact ⟨[], l0, rfl, ⟨rfl⟩, by simp [totL], rfl, ⟨by simpa [mkII] using (by (with_reducible repeat (first | apply Kd.S_alloc | apply Kd.S_drewN | apply Kd.S_drew)); exact HO0.out)⟩, ⟨by repeat (first | (with_reducible first | exact HB0.out | apply below_alloc | apply pw_below_drewN | apply below_drew1) | exact HB0.out)⟩, ⟨by repeat (first | exact Kept.refl _ _ | apply Kept.alloc | apply Kept.drewN)⟩⟩
  case round =>
    clear HO0 HB0
    obtain ⟨pre, suf, hgg, HE, rfl, rfl, HO, HB, HK⟩ := hrel
    cases suf with
    | nil =>
      have e0 : l0 = pre := by simpa using HE.out
      subst e0
      go_wp2
      go_ret
      exact ⟨rfl, by have := HO.out; rwa [List.append_nil] at this, HB.out, HK.out⟩
    | cons x suf =>
      have hlen : l0.length = pre.length + (suf.length + 1) := by rw [HE.out]; simp
      have ht : totL l0 = totL pre + (x.length + totL suf) := by rw [HE.out, totL_append]; rfl
      have hx : x.length ≤ 1048576 := HL.out.2 x (by rw [HE.out]; simp)
      have hlt : (pre.length : Int) < (l0.length : Int) := by omega
      obtain ⟨g, cap, e1, gb, gl, cl⟩ := Kd.S_form HO.out (by simp [mkII_length]; omega)
      injection e1 with e1 e2 e3
      subst e1
      subst e3
      have HO1 := HO.out
      obtain ⟨oki, cs, hcl, hM, hcc, hoki, hH⟩ := Kd.S_lend HO1 [] (pre.length : Int) (by omega) (by omega)
      obtain ⟨v, rfl, hR⟩ := hM
      have hcell : wr.cell? ⟨g, pre.length, none⟩ = some v := by have := hcc 0 v rfl; simpa [Kd.slice] using this
      have hxe : (mkII a1 pre ++ x :: suf).getD ((pre.length : Int)).toNat [] = x := getD_mid' _ _ _ _ (mkII_length _ _)
      rw [hxe] at hR
      obtain ⟨k1, hk1⟩ := (markIntS_ev x (a1 + totL pre) hx (by have := h0'.out; omega) (by have := h1'.out; omega)).rounds
      have HK1 := Aside0.mk hk1
      have HR := Aside0.mk hR
      have HH := Aside0.mk hH
      have HOK := Aside0.mk hoki
      have HLEN := Aside0.mk hlen
      have HLL := Aside0.mk (show l0.length ≤ 1048576 from HL.out.1)
      clear hk1 hR hH hoki hcc hxe HO1 hlen ht hx gb gl cl hcl e2
      go_wp2_with (go_at_call 23; (with_reducible refine (laws_markIntS.calls k1 oki v x _ _ _ w0 _ ?s1 ?s2 HK1.out).mono ?_); (case s1 => exact HB.out); (case s2 => exact HR.out); rintro e w' ⟨rfl, hR', hB', hK'⟩)
      go_roundg suf.length
      case measure => rw [hgg]; simp
      case rel =>
        refine ⟨pre ++ [x], suf, rfl, ⟨by rw [HE.out]; simp⟩, ?_, ?_, ⟨?_⟩, ⟨hB'⟩, ⟨Kept.then_ HK.out hK' (fun k hk => .inl (HOK.out k hk).1)⟩⟩
        · rw [totL_snoc]; congr 1; omega
        · rw [List.length_append, wsucc (by have := HLEN.out; have := HLL.out; omega)]; rfl
        · have h2 := Kd.H_back (Kd.H_kept HH.out hK' (fun k _ hn => hn)) (x' := mkI (a1 + totL pre) x.length) ⟨v, rfl, Kd.R_tight rfl hR'⟩ (fun k hk => HR.out.1 k hk.symm)
          rw [mkII_snoc, List.append_assoc]
          have h3 : (mkII a1 pre ++ x :: suf).set ((pre.length : Int)).toNat (mkI (a1 + totL pre) x.length) = mkII a1 pre ++ mkI (a1 + totL pre) x.length :: suf := by
            have := set_mid (mkII a1 pre) suf x (mkI (a1 + totL pre) x.length)
            rwa [mkII_length] at this
          rw [h3] at h2
          exact h2
/-! ### heldintss -/
theorem heldIntSS_l0 : ∀ (suf pre : List (List Int)) (m : Int), (pre ++ suf).length ≤ 1048576 → (∀ r ∈ suf, r.length ≤ 1048576) → 0 ≤ m → m + totL suf ≤ 1099511627776 →
    Ev (fun k => laws_heldIntSS.l0 k (pre ++ mkII m suf) m (pre.length : Int)) (m + totL suf) := by
  intro suf
  induction suf with
  | nil =>
    intro pre m hb hr h0 hm
    refine Ev.step (fun k => by rw [laws_heldIntSS.l0]) ?_
    refine evNeg (by simp [mkII]) (evEq ?_ (Ev.now _))
    simp [totL]
  | cons x suf ih =>
    intro pre m hb hr h0 hm
    simp only [List.length_append, List.length_cons] at hb
    simp only [totL] at hm
    refine Ev.step (fun k => by rw [laws_heldIntSS.l0]) ?_
    refine evPos (by simp only [List.length_append, mkII, List.length_cons, mkII_length]; omega) (evPos (by omega) ?_)
    rw [mkII, rd_L1, getD_mid, wsucc (by omega)]
    refine Ev.bind (heldIntS_ev x.length m (hr x (by simp)) h0 (by omega)) (evNeg (by omega) ?_)
    have h := ih (pre ++ [mkI m x.length]) (m + x.length) (by simp; omega) (fun r h => hr r (by simp [h])) (by omega) (by omega)
    refine evEq ?_ (Ev.congr (fun k => ?_) h)
    · simp only [totL]; omega
    · simp
theorem heldIntSS_ev (l : List (List Int)) (m : Int) (hl : okII l) (h0 : 0 ≤ m) (hm : m + totL l ≤ 1099511627776) : Ev (fun k => laws_heldIntSS.f k (mkII m l) m) (m + totL l) := by
  have h := heldIntSS_l0 l [] m (by simpa using hl.1) hl.2 h0 hm
  simpa [laws_heldIntSS.f] using h
theorem totL_le : ∀ (l : List (List Int)) (n : Nat), (∀ r ∈ l, r.length ≤ n) → totL l ≤ l.length * n
  | [], _, _ => by simp [totL]
  | r :: rs, n, h => by
    have h1 := totL_le rs n (fun q hq => h q (by simp [hq]))
    have h2 := h r (by simp)
    simp only [totL, List.length_cons, Nat.succ_mul]
    omega
theorem totL_leftR : ∀ (l : List (List Int)) (a : Int), 0 ≤ a → 0 ≤ leftR l a → (totL l : Int) ≤ a
  | [], a, h, _ => by simpa [totL] using h
  | r :: rs, a, h, h2 => by
    unfold leftR at h2
    split at h2
    · omega
    · rename_i hx
      have h3 := totL_leftR rs _ (by omega) h2
      have h4 : leftI r a = a - r.length := by unfold leftI at hx ⊢; split <;> omega
      simp only [totL]
      omega
theorem totL_left {l : List (List Int)} (h : 0 ≤ leftII l 1048576) : totL l ≤ 1048576 := by
  unfold leftII at h
  split at h
  · omega
  · have := totL_leftR l _ (by omega) h
    omega
/-! ### besttimes -/
theorem times_len {t : List (List Int)} (h : timesB t = true) : 1 ≤ t.length ∧ t.length ≤ 6 := by
  by_cases h0 : t.length = 0
  · have : t = [] := List.eq_nil_of_length_eq_zero h0
    subst this
    simp [timesB] at h
  · have h2 : hostB t (0 : Int) = true := by unfold hostB; simp; omega
    exact ⟨by omega, (times_row h h2).2.1⟩
def rowV (t : List (List Int)) (a b : Nat) : List Int := (List.range b).map fun j : Nat => cellV t a j
theorem rowV_succ (t : List (List Int)) (a b : Nat) : rowV t a (b + 1) = rowV t a b ++ [cellV t a b] := by
  simp [rowV, List.range_succ]
def rowsV (t : List (List Int)) (a : Nat) : List (List Int) := (List.range a).map fun i : Nat => rowV t i t.length
theorem rowsV_succ (t : List (List Int)) (a : Nat) : rowsV t (a + 1) = rowsV t a ++ [rowV t a t.length] := by
  simp [rowsV, List.range_succ]
theorem rowsV_end (t : List (List Int)) : rowsV t t.length = mixV t t.length 0 := by
  unfold rowsV rowV mixV
  refine List.map_congr_left fun i hi => List.map_congr_left fun j hj => ?_
  rw [List.mem_range] at hi
  unfold mixC
  rw [if_pos (.inl hi)]
theorem spec_BestTimes_l1 (t : List (List Int)) (ht : timesB t = true) (hr : ∀ r ∈ t, r.length ≤ 1048576) (a : Nat) (ha : a < t.length) (R : List (List Int))
    (hk : Ev (fun k => spec_BestTimes.l0 k t (rowsV t (a + 1)) ((a + 1 : Nat) : Int)) R) : ∀ (d b : Nat), b + d = t.length →
    Ev (fun k => spec_BestTimes.l1 k t (rowsV t a) (a : Int) (rowV t a b) (b : Int)) R := by
  have hl := times_len ht
  have hh : hostB t (a : Int) = true := by unfold hostB; simp; omega
  have hrow := (times_row ht hh).1
  intro d
  induction d with
  | zero =>
    intro b e
    obtain rfl : b = t.length := by omega
    refine Ev.step (fun k => by rw [spec_BestTimes.l1]) (evNeg (by omega) (evPos (by simp [rowsV]; omega) ?_))
    rw [wsucc (by omega), ← rowsV_succ]
    exact hk
  | succ d ih =>
    intro b e
    have hn := ih (b + 1) (by omega)
    rw [rowV_succ] at hn
    have erow : ((rd_L1 t (a : Int)).length : Int) = t.length := by
      have : rd_L1 t (a : Int) = t.getD ((a : Int)).toNat [] := rfl
      rw [this, hrow]
    have hx : ∀ v, v = cellV t a b → Ev (fun k => if (rowV t a b).length < 17592186044416 then spec_BestTimes.l1 k t (rowsV t a) (a : Int) (rowV t a b ++ [v]) ((b + 1 : Nat) : Int) else none) R := fun v hv => by
      rw [hv]
      exact evPos (by simp [rowV]; omega) hn
    refine Ev.step (fun k => by rw [spec_BestTimes.l1]) (evPos (by omega) (evPos (by omega) (evPos (by omega) (evPos (by omega) (evPos (by rw [erow]; omega) (Ev.bind (spec_BestRelay_ev t a b (by omega) hr) (Ev.bind (spec_TimeOver_ev t a (bestV t a b) b (by omega) hr) ?_)))))))
    rw [wsucc (by omega), show rd (rd_L1 t (a : Int)) (b : Int) = tm t a b from rfl]
    by_cases c0 : overV t a (bestV t a b) b ≥ 0
    · refine evPos c0 ?_
      by_cases c1 : tm t a b < 0
      · exact evPos c1 (hx _ (by rw [cellV, if_pos ⟨c0, .inl c1⟩]))
      · by_cases c2 : overV t a (bestV t a b) b < tm t a b
        · exact evNeg c1 (evPos c2 (hx _ (by rw [cellV, if_pos ⟨c0, .inr c2⟩])))
        · exact evNeg c1 (evNeg c2 (hx _ (by rw [cellV, if_neg (fun h => by omega)])))
    · exact evNeg c0 (hx _ (by rw [cellV, if_neg (fun h => by omega)]))
theorem spec_BestTimes_l0 (t : List (List Int)) (ht : timesB t = true) (hr : ∀ r ∈ t, r.length ≤ 1048576) : ∀ (d a : Nat), a + d = t.length →
    Ev (fun k => spec_BestTimes.l0 k t (rowsV t a) (a : Int)) (rowsV t t.length) := by
  have hl := times_len ht
  intro d
  induction d with
  | zero =>
    intro a e
    obtain rfl : a = t.length := by omega
    refine Ev.step (fun k => by rw [spec_BestTimes.l0]) (evNeg (by omega) (Ev.step (fun k => by rw [spec_BestTimes.j1]) ?_))
    exact evNeg (by simp) (Ev.now _)
  | succ d ih =>
    intro a e
    refine Ev.step (fun k => by rw [spec_BestTimes.l0]) (evPos (by omega) (Ev.bind (spec_IsTimes_ev t (by omega) hr) (Ev.step (fun k => by rw [spec_BestTimes.j1]) (evPos ht ?_))))
    exact spec_BestTimes_l1 t ht hr a (by omega) _ (ih (a + 1) (by omega)) t.length 0 (by omega)
theorem spec_BestTimes_ev (t : List (List Int)) (hl : t.length ≤ 1048576) (hr : ∀ r ∈ t, r.length ≤ 1048576) : Ev (fun k => spec_BestTimes.f k t) (btV t) := by
  unfold spec_BestTimes.f btV
  by_cases c : timesB t = true
  · rw [if_pos c, ← rowsV_end]
    exact spec_BestTimes_l0 t c hr t.length 0 (by omega)
  · rw [if_neg c]
    refine Ev.step (fun k => by rw [spec_BestTimes.l0]) ?_
    by_cases h0 : (0 : Int) < (t.length : Int)
    · refine evPos h0 (Ev.bind (spec_IsTimes_ev t hl hr) (Ev.step (fun k => by rw [spec_BestTimes.j1]) (evNeg c (Ev.now _))))
    · exact evNeg h0 (Ev.step (fun k => by rw [spec_BestTimes.j1]) (evNeg (by simp) (Ev.now _)))
theorem btV_ok (t : List (List Int)) : okII (btV t) ∧ totL (btV t) ≤ 1048576 := by
  unfold btV
  by_cases c : timesB t = true
  · rw [if_pos c]
    have hl := times_len c
    have h2 : ∀ r ∈ mixV t t.length 0, r.length ≤ 6 := fun r hr => by
      obtain ⟨i, _, rfl⟩ := List.mem_map.1 hr
      simp
      omega
    refine ⟨⟨by rw [mixV_length]; omega, fun r hr => by have := h2 r hr; omega⟩, ?_⟩
    have h3 := totL_le _ 6 h2
    rw [mixV_length] at h3
    omega
  · rw [if_neg c]
    exact ⟨⟨by simp, by simp⟩, by simp [totL]⟩
/-! ### own -/
/-- A row that a call made: its blocks are those between the two worlds. -/
theorem S_fresh {α : Type} {d : Kd α} {e : Nat} {w w2 W w3 : World} {v : Value} {xs : List α} (h0 : Below w.heap.size w w2) (h1 : Below w2.heap.size w2 W) (ho : Kd.S d e w3 W.heap.size (fun _ => True) v xs) (hb : Below W.heap.size W w3) : Kd.S d e w3 w.heap.size (fun k => w2.heap.size ≤ k ∧ k < w3.heap.size) v xs :=
  Kd.S_lower (Kd.S_mono (Kd.S_bound ho) (fun k hk => ⟨Nat.le_trans h1.size hk.2.1, hk.2.2.1⟩)) (Nat.le_trans h0.size h1.size)
theorem R_fresh {α : Type} {d : Kd α} {e : Nat} {w w2 W w3 : World} {v : Value} {xs : List α} (h0 : Below w.heap.size w w2) (h1 : Below w2.heap.size w2 W) (ho : Kd.R d e w3 W.heap.size (fun _ => True) v xs) (hb : Below W.heap.size W w3) : Kd.R d e w3 w.heap.size (fun k => w2.heap.size ≤ k ∧ k < w3.heap.size) v xs :=
  Kd.R_lower (Kd.R_mono (Kd.R_bound ho) (fun k hk => ⟨Nat.le_trans h1.size hk.2.1, hk.2.2.1⟩)) (Nat.le_trans h0.size h1.size)
/-- A flat row that was written and comes back: its blocks are the same. -/
theorem R_tight' {α β : Type} {d : Kd α} {d' : Kd β} {e e' : Nat} {w w' : World} {b b' : Nat} {ok ok' : Nat → Prop} {v : Value} {xs : List α} {ys : List β} (hE : d.E = []) (h : Kd.R d e w b ok v xs) (h' : Kd.R d' e' w' b' ok' v ys) : Kd.R d e w b ok' v xs :=
  Kd.R_mono (Kd.R_tight hE h) (fun k hk => h'.1 k hk.symm)
theorem calls_cast {P : Program} {f : Nat} {args args' : Array Value} {w : World} {Q : Ending → World → Prop} (h : args = args') (hc : Calls P f args w Q) : Calls P f args' w Q := h ▸ hc
/-! ### zz_FnExactBestTimes -/
set_option maxHeartbeats 4000000 in
set_option maxRecDepth 100000 in
theorem FnExactBestTimes_calls (A0 : Option Addr) (c0 : Nat) (l0 : List (List Int)) (w : World) (hr0 : Kd.C (Kd.slice 3 (Kd.int .i64)) w A0 l0.length l0) (hc0 : l0.length ≤ c0) (g0 : l0.length ≤ 9223372036854775807 ∧ ∀ y ∈ l0, y.length ≤ 9223372036854775807 ∧ ∀ z ∈ y, (Lit.int .i64 z).wf = true) :
    Calls Try.prog 5 #[.slice A0 l0.length c0] w fun e w' => e = .returned (.bool true) ∧ Below w.heap.size w w' := by
  by_cases b0 : leftII l0 1048576 < 0
  · obtain ⟨k0, hk0⟩ := (szIntSS_ev l0 1048576 (by omega) (by omega) g0.1 (fun r hr => (g0.2 r hr).1)).rounds
    have K0 := Aside0.mk hk0
    have HR := Aside0.mk hr0
    have b0' : decide (leftII l0 1048576 < 0) = true := decide_eq_true b0
    clear hk0 hr0
    go_enter Try.func5, Try.ntmps5
    go_wp2_with fail
    go_at_call 15; (with_reducible refine (laws_szIntSS.calls k0 _ _ l0 1048576 _ _ ?s0 hc0 K0.out).mono ?_); (case s0 => repeat (first | exact HR.out | (with_reducible refine Kd.C_alloc ?_ _) | (with_reducible refine Kd.C_drewN ?_ _) | (with_reducible refine Kd.C_drew ?_))); rintro e w' ⟨rfl, ⟨nd, rfl⟩⟩
    go_wp2
    go_ret
    exact ⟨rfl, (by repeat (first | (with_reducible first | exact Below.refl _ _ | apply below_alloc | apply pw_below_drewN | apply below_drew1) | exact Below.refl _ _))⟩
  have ok0 : okII l0 := leftII_ok (by omega)
  have b0' : decide (leftII l0 1048576 < 0) = false := decide_eq_false b0
  have HR0 := Aside0.mk hr0
  clear hr0
  obtain ⟨y0, hy0⟩ : ∃ y, y = btV l0 := ⟨_, rfl⟩
  have oy0 : okII y0 := by rw [hy0]; exact (btV_ok _).1
  have ty0 : totL y0 ≤ 1048576 := by rw [hy0]; exact (btV_ok _).2
  have hs := spec_BestTimes_ev l0 ok0.1 ok0.2
  have hi := impl_BestTimes_ev l0 ok0.1 ok0.2
  rw [← hy0] at hs hi
  clear hy0
  have t0 : totL l0 ≤ 1048576 := totL_left (by omega)
  obtain ⟨k2, hz_⟩ := (szIntSS_ev l0 (1048576) (by omega) (by omega) g0.1 (fun r hr => (g0.2 r hr).1)).rounds
  have Kk2 := Aside0.mk hz_
  clear hz_
  obtain ⟨k4, hz_⟩ := (toIntSS_ev l0 ok0).rounds
  have Kk4 := Aside0.mk hz_
  clear hz_
  obtain ⟨k13, hz_⟩ := (hs).rounds
  have Kk13 := Aside0.mk hz_
  clear hz_
  obtain ⟨k23, hz_⟩ := (toIntSS_ev l0 ok0).rounds
  have Kk23 := Aside0.mk hz_
  clear hz_
  obtain ⟨k34, hz_⟩ := (hi).rounds
  have Kk34 := Aside0.mk hz_
  clear hz_
  obtain ⟨k46, hz_⟩ := (eqIntSS_ev y0 oy0).rounds
  have Kk46 := Aside0.mk hz_
  clear hz_
  obtain ⟨k48, hz_⟩ := (toIntSS_ev l0 ok0).rounds
  have Kk48 := Aside0.mk hz_
  clear hz_
  obtain ⟨k61, hz_⟩ := (eqIntSS_ev l0 ok0).rounds
  have Kk61 := Aside0.mk hz_
  clear hz_
  obtain ⟨k72, hz_⟩ := (eqIntSS_ev y0 oy0).rounds
  have Kk72 := Aside0.mk hz_
  clear hz_
  obtain ⟨k83, hz_⟩ := (heldIntSS_ev y0 (1) oy0 (by omega) (by omega)).rounds
  have Kk83 := Aside0.mk hz_
  clear hz_
  obtain ⟨k85, hz_⟩ := (toIntSS_ev l0 ok0).rounds
  have Kk85 := Aside0.mk hz_
  clear hz_
  obtain ⟨k99, hz_⟩ := (hi).rounds
  have Kk99 := Aside0.mk hz_
  clear hz_
  obtain ⟨k114, hz_⟩ := (eqIntSS_ev y0 oy0).rounds
  have Kk114 := Aside0.mk hz_
  clear hz_
  obtain ⟨k116, hz_⟩ := (heldIntSS_ev y0 (1) oy0 (by omega) (by omega)).rounds
  have Kk116 := Aside0.mk hz_
  clear hz_
  go_enter Try.func5, Try.ntmps5
  have HBW0 := Aside0.mk (Below.refl w.heap.size w)
  -- laws.szIntSS
  go_wp2_with fail
  go_at_call 15; (with_reducible refine (laws_szIntSS.calls k2 _ _ (l0) (1048576) (leftII l0 (1048576)) _ ?s0 ?s1 Kk2.out).mono ?_); (case s0 => exact Kd.C_below (by exact HR0.out) (below_step HBW0.out (by repeat (first | (with_reducible first | exact Below.refl _ _ | apply below_alloc | apply pw_below_drewN | apply below_drew1) | exact Below.refl _ _)))); (case s1 => exact hc0); rintro e w' ⟨rfl, ⟨nd, rfl⟩⟩
  -- laws.toIntSS
  go_wp2_with fail
  go_at_call 17; (with_reducible refine (laws_toIntSS.calls k4 _ _ (l0) (l0) _ ?s0 ?s1 Kk4.out).mono ?_); (case s0 => exact Kd.C_below (by exact HR0.out) (below_step HBW0.out (by repeat (first | (with_reducible first | exact Below.refl _ _ | apply below_alloc | apply pw_below_drewN | apply below_drew1) | exact Below.refl _ _)))); (case s1 => exact hc0); rintro e w3 ⟨v5, rfl, ho6, hb⟩
  have HO7 := Aside0.mk (S_fresh HBW0.out (by repeat (first | (with_reducible first | exact Below.refl _ _ | apply below_alloc | apply pw_below_drewN | apply below_drew1) | exact Below.refl _ _)) ho6 hb)
  clear ho6
  have hbz := below_step (w := w) (by repeat (first | (with_reducible first | exact Below.refl _ _ | apply below_alloc | apply pw_below_drewN | apply below_drew1) | exact Below.refl _ _)) hb
  have HBW8 := Aside0.mk (below_step HBW0.out hbz)
  clear HBW0
  have HSZ9 := Aside0.mk hbz.size
  obtain ⟨A10, c11, rfl⟩ := Kd.S_slice HO7.out
  clear hb hbz
  -- spec.BestTimes
  go_wp2_with fail
  go_at_call 33; (with_reducible refine (spec_BestTimes.calls k13 _ _ (l0) (y0) _ ?s0 ?s1 Kk13.out).mono ?_); (case s0 => have z_ := (Kd.S_reads' HO7.out); repeat (first | exact z_.2.2 | (with_reducible refine Kd.C_alloc ?_ _) | (with_reducible refine Kd.C_drewN ?_ _) | (with_reducible refine Kd.C_drew ?_))); (case s1 => exact (Kd.S_reads' HO7.out).2.1); rintro e w12 ⟨v14, rfl, ho15, hb⟩
  have HO16 := Aside0.mk (S_fresh HBW8.out (by repeat (first | (with_reducible first | exact Below.refl _ _ | apply below_alloc | apply pw_below_drewN | apply below_drew1) | exact Below.refl _ _)) ho15 hb)
  clear ho15
  have hbz := below_step (w := w3) (by repeat (first | (with_reducible first | exact Below.refl _ _ | apply below_alloc | apply pw_below_drewN | apply below_drew1) | exact Below.refl _ _)) hb
  have HBW17 := Aside0.mk (below_step HBW8.out hbz)
  clear HBW8
  have HSZ18 := Aside0.mk hbz.size
  have HO19 := Aside0.mk (Kd.S_below HO7.out hbz)
  clear HO7
  obtain ⟨A20, c21, rfl⟩ := Kd.S_slice HO16.out
  clear hb hbz
  -- laws.toIntSS
  go_wp2_with fail
  go_at_call 17; (with_reducible refine (laws_toIntSS.calls k23 _ _ (l0) (l0) _ ?s0 ?s1 Kk23.out).mono ?_); (case s0 => exact Kd.C_below (by exact HR0.out) (below_step HBW17.out (by repeat (first | (with_reducible first | exact Below.refl _ _ | apply below_alloc | apply pw_below_drewN | apply below_drew1) | exact Below.refl _ _)))); (case s1 => exact hc0); rintro e w22 ⟨v24, rfl, ho25, hb⟩
  have HO26 := Aside0.mk (S_fresh HBW17.out (by repeat (first | (with_reducible first | exact Below.refl _ _ | apply below_alloc | apply pw_below_drewN | apply below_drew1) | exact Below.refl _ _)) ho25 hb)
  clear ho25
  have hbz := below_step (w := w12) (by repeat (first | (with_reducible first | exact Below.refl _ _ | apply below_alloc | apply pw_below_drewN | apply below_drew1) | exact Below.refl _ _)) hb
  have HBW27 := Aside0.mk (below_step HBW17.out hbz)
  clear HBW17
  have HSZ28 := Aside0.mk hbz.size
  have HO29 := Aside0.mk (Kd.S_below HO19.out hbz)
  clear HO19
  have HO30 := Aside0.mk (Kd.S_below HO16.out hbz)
  clear HO16
  obtain ⟨A31, c32, rfl⟩ := Kd.S_slice HO26.out
  clear hb hbz
  -- impl.BestTimes
  go_wp2_with fail
  go_at_call 27; (with_reducible refine (impl_BestTimes.calls k34 _ _ (l0) (y0) _ ?s0 ?s1 Kk34.out).mono ?_); (case s0 => have z_ := (Kd.S_reads' HO26.out); repeat (first | exact z_.2.2 | (with_reducible refine Kd.C_alloc ?_ _) | (with_reducible refine Kd.C_drewN ?_ _) | (with_reducible refine Kd.C_drew ?_))); (case s1 => exact (Kd.S_reads' HO26.out).2.1); rintro e w33 ⟨v35, rfl, ho36, hb⟩
  have HO37 := Aside0.mk (S_fresh HBW27.out (by repeat (first | (with_reducible first | exact Below.refl _ _ | apply below_alloc | apply pw_below_drewN | apply below_drew1) | exact Below.refl _ _)) ho36 hb)
  clear ho36
  have hbz := below_step (w := w22) (by repeat (first | (with_reducible first | exact Below.refl _ _ | apply below_alloc | apply pw_below_drewN | apply below_drew1) | exact Below.refl _ _)) hb
  have HBW38 := Aside0.mk (below_step HBW27.out hbz)
  clear HBW27
  have HSZ39 := Aside0.mk hbz.size
  have HO40 := Aside0.mk (Kd.S_below HO29.out hbz)
  clear HO29
  have HO41 := Aside0.mk (Kd.S_below HO30.out hbz)
  clear HO30
  have HO42 := Aside0.mk (Kd.S_below HO26.out hbz)
  clear HO26
  obtain ⟨A43, c44, rfl⟩ := Kd.S_slice HO37.out
  clear hb hbz
  -- laws.eqIntSS
  go_wp2_with fail
  go_at_call 20; (with_reducible refine (laws_eqIntSS.calls k46 _ _ (y0) _ _ (y0) true _ ?s0 ?s1 ?s2 ?s3 Kk46.out ⟨rfl⟩).mono ?_); (case s0 => have z_ := (Kd.S_reads' HO37.out); repeat (first | exact z_.2.2 | (with_reducible refine Kd.C_alloc ?_ _) | (with_reducible refine Kd.C_drewN ?_ _) | (with_reducible refine Kd.C_drew ?_))); (case s1 => exact (Kd.S_reads' HO37.out).2.1); (case s2 => have z_ := (Kd.S_reads' HO41.out); repeat (first | exact z_.2.2 | (with_reducible refine Kd.C_alloc ?_ _) | (with_reducible refine Kd.C_drewN ?_ _) | (with_reducible refine Kd.C_drew ?_))); (case s3 => exact (Kd.S_reads' HO41.out).2.1); rintro e w' ⟨rfl, ⟨nd, rfl⟩⟩
  -- laws.toIntSS
  go_wp2_with fail
  go_at_call 17; (with_reducible refine (laws_toIntSS.calls k48 _ _ (l0) (l0) _ ?s0 ?s1 Kk48.out).mono ?_); (case s0 => exact Kd.C_below (by exact HR0.out) (below_step HBW38.out (by repeat (first | (with_reducible first | exact Below.refl _ _ | apply below_alloc | apply pw_below_drewN | apply below_drew1) | exact Below.refl _ _)))); (case s1 => exact hc0); rintro e w47 ⟨v49, rfl, ho50, hb⟩
  have HO51 := Aside0.mk (S_fresh HBW38.out (by repeat (first | (with_reducible first | exact Below.refl _ _ | apply below_alloc | apply pw_below_drewN | apply below_drew1) | exact Below.refl _ _)) ho50 hb)
  clear ho50
  have hbz := below_step (w := w33) (by repeat (first | (with_reducible first | exact Below.refl _ _ | apply below_alloc | apply pw_below_drewN | apply below_drew1) | exact Below.refl _ _)) hb
  have HBW52 := Aside0.mk (below_step HBW38.out hbz)
  clear HBW38
  have HSZ53 := Aside0.mk hbz.size
  have HO54 := Aside0.mk (Kd.S_below HO40.out hbz)
  clear HO40
  have HO55 := Aside0.mk (Kd.S_below HO41.out hbz)
  clear HO41
  have HO56 := Aside0.mk (Kd.S_below HO42.out hbz)
  clear HO42
  have HO57 := Aside0.mk (Kd.S_below HO37.out hbz)
  clear HO37
  obtain ⟨A58, c59, rfl⟩ := Kd.S_slice HO51.out
  clear hb hbz
  -- laws.eqIntSS
  go_wp2_with fail
  go_at_call 20; (with_reducible refine (laws_eqIntSS.calls k61 _ _ (l0) _ _ (l0) true _ ?s0 ?s1 ?s2 ?s3 Kk61.out ⟨rfl⟩).mono ?_); (case s0 => have z_ := (Kd.S_reads' HO56.out); repeat (first | exact z_.2.2 | (with_reducible refine Kd.C_alloc ?_ _) | (with_reducible refine Kd.C_drewN ?_ _) | (with_reducible refine Kd.C_drew ?_))); (case s1 => exact (Kd.S_reads' HO56.out).2.1); (case s2 => have z_ := (Kd.S_reads' HO51.out); repeat (first | exact z_.2.2 | (with_reducible refine Kd.C_alloc ?_ _) | (with_reducible refine Kd.C_drewN ?_ _) | (with_reducible refine Kd.C_drew ?_))); (case s3 => exact (Kd.S_reads' HO51.out).2.1); rintro e w' ⟨rfl, ⟨nd, rfl⟩⟩
  -- laws.markIntSS
  go_wp2_with fail
  go_at_call 22; (with_reducible refine (markIntSS_c (fun k => w12.heap.size ≤ k ∧ k < w22.heap.size) _ (l0) (1) w _ ?s0 ?s1 ok0 (by omega) (by omega)).mono ?_); (case s0 => exact below_step HBW52.out (by repeat (first | (with_reducible first | exact Below.refl _ _ | apply below_alloc | apply pw_below_drewN | apply below_drew1) | exact Below.refl _ _))); (case s1 => ((with_reducible repeat (first | apply Kd.S_alloc | apply Kd.S_drewN | apply Kd.S_drew)); exact HO56.out)); rintro e w62 ⟨rfl, ho, hb, hkp⟩
  have hkz := (Kept.of_below (w := w47) (by repeat (first | (with_reducible first | exact Below.refl _ _ | apply below_alloc | apply pw_below_drewN | apply below_drew1) | exact Below.refl _ _)) (fun k => w12.heap.size ≤ k ∧ k < w22.heap.size)).then_ hkp (fun _ h_ => .inl h_)
  have HO64 := Aside0.mk (ho)
  clear HO56 ho
  have HO65 := Aside0.mk (Kd.S_kept HO54.out hkz (fun k hk hp => by have := HSZ9.out; have := HSZ18.out; have := HSZ28.out; have := HSZ39.out; have := HSZ53.out; omega))
  clear HO54
  have HO66 := Aside0.mk (Kd.S_kept HO55.out hkz (fun k hk hp => by have := HSZ9.out; have := HSZ18.out; have := HSZ28.out; have := HSZ39.out; have := HSZ53.out; omega))
  clear HO55
  have HO67 := Aside0.mk (Kd.S_kept HO57.out hkz (fun k hk hp => by have := HSZ9.out; have := HSZ18.out; have := HSZ28.out; have := HSZ39.out; have := HSZ53.out; omega))
  clear HO57
  have HO68 := Aside0.mk (Kd.S_kept HO51.out hkz (fun k hk hp => by have := HSZ9.out; have := HSZ18.out; have := HSZ28.out; have := HSZ39.out; have := HSZ53.out; omega))
  clear HO51
  have HBW69 := Aside0.mk hb
  clear HBW52
  have HSZ70 := Aside0.mk hkz.1
  clear hb hkp hkz
  -- laws.eqIntSS
  go_wp2_with fail
  go_at_call 20; (with_reducible refine (laws_eqIntSS.calls k72 _ _ (y0) _ _ (y0) true _ ?s0 ?s1 ?s2 ?s3 Kk72.out ⟨rfl⟩).mono ?_); (case s0 => have z_ := (Kd.S_reads' HO67.out); repeat (first | exact z_.2.2 | (with_reducible refine Kd.C_alloc ?_ _) | (with_reducible refine Kd.C_drewN ?_ _) | (with_reducible refine Kd.C_drew ?_))); (case s1 => exact (Kd.S_reads' HO67.out).2.1); (case s2 => have z_ := (Kd.S_reads' HO66.out); repeat (first | exact z_.2.2 | (with_reducible refine Kd.C_alloc ?_ _) | (with_reducible refine Kd.C_drewN ?_ _) | (with_reducible refine Kd.C_drew ?_))); (case s3 => exact (Kd.S_reads' HO66.out).2.1); rintro e w' ⟨rfl, ⟨nd, rfl⟩⟩
  -- laws.markIntSS
  go_wp2_with fail
  go_at_call 22; (with_reducible refine (markIntSS_c (fun k => w22.heap.size ≤ k ∧ k < w33.heap.size) _ (y0) (1) w _ ?s0 ?s1 oy0 (by omega) (by omega)).mono ?_); (case s0 => exact below_step HBW69.out (by repeat (first | (with_reducible first | exact Below.refl _ _ | apply below_alloc | apply pw_below_drewN | apply below_drew1) | exact Below.refl _ _))); (case s1 => ((with_reducible repeat (first | apply Kd.S_alloc | apply Kd.S_drewN | apply Kd.S_drew)); exact HO67.out)); rintro e w73 ⟨rfl, ho, hb, hkp⟩
  have hkz := (Kept.of_below (w := w62) (by repeat (first | (with_reducible first | exact Below.refl _ _ | apply below_alloc | apply pw_below_drewN | apply below_drew1) | exact Below.refl _ _)) (fun k => w22.heap.size ≤ k ∧ k < w33.heap.size)).then_ hkp (fun _ h_ => .inl h_)
  have HO75 := Aside0.mk (ho)
  clear HO67 ho
  have HO76 := Aside0.mk (Kd.S_kept HO65.out hkz (fun k hk hp => by have := HSZ9.out; have := HSZ18.out; have := HSZ28.out; have := HSZ39.out; have := HSZ53.out; have := HSZ70.out; omega))
  clear HO65
  have HO77 := Aside0.mk (Kd.S_kept HO66.out hkz (fun k hk hp => by have := HSZ9.out; have := HSZ18.out; have := HSZ28.out; have := HSZ39.out; have := HSZ53.out; have := HSZ70.out; omega))
  clear HO66
  have HO78 := Aside0.mk (Kd.S_kept HO68.out hkz (fun k hk hp => by have := HSZ9.out; have := HSZ18.out; have := HSZ28.out; have := HSZ39.out; have := HSZ53.out; have := HSZ70.out; omega))
  clear HO68
  have HO79 := Aside0.mk (Kd.S_kept HO64.out hkz (fun k hk hp => by have := HSZ9.out; have := HSZ18.out; have := HSZ28.out; have := HSZ39.out; have := HSZ53.out; have := HSZ70.out; omega))
  clear HO64
  have HBW80 := Aside0.mk hb
  clear HBW69
  have HSZ81 := Aside0.mk hkz.1
  clear hb hkp hkz
  -- laws.heldIntSS
  go_wp2_with fail
  go_at_call 24; (refine (calls_cast ?ce (laws_heldIntSS.calls k83 A43 c44 ((mkII (1) y0)) (1) (1 + (totL y0 : Int)) _ ?s0 ?s1 Kk83.out ⟨by have := (show (0 : Int) ≤ 1 from by omega); omega⟩)).mono ?_); (case ce => simp only [mkI_length, mkII_length]); (case s0 => have z_ := (Kd.S_reads' HO75.out); repeat (first | exact z_.2.2 | (with_reducible refine Kd.C_alloc ?_ _) | (with_reducible refine Kd.C_drewN ?_ _) | (with_reducible refine Kd.C_drew ?_))); (case s1 => have z_ := (Kd.S_reads' HO75.out).2.1; simp only [mkI_length, mkII_length]; exact z_); rintro e w' ⟨rfl, ⟨nd, rfl⟩⟩
  -- laws.toIntSS
  go_wp2_with fail
  go_at_call 17; (with_reducible refine (laws_toIntSS.calls k85 _ _ (l0) (l0) _ ?s0 ?s1 Kk85.out).mono ?_); (case s0 => exact Kd.C_below (by exact HR0.out) (below_step HBW80.out (by repeat (first | (with_reducible first | exact Below.refl _ _ | apply below_alloc | apply pw_below_drewN | apply below_drew1) | exact Below.refl _ _)))); (case s1 => exact hc0); rintro e w84 ⟨v86, rfl, ho87, hb⟩
  have HO88 := Aside0.mk (S_fresh HBW80.out (by repeat (first | (with_reducible first | exact Below.refl _ _ | apply below_alloc | apply pw_below_drewN | apply below_drew1) | exact Below.refl _ _)) ho87 hb)
  clear ho87
  have hbz := below_step (w := w73) (by repeat (first | (with_reducible first | exact Below.refl _ _ | apply below_alloc | apply pw_below_drewN | apply below_drew1) | exact Below.refl _ _)) hb
  have HBW89 := Aside0.mk (below_step HBW80.out hbz)
  clear HBW80
  have HSZ90 := Aside0.mk hbz.size
  have HO91 := Aside0.mk (Kd.S_below HO76.out hbz)
  clear HO76
  have HO92 := Aside0.mk (Kd.S_below HO77.out hbz)
  clear HO77
  have HO93 := Aside0.mk (Kd.S_below HO78.out hbz)
  clear HO78
  have HO94 := Aside0.mk (Kd.S_below HO79.out hbz)
  clear HO79
  have HO95 := Aside0.mk (Kd.S_below HO75.out hbz)
  clear HO75
  obtain ⟨A96, c97, rfl⟩ := Kd.S_slice HO88.out
  clear hb hbz
  -- impl.BestTimes
  go_wp2_with fail
  go_at_call 27; (with_reducible refine (impl_BestTimes.calls k99 _ _ (l0) (y0) _ ?s0 ?s1 Kk99.out).mono ?_); (case s0 => have z_ := (Kd.S_reads' HO88.out); repeat (first | exact z_.2.2 | (with_reducible refine Kd.C_alloc ?_ _) | (with_reducible refine Kd.C_drewN ?_ _) | (with_reducible refine Kd.C_drew ?_))); (case s1 => exact (Kd.S_reads' HO88.out).2.1); rintro e w98 ⟨v100, rfl, ho101, hb⟩
  have HO102 := Aside0.mk (S_fresh HBW89.out (by repeat (first | (with_reducible first | exact Below.refl _ _ | apply below_alloc | apply pw_below_drewN | apply below_drew1) | exact Below.refl _ _)) ho101 hb)
  clear ho101
  have hbz := below_step (w := w84) (by repeat (first | (with_reducible first | exact Below.refl _ _ | apply below_alloc | apply pw_below_drewN | apply below_drew1) | exact Below.refl _ _)) hb
  have HBW103 := Aside0.mk (below_step HBW89.out hbz)
  clear HBW89
  have HSZ104 := Aside0.mk hbz.size
  have HO105 := Aside0.mk (Kd.S_below HO91.out hbz)
  clear HO91
  have HO106 := Aside0.mk (Kd.S_below HO92.out hbz)
  clear HO92
  have HO107 := Aside0.mk (Kd.S_below HO93.out hbz)
  clear HO93
  have HO108 := Aside0.mk (Kd.S_below HO94.out hbz)
  clear HO94
  have HO109 := Aside0.mk (Kd.S_below HO95.out hbz)
  clear HO95
  have HO110 := Aside0.mk (Kd.S_below HO88.out hbz)
  clear HO88
  obtain ⟨A111, c112, rfl⟩ := Kd.S_slice HO102.out
  clear hb hbz
  -- laws.eqIntSS
  go_wp2_with fail
  go_at_call 20; (with_reducible refine (laws_eqIntSS.calls k114 _ _ (y0) _ _ (y0) true _ ?s0 ?s1 ?s2 ?s3 Kk114.out ⟨rfl⟩).mono ?_); (case s0 => have z_ := (Kd.S_reads' HO102.out); repeat (first | exact z_.2.2 | (with_reducible refine Kd.C_alloc ?_ _) | (with_reducible refine Kd.C_drewN ?_ _) | (with_reducible refine Kd.C_drew ?_))); (case s1 => exact (Kd.S_reads' HO102.out).2.1); (case s2 => have z_ := (Kd.S_reads' HO106.out); repeat (first | exact z_.2.2 | (with_reducible refine Kd.C_alloc ?_ _) | (with_reducible refine Kd.C_drewN ?_ _) | (with_reducible refine Kd.C_drew ?_))); (case s3 => exact (Kd.S_reads' HO106.out).2.1); rintro e w' ⟨rfl, ⟨nd, rfl⟩⟩
  -- laws.heldIntSS
  go_wp2_with fail
  go_at_call 24; (refine (calls_cast ?ce (laws_heldIntSS.calls k116 A43 c44 ((mkII (1) y0)) (1) (1 + (totL y0 : Int)) _ ?s0 ?s1 Kk116.out ⟨by have := (show (0 : Int) ≤ 1 from by omega); omega⟩)).mono ?_); (case ce => simp only [mkI_length, mkII_length]); (case s0 => have z_ := (Kd.S_reads' HO109.out); repeat (first | exact z_.2.2 | (with_reducible refine Kd.C_alloc ?_ _) | (with_reducible refine Kd.C_drewN ?_ _) | (with_reducible refine Kd.C_drew ?_))); (case s1 => have z_ := (Kd.S_reads' HO109.out).2.1; simp only [mkI_length, mkII_length]; exact z_); rintro e w' ⟨rfl, ⟨nd, rfl⟩⟩
  go_wp2
  go_ret
  exact ⟨rfl, below_step HBW103.out (by repeat (first | (with_reducible first | exact Below.refl _ _ | apply below_alloc | apply pw_below_drewN | apply below_drew1) | exact Below.refl _ _))⟩
end Go.Proofs.Ytakembkodcjbjaa.Pure
