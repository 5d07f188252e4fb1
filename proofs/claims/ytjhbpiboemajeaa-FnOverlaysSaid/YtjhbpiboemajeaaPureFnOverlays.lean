/- With relays nothing takes longer, and what a relay saves is what the times differ by: for all drawn inputs. -/
import Derived.Test.YtjhbpiboemajeaaRFnOverlays
import Derived.Test.YtjhbpiboemajeaaBase
namespace Go.Proofs.Ytjhbpiboemajeaa.Pure
open Go.RowKit Go.Proofs.Ytjhbpiboemajeaa.Base Go.Proofs.Ytjhbpiboemajeaa.PFnOverlays Go.Proofs.YtjhbpiboemajeaaW.PrintWords Go.Proofs.YtjhbpiboemajeaaW.PrintLast
set_option linter.unusedVariables false
set_option linter.unusedSimpArgs false
/-! ### draw -/
/-- A cursor that a draw may go on with: it stands within the bytes. -/
def cur (b : List Int) (i : Int) : Prop := b.length ≤ 9223372036854775807 ∧ 0 ≤ i ∧ i ≤ (b.length : Int)
theorem l1New_l0 (b : List Int) (hb : b.length ≤ 9223372036854775806) : ∀ (d j : Nat) (h : Int), j + d = b.length → ∃ h', Ev (fun k => spec_l1New.l0 k b h (j : Int)) (b, 0, h') := by
  intro d
  induction d with
  | zero =>
    intro j h e
    exact ⟨h, (by refine Ev.step (fun k => by rw [spec_l1New.l0]) ?_; exact evNeg (by omega) (Ev.now _))⟩
  | succ d ih =>
    intro j h e
    by_cases hj : (j : Int) < 4000
    · obtain ⟨h', he⟩ := ih (j + 1) (Go.bits .and .i64 (wrap64 ((wrap64 ((wrap64 (h * 137)) + (wrap64 (rd b (j : Int))))) + 11)) 1073741823) (by omega)
      refine ⟨h', ?_⟩
      refine Ev.step (fun k => by rw [spec_l1New.l0]) ?_
      refine evPos (by omega) (evPos hj (evPos (by omega) ?_))
      rw [wsucc (by omega)]
      exact he
    · exact ⟨h, Ev.step (fun k => by rw [spec_l1New.l0]) (evPos (by omega) (evNeg hj (Ev.now _)))⟩
theorem l1New_ev (b : List Int) (hb : b.length ≤ 9223372036854775806) : ∃ h, Ev (fun k => spec_l1New.f k b) (b, 0, h) ∧ cur b 0 := by
  obtain ⟨h, he⟩ := l1New_l0 b hb b.length 0 (wrap64 (193017 + (b.length : Int))) (by omega)
  exact ⟨h, he, by omega, by omega, by omega⟩
theorem l1Byte_eq (b : List Int) (i h : Int) (hc : cur b i) : ∃ v i' h', spec_l1Byte.f b i h = some (v, i', h') ∧ cur b i' ∧ 0 ≤ v ∧ v ≤ 255 := by
  obtain ⟨h1, h2, h3⟩ := hc
  unfold spec_l1Byte.f
  by_cases hi : i < (b.length : Int)
  · rw [if_pos hi, if_pos h2]
    have ha := and255 (wrap64 ((Go.bits .and .i64 (Go.bits .xor .i64 ((wrap64 ((wrap64 (h * 6364136223846793005)) + 1442695040888963407)) / 8589934592) ((wrap64 ((wrap64 (h * 6364136223846793005)) + 1442695040888963407)) / 140737488355328)) 255) + (wrap64 (rd b i))))
    refine ⟨_, _, _, rfl, ⟨h1, ?_, ?_⟩, ha.1, ha.2⟩
    · rw [w64 (by omega) (by omega)]
      omega
    · rw [w64 (by omega) (by omega)]
      omega
  · rw [if_neg hi]
    have ha := and255 (Go.bits .xor .i64 ((wrap64 ((wrap64 (h * 6364136223846793005)) + 1442695040888963407)) / 8589934592) ((wrap64 ((wrap64 (h * 6364136223846793005)) + 1442695040888963407)) / 140737488355328))
    exact ⟨_, _, _, rfl, ⟨h1, h2, h3⟩, ha.1, ha.2⟩
theorem l1Below_eq (b : List Int) (i h n : Int) (hc : cur b i) (hn : 1 ≤ n) : ∃ v i' h', spec_l1Below.f b i h n = some (v, i', h') ∧ cur b i' ∧ 0 ≤ v ∧ v < n := by
  unfold spec_l1Below.f
  rw [if_neg (by omega)]
  obtain ⟨v1, i1, h1, e1, c1, p1, q1⟩ := l1Byte_eq b i h hc
  by_cases hs : n ≤ 256
  · rw [if_pos hs, e1]
    have hr := tmod_range hn p1
    exact ⟨_, _, _, by rw [Option.bind_some, if_neg (by omega)], c1, hr.1, hr.2⟩
  · obtain ⟨v2, i2, h2, e2, c2, p2, q2⟩ := l1Byte_eq b i1 h1 c1
    obtain ⟨v3, i3, h3, e3, c3, p3, q3⟩ := l1Byte_eq b i2 h2 c2
    rw [if_neg hs, e1, Option.bind_some, e2, Option.bind_some, e3, Option.bind_some, if_neg (by omega)]
    dsimp only
    rw [w64 (n := v1 * 65536) (by omega) (by omega), w64 (n := v2 * 256) (by omega) (by omega), w64 (n := v1 * 65536 + v2 * 256) (by omega) (by omega), w64 (n := v1 * 65536 + v2 * 256 + v3) (by omega) (by omega)]
    have hr := tmod_range (a := v1 * 65536 + v2 * 256 + v3) hn (by omega)
    exact ⟨_, _, _, rfl, c3, hr.1, hr.2⟩
theorem l1Below_zero (b : List Int) (i h n : Int) (hn : n ≤ 0) : spec_l1Below.f b i h n = some (0, i, h) := by
  unfold spec_l1Below.f
  rw [if_pos hn]
theorem l1Int_eq (b : List Int) (i h : Int) (l : List Int) (hc : cur b i) (hl : l ≠ []) : ∃ v i' h', spec_l1Int.f b i h l = some (v, i', h') ∧ cur b i' ∧ v ∈ l := by
  have hp : 0 < l.length := List.length_pos_iff.2 hl
  obtain ⟨v, i', h', e, c, p, q⟩ := l1Below_eq b i h (l.length : Int) hc (by omega)
  unfold spec_l1Int.f
  rw [e, Option.bind_some, if_pos p, if_pos q]
  refine ⟨_, _, _, rfl, c, ?_⟩
  have hv : v.toNat < l.length := by omega
  have : rd l v = l[v.toNat] := by simp [rd, hv]
  rw [this]
  exact List.getElem_mem hv
theorem l1Once_eq (b : List Int) (i h n : Int) (hc : cur b i) (hn : 1 ≤ n) : ∃ v i' h', spec_l1Once.f b i h n = some (v, i', h') ∧ cur b i' := by
  obtain ⟨v, i', h', e, c, _⟩ := l1Below_eq b i h n hc hn
  unfold spec_l1Once.f
  rw [e]
  exact ⟨_, _, _, rfl, c⟩
theorem big_eq (l : List Int) : laws_big.f l = some (decide ((l.length : Int) > 1048576)) := rfl
/-! ### drawtimes -/
/-- A small table. -/
def shortM (l : List (List Int)) : Prop := l.length ≤ 6 ∧ ∀ r ∈ l, r.length ≤ 7
theorem l26Any_l1 (b : List Int) (n : Int) (hn : n ≤ 6) (x4 : List (List Int)) (x5 : Int) (hx : x4.length ≤ 5)
    (hk : ∀ (y : List Int) (i h : Int), cur b i → (y.length : Int) = n → ∃ r i' h', Ev (fun k => spec_l26Any.l0 k n (x4 ++ [y]) (wrap64 (x5 + 1)) b i h) (r, i', h') ∧ cur b i' ∧ shortM r) : ∀ (d j : Nat) (out : List Int) (i h : Int), cur b i → (j : Int) + d = n → out.length = j →
    ∃ r i' h', Ev (fun k => spec_l26Any.l1 k n x4 x5 out (j : Int) b i h) (r, i', h') ∧ cur b i' ∧ shortM r := by
  intro d
  induction d with
  | zero =>
    intro j out i h hc e ho
    obtain ⟨r, i', h', he, hc', hr⟩ := hk out i h hc (by omega)
    refine ⟨r, i', h', ?_, hc', hr⟩
    refine Ev.step (fun k => by rw [spec_l26Any.l1]) ?_
    exact evNeg (by omega) (evPos (by omega) he)
  | succ d ih =>
    intro j out i h hc e ho
    obtain ⟨v, i1, h1, e1, c1, p1, q1⟩ := l1Below_eq b i h 60 hc (by omega)
    obtain ⟨t, i2, h2, e2, c2⟩ := l1Once_eq b i1 h1 6 c1 (by omega)
    have step : ∀ w : Int, ∃ r i' h', Ev (fun k => spec_l26Any.l1 k n x4 x5 (out ++ [w]) (wrap64 ((j : Int) + 1)) b i2 h2) (r, i', h') ∧ cur b i' ∧ shortM r := fun w => by
      obtain ⟨r, i', h', he, hc', hr⟩ := ih (j + 1) (out ++ [w]) i2 h2 c2 (by omega) (by simp [ho])
      refine ⟨r, i', h', ?_, hc', hr⟩
      rw [wsucc (by omega)]
      exact he
    by_cases c : x5 = (j : Int)
    · obtain ⟨r, i', h', he, hc', hr⟩ := step 0
      refine ⟨r, i', h', ?_, hc', hr⟩
      refine Ev.step (fun k => by rw [spec_l26Any.l1]) ?_
      refine evPos (by omega) (evSome e1 (evSome e2 ?_))
      cases t with
      | true => exact evPos rfl (evPos c (evPos (by omega) he))
      | false => exact evNeg (by simp) (evPos c (evPos (by omega) he))
    · cases t with
      | true =>
        obtain ⟨r, i', h', he, hc', hr⟩ := step (-1)
        refine ⟨r, i', h', ?_, hc', hr⟩
        refine Ev.step (fun k => by rw [spec_l26Any.l1]) ?_
        exact evPos (by omega) (evSome e1 (evSome e2 (evPos rfl (evNeg c (evPos (by omega) he)))))
      | false =>
        obtain ⟨r, i', h', he, hc', hr⟩ := step (wrap64 (1 + v))
        refine ⟨r, i', h', ?_, hc', hr⟩
        refine Ev.step (fun k => by rw [spec_l26Any.l1]) ?_
        exact evPos (by omega) (evSome e1 (evSome e2 (evNeg (by simp) (evNeg c (evPos (by omega) he)))))
theorem l26Any_l0 (b : List Int) (n : Int) (h1 : 1 ≤ n) (hn : n ≤ 6) : ∀ (d : Nat) (x4 : List (List Int)) (i h : Int), cur b i → (x4.length : Int) + d = n → (∀ r ∈ x4, (r.length : Int) = n) →
    ∃ r i' h', Ev (fun k => spec_l26Any.l0 k n x4 (x4.length : Int) b i h) (r, i', h') ∧ cur b i' ∧ shortM r := by
  intro d
  induction d with
  | zero =>
    intro x4 i h hc e hr
    have hrow : ∀ j : Int, 0 ≤ j → j < (x4.length : Int) → ((rd_L1 x4 j).length : Int) = n := fun j h0 h1 => by
      have hj : j.toNat < x4.length := by omega
      have : rd_L1 x4 j = x4[j.toNat] := by simp [rd_L1, hj]
      rw [this]
      exact hr _ (List.getElem_mem hj)
    have r0 := hrow 0 (by omega) (by omega)
    have rn := hrow (n - 1) (by omega) (by omega)
    have hset : ∀ (j : Nat) (y : List Int), y.length ≤ 7 → shortM (x4.set j y) := fun j y hy => by
      refine ⟨by rw [List.length_set]; omega, fun r hm => ?_⟩
      rcases List.mem_or_eq_of_mem_set hm with hm | rfl
      · have := hr r hm
        omega
      · exact hy
    obtain ⟨v, i1, h1', e1, c1, p1, q1⟩ := l1Below_eq b i h 9 hc (by omega)
    by_cases k0 : v = 0
    · obtain ⟨w, i2, h2, e2, c2, _⟩ := l1Int_eq b i1 h1' [(-1), 1] c1 (by simp)
      refine ⟨x4.set (0 : Int).toNat ((rd_L1 x4 0).set (0 : Int).toNat w), i2, h2, ?_, c2, hset _ _ (by rw [List.length_set]; omega)⟩
      refine Ev.step (fun k => by rw [spec_l26Any.l0]) ?_
      exact evNeg (by omega) (evSome e1 (evPos k0 (evPos (by omega) (evSome e2 (evPos (by omega) (Ev.now _))))))
    by_cases k1 : v = 1
    · refine ⟨x4.set (0 : Int).toNat (rd_L1 x4 0 ++ [1]), i1, h1', ?_, c1, hset _ _ (by rw [List.length_append]; simp only [List.length_singleton]; omega)⟩
      refine Ev.step (fun k => by rw [spec_l26Any.l0]) ?_
      exact evNeg (by omega) (evSome e1 (evNeg k0 (evPos k1 (evPos (by omega) (evPos (by omega) (Ev.now _))))))
    by_cases k2 : v = 2
    · obtain ⟨w, i2, h2, e2, c2, _⟩ := l1Int_eq b i1 h1' [100000, 100001, (-2)] c1 (by simp)
      have hw : wrap64 (n - 1) = n - 1 := w64 (by omega) (by omega)
      refine ⟨x4.set (n - 1).toNat ((rd_L1 x4 (n - 1)).set (0 : Int).toNat w), i2, h2, ?_, c2, hset _ _ (by rw [List.length_set]; omega)⟩
      refine Ev.step (fun k => by rw [spec_l26Any.l0]) ?_
      rw [hw]
      exact evNeg (by omega) (evSome e1 (evNeg k0 (evNeg k1 (evPos k2 (evPos (by omega) (evPos (by omega) (evSome e2 (evPos (by omega) (Ev.now _)))))))))
    · refine ⟨x4, i1, h1', ?_, c1, by omega, fun r hm => by have := hr r hm; omega⟩
      refine Ev.step (fun k => by rw [spec_l26Any.l0]) ?_
      exact evNeg (by omega) (evSome e1 (evNeg k0 (evNeg k1 (evNeg k2 (Ev.now _)))))
  | succ d ih =>
    intro x4 i h hc e hr
    obtain ⟨r, i', h', he, hc', hs⟩ := l26Any_l1 b n hn x4 (x4.length : Int) (by omega) (fun y i h hc hy => by
      have := ih (x4 ++ [y]) i h hc (by simp only [List.length_append, List.length_singleton]; omega) (fun q hq => by
        rcases List.mem_append.1 hq with hq | hq
        · exact hr q hq
        · rw [List.mem_singleton.1 hq]
          exact hy)
      rw [wsucc (by omega)]
      simpa using this) n.toNat 0 [] i h hc (by omega) rfl
    refine ⟨r, i', h', ?_, hc', hs⟩
    refine Ev.step (fun k => by rw [spec_l26Any.l0]) ?_
    exact evPos (by omega) he
theorem drawTimes_ev (b : List Int) (hb : b.length ≤ 1048576) : ∃ r, Ev (fun k => spec_DrawBestTimes.f k b) r ∧ shortM r := by
  obtain ⟨h0, e0, c0⟩ := l1New_ev b (by omega)
  obtain ⟨v, i1, h1, e1, c1, p1, q1⟩ := l1Below_eq b 0 h0 6 c0 (by omega)
  obtain ⟨r, i2, h2, e2, c2, hr⟩ := l26Any_l0 b (1 + v) (by omega) (by omega) (1 + v).toNat [] i1 h1 c1 (by simp; omega) (by simp)
  refine ⟨r, ?_, hr⟩
  have ha : Ev (fun k => spec_l26Any.f k b 0 h0) (r, i2, h2) := by
    unfold spec_l26Any.f
    refine evSome e1 ?_
    dsimp only
    rw [w64 (by omega) (by omega)]
    exact e2
  unfold spec_DrawBestTimes.f spec_DrawIsTimes.f
  exact Ev.bind (Ev.bind e0 (Ev.bind ha (Ev.now _))) (Ev.now _)
/-! ### small -/
theorem spec_l1In_eq (a b c : Int) : spec_l1In.f a b c = some (decide (b ≤ a ∧ a ≤ c)) := by
  unfold spec_l1In.f
  by_cases h : a ≥ b
  · rw [if_pos h]
    simp [show b ≤ a from h]
  · rw [if_neg h]
    have : ¬ b ≤ a := h
    simp [this]
/-! ### inrange -/
theorem impl_InRange_eq (a b c : Int) : impl_InRange.f a b c = some (decide (b ≤ a ∧ a ≤ c)) := by
  unfold impl_InRange.f
  by_cases h : b ≤ a
  · rw [if_pos h]
    simp [h]
  · rw [if_neg h]
    simp [h]
/-! ### allin -/
theorem impl_allIn_l0 (lo hi : Int) : ∀ (suf pre : List Int), (pre ++ suf).length ≤ 1048576 →
    Ev (fun k => impl_allIn.l0 k lo hi (pre ++ suf) ((pre ++ suf).length : Int) (pre.length : Int)) (suf.all fun x => decide (lo ≤ x ∧ x ≤ hi)) := by
  intro suf
  induction suf with
  | nil =>
    intro pre hb
    refine Ev.step (fun k => by rw [impl_allIn.l0]) ?_
    exact evNeg (by simp) (Ev.now _)
  | cons x suf ih =>
    intro pre hb
    simp only [List.length_append, List.length_cons] at hb
    refine Ev.step (fun k => by rw [impl_allIn.l0]) ?_
    refine evPos (by simp only [List.length_append, List.length_cons]; omega) (evPos (by omega) (evPos (by simp only [List.length_append, List.length_cons]; omega) ?_))
    rw [rd_mid, wsucc (by omega)]
    refine evSome (impl_InRange_eq _ _ _) ?_
    by_cases hx : lo ≤ x ∧ x ≤ hi
    · refine evPos (by simp [hx]) ?_
      have h := ih (pre ++ [x]) (by simp; omega)
      refine evEq ?_ (Ev.congr (fun k => ?_) h)
      · simp [hx]
      · simp
    · refine evNeg (by simpa using hx) (evEq ?_ (Ev.now _))
      simp [hx]
theorem impl_allIn_ev (l : List Int) (lo hi : Int) (hl : l.length ≤ 1048576) : Ev (fun k => impl_allIn.f k l lo hi) (l.all fun x => decide (lo ≤ x ∧ x ≤ hi)) := by
  have h := impl_allIn_l0 lo hi l [] (by simpa using hl)
  simpa [impl_allIn.f] using h
/-! ### times -/
def tmR (v : Int) : Bool := decide (-1 ≤ v ∧ v ≤ 100000)
def rowTail (i : Nat) : Nat → List Int → Bool
  | _, [] => true
  | j, v :: vs => tmR v && (decide (i ≠ j) || decide (v = 0)) && rowTail i (j + 1) vs
def rowOk (n i : Nat) (row : List Int) : Bool := decide (row.length = n) && rowTail i 0 row
def rowsOk (n : Nat) : Nat → List (List Int) → Bool
  | _, [] => true
  | i, r :: rs => rowOk n i r && rowsOk n (i + 1) rs
def timesB (t : List (List Int)) : Bool := decide (1 ≤ t.length ∧ t.length ≤ 6) && rowsOk t.length 0 t
theorem rowTail_eq (i : Nat) : ∀ (j : Nat) (row : List Int), rowTail i j row = (row.all tmR && (decide (i < j) || decide (j + row.length ≤ i) || decide (row.getD (i - j) 0 = 0)))
  | j, [] => by
    simp [rowTail] <;> omega
  | j, v :: vs => by
    rw [rowTail, rowTail_eq i (j + 1) vs, List.all_cons]
    by_cases hij : i = j
    · subst hij
      by_cases hv : v = 0 <;> by_cases ht : tmR v = true <;> by_cases ha : vs.all tmR = true <;> simp_all
    · by_cases hlt : i < j
      · by_cases ht : tmR v = true <;> by_cases ha : vs.all tmR = true <;> simp_all <;> omega
      · obtain ⟨d, hd⟩ : ∃ d, i - j = d + 1 := ⟨i - j - 1, by omega⟩
        have hd' : i - (j + 1) = d := by omega
        rw [hd, hd', List.getD_cons_succ]
        have e1 : decide (i < j + 1) = false := by simp; omega
        have e2 : decide (i < j) = false := by simp; omega
        have e3 : decide (j + 1 + vs.length ≤ i) = decide (j + (v :: vs).length ≤ i) := by simp [Nat.add_assoc, Nat.add_comm 1]
        rw [e1, e2, e3]
        simp [hij, Bool.and_assoc]
theorem rowOk_eq (n i : Nat) (row : List Int) (hi : i < n) : rowOk n i row = (decide (row.length = n) && (row.all tmR && decide (row.getD i 0 = 0))) := by
  unfold rowOk
  rw [rowTail_eq]
  by_cases hl : row.length = n
  · have e : decide (0 + row.length ≤ i) = false := by simp; omega
    rw [e]
    simp [hl]
  · simp [hl]
theorem spec_IsTimes_l1 (pre suf : List (List Int)) (row : List Int) (R : Bool) (hb : (pre ++ row :: suf).length ≤ 1048576) (hr : row.length ≤ 1048576)
    (hk : Ev (fun k => spec_IsTimes.l0 k (pre ++ row :: suf) ((pre.length + 1 : Nat) : Int)) R) : ∀ (rs rp : List Int), row = rp ++ rs →
    Ev (fun k => spec_IsTimes.l1 k (pre ++ row :: suf) (pre.length : Int) (rp.length : Int)) (rowTail pre.length rp.length rs && R) := by
  intro rs
  simp only [List.length_append, List.length_cons] at hb
  induction rs with
  | nil =>
    intro rp e
    refine Ev.step (fun k => by rw [spec_IsTimes.l1]) ?_
    simp only [rd_L1, getD_mid]
    refine evPos (by omega) (evPos (by simp only [List.length_append, List.length_cons]; omega) (evNeg (by rw [e]; simp) ?_))
    rw [wsucc (by omega)]
    simpa [rowTail] using hk
  | cons v vs ih =>
    intro rp e
    have hl : row.length = rp.length + (vs.length + 1) := by rw [e]; simp
    refine Ev.step (fun k => by rw [spec_IsTimes.l1]) ?_
    simp only [rd_L1, getD_mid]
    refine evPos (by omega) (evPos (by simp only [List.length_append, List.length_cons]; omega) (evPos (by omega) (evPos (by omega) ?_)))
    have ev : rd row (rp.length : Int) = v := by rw [e, rd_mid]
    rw [ev, wsucc (by omega)]
    refine evSome (spec_l1In_eq _ _ _) ?_
    have h := ih (rp ++ [v]) (by simp [e])
    have h' : Ev (fun k => spec_IsTimes.l1 k (pre ++ row :: suf) (pre.length : Int) ((rp.length + 1 : Nat) : Int)) (rowTail pre.length (rp.length + 1) vs && R) := by simpa using h
    by_cases ht : -1 ≤ v ∧ v ≤ 100000
    · refine evPos (by simpa using ht) ?_
      have ht' : tmR v = true := by simpa [tmR] using ht
      by_cases hij : pre.length = rp.length
      · refine evPos (by omega) ?_
        by_cases hv : v = 0
        · refine evPos hv (evEq ?_ h')
          simp only [rowTail, ht', decide_eq_true hv, Bool.or_true, Bool.true_and]
        · refine evNeg hv (evEq ?_ (Ev.now _))
          simp [rowTail, hv, hij]
      · refine evNeg (by omega) (evEq ?_ h')
        simp [rowTail, ht', hij]
    · refine evNeg (by simpa using ht) (evEq ?_ (Ev.now _))
      have ht' : tmR v = false := by simpa [tmR] using ht
      simp [rowTail, ht']
theorem spec_IsTimes_l0 (n : Nat) : ∀ (suf pre : List (List Int)), (pre ++ suf).length = n → n ≤ 1048576 → (∀ r ∈ suf, r.length ≤ 1048576) →
    Ev (fun k => spec_IsTimes.l0 k (pre ++ suf) (pre.length : Int)) (rowsOk n pre.length suf && decide (1 ≤ n ∧ n ≤ 6)) := by
  intro suf
  induction suf with
  | nil =>
    intro pre hn hb hr
    refine Ev.step (fun k => by rw [spec_IsTimes.l0]) ?_
    refine evNeg (by simp) (evSome (spec_l1In_eq _ _ _) (evEq ?_ (Ev.now _)))
    rw [hn]
    simp only [rowsOk, Bool.true_and, decide_eq_decide]
    omega
  | cons x suf ih =>
    intro pre hn hb hr
    have hn' := hn
    simp only [List.length_append, List.length_cons] at hn'
    refine Ev.step (fun k => by rw [spec_IsTimes.l0]) ?_
    refine evPos (by simp only [List.length_append, List.length_cons]; omega) (evPos (by omega) ?_)
    simp only [rd_L1, getD_mid]
    by_cases hx : x.length = n
    · refine evPos (by rw [hn]; omega) ?_
      have h := ih (pre ++ [x]) (by rw [← hn]; simp) hb (fun r h => hr r (by simp [h]))
      have h' : Ev (fun k => spec_IsTimes.l0 k (pre ++ x :: suf) ((pre.length + 1 : Nat) : Int)) (rowsOk n (pre.length + 1) suf && decide (1 ≤ n ∧ n ≤ 6)) := by simpa using h
      have h2 := spec_IsTimes_l1 pre suf x _ (by rw [hn]; omega) (hr x (by simp)) h' x [] rfl
      refine evEq ?_ h2
      simp [rowsOk, rowOk, hx, Bool.and_assoc]
    · refine evNeg (by rw [hn]; omega) (evEq ?_ (Ev.now _))
      simp [rowsOk, rowOk, hx]
theorem spec_IsTimes_ev (t : List (List Int)) (h : t.length ≤ 1048576) (hr : ∀ r ∈ t, r.length ≤ 1048576) : Ev (fun k => spec_IsTimes.f k t) (timesB t) := by
  have h := spec_IsTimes_l0 t.length t [] (by simp) h hr
  unfold spec_IsTimes.f
  refine evEq ?_ h
  simp only [timesB, List.length_nil]
  rw [Bool.and_comm]
theorem impl_IsTimes_l0 (t : List (List Int)) : ∀ (suf pre : List (List Int)), pre ++ suf = t → t.length ≤ 6 → (∀ r ∈ suf, r.length ≤ 1048576) →
    Ev (fun k => impl_IsTimes.l0 k t t (t.length : Int) (pre.length : Int)) (rowsOk t.length pre.length suf) := by
  intro suf
  induction suf with
  | nil =>
    intro pre e hb hr
    refine Ev.step (fun k => by rw [impl_IsTimes.l0]) ?_
    refine evNeg (by rw [← e]; simp) (evEq ?_ (Ev.now _))
    simp [rowsOk]
  | cons x suf ih =>
    intro pre e hb hr
    have hn : t.length = pre.length + (suf.length + 1) := by rw [← e]; simp
    have hx : t.getD ((pre.length : Int).toNat) [] = x := by rw [← e, getD_mid]
    refine Ev.step (fun k => by rw [impl_IsTimes.l0]) ?_
    simp only [rd_L1, hx]
    refine evPos (by omega) (evPos (by omega) (evPos (by omega) ?_))
    rw [wsucc (by omega)]
    have h := ih (pre ++ [x]) (by simp [← e]) hb (fun r h => hr r (by simp [h]))
    have h' : Ev (fun k => impl_IsTimes.l0 k t t (t.length : Int) ((pre.length + 1 : Nat) : Int)) (rowsOk t.length (pre.length + 1) suf) := by simpa using h
    rw [rowsOk, rowOk_eq _ _ _ (by omega)]
    by_cases hl : x.length = t.length
    · refine evPos (by omega) (Ev.bind (impl_allIn_ev x (-1) 100000 (hr x (by simp))) ?_)
      have ea : (x.all fun v => decide (-1 ≤ v ∧ v ≤ 100000)) = x.all tmR := rfl
      rw [ea]
      by_cases ha : x.all tmR = true
      · refine evPos ha (evPos (by omega) ?_)
        have er : rd x (pre.length : Int) = x.getD pre.length 0 := by simp [rd]
        rw [er]
        by_cases hz : x.getD pre.length 0 = 0
        · refine evPos hz (evEq ?_ h')
          simp only [hl, ha, hz, decide_true, Bool.true_and]
        · refine evNeg hz (evEq ?_ (Ev.now _))
          simp only [hz, decide_false, Bool.and_false, Bool.false_and]
      · have ha' : x.all tmR = false := by simpa using ha
        refine evNeg ha (evEq ?_ (Ev.now _))
        rw [ha']
        simp
    · refine evNeg (by omega) (evEq ?_ (Ev.now _))
      simp [hl]
theorem impl_IsTimes_ev (t : List (List Int)) (hr : ∀ r ∈ t, r.length ≤ 1048576) : Ev (fun k => impl_IsTimes.f k t) (timesB t) := by
  unfold impl_IsTimes.f
  refine evSome (impl_InRange_eq _ _ _) ?_
  by_cases hl : 1 ≤ t.length ∧ t.length ≤ 6
  · refine evPos (by simp; omega) (evEq ?_ (impl_IsTimes_l0 t t [] rfl hl.2 hr))
    simp [timesB, hl]
  · refine evNeg (by simp; omega) (evEq ?_ (Ev.now _))
    simp [timesB, hl]
/-! ### at -/
theorem impl_at_eq (a n : Int) : impl_at.f a n = some (decide (0 ≤ a ∧ a < n)) := by
  unfold impl_at.f
  by_cases h : a ≥ 0
  · rw [if_pos h]
    simp [show 0 ≤ a from h]
  · rw [if_neg h]
    have : ¬ 0 ≤ a := h
    simp [this]
/-! ### timeover -/
/-- A time of a table: 0 where there is none. -/
def tm (t : List (List Int)) (a b : Int) : Int := (t.getD a.toNat []).getD b.toNat 0
def hostB (t : List (List Int)) (a : Int) : Bool := decide (0 ≤ a ∧ a < (t.length : Int))
def overV (t : List (List Int)) (a r b : Int) : Int :=
  if timesB t = true ∧ hostB t a = true ∧ hostB t r = true ∧ hostB t b = true ∧ ¬ tm t a r < 0 ∧ ¬ tm t r b < 0 then tm t a r + tm t r b else -1
theorem rowsOk_get (n : Nat) : ∀ (rs : List (List Int)) (i j : Nat) (row : List Int), rowsOk n i rs = true → rs[j]? = some row → rowOk n (i + j) row = true
  | [], _, _, _, _, h => by simp at h
  | r :: rs, i, 0, row, h, e => by
    simp only [rowsOk, Bool.and_eq_true] at h
    simp at e
    subst e
    exact h.1
  | r :: rs, i, j + 1, row, h, e => by
    simp only [rowsOk, Bool.and_eq_true] at h
    simp at e
    have := rowsOk_get n rs (i + 1) j row h.2 e
    rwa [show i + 1 + j = i + (j + 1) by omega] at this
theorem times_row {t : List (List Int)} (ht : timesB t = true) {a : Int} (ha : hostB t a = true) : (t.getD a.toNat []).length = t.length ∧ t.length ≤ 6 ∧ (∀ v ∈ t.getD a.toNat [], -1 ≤ v ∧ v ≤ 100000) ∧ (t.getD a.toNat []).getD a.toNat 0 = 0 := by
  simp only [timesB, Bool.and_eq_true, decide_eq_true_eq] at ht
  simp only [hostB, decide_eq_true_eq] at ha
  have hlt : a.toNat < t.length := by omega
  have e : t[a.toNat]? = some (t.getD a.toNat []) := by simp [List.getD, hlt]
  have h := rowsOk_get t.length t 0 a.toNat _ ht.2 e
  rw [Nat.zero_add, rowOk_eq _ _ _ hlt] at h
  simp only [Bool.and_eq_true, decide_eq_true_eq, List.all_eq_true, tmR] at h
  exact ⟨h.1, ht.1.2, h.2.1, h.2.2⟩
theorem tm_range {t : List (List Int)} (ht : timesB t = true) {a b : Int} (ha : hostB t a = true) : -1 ≤ tm t a b ∧ tm t a b ≤ 100000 := by
  obtain ⟨h1, h2, h3, _⟩ := times_row ht ha
  unfold tm
  rw [List.getD_eq_getElem?_getD]
  rcases e : (t.getD a.toNat [])[b.toNat]? with _ | v
  · simp
  · exact h3 v (List.mem_of_getElem? e)
theorem rdrd (t : List (List Int)) (a b : Int) : rd (t.getD a.toNat []) b = tm t a b := rfl
theorem impl_at_host (t : List (List Int)) (a : Int) : impl_at.f a (t.length : Int) = some (hostB t a) := impl_at_eq _ _
theorem impl_TimeOver_ev (t : List (List Int)) (a r b : Int) (hr : ∀ r ∈ t, r.length ≤ 1048576) : Ev (fun k => impl_TimeOver.f k t a r b) (overV t a r b) := by
  unfold impl_TimeOver.f
  refine Ev.bind (impl_IsTimes_ev t hr) ?_
  by_cases ht : timesB t = true
  · refine evPos ht (evSome (impl_at_host t a) ?_)
    by_cases ha : hostB t a = true
    · refine evPos ha (evSome (impl_at_host t r) ?_)
      by_cases hh : hostB t r = true
      · refine evPos hh (evSome (impl_at_host t b) ?_)
        by_cases hb : hostB t b = true
        · have ra := times_row ht ha
          have rr := times_row ht hh
          have ta := tm_range (b := r) ht ha
          have tr := tm_range (b := b) ht hh
          have ha' := ha
          have hh' := hh
          have hb' := hb
          simp only [hostB, decide_eq_true_eq] at ha' hh' hb'
          refine evPos hb ?_
          simp only [rd_L1, rdrd]
          refine evPos ha'.1 (evPos ha'.2 (evPos hh'.1 (evPos (by omega) ?_)))
          by_cases h1 : tm t a r < 0
          · refine evPos (by omega) (evEq ?_ (Ev.now _))
            simp [overV, h1]
          · refine evNeg (by omega) (evPos hh'.2 (evPos hb'.1 (evPos (by omega) ?_)))
            by_cases h2 : tm t r b < 0
            · refine evPos (by omega) (evEq ?_ (Ev.now _))
              simp [overV, h2]
            · refine evNeg (by omega) (evEq ?_ (Ev.now _))
              rw [w64 (by omega) (by omega)]
              simp [overV, h1, h2, ht, ha, hb, hh]
        · refine evNeg hb (evEq ?_ (Ev.now _))
          simp [overV, hb]
      · refine evNeg hh (evEq ?_ (Ev.now _))
        simp [overV, hh]
    · refine evNeg ha (evEq ?_ (Ev.now _))
      simp [overV, ha]
  · refine evNeg ht (evEq ?_ (Ev.now _))
    simp [overV, ht]
/-! ### bestrelay -/
def bestS (t : List (List Int)) (a b : Int) (best r : Int) : Int := if r = a ∨ r = b ∨ overV t a r b < 0 then best else if best < 0 ∨ overV t a r b < overV t a best b then r else best
def bestF (t : List (List Int)) (a b : Int) : Nat → Nat → Int → Int
  | 0, _, best => best
  | d + 1, r, best => bestF t a b d (r + 1) (bestS t a b best (r : Int))
def bestV (t : List (List Int)) (a b : Int) : Int := bestF t a b t.length 0 (-1)
theorem impl_BestRelay_l0 (t : List (List Int)) (a b : Int) (hl : t.length ≤ 1048576) (hr : ∀ r ∈ t, r.length ≤ 1048576) : ∀ (d r : Nat) (best : Int), r + d = t.length →
    Ev (fun k => impl_BestRelay.l0 k t a b best (t.length : Int) (r : Int)) (bestF t a b d r best) := by
  intro d
  induction d with
  | zero =>
    intro r best e
    refine Ev.step (fun k => by rw [impl_BestRelay.l0]) ?_
    exact evNeg (by omega) (Ev.now _)
  | succ d ih =>
    intro r best e
    have step : ∀ c : Bool, c = decide ((r : Int) = a ∨ (r : Int) = b) → Ev (fun k => impl_BestRelay.j1 k t a b best (r : Int) (t.length : Int) (r : Int) c) (bestF t a b (d + 1) r best) := by
      intro c hc
      refine Ev.step (fun k => by rw [impl_BestRelay.j1]) ?_
      rw [wsucc (by omega)]
      by_cases h : (r : Int) = a ∨ (r : Int) = b
      · refine evPos (by rw [hc]; exact decide_eq_true h) (evEq ?_ (ih (r + 1) best (by omega)))
        rw [bestF, bestS, if_pos (by rcases h with h | h <;> simp [h])]
      · have hno : ¬ ((r : Int) = a ∨ (r : Int) = b ∨ overV t a r b < 0) ↔ ¬ overV t a r b < 0 := by
          constructor
          · exact fun c c2 => c (.inr (.inr c2))
          · rintro c (c2 | c2 | c2)
            · exact h (.inl c2)
            · exact h (.inr c2)
            · exact c c2
        refine evNeg (by rw [hc]; simpa using h) (Ev.bind (impl_TimeOver_ev t a r b hr) ?_)
        by_cases h0 : overV t a r b < 0
        · refine evNeg (by omega) (evEq ?_ (ih (r + 1) best (by omega)))
          rw [bestF, bestS, if_pos (.inr (.inr h0))]
        · refine evPos (by omega) ?_
          by_cases hb : best < 0
          · refine evPos hb (evEq ?_ (ih (r + 1) r (by omega)))
            rw [bestF, bestS, if_neg (hno.2 h0), if_pos (.inl hb)]
          · refine evNeg hb (Ev.bind (impl_TimeOver_ev t a best b hr) ?_)
            by_cases hc2 : overV t a r b < overV t a best b
            · refine evPos hc2 (evEq ?_ (ih (r + 1) r (by omega)))
              rw [bestF, bestS, if_neg (hno.2 h0), if_pos (.inr hc2)]
            · refine evNeg hc2 (evEq ?_ (ih (r + 1) best (by omega)))
              rw [bestF, bestS, if_neg (hno.2 h0), if_neg (fun c2 => c2.elim hb hc2)]
    refine Ev.step (fun k => by rw [impl_BestRelay.l0]) ?_
    refine evPos (by omega) ?_
    by_cases ha : (r : Int) = a
    · exact evPos ha (step true (by simp [ha]))
    · refine evNeg ha (step _ ?_)
      by_cases hb : (r : Int) = b
      · simp [hb]
      · simp [ha, hb]
theorem impl_BestRelay_ev (t : List (List Int)) (a b : Int) (hl : t.length ≤ 1048576) (hr : ∀ r ∈ t, r.length ≤ 1048576) : Ev (fun k => impl_BestRelay.f k t a b) (bestV t a b) := by
  unfold impl_BestRelay.f
  exact impl_BestRelay_l0 t a b hl hr t.length 0 (-1) (by omega)
/-! ### gain -/
theorem bestF_inv (t : List (List Int)) (a b : Int) : ∀ (d r : Nat) (best : Int), (best = -1 ∨ 0 ≤ best ∧ best ≠ a ∧ best ≠ b ∧ 0 ≤ overV t a best b) → (bestF t a b d r best = -1 ∨ 0 ≤ bestF t a b d r best ∧ bestF t a b d r best ≠ a ∧ bestF t a b d r best ≠ b ∧ 0 ≤ overV t a (bestF t a b d r best) b)
  | 0, _, _, h => h
  | d + 1, r, best, h => by
    rw [bestF]
    refine bestF_inv t a b d (r + 1) _ ?_
    unfold bestS
    split
    · exact h
    · rename_i h1
      split
      · refine .inr ⟨by omega, fun c => h1 (.inl c), fun c => h1 (.inr (.inl c)), ?_⟩
        have : ¬ overV t a r b < 0 := fun c => h1 (.inr (.inr c))
        omega
      · exact h
theorem bestV_inv (t : List (List Int)) (a b : Int) : bestV t a b = -1 ∨ 0 ≤ bestV t a b ∧ bestV t a b ≠ a ∧ bestV t a b ≠ b ∧ 0 ≤ overV t a (bestV t a b) b := bestF_inv t a b _ _ _ (.inl rfl)
theorem overV_pos {t : List (List Int)} {a r b : Int} (h : 0 ≤ overV t a r b) : timesB t = true ∧ hostB t a = true ∧ hostB t r = true ∧ hostB t b = true ∧ 0 ≤ tm t a r ∧ 0 ≤ tm t r b ∧ overV t a r b = tm t a r + tm t r b := by
  unfold overV at h ⊢
  split at h
  · rename_i h1
    rw [if_pos h1]
    exact ⟨h1.1, h1.2.1, h1.2.2.1, h1.2.2.2.1, by omega, by omega, rfl⟩
  · omega
def gainV (t : List (List Int)) (a b : Int) : Int := if bestV t a b < 0 then 0 else if tm t a b < 0 then 100000 else if tm t a b - overV t a (bestV t a b) b < 0 then 0 else tm t a b - overV t a (bestV t a b) b
theorem impl_Gain_ev (t : List (List Int)) (a b : Int) (hl : t.length ≤ 1048576) (hr : ∀ r ∈ t, r.length ≤ 1048576) : Ev (fun k => impl_Gain.f k t a b) (gainV t a b) := by
  unfold impl_Gain.f
  have no : ¬ (timesB t = true ∧ hostB t a = true ∧ hostB t b = true) → Ev (fun k => impl_Gain.j0 k t a b true) (gainV t a b) := by
    intro c
    refine Ev.step (fun k => by rw [impl_Gain.j0]) (evPos rfl (evEq ?_ (Ev.now _)))
    have : bestV t a b < 0 := by
      rcases bestV_inv t a b with hb | ⟨_, _, _, hb⟩
      · omega
      · obtain ⟨ht, ha, hq, hbb, p1, p2, e⟩ := overV_pos hb
        exact absurd ⟨ht, ha, hbb⟩ c
    simp [gainV, this]
  refine Ev.bind (impl_IsTimes_ev t hr) ?_
  by_cases ht : timesB t = true
  · refine evPos ht (evSome (impl_at_host t a) ?_)
    by_cases ha : hostB t a = true
    · refine evPos ha (evSome (impl_at_host t b) ?_)
      by_cases hb : hostB t b = true
      · rw [hb]
        refine Ev.step (fun k => by rw [impl_Gain.j0]) (evNeg (by simp) (Ev.bind (impl_BestRelay_ev t a b hl hr) ?_))
        by_cases h0 : bestV t a b < 0
        · refine evPos h0 (evEq ?_ (Ev.now _))
          simp [gainV, h0]
        · refine evNeg h0 ?_
          rcases bestV_inv t a b with hbv | ⟨_, _, _, hbv⟩
          · omega
          obtain ⟨_, _, hq, _, p1, p2, e⟩ := overV_pos hbv
          have ra := times_row ht ha
          have rq := tm_range (b := bestV t a b) ht ha
          have rq2 := tm_range (b := b) ht hq
          have rab := tm_range (b := b) ht ha
          simp only [hostB, decide_eq_true_eq] at ha hb
          simp only [rd_L1, rdrd]
          refine evPos ha.1 (evPos ha.2 (evPos hb.1 (evPos (by omega) ?_)))
          by_cases h1 : tm t a b < 0
          · refine evPos (by omega) (evEq ?_ (Ev.now _))
            simp [gainV, h0, h1]
          · refine evNeg (by omega) (Ev.bind (impl_TimeOver_ev t a _ b hr) (evEq ?_ (Ev.now _)))
            rw [w64 (by omega) (by omega)]
            simp only [gainV, h0, h1, if_false]
            unfold mx
            split <;> split <;> omega
      · have e : hostB t b = false := by simpa using hb
        rw [e]
        exact no (fun c => hb c.2.2)
    · exact evNeg ha (no (fun c => ha c.2.1))
  · exact evNeg ht (no (fun c => ht c.1))
/-! ### clone -/
theorem clone_eq (l : List Int) (hl : l.length ≤ 1048576) : slices_Clone_int_int.f l = some l := by
  unfold slices_Clone_int_int.f
  simp
  omega
/-! ### ibest -/
/-- The best time with at most one relay. -/
def cellV (t : List (List Int)) (a b : Int) : Int := if 0 ≤ overV t a (bestV t a b) b ∧ (tm t a b < 0 ∨ overV t a (bestV t a b) b < tm t a b) then overV t a (bestV t a b) b else tm t a b
def mixC (t : List (List Int)) (a b i j : Nat) : Int := if i < a ∨ i = a ∧ j < b then cellV t i j else tm t i j
def mixV (t : List (List Int)) (a b : Nat) : List (List Int) := (List.range t.length).map fun i => (List.range t.length).map fun j => mixC t a b i j
def btV (t : List (List Int)) : List (List Int) := if timesB t = true then mixV t t.length 0 else []
theorem mixV_length (t : List (List Int)) (a b : Nat) : (mixV t a b).length = t.length := by simp [mixV]
theorem mixV_row (t : List (List Int)) (a b i : Nat) (hi : i < t.length) : (mixV t a b).getD i [] = (List.range t.length).map fun j => mixC t a b i j := by
  simp [mixV, hi]
theorem mixV_cell (t : List (List Int)) (a b i j : Nat) (hi : i < t.length) (hj : j < t.length) : ((mixV t a b).getD i []).getD j 0 = mixC t a b i j := by
  rw [mixV_row t a b i hi]
  simp [hj]
theorem mixV_next (t : List (List Int)) (a : Nat) : mixV t a t.length = mixV t (a + 1) 0 := by
  unfold mixV
  refine List.map_congr_left fun i hi => List.map_congr_left fun j hj => ?_
  rw [List.mem_range] at hi hj
  unfold mixC
  by_cases c : i < a ∨ i = a ∧ j < t.length
  · rw [if_pos c, if_pos (by omega)]
  · rw [if_neg c, if_neg (by omega)]
theorem mixV_same (t : List (List Int)) (a b : Nat) (h : cellV t a b = tm t a b) : mixV t a b = mixV t a (b + 1) := by
  unfold mixV
  refine List.map_congr_left fun i hi => List.map_congr_left fun j hj => ?_
  unfold mixC
  by_cases c : i = a ∧ j = b
  · obtain ⟨rfl, rfl⟩ := c
    rw [if_neg (by omega), if_pos (by omega), h]
  · by_cases c2 : i < a ∨ i = a ∧ j < b
    · rw [if_pos c2, if_pos (by omega)]
    · rw [if_neg c2, if_neg (by omega)]
theorem mixV_set (t : List (List Int)) (a b : Nat) (ha : a < t.length) (hb : b < t.length) : (mixV t a b).set a (((mixV t a b).getD a []).set b (cellV t a b)) = mixV t a (b + 1) := by
  rw [mixV_row t a b a ha]
  apply List.ext_getElem
  · simp [mixV]
  · intro i h1 h2
    have hi : i < t.length := by simpa [mixV] using h2
    rw [List.getElem_set]
    by_cases e : a = i
    · rw [if_pos e]
      subst e
      apply List.ext_getElem
      · simp [mixV]
      · intro j g1 g2
        have hj : j < t.length := by simpa using g1
        rw [List.getElem_set]
        by_cases e2 : b = j
        · rw [if_pos e2]
          subst e2
          simp [mixV, mixC]
        · rw [if_neg e2]
          simp only [mixV, mixC, List.getElem_map, List.getElem_range]
          by_cases c : j < b
          · have c2 : j < b + 1 := by omega
            simp [c, c2]
          · have c2 : ¬ j < b + 1 := by omega
            simp [c, c2]
    · rw [if_neg e]
      simp only [mixV, List.getElem_map, List.getElem_range]
      refine List.map_congr_left fun j hj => ?_
      unfold mixC
      by_cases c : i < a ∨ i = a ∧ j < b
      · rw [if_pos c, if_pos (by omega)]
      · rw [if_neg c, if_neg (by omega)]
theorem mixV_start (t : List (List Int)) (ht : timesB t = true) : mixV t 0 0 = t := by
  apply List.ext_getElem
  · simp [mixV]
  · intro i h1 h2
    have hrow := times_row ht (a := (i : Int)) (by simp [hostB, h2])
    have hg : t.getD ((i : Int).toNat) [] = t[i] := by simp [h2]
    rw [hg] at hrow
    simp only [mixV, List.getElem_map, List.getElem_range]
    apply List.ext_getElem
    · simp [hrow.1]
    · intro j g1 g2
      simp only [List.getElem_map, List.getElem_range, mixC]
      rw [if_neg (by omega)]
      simp [tm, h2, g2]
theorem copyRows_l0 : ∀ (suf pre : List (List Int)), (pre ++ suf).length ≤ 1048576 → (∀ r ∈ suf, r.length ≤ 1048576) →
    Ev (fun k => impl_copyRows.l0 k pre (pre ++ suf) ((pre ++ suf).length : Int) (pre.length : Int)) (pre ++ suf) := by
  intro suf
  induction suf with
  | nil =>
    intro pre hb hr
    refine Ev.step (fun k => by rw [impl_copyRows.l0]) (evNeg (by simp) (evEq (by simp) (Ev.now _)))
  | cons y suf ih =>
    intro pre hb hr
    have hb' := hb
    simp only [List.length_append, List.length_cons] at hb
    refine Ev.step (fun k => by rw [impl_copyRows.l0]) ?_
    refine evPos (by simp only [List.length_append, List.length_cons]; omega) (evPos (by omega) (evPos (by simp only [List.length_append, List.length_cons]; omega) ?_))
    rw [rd_L1, getD_mid, wsucc (by omega)]
    refine evSome (clone_eq y (hr y (by simp))) (evPos (by omega) ?_)
    have h := ih (pre ++ [y]) (by simpa using hb') (fun r h => hr r (by simp [h]))
    simpa using h
theorem copyRows_ev (l : List (List Int)) (hl : l.length ≤ 1048576) (hr : ∀ r ∈ l, r.length ≤ 1048576) : Ev (fun k => impl_copyRows.f k l) l := by
  have h := copyRows_l0 l [] (by simpa using hl) hr
  simpa [impl_copyRows.f] using h
theorem impl_BestTimes_l1 (t : List (List Int)) (hl : t.length ≤ 1048576) (hr : ∀ r ∈ t, r.length ≤ 1048576) (a : Nat) (ha : a < t.length) (R : List (List Int))
    (hk : Ev (fun k => impl_BestTimes.l0 k t (mixV t (a + 1) 0) (t.length : Int) ((a + 1 : Nat) : Int)) R) : ∀ (d b : Nat), b + d = t.length →
    Ev (fun k => impl_BestTimes.l1 k t (mixV t a b) (a : Int) (t.length : Int) (a : Int) (t.length : Int) (b : Int)) R := by
  intro d
  induction d with
  | zero =>
    intro b e
    obtain rfl : b = t.length := by omega
    refine Ev.step (fun k => by rw [impl_BestTimes.l1]) (evNeg (by omega) ?_)
    rw [wsucc (by omega), mixV_next]
    exact hk
  | succ d ih =>
    intro b e
    have hn := ih (b + 1) (by omega)
    have hb : b < t.length := by omega
    have ec : rd (rd_L1 (mixV t a b) (a : Int)) (b : Int) = tm t a b := by
      have h := mixV_cell t a b a b ha hb
      rw [mixC, if_neg (by omega)] at h
      exact h
    have erow : (rd_L1 (mixV t a b) (a : Int)).length = t.length := by
      have h := mixV_row t a b a ha
      have e2 : rd_L1 (mixV t a b) (a : Int) = (mixV t a b).getD a [] := rfl
      rw [e2, h]
      simp
    refine Ev.step (fun k => by rw [impl_BestTimes.l1]) (evPos (by omega) (Ev.bind (impl_BestRelay_ev t a b hl hr) (Ev.bind (impl_TimeOver_ev t a (bestV t a b) b hr) ?_)))
    rw [wsucc (by omega)]
    have hset : 0 ≤ overV t a (bestV t a b) b ∧ (tm t a b < 0 ∨ overV t a (bestV t a b) b < tm t a b) → (mixV t a b).set ((a : Int)).toNat ((rd_L1 (mixV t a b) (a : Int)).set ((b : Int)).toNat (overV t a (bestV t a b) b)) = mixV t a (b + 1) := fun c => by
      have h := mixV_set t a b ha hb
      rw [cellV, if_pos c] at h
      exact h
    have hkeep : ¬ (0 ≤ overV t a (bestV t a b) b ∧ (tm t a b < 0 ∨ overV t a (bestV t a b) b < tm t a b)) → mixV t a b = mixV t a (b + 1) := fun c => mixV_same t a b (by rw [cellV, if_neg c])
    by_cases c0 : overV t a (bestV t a b) b ≥ 0
    · refine evPos c0 (evPos (by omega) (evPos (by rw [mixV_length]; omega) (evPos (by omega) (evPos (by rw [erow]; omega) ?_))))
      rw [ec]
      by_cases c1 : tm t a b < 0
      · refine evPos c1 ?_
        rw [hset ⟨c0, .inl c1⟩]
        exact hn
      · by_cases c2 : overV t a (bestV t a b) b < tm t a b
        · refine evNeg c1 (evPos c2 ?_)
          rw [hset ⟨c0, .inr c2⟩]
          exact hn
        · refine evNeg c1 (evNeg c2 ?_)
          rw [hkeep (fun h => by omega)]
          exact hn
    · refine evNeg c0 ?_
      rw [hkeep (fun h => by omega)]
      exact hn
theorem impl_BestTimes_l0 (t : List (List Int)) (hl : t.length ≤ 1048576) (hr : ∀ r ∈ t, r.length ≤ 1048576) : ∀ (d a : Nat), a + d = t.length →
    Ev (fun k => impl_BestTimes.l0 k t (mixV t a 0) (t.length : Int) (a : Int)) (mixV t t.length 0) := by
  intro d
  induction d with
  | zero =>
    intro a e
    obtain rfl : a = t.length := by omega
    exact Ev.step (fun k => by rw [impl_BestTimes.l0]) (evNeg (by omega) (Ev.now _))
  | succ d ih =>
    intro a e
    refine Ev.step (fun k => by rw [impl_BestTimes.l0]) ?_
    exact evPos (by omega) (impl_BestTimes_l1 t hl hr a (by omega) _ (ih (a + 1) (by omega)) t.length 0 (by omega))
theorem impl_BestTimes_ev (t : List (List Int)) (hl : t.length ≤ 1048576) (hr : ∀ r ∈ t, r.length ≤ 1048576) : Ev (fun k => impl_BestTimes.f k t) (btV t) := by
  unfold impl_BestTimes.f btV
  refine Ev.bind (impl_IsTimes_ev t hr) ?_
  by_cases c : timesB t = true
  · rw [if_pos c]
    refine evPos c (Ev.bind (copyRows_ev t hl hr) ?_)
    have h := impl_BestTimes_l0 t hl hr t.length 0 (by omega)
    rw [mixV_start t c] at h
    exact h
  · rw [if_neg c]
    exact evNeg c (Ev.now _)
theorem bestF_min (t : List (List Int)) (a b : Int) : ∀ (d r : Nat) (best : Int), (∀ k : Nat, k < r → ¬ (k : Int) = a → ¬ (k : Int) = b → 0 ≤ overV t a k b → 0 ≤ best ∧ overV t a best b ≤ overV t a k b) →
    ∀ k : Nat, k < r + d → ¬ (k : Int) = a → ¬ (k : Int) = b → 0 ≤ overV t a k b → 0 ≤ bestF t a b d r best ∧ overV t a (bestF t a b d r best) b ≤ overV t a k b
  | 0, _, _, h => h
  | d + 1, r, best, h => by
    rw [bestF]
    have ih := bestF_min t a b d (r + 1) (bestS t a b best (r : Int)) (fun k hk ha hb ho => by
      unfold bestS
      by_cases e : k = r
      · subst e
        rw [if_neg (by omega)]
        split
        · exact ⟨by omega, Int.le_refl _⟩
        · omega
      · have hp := h k (by omega) ha hb ho
        split
        · exact hp
        · split
          · exact ⟨by omega, by omega⟩
          · exact hp)
    intro k hk
    exact ih k (by omega)
theorem bestV_min (t : List (List Int)) (a b : Int) (k : Nat) (hk : k < t.length) (ha : ¬ (k : Int) = a) (hb : ¬ (k : Int) = b) (ho : 0 ≤ overV t a k b) : 0 ≤ bestV t a b ∧ overV t a (bestV t a b) b ≤ overV t a k b :=
  bestF_min t a b t.length 0 (-1) (fun k hk => by omega) k (by omega) ha hb ho
/-! ### law_FnOverlays -/
theorem rd_btV (t : List (List Int)) (ht : timesB t = true) (a b : Nat) (ha : a < t.length) (hb : b < t.length) : rd (rd_L1 (btV t) (a : Int)) (b : Int) = cellV t a b := by
  have h := mixV_cell t t.length 0 a b ha hb
  rw [mixC, if_pos (.inl ha)] at h
  unfold btV
  rw [if_pos ht]
  exact h
theorem row_btV (t : List (List Int)) (ht : timesB t = true) (a : Nat) (ha : a < t.length) : (rd_L1 (btV t) (a : Int)).length = t.length := by
  have h := mixV_row t t.length 0 a ha
  unfold btV
  rw [if_pos ht]
  have e2 : rd_L1 (mixV t t.length 0) (a : Int) = (mixV t t.length 0).getD a [] := rfl
  rw [e2, h]
  simp
theorem len_btV (t : List (List Int)) (ht : timesB t = true) : (btV t).length = t.length := by
  unfold btV
  rw [if_pos ht, mixV_length]
theorem law_l2 (t : List (List Int)) (ht : timesB t = true) (hs : shortM t) (a b : Nat) (ha : a < t.length) (hb : b < t.length)
    (hk : Ev (fun k => laws_FnOverlays.l1 k t (btV t) (a : Int) (wrap64 ((b : Int) + 1))) true) : ∀ (d j : Nat), j + d = t.length →
    Ev (fun k => laws_FnOverlays.l2 k t (btV t) (a : Int) (b : Int) (bestV t a b) (j : Int)) true := by
  have h6 := hs.1
  have hr : ∀ r ∈ t, r.length ≤ 1048576 := fun r hm => by
    have := hs.2 r hm
    omega
  have hlen := len_btV t ht
  have hrow := row_btV t ht a ha
  intro d
  induction d with
  | zero =>
    intro j e
    refine Ev.step (fun k => by rw [laws_FnOverlays.l2]) ?_
    exact evNeg (by omega) hk
  | succ d ih =>
    intro j e
    have hn := ih (j + 1) (by omega)
    rw [← wsucc (by omega)] at hn
    refine Ev.step (fun k => by rw [laws_FnOverlays.l2]) ?_
    refine evPos (by omega) (Ev.bind (impl_TimeOver_ev t a j b hr) ?_)
    by_cases c1 : (j : Int) = (a : Int)
    · exact evPos c1 hn
    by_cases c2 : (j : Int) = (b : Int)
    · exact evNeg c1 (evPos c2 hn)
    refine evNeg c1 (evNeg c2 ?_)
    by_cases c3 : overV t a j b ≥ 0
    · have hm := bestV_min t a b j (by omega) c1 c2 c3
      have hi := bestV_inv t a b
      have ho : 0 ≤ overV t a (bestV t a b) b := by omega
      refine evPos c3 (evNeg (by omega) (Ev.bind (impl_TimeOver_ev t a (bestV t a b) b hr) (evNeg (by omega) (evPos (by omega) (evPos (by omega) (evPos (by omega) (evPos (by omega) ?_)))))))
      rw [rd_btV t ht a b ha hb]
      refine evNeg ?_ hn
      unfold cellV
      split <;> omega
    · exact evNeg c3 hn
theorem law_j2 (t : List (List Int)) (ht : timesB t = true) (hs : shortM t) (a b : Nat) (ha : a < t.length) (hb : b < t.length)
    (hk : Ev (fun k => laws_FnOverlays.l1 k t (btV t) (a : Int) (wrap64 ((b : Int) + 1))) true) : Ev (fun k => laws_FnOverlays.j2 k t (btV t) (a : Int) (b : Int) (bestV t a b) false) true := by
  refine Ev.step (fun k => by rw [laws_FnOverlays.j2]) ?_
  exact evNeg (by simp) (law_l2 t ht hs a b ha hb hk t.length 0 (by omega))
theorem law_l1 (t : List (List Int)) (ht : timesB t = true) (hs : shortM t) (a : Nat) (ha : a < t.length)
    (hk : Ev (fun k => laws_FnOverlays.l0 k t (btV t) (wrap64 ((a : Int) + 1))) true) : ∀ (d b : Nat), b + d = t.length →
    Ev (fun k => laws_FnOverlays.l1 k t (btV t) (a : Int) (b : Int)) true := by
  have h6 := hs.1
  have hr : ∀ r ∈ t, r.length ≤ 1048576 := fun r hm => by
    have := hs.2 r hm
    omega
  have hlen := len_btV t ht
  have hrow := row_btV t ht a ha
  have hrt := (times_row ht (a := (a : Int)) (by simp [hostB, ha])).1
  have hrt2 : (rd_L1 t (a : Int)).length = t.length := hrt
  intro d
  induction d with
  | zero =>
    intro b e
    refine Ev.step (fun k => by rw [laws_FnOverlays.l1]) ?_
    exact evNeg (by omega) hk
  | succ d ih =>
    intro b e
    have hb : b < t.length := by omega
    have hn := ih (b + 1) (by omega)
    rw [← wsucc (by omega)] at hn
    have hj := law_j2 t ht hs a b ha hb hn
    have hi := bestV_inv t a b
    refine Ev.step (fun k => by rw [laws_FnOverlays.l1]) ?_
    refine evPos (by omega) (Ev.bind (impl_Gain_ev t a b (by omega) hr) (Ev.bind (impl_BestRelay_ev t a b (by omega) hr) (evPos (by omega) (evPos (by omega) (evPos (by omega) (evPos (by omega) ?_))))))
    have etm : rd (rd_L1 t (a : Int)) (b : Int) = tm t a b := rfl
    rw [etm]
    have tail : Ev (fun k => if bestV t a b = (a : Int) then (if (a : Int) ≥ 0 then (if bestV t a b ≥ 0 then laws_FnOverlays.j2 k t (btV t) (a : Int) (b : Int) (bestV t a b) true else laws_FnOverlays.j2 k t (btV t) (a : Int) (b : Int) (bestV t a b) false) else (if bestV t a b ≥ 0 then laws_FnOverlays.j2 k t (btV t) (a : Int) (b : Int) (bestV t a b) (bestV t a b == (b : Int)) else laws_FnOverlays.j2 k t (btV t) (a : Int) (b : Int) (bestV t a b) false)) else (if bestV t a b ≥ 0 then laws_FnOverlays.j2 k t (btV t) (a : Int) (b : Int) (bestV t a b) (bestV t a b == (b : Int)) else laws_FnOverlays.j2 k t (btV t) (a : Int) (b : Int) (bestV t a b) false)) true := by
      refine evNeg (by omega) ?_
      by_cases c : bestV t a b ≥ 0
      · have e0 : (bestV t a b == (b : Int)) = false := by
          have : ¬ bestV t a b = (b : Int) := by omega
          simp [this]
        rw [e0]
        exact evPos c hj
      · exact evNeg c hj
    by_cases c0 : tm t a b ≥ 0
    · refine evPos c0 (evPos (by omega) (evPos (by omega) ?_))
      rw [rd_btV t ht a b ha hb]
      have hrg := tm_range ht (a := (a : Int)) (b := (b : Int)) (by simp [hostB, ha])
      have hc1 : 0 ≤ cellV t a b ∧ cellV t a b ≤ tm t a b := by
        unfold cellV
        split <;> omega
      have hneg : bestV t a b = -1 → overV t a (bestV t a b) b = -1 := fun h => by
        rw [h]
        unfold overV
        rw [if_neg]
        intro c
        have := c.2.2.1
        simp [hostB] at this
      have hc2 : tm t a b - cellV t a b = gainV t a b := by
        unfold cellV gainV
        rcases hi with hi | hi
        · have := hneg hi
          rw [if_neg (by omega), if_pos (by omega)]
          omega
        · rw [if_neg (show ¬ bestV t a b < 0 by omega), if_neg (show ¬ tm t a b < 0 by omega)]
          by_cases cc : overV t a (bestV t a b) b < tm t a b
          · rw [if_pos ⟨hi.2.2.2, .inr cc⟩, if_neg (by omega)]
          · rw [if_neg (by omega)]
            split <;> omega
      refine evNeg (by omega) (evNeg (by omega) (evPos ?_ tail))
      rw [w64 (by omega) (by omega)]
      exact hc2
    · exact evNeg c0 tail
theorem law_l0 (t : List (List Int)) (ht : timesB t = true) (hs : shortM t) : ∀ (d a : Nat), a + d = t.length → Ev (fun k => laws_FnOverlays.l0 k t (btV t) (a : Int)) true := by
  have h6 := hs.1
  have hlen := len_btV t ht
  intro d
  induction d with
  | zero =>
    intro a e
    refine Ev.step (fun k => by rw [laws_FnOverlays.l0]) ?_
    refine evNeg (by omega) (evEq ?_ (Ev.now _))
    simp [hlen]
  | succ d ih =>
    intro a e
    have hn := ih (a + 1) (by omega)
    rw [← wsucc (by omega)] at hn
    refine Ev.step (fun k => by rw [laws_FnOverlays.l0]) ?_
    exact evPos (by omega) (law_l1 t ht hs a (by omega) hn t.length 0 (by omega))
theorem FnOverlays : laws_FnOverlays.PureR := by
  intro b h
  refine Ev.rounds ?_
  unfold laws_FnOverlays.f
  refine evSome (big_eq b) ?_
  by_cases hb : (b.length : Int) > 1048576
  · exact evPos (by simp [hb]) (Ev.now _)
  refine evNeg (by simp; omega) ?_
  obtain ⟨t, ed, hs⟩ := drawTimes_ev b (by omega)
  have h6 := hs.1
  have hr : ∀ r ∈ t, r.length ≤ 1048576 := fun r hm => by
    have := hs.2 r hm
    omega
  refine Ev.bind ed (Ev.bind (impl_BestTimes_ev t (by omega) hr) (Ev.bind (impl_IsTimes_ev t hr) (Ev.bind (spec_IsTimes_ev t (by omega) hr) (evNeg (by simp) (Ev.bind (impl_IsTimes_ev t hr) ?_)))))
  by_cases c : timesB t = true
  · exact evPos c (law_l0 t c hs t.length 0 (by omega))
  · refine evNeg c (evEq ?_ (Ev.now _))
    unfold btV
    rw [if_neg c]
    rfl
end Go.Proofs.Ytjhbpiboemajeaa.Pure
