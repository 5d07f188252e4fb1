/- Lemmas: hl_FnOverlays -/
import Derived.Test.YtakembkodcjbjaaPFnOverlaysx0
import Derived.Test.YtakembkodcjbjaaPFnOverlaysx1
import Derived.Test.YtakembkodcjbjaaPFnOverlaysx2
import Derived.Test.YtakembkodcjbjaaPFnOverlaysx3
import Derived.Test.YtakembkodcjbjaaPFnOverlaysx4
import Derived.Test.YtakembkodcjbjaaPFnOverlaysx5
import Derived.Test.YtakembkodcjbjaaPFnOverlaysx6
import Derived.Test.YtakembkodcjbjaaBase
namespace Go.Proofs.Ytakembkodcjbjaa.Pure
open Go.RowKit Go.Proofs.Ytakembkodcjbjaa.Base Go.Proofs.Ytakembkodcjbjaa.PFnOverlays Go.Proofs.YtakembkodcjbjaaW.PrintWords Go.Proofs.YtakembkodcjbjaaW.PrintLast Go.Proofs.YtakembkodcjbjaaW.PrintMore
set_option linter.unusedVariables false
set_option linter.unusedSimpArgs false
/-! ### draw -/
/-- A cursor that a draw may go on with: it stands within the bytes. -/
def cur (b : List Int) (i : Int) : Prop := b.length ≤ 9223372036854775807 ∧ 0 ≤ i ∧ i ≤ (b.length : Int)
theorem l1New_l0 (b : List Int) (hb : b.length ≤ 9223372036854775806) : ∀ (d j : Nat) (h : Int), j + d = b.length → ∃ h', Ev (fun k => spec_l1New.l0 k b h (j : Int)) (b, 0, h') := by
  intro d
  induction d with
  | zero =>
    intro j h e
    exact ⟨h, (by refine Ev.step (fun k => by rw [spec_l1New.l0]) ?_; exact evNeg (by omega) (Ev.now _))⟩
  | succ d ih =>
    intro j h e
    by_cases hj : (j : Int) < 4000
    · obtain ⟨h', he⟩ := ih (j + 1) (Go.bits .and .i64 (wrap64 ((wrap64 ((wrap64 (h * 137)) + (wrap64 (rd b (j : Int))))) + 11)) 1073741823) (by omega)
      refine ⟨h', ?_⟩
      refine Ev.step (fun k => by rw [spec_l1New.l0]) ?_
      refine evPos (by omega) (evPos hj (evPos (by omega) ?_))
      rw [wsucc (by omega)]
      exact he
    · exact ⟨h, Ev.step (fun k => by rw [spec_l1New.l0]) (evPos (by omega) (evNeg hj (Ev.now _)))⟩
theorem l1New_ev (b : List Int) (hb : b.length ≤ 9223372036854775806) : ∃ h, Ev (fun k => spec_l1New.f k b) (b, 0, h) ∧ cur b 0 := by
  obtain ⟨h, he⟩ := l1New_l0 b hb b.length 0 (wrap64 (193017 + (b.length : Int))) (by omega)
  exact ⟨h, he, by omega, by omega, by omega⟩
theorem l1Byte_eq (b : List Int) (i h : Int) (hc : cur b i) : ∃ v i' h', spec_l1Byte.f b i h = some (v, i', h') ∧ cur b i' ∧ 0 ≤ v ∧ v ≤ 255 := by
  obtain ⟨h1, h2, h3⟩ := hc
  unfold spec_l1Byte.f
  by_cases hi : i < (b.length : Int)
  · rw [if_pos hi, if_pos h2]
    have ha := and255 (wrap64 ((Go.bits .and .i64 (Go.bits .xor .i64 ((wrap64 ((wrap64 (h * 6364136223846793005)) + 1442695040888963407)) / 8589934592) ((wrap64 ((wrap64 (h * 6364136223846793005)) + 1442695040888963407)) / 140737488355328)) 255) + (wrap64 (rd b i))))
    refine ⟨_, _, _, rfl, ⟨h1, ?_, ?_⟩, ha.1, ha.2⟩
    · rw [w64 (by omega) (by omega)]
      omega
    · rw [w64 (by omega) (by omega)]
      omega
  · rw [if_neg hi]
    have ha := and255 (Go.bits .xor .i64 ((wrap64 ((wrap64 (h * 6364136223846793005)) + 1442695040888963407)) / 8589934592) ((wrap64 ((wrap64 (h * 6364136223846793005)) + 1442695040888963407)) / 140737488355328))
    exact ⟨_, _, _, rfl, ⟨h1, h2, h3⟩, ha.1, ha.2⟩
theorem l1Below_eq (b : List Int) (i h n : Int) (hc : cur b i) (hn : 1 ≤ n) : ∃ v i' h', spec_l1Below.f b i h n = some (v, i', h') ∧ cur b i' ∧ 0 ≤ v ∧ v < n := by
  unfold spec_l1Below.f
  rw [if_neg (by omega)]
  obtain ⟨v1, i1, h1, e1, c1, p1, q1⟩ := l1Byte_eq b i h hc
  by_cases hs : n ≤ 256
  · rw [if_pos hs, e1]
    have hr := tmod_range hn p1
    exact ⟨_, _, _, by rw [Option.bind_some, if_neg (by omega)], c1, hr.1, hr.2⟩
  · obtain ⟨v2, i2, h2, e2, c2, p2, q2⟩ := l1Byte_eq b i1 h1 c1
    obtain ⟨v3, i3, h3, e3, c3, p3, q3⟩ := l1Byte_eq b i2 h2 c2
    rw [if_neg hs, e1, Option.bind_some, e2, Option.bind_some, e3, Option.bind_some, if_neg (by omega)]
    dsimp only
    rw [w64 (n := v1 * 65536) (by omega) (by omega), w64 (n := v2 * 256) (by omega) (by omega), w64 (n := v1 * 65536 + v2 * 256) (by omega) (by omega), w64 (n := v1 * 65536 + v2 * 256 + v3) (by omega) (by omega)]
    have hr := tmod_range (a := v1 * 65536 + v2 * 256 + v3) hn (by omega)
    exact ⟨_, _, _, rfl, c3, hr.1, hr.2⟩
theorem l1Below_zero (b : List Int) (i h n : Int) (hn : n ≤ 0) : spec_l1Below.f b i h n = some (0, i, h) := by
  unfold spec_l1Below.f
  rw [if_pos hn]
theorem l1Int_eq (b : List Int) (i h : Int) (l : List Int) (hc : cur b i) (hl : l ≠ []) : ∃ v i' h', spec_l1Int.f b i h l = some (v, i', h') ∧ cur b i' ∧ v ∈ l := by
  have hp : 0 < l.length := List.length_pos_iff.2 hl
  obtain ⟨v, i', h', e, c, p, q⟩ := l1Below_eq b i h (l.length : Int) hc (by omega)
  unfold spec_l1Int.f
  rw [e, Option.bind_some, if_pos p, if_pos q]
  refine ⟨_, _, _, rfl, c, ?_⟩
  have hv : v.toNat < l.length := by omega
  have : rd l v = l[v.toNat] := by simp [rd, hv]
  rw [this]
  exact List.getElem_mem hv
theorem l1Once_eq (b : List Int) (i h n : Int) (hc : cur b i) (hn : 1 ≤ n) : ∃ v i' h', spec_l1Once.f b i h n = some (v, i', h') ∧ cur b i' := by
  obtain ⟨v, i', h', e, c, _⟩ := l1Below_eq b i h n hc hn
  unfold spec_l1Once.f
  rw [e]
  exact ⟨_, _, _, rfl, c⟩
theorem big_eq (l : List Int) : laws_big.f l = some (decide ((l.length : Int) > 1048576)) := rfl
/-! ### drawtimes -/
/-- A small table. -/
def shortM (l : List (List Int)) : Prop := l.length ≤ 6 ∧ ∀ r ∈ l, r.length ≤ 7
theorem l26Any_l1 (b : List Int) (n : Int) (hn : n ≤ 6) (x4 : List (List Int)) (x5 : Int) (hx : x4.length ≤ 5)
    (hk : ∀ (y : List Int) (i h : Int), cur b i → (y.length : Int) = n → ∃ r i' h', Ev (fun k => spec_l26Any.l0 k n (x4 ++ [y]) (wrap64 (x5 + 1)) b i h) (r, i', h') ∧ cur b i' ∧ shortM r) : ∀ (d j : Nat) (out : List Int) (i h : Int), cur b i → (j : Int) + d = n → out.length = j →
    ∃ r i' h', Ev (fun k => spec_l26Any.l1 k n x4 x5 out (j : Int) b i h) (r, i', h') ∧ cur b i' ∧ shortM r := by
  intro d
  induction d with
  | zero =>
    intro j out i h hc e ho
    obtain ⟨r, i', h', he, hc', hr⟩ := hk out i h hc (by omega)
    refine ⟨r, i', h', ?_, hc', hr⟩
    refine Ev.step (fun k => by rw [spec_l26Any.l1]) ?_
    exact evNeg (by omega) (evPos (by omega) he)
  | succ d ih =>
    intro j out i h hc e ho
    obtain ⟨v, i1, h1, e1, c1, p1, q1⟩ := l1Below_eq b i h 60 hc (by omega)
    obtain ⟨t, i2, h2, e2, c2⟩ := l1Once_eq b i1 h1 6 c1 (by omega)
    have step : ∀ w : Int, ∃ r i' h', Ev (fun k => spec_l26Any.l1 k n x4 x5 (out ++ [w]) (wrap64 ((j : Int) + 1)) b i2 h2) (r, i', h') ∧ cur b i' ∧ shortM r := fun w => by
      obtain ⟨r, i', h', he, hc', hr⟩ := ih (j + 1) (out ++ [w]) i2 h2 c2 (by omega) (by simp [ho])
      refine ⟨r, i', h', ?_, hc', hr⟩
      rw [wsucc (by omega)]
      exact he
    by_cases c : x5 = (j : Int)
    · obtain ⟨r, i', h', he, hc', hr⟩ := step 0
      refine ⟨r, i', h', ?_, hc', hr⟩
      refine Ev.step (fun k => by rw [spec_l26Any.l1]) ?_
      refine evPos (by omega) (evSome e1 (evSome e2 ?_))
      cases t with
      | true => exact evPos rfl (evPos c (evPos (by omega) he))
      | false => exact evNeg (by simp) (evPos c (evPos (by omega) he))
    · cases t with
      | true =>
        obtain ⟨r, i', h', he, hc', hr⟩ := step (-1)
        refine ⟨r, i', h', ?_, hc', hr⟩
        refine Ev.step (fun k => by rw [spec_l26Any.l1]) ?_
        exact evPos (by omega) (evSome e1 (evSome e2 (evPos rfl (evNeg c (evPos (by omega) he)))))
      | false =>
        obtain ⟨r, i', h', he, hc', hr⟩ := step (wrap64 (1 + v))
        refine ⟨r, i', h', ?_, hc', hr⟩
        refine Ev.step (fun k => by rw [spec_l26Any.l1]) ?_
        exact evPos (by omega) (evSome e1 (evSome e2 (evNeg (by simp) (evNeg c (evPos (by omega) he)))))
theorem l26Any_l0 (b : List Int) (n : Int) (h1 : 1 ≤ n) (hn : n ≤ 6) : ∀ (d : Nat) (x4 : List (List Int)) (i h : Int), cur b i → (x4.length : Int) + d = n → (∀ r ∈ x4, (r.length : Int) = n) →
    ∃ r i' h', Ev (fun k => spec_l26Any.l0 k n x4 (x4.length : Int) b i h) (r, i', h') ∧ cur b i' ∧ shortM r := by
  intro d
  induction d with
  | zero =>
    intro x4 i h hc e hr
    have hrow : ∀ j : Int, 0 ≤ j → j < (x4.length : Int) → ((rd_L2 x4 j).length : Int) = n := fun j h0 h1 => by
      have hj : j.toNat < x4.length := by omega
      have : rd_L2 x4 j = x4[j.toNat] := by simp [rd_L2, hj]
      rw [this]
      exact hr _ (List.getElem_mem hj)
    have r0 := hrow 0 (by omega) (by omega)
    have rn := hrow (n - 1) (by omega) (by omega)
    have hset : ∀ (j : Nat) (y : List Int), y.length ≤ 7 → shortM (x4.set j y) := fun j y hy => by
      refine ⟨by rw [List.length_set]; omega, fun r hm => ?_⟩
      rcases List.mem_or_eq_of_mem_set hm with hm | rfl
      · have := hr r hm
        omega
      · exact hy
    obtain ⟨v, i1, h1', e1, c1, p1, q1⟩ := l1Below_eq b i h 9 hc (by omega)
    by_cases k0 : v = 0
    · obtain ⟨w, i2, h2, e2, c2, _⟩ := l1Int_eq b i1 h1' [(-1), 1] c1 (by simp)
      refine ⟨x4.set (0 : Int).toNat ((rd_L2 x4 0).set (0 : Int).toNat w), i2, h2, ?_, c2, hset _ _ (by rw [List.length_set]; omega)⟩
      refine Ev.step (fun k => by rw [spec_l26Any.l0]) ?_
      exact evNeg (by omega) (evSome e1 (evPos k0 (evPos (by omega) (evSome e2 (evPos (by omega) (Ev.now _))))))
    by_cases k1 : v = 1
    · refine ⟨x4.set (0 : Int).toNat (rd_L2 x4 0 ++ [1]), i1, h1', ?_, c1, hset _ _ (by rw [List.length_append]; simp only [List.length_singleton]; omega)⟩
      refine Ev.step (fun k => by rw [spec_l26Any.l0]) ?_
      exact evNeg (by omega) (evSome e1 (evNeg k0 (evPos k1 (evPos (by omega) (evPos (by omega) (Ev.now _))))))
    by_cases k2 : v = 2
    · obtain ⟨w, i2, h2, e2, c2, _⟩ := l1Int_eq b i1 h1' [100000, 100001, (-2)] c1 (by simp)
      have hw : wrap64 (n - 1) = n - 1 := w64 (by omega) (by omega)
      refine ⟨x4.set (n - 1).toNat ((rd_L2 x4 (n - 1)).set (0 : Int).toNat w), i2, h2, ?_, c2, hset _ _ (by rw [List.length_set]; omega)⟩
      refine Ev.step (fun k => by rw [spec_l26Any.l0]) ?_
      rw [hw]
      exact evNeg (by omega) (evSome e1 (evNeg k0 (evNeg k1 (evPos k2 (evPos (by omega) (evPos (by omega) (evSome e2 (evPos (by omega) (Ev.now _)))))))))
    · refine ⟨x4, i1, h1', ?_, c1, by omega, fun r hm => by have := hr r hm; omega⟩
      refine Ev.step (fun k => by rw [spec_l26Any.l0]) ?_
      exact evNeg (by omega) (evSome e1 (evNeg k0 (evNeg k1 (evNeg k2 (Ev.now _)))))
  | succ d ih =>
    intro x4 i h hc e hr
    obtain ⟨r, i', h', he, hc', hs⟩ := l26Any_l1 b n hn x4 (x4.length : Int) (by omega) (fun y i h hc hy => by
      have := ih (x4 ++ [y]) i h hc (by simp only [List.length_append, List.length_singleton]; omega) (fun q hq => by
        rcases List.mem_append.1 hq with hq | hq
        · exact hr q hq
        · rw [List.mem_singleton.1 hq]
          exact hy)
      rw [wsucc (by omega)]
      simpa using this) n.toNat 0 [] i h hc (by omega) rfl
    refine ⟨r, i', h', ?_, hc', hs⟩
    refine Ev.step (fun k => by rw [spec_l26Any.l0]) ?_
    exact evPos (by omega) he
theorem drawTimes_ev (b : List Int) (hb : b.length ≤ 1048576) : ∃ r, Ev (fun k => spec_DrawBestTimes.f k b) r ∧ shortM r := by
  obtain ⟨h0, e0, c0⟩ := l1New_ev b (by omega)
  obtain ⟨v, i1, h1, e1, c1, p1, q1⟩ := l1Below_eq b 0 h0 6 c0 (by omega)
  obtain ⟨r, i2, h2, e2, c2, hr⟩ := l26Any_l0 b (1 + v) (by omega) (by omega) (1 + v).toNat [] i1 h1 c1 (by simp; omega) (by simp)
  refine ⟨r, ?_, hr⟩
  have ha : Ev (fun k => spec_l26Any.f k b 0 h0) (r, i2, h2) := by
    unfold spec_l26Any.f
    refine evSome e1 ?_
    dsimp only
    rw [w64 (by omega) (by omega)]
    exact e2
  unfold spec_DrawBestTimes.f spec_DrawIsTimes.f
  exact Ev.bind (Ev.bind e0 (Ev.bind ha (Ev.now _))) (Ev.now _)
/-! ### small -/
theorem spec_l1In_eq (a b c : Int) : spec_l1In.f a b c = some (decide (b ≤ a ∧ a ≤ c)) := by
  unfold spec_l1In.f
  by_cases h : a ≥ b
  · rw [if_pos h]
    simp [show b ≤ a from h]
  · rw [if_neg h]
    have : ¬ b ≤ a := h
    simp [this]
/-! ### inrange -/
theorem impl_InRange_eq (a b c : Int) : impl_InRange.f a b c = some (decide (b ≤ a ∧ a ≤ c)) := by
  unfold impl_InRange.f
  by_cases h : b ≤ a
  · rw [if_pos h]
    simp [h]
  · rw [if_neg h]
    simp [h]
/-! ### allin -/
theorem impl_allIn_l0 (lo hi : Int) : ∀ (suf pre : List Int), (pre ++ suf).length ≤ 1048576 →
    Ev (fun k => impl_allIn.l0 k lo hi (pre ++ suf) ((pre ++ suf).length : Int) (pre.length : Int)) (suf.all fun x => decide (lo ≤ x ∧ x ≤ hi)) := by
  intro suf
  induction suf with
  | nil =>
    intro pre hb
    refine Ev.step (fun k => by rw [impl_allIn.l0]) ?_
    exact evNeg (by simp) (Ev.now _)
  | cons x suf ih =>
    intro pre hb
    simp only [List.length_append, List.length_cons] at hb
    refine Ev.step (fun k => by rw [impl_allIn.l0]) ?_
    refine evPos (by simp only [List.length_append, List.length_cons]; omega) (evPos (by omega) (evPos (by simp only [List.length_append, List.length_cons]; omega) ?_))
    rw [rd_mid, wsucc (by omega)]
    refine evSome (impl_InRange_eq _ _ _) ?_
    by_cases hx : lo ≤ x ∧ x ≤ hi
    · refine evPos (by simp [hx]) ?_
      have h := ih (pre ++ [x]) (by simp; omega)
      refine evEq ?_ (Ev.congr (fun k => ?_) h)
      · simp [hx]
      · simp
    · refine evNeg (by simpa using hx) (evEq ?_ (Ev.now _))
      simp [hx]
theorem impl_allIn_ev (l : List Int) (lo hi : Int) (hl : l.length ≤ 1048576) : Ev (fun k => impl_allIn.f k l lo hi) (l.all fun x => decide (lo ≤ x ∧ x ≤ hi)) := by
  have h := impl_allIn_l0 lo hi l [] (by simpa using hl)
  simpa [impl_allIn.f] using h
/-! ### times -/
def tmR (v : Int) : Bool := decide (-1 ≤ v ∧ v ≤ 100000)
def rowTail (i : Nat) : Nat → List Int → Bool
  | _, [] => true
  | j, v :: vs => tmR v && (decide (i ≠ j) || decide (v = 0)) && rowTail i (j + 1) vs
def rowOk (n i : Nat) (row : List Int) : Bool := decide (row.length = n) && rowTail i 0 row
def rowsOk (n : Nat) : Nat → List (List Int) → Bool
  | _, [] => true
  | i, r :: rs => rowOk n i r && rowsOk n (i + 1) rs
def timesB (t : List (List Int)) : Bool := decide (1 ≤ t.length ∧ t.length ≤ 6) && rowsOk t.length 0 t
theorem rowTail_eq (i : Nat) : ∀ (j : Nat) (row : List Int), rowTail i j row = (row.all tmR && (decide (i < j) || decide (j + row.length ≤ i) || decide (row.getD (i - j) 0 = 0)))
  | j, [] => by
    simp [rowTail] <;> omega
  | j, v :: vs => by
    rw [rowTail, rowTail_eq i (j + 1) vs, List.all_cons]
    by_cases hij : i = j
    · subst hij
      by_cases hv : v = 0 <;> by_cases ht : tmR v = true <;> by_cases ha : vs.all tmR = true <;> simp_all
    · by_cases hlt : i < j
      · by_cases ht : tmR v = true <;> by_cases ha : vs.all tmR = true <;> simp_all <;> omega
      · obtain ⟨d, hd⟩ : ∃ d, i - j = d + 1 := ⟨i - j - 1, by omega⟩
        have hd' : i - (j + 1) = d := by omega
        rw [hd, hd', List.getD_cons_succ]
        have e1 : decide (i < j + 1) = false := by simp; omega
        have e2 : decide (i < j) = false := by simp; omega
        have e3 : decide (j + 1 + vs.length ≤ i) = decide (j + (v :: vs).length ≤ i) := by simp [Nat.add_assoc, Nat.add_comm 1]
        rw [e1, e2, e3]
        simp [hij, Bool.and_assoc]
theorem rowOk_eq (n i : Nat) (row : List Int) (hi : i < n) : rowOk n i row = (decide (row.length = n) && (row.all tmR && decide (row.getD i 0 = 0))) := by
  unfold rowOk
  rw [rowTail_eq]
  by_cases hl : row.length = n
  · have e : decide (0 + row.length ≤ i) = false := by simp; omega
    rw [e]
    simp [hl]
  · simp [hl]
theorem spec_IsTimes_l1 (pre suf : List (List Int)) (row : List Int) (R : Bool) (hb : (pre ++ row :: suf).length ≤ 1048576) (hr : row.length ≤ 1048576)
    (hk : Ev (fun k => spec_IsTimes.l0 k (pre ++ row :: suf) ((pre.length + 1 : Nat) : Int)) R) : ∀ (rs rp : List Int), row = rp ++ rs →
    Ev (fun k => spec_IsTimes.l1 k (pre ++ row :: suf) (pre.length : Int) (rp.length : Int)) (rowTail pre.length rp.length rs && R) := by
  intro rs
  simp only [List.length_append, List.length_cons] at hb
  induction rs with
  | nil =>
    intro rp e
    refine Ev.step (fun k => by rw [spec_IsTimes.l1]) ?_
    simp only [rd_L2, getD_mid]
    refine evPos (by omega) (evPos (by simp only [List.length_append, List.length_cons]; omega) (evNeg (by rw [e]; simp) ?_))
    rw [wsucc (by omega)]
    simpa [rowTail] using hk
  | cons v vs ih =>
    intro rp e
    have hl : row.length = rp.length + (vs.length + 1) := by rw [e]; simp
    refine Ev.step (fun k => by rw [spec_IsTimes.l1]) ?_
    simp only [rd_L2, getD_mid]
    refine evPos (by omega) (evPos (by simp only [List.length_append, List.length_cons]; omega) (evPos (by omega) (evPos (by omega) ?_)))
    have ev : rd row (rp.length : Int) = v := by rw [e, rd_mid]
    rw [ev, wsucc (by omega)]
    refine evSome (spec_l1In_eq _ _ _) ?_
    have h := ih (rp ++ [v]) (by simp [e])
    have h' : Ev (fun k => spec_IsTimes.l1 k (pre ++ row :: suf) (pre.length : Int) ((rp.length + 1 : Nat) : Int)) (rowTail pre.length (rp.length + 1) vs && R) := by simpa using h
    by_cases ht : -1 ≤ v ∧ v ≤ 100000
    · refine evPos (by simpa using ht) ?_
      have ht' : tmR v = true := by simpa [tmR] using ht
      by_cases hij : pre.length = rp.length
      · refine evPos (by omega) ?_
        by_cases hv : v = 0
        · refine evPos hv (evEq ?_ h')
          simp only [rowTail, ht', decide_eq_true hv, Bool.or_true, Bool.true_and]
        · refine evNeg hv (evEq ?_ (Ev.now _))
          simp [rowTail, hv, hij]
      · refine evNeg (by omega) (evEq ?_ h')
        simp [rowTail, ht', hij]
    · refine evNeg (by simpa using ht) (evEq ?_ (Ev.now _))
      have ht' : tmR v = false := by simpa [tmR] using ht
      simp [rowTail, ht']
theorem spec_IsTimes_l0 (n : Nat) : ∀ (suf pre : List (List Int)), (pre ++ suf).length = n → n ≤ 1048576 → (∀ r ∈ suf, r.length ≤ 1048576) →
    Ev (fun k => spec_IsTimes.l0 k (pre ++ suf) (pre.length : Int)) (rowsOk n pre.length suf && decide (1 ≤ n ∧ n ≤ 6)) := by
  intro suf
  induction suf with
  | nil =>
    intro pre hn hb hr
    refine Ev.step (fun k => by rw [spec_IsTimes.l0]) ?_
    refine evNeg (by simp) (evSome (spec_l1In_eq _ _ _) (evEq ?_ (Ev.now _)))
    rw [hn]
    simp only [rowsOk, Bool.true_and, decide_eq_decide]
    omega
  | cons x suf ih =>
    intro pre hn hb hr
    have hn' := hn
    simp only [List.length_append, List.length_cons] at hn'
    refine Ev.step (fun k => by rw [spec_IsTimes.l0]) ?_
    refine evPos (by simp only [List.length_append, List.length_cons]; omega) (evPos (by omega) ?_)
    simp only [rd_L2, getD_mid]
    by_cases hx : x.length = n
    · refine evPos (by rw [hn]; omega) ?_
      have h := ih (pre ++ [x]) (by rw [← hn]; simp) hb (fun r h => hr r (by simp [h]))
      have h' : Ev (fun k => spec_IsTimes.l0 k (pre ++ x :: suf) ((pre.length + 1 : Nat) : Int)) (rowsOk n (pre.length + 1) suf && decide (1 ≤ n ∧ n ≤ 6)) := by simpa using h
      have h2 := spec_IsTimes_l1 pre suf x _ (by rw [hn]; omega) (hr x (by simp)) h' x [] rfl
      refine evEq ?_ h2
      simp [rowsOk, rowOk, hx, Bool.and_assoc]
    · refine evNeg (by rw [hn]; omega) (evEq ?_ (Ev.now _))
      simp [rowsOk, rowOk, hx]
theorem spec_IsTimes_ev (t : List (List Int)) (h : t.length ≤ 1048576) (hr : ∀ r ∈ t, r.length ≤ 1048576) : Ev (fun k => spec_IsTimes.f k t) (timesB t) := by
  have h := spec_IsTimes_l0 t.length t [] (by simp) h hr
  unfold spec_IsTimes.f
  refine evEq ?_ h
  simp only [timesB, List.length_nil]
  rw [Bool.and_comm]
theorem impl_IsTimes_l0 (t : List (List Int)) : ∀ (suf pre : List (List Int)), pre ++ suf = t → t.length ≤ 6 → (∀ r ∈ suf, r.length ≤ 1048576) →
    Ev (fun k => impl_IsTimes.l0 k t t (t.length : Int) (pre.length : Int)) (rowsOk t.length pre.length suf) := by
  intro suf
  induction suf with
  | nil =>
    intro pre e hb hr
    refine Ev.step (fun k => by rw [impl_IsTimes.l0]) ?_
    refine evNeg (by rw [← e]; simp) (evEq ?_ (Ev.now _))
    simp [rowsOk]
  | cons x suf ih =>
    intro pre e hb hr
    have hn : t.length = pre.length + (suf.length + 1) := by rw [← e]; simp
    have hx : t.getD ((pre.length : Int).toNat) [] = x := by rw [← e, getD_mid]
    refine Ev.step (fun k => by rw [impl_IsTimes.l0]) ?_
    simp only [rd_L2, hx]
    refine evPos (by omega) (evPos (by omega) (evPos (by omega) ?_))
    rw [wsucc (by omega)]
    have h := ih (pre ++ [x]) (by simp [← e]) hb (fun r h => hr r (by simp [h]))
    have h' : Ev (fun k => impl_IsTimes.l0 k t t (t.length : Int) ((pre.length + 1 : Nat) : Int)) (rowsOk t.length (pre.length + 1) suf) := by simpa using h
    rw [rowsOk, rowOk_eq _ _ _ (by omega)]
    by_cases hl : x.length = t.length
    · refine evPos (by omega) (Ev.bind (impl_allIn_ev x (-1) 100000 (hr x (by simp))) ?_)
      have ea : (x.all fun v => decide (-1 ≤ v ∧ v ≤ 100000)) = x.all tmR := rfl
      rw [ea]
      by_cases ha : x.all tmR = true
      · refine evPos ha (evPos (by omega) ?_)
        have er : rd x (pre.length : Int) = x.getD pre.length 0 := by simp [rd]
        rw [er]
        by_cases hz : x.getD pre.length 0 = 0
        · refine evPos hz (evEq ?_ h')
          simp only [hl, ha, hz, decide_true, Bool.true_and]
        · refine evNeg hz (evEq ?_ (Ev.now _))
          simp only [hz, decide_false, Bool.and_false, Bool.false_and]
      · have ha' : x.all tmR = false := by simpa using ha
        refine evNeg ha (evEq ?_ (Ev.now _))
        rw [ha']
        simp
    · refine evNeg (by omega) (evEq ?_ (Ev.now _))
      simp [hl]
theorem impl_IsTimes_ev (t : List (List Int)) (hr : ∀ r ∈ t, r.length ≤ 1048576) : Ev (fun k => impl_IsTimes.f k t) (timesB t) := by
  unfold impl_IsTimes.f
  refine evSome (impl_InRange_eq _ _ _) ?_
  by_cases hl : 1 ≤ t.length ∧ t.length ≤ 6
  · refine evPos (by simp; omega) (evEq ?_ (impl_IsTimes_l0 t t [] rfl hl.2 hr))
    simp [timesB, hl]
  · refine evNeg (by simp; omega) (evEq ?_ (Ev.now _))
    simp [timesB, hl]
/-! ### at -/
theorem impl_at_eq (a n : Int) : impl_at.f a n = some (decide (0 ≤ a ∧ a < n)) := by
  unfold impl_at.f
  by_cases h : a ≥ 0
  · rw [if_pos h]
    simp [show 0 ≤ a from h]
  · rw [if_neg h]
    have : ¬ 0 ≤ a := h
    simp [this]
/-! ### timeover -/
/-- A time of a table: 0 where there is none. -/
def tm (t : List (List Int)) (a b : Int) : Int := (t.getD a.toNat []).getD b.toNat 0
def hostB (t : List (List Int)) (a : Int) : Bool := decide (0 ≤ a ∧ a < (t.length : Int))
def overV (t : List (List Int)) (a r b : Int) : Int :=
  if timesB t = true ∧ hostB t a = true ∧ hostB t r = true ∧ hostB t b = true ∧ ¬ tm t a r < 0 ∧ ¬ tm t r b < 0 then tm t a r + tm t r b else -1
theorem rowsOk_get (n : Nat) : ∀ (rs : List (List Int)) (i j : Nat) (row : List Int), rowsOk n i rs = true → rs[j]? = some row → rowOk n (i + j) row = true
  | [], _, _, _, _, h => by simp at h
  | r :: rs, i, 0, row, h, e => by
    simp only [rowsOk, Bool.and_eq_true] at h
    simp at e
    subst e
    exact h.1
  | r :: rs, i, j + 1, row, h, e => by
    simp only [rowsOk, Bool.and_eq_true] at h
    simp at e
    have := rowsOk_get n rs (i + 1) j row h.2 e
    rwa [show i + 1 + j = i + (j + 1) by omega] at this
theorem times_row {t : List (List Int)} (ht : timesB t = true) {a : Int} (ha : hostB t a = true) : (t.getD a.toNat []).length = t.length ∧ t.length ≤ 6 ∧ (∀ v ∈ t.getD a.toNat [], -1 ≤ v ∧ v ≤ 100000) ∧ (t.getD a.toNat []).getD a.toNat 0 = 0 := by
  simp only [timesB, Bool.and_eq_true, decide_eq_true_eq] at ht
  simp only [hostB, decide_eq_true_eq] at ha
  have hlt : a.toNat < t.length := by omega
  have e : t[a.toNat]? = some (t.getD a.toNat []) := by simp [List.getD, hlt]
  have h := rowsOk_get t.length t 0 a.toNat _ ht.2 e
  rw [Nat.zero_add, rowOk_eq _ _ _ hlt] at h
  simp only [Bool.and_eq_true, decide_eq_true_eq, List.all_eq_true, tmR] at h
  exact ⟨h.1, ht.1.2, h.2.1, h.2.2⟩
theorem tm_range {t : List (List Int)} (ht : timesB t = true) {a b : Int} (ha : hostB t a = true) : -1 ≤ tm t a b ∧ tm t a b ≤ 100000 := by
  obtain ⟨h1, h2, h3, _⟩ := times_row ht ha
  unfold tm
  rw [List.getD_eq_getElem?_getD]
  rcases e : (t.getD a.toNat [])[b.toNat]? with _ | v
  · simp
  · exact h3 v (List.mem_of_getElem? e)
theorem rdrd (t : List (List Int)) (a b : Int) : rd (t.getD a.toNat []) b = tm t a b := rfl
theorem impl_at_host (t : List (List Int)) (a : Int) : impl_at.f a (t.length : Int) = some (hostB t a) := impl_at_eq _ _
theorem impl_TimeOver_ev (t : List (List Int)) (a r b : Int) (hr : ∀ r ∈ t, r.length ≤ 1048576) : Ev (fun k => impl_TimeOver.f k t a r b) (overV t a r b) := by
  unfold impl_TimeOver.f
  refine Ev.bind (impl_IsTimes_ev t hr) ?_
  by_cases ht : timesB t = true
  · refine evPos ht (evSome (impl_at_host t a) ?_)
    by_cases ha : hostB t a = true
    · refine evPos ha (evSome (impl_at_host t r) ?_)
      by_cases hh : hostB t r = true
      · refine evPos hh (evSome (impl_at_host t b) ?_)
        by_cases hb : hostB t b = true
        · have ra := times_row ht ha
          have rr := times_row ht hh
          have ta := tm_range (b := r) ht ha
          have tr := tm_range (b := b) ht hh
          have ha' := ha
          have hh' := hh
          have hb' := hb
          simp only [hostB, decide_eq_true_eq] at ha' hh' hb'
          refine evPos hb ?_
          simp only [rd_L2, rdrd]
          refine evPos ha'.1 (evPos ha'.2 (evPos hh'.1 (evPos (by omega) ?_)))
          by_cases h1 : tm t a r < 0
          · refine evPos (by omega) (evEq ?_ (Ev.now _))
            simp [overV, h1]
          · refine evNeg (by omega) (evPos hh'.2 (evPos hb'.1 (evPos (by omega) ?_)))
            by_cases h2 : tm t r b < 0
            · refine evPos (by omega) (evEq ?_ (Ev.now _))
              simp [overV, h2]
            · refine evNeg (by omega) (evEq ?_ (Ev.now _))
              rw [w64 (by omega) (by omega)]
              simp [overV, h1, h2, ht, ha, hb, hh]
        · refine evNeg hb (evEq ?_ (Ev.now _))
          simp [overV, hb]
      · refine evNeg hh (evEq ?_ (Ev.now _))
        simp [overV, hh]
    · refine evNeg ha (evEq ?_ (Ev.now _))
      simp [overV, ha]
  · refine evNeg ht (evEq ?_ (Ev.now _))
    simp [overV, ht]
/-! ### bestrelay -/
def bestS (t : List (List Int)) (a b : Int) (best r : Int) : Int := if r = a ∨ r = b ∨ overV t a r b < 0 then best else if best < 0 ∨ overV t a r b < overV t a best b then r else best
def bestF (t : List (List Int)) (a b : Int) : Nat → Nat → Int → Int
  | 0, _, best => best
  | d + 1, r, best => bestF t a b d (r + 1) (bestS t a b best (r : Int))
def bestV (t : List (List Int)) (a b : Int) : Int := bestF t a b t.length 0 (-1)
theorem impl_BestRelay_l0 (t : List (List Int)) (a b : Int) (hl : t.length ≤ 1048576) (hr : ∀ r ∈ t, r.length ≤ 1048576) : ∀ (d r : Nat) (best : Int), r + d = t.length →
    Ev (fun k => impl_BestRelay.l0 k t a b best (t.length : Int) (r : Int)) (bestF t a b d r best) := by
  intro d
  induction d with
  | zero =>
    intro r best e
    refine Ev.step (fun k => by rw [impl_BestRelay.l0]) ?_
    exact evNeg (by omega) (Ev.now _)
  | succ d ih =>
    intro r best e
    have step : ∀ c : Bool, c = decide ((r : Int) = a ∨ (r : Int) = b) → Ev (fun k => impl_BestRelay.j1 k t a b best (r : Int) (t.length : Int) (r : Int) c) (bestF t a b (d + 1) r best) := by
      intro c hc
      refine Ev.step (fun k => by rw [impl_BestRelay.j1]) ?_
      rw [wsucc (by omega)]
      by_cases h : (r : Int) = a ∨ (r : Int) = b
      · refine evPos (by rw [hc]; exact decide_eq_true h) (evEq ?_ (ih (r + 1) best (by omega)))
        rw [bestF, bestS, if_pos (by rcases h with h | h <;> simp [h])]
      · have hno : ¬ ((r : Int) = a ∨ (r : Int) = b ∨ overV t a r b < 0) ↔ ¬ overV t a r b < 0 := by
          constructor
          · exact fun c c2 => c (.inr (.inr c2))
          · rintro c (c2 | c2 | c2)
            · exact h (.inl c2)
            · exact h (.inr c2)
            · exact c c2
        refine evNeg (by rw [hc]; simpa using h) (Ev.bind (impl_TimeOver_ev t a r b hr) ?_)
        by_cases h0 : overV t a r b < 0
        · refine evNeg (by omega) (evEq ?_ (ih (r + 1) best (by omega)))
          rw [bestF, bestS, if_pos (.inr (.inr h0))]
        · refine evPos (by omega) ?_
          by_cases hb : best < 0
          · refine evPos hb (evEq ?_ (ih (r + 1) r (by omega)))
            rw [bestF, bestS, if_neg (hno.2 h0), if_pos (.inl hb)]
          · refine evNeg hb (Ev.bind (impl_TimeOver_ev t a best b hr) ?_)
            by_cases hc2 : overV t a r b < overV t a best b
            · refine evPos hc2 (evEq ?_ (ih (r + 1) r (by omega)))
              rw [bestF, bestS, if_neg (hno.2 h0), if_pos (.inr hc2)]
            · refine evNeg hc2 (evEq ?_ (ih (r + 1) best (by omega)))
              rw [bestF, bestS, if_neg (hno.2 h0), if_neg (fun c2 => c2.elim hb hc2)]
    refine Ev.step (fun k => by rw [impl_BestRelay.l0]) ?_
    refine evPos (by omega) ?_
    by_cases ha : (r : Int) = a
    · exact evPos ha (step true (by simp [ha]))
    · refine evNeg ha (step _ ?_)
      by_cases hb : (r : Int) = b
      · simp [hb]
      · simp [ha, hb]
theorem impl_BestRelay_ev (t : List (List Int)) (a b : Int) (hl : t.length ≤ 1048576) (hr : ∀ r ∈ t, r.length ≤ 1048576) : Ev (fun k => impl_BestRelay.f k t a b) (bestV t a b) := by
  unfold impl_BestRelay.f
  exact impl_BestRelay_l0 t a b hl hr t.length 0 (-1) (by omega)
/-! ### gain -/
theorem bestF_inv (t : List (List Int)) (a b : Int) : ∀ (d r : Nat) (best : Int), (best = -1 ∨ 0 ≤ best ∧ best ≠ a ∧ best ≠ b ∧ 0 ≤ overV t a best b) → (bestF t a b d r best = -1 ∨ 0 ≤ bestF t a b d r best ∧ bestF t a b d r best ≠ a ∧ bestF t a b d r best ≠ b ∧ 0 ≤ overV t a (bestF t a b d r best) b)
  | 0, _, _, h => h
  | d + 1, r, best, h => by
    rw [bestF]
    refine bestF_inv t a b d (r + 1) _ ?_
    unfold bestS
    split
    · exact h
    · rename_i h1
      split
      · refine .inr ⟨by omega, fun c => h1 (.inl c), fun c => h1 (.inr (.inl c)), ?_⟩
        have : ¬ overV t a r b < 0 := fun c => h1 (.inr (.inr c))
        omega
      · exact h
theorem bestV_inv (t : List (List Int)) (a b : Int) : bestV t a b = -1 ∨ 0 ≤ bestV t a b ∧ bestV t a b ≠ a ∧ bestV t a b ≠ b ∧ 0 ≤ overV t a (bestV t a b) b := bestF_inv t a b _ _ _ (.inl rfl)
theorem overV_pos {t : List (List Int)} {a r b : Int} (h : 0 ≤ overV t a r b) : timesB t = true ∧ hostB t a = true ∧ hostB t r = true ∧ hostB t b = true ∧ 0 ≤ tm t a r ∧ 0 ≤ tm t r b ∧ overV t a r b = tm t a r + tm t r b := by
  unfold overV at h ⊢
  split at h
  · rename_i h1
    rw [if_pos h1]
    exact ⟨h1.1, h1.2.1, h1.2.2.1, h1.2.2.2.1, by omega, by omega, rfl⟩
  · omega
def gainV (t : List (List Int)) (a b : Int) : Int := if bestV t a b < 0 then 0 else if tm t a b < 0 then 100000 else if tm t a b - overV t a (bestV t a b) b < 0 then 0 else tm t a b - overV t a (bestV t a b) b
theorem impl_Gain_ev (t : List (List Int)) (a b : Int) (hl : t.length ≤ 1048576) (hr : ∀ r ∈ t, r.length ≤ 1048576) : Ev (fun k => impl_Gain.f k t a b) (gainV t a b) := by
  unfold impl_Gain.f
  have no : ¬ (timesB t = true ∧ hostB t a = true ∧ hostB t b = true) → Ev (fun k => impl_Gain.j0 k t a b true) (gainV t a b) := by
    intro c
    refine Ev.step (fun k => by rw [impl_Gain.j0]) (evPos rfl (evEq ?_ (Ev.now _)))
    have : bestV t a b < 0 := by
      rcases bestV_inv t a b with hb | ⟨_, _, _, hb⟩
      · omega
      · obtain ⟨ht, ha, hq, hbb, p1, p2, e⟩ := overV_pos hb
        exact absurd ⟨ht, ha, hbb⟩ c
    simp [gainV, this]
  refine Ev.bind (impl_IsTimes_ev t hr) ?_
  by_cases ht : timesB t = true
  · refine evPos ht (evSome (impl_at_host t a) ?_)
    by_cases ha : hostB t a = true
    · refine evPos ha (evSome (impl_at_host t b) ?_)
      by_cases hb : hostB t b = true
      · rw [hb]
        refine Ev.step (fun k => by rw [impl_Gain.j0]) (evNeg (by simp) (Ev.bind (impl_BestRelay_ev t a b hl hr) ?_))
        by_cases h0 : bestV t a b < 0
        · refine evPos h0 (evEq ?_ (Ev.now _))
          simp [gainV, h0]
        · refine evNeg h0 ?_
          rcases bestV_inv t a b with hbv | ⟨_, _, _, hbv⟩
          · omega
          obtain ⟨_, _, hq, _, p1, p2, e⟩ := overV_pos hbv
          have ra := times_row ht ha
          have rq := tm_range (b := bestV t a b) ht ha
          have rq2 := tm_range (b := b) ht hq
          have rab := tm_range (b := b) ht ha
          simp only [hostB, decide_eq_true_eq] at ha hb
          simp only [rd_L2, rdrd]
          refine evPos ha.1 (evPos ha.2 (evPos hb.1 (evPos (by omega) ?_)))
          by_cases h1 : tm t a b < 0
          · refine evPos (by omega) (evEq ?_ (Ev.now _))
            simp [gainV, h0, h1]
          · refine evNeg (by omega) (Ev.bind (impl_TimeOver_ev t a _ b hr) (evEq ?_ (Ev.now _)))
            rw [w64 (by omega) (by omega)]
            simp only [gainV, h0, h1, if_false]
            unfold mx
            split <;> split <;> omega
      · have e : hostB t b = false := by simpa using hb
        rw [e]
        exact no (fun c => hb c.2.2)
    · exact evNeg ha (no (fun c => ha c.2.1))
  · exact evNeg ht (no (fun c => ht c.1))
/-! ### clone -/
theorem clone_eq (l : List Int) (hl : l.length ≤ 1048576) : slices_Clone_int_int.f l = some l := by
  unfold slices_Clone_int_int.f
  simp
  omega
/-! ### ibest -/
/-- The best time with at most one relay. -/
def cellV (t : List (List Int)) (a b : Int) : Int := if 0 ≤ overV t a (bestV t a b) b ∧ (tm t a b < 0 ∨ overV t a (bestV t a b) b < tm t a b) then overV t a (bestV t a b) b else tm t a b
def mixC (t : List (List Int)) (a b i j : Nat) : Int := if i < a ∨ i = a ∧ j < b then cellV t i j else tm t i j
def mixV (t : List (List Int)) (a b : Nat) : List (List Int) := (List.range t.length).map fun i => (List.range t.length).map fun j => mixC t a b i j
def btV (t : List (List Int)) : List (List Int) := if timesB t = true then mixV t t.length 0 else []
theorem mixV_length (t : List (List Int)) (a b : Nat) : (mixV t a b).length = t.length := by simp [mixV]
theorem mixV_row (t : List (List Int)) (a b i : Nat) (hi : i < t.length) : (mixV t a b).getD i [] = (List.range t.length).map fun j => mixC t a b i j := by
  simp [mixV, hi]
theorem mixV_cell (t : List (List Int)) (a b i j : Nat) (hi : i < t.length) (hj : j < t.length) : ((mixV t a b).getD i []).getD j 0 = mixC t a b i j := by
  rw [mixV_row t a b i hi]
  simp [hj]
theorem mixV_next (t : List (List Int)) (a : Nat) : mixV t a t.length = mixV t (a + 1) 0 := by
  unfold mixV
  refine List.map_congr_left fun i hi => List.map_congr_left fun j hj => ?_
  rw [List.mem_range] at hi hj
  unfold mixC
  by_cases c : i < a ∨ i = a ∧ j < t.length
  · rw [if_pos c, if_pos (by omega)]
  · rw [if_neg c, if_neg (by omega)]
theorem mixV_same (t : List (List Int)) (a b : Nat) (h : cellV t a b = tm t a b) : mixV t a b = mixV t a (b + 1) := by
  unfold mixV
  refine List.map_congr_left fun i hi => List.map_congr_left fun j hj => ?_
  unfold mixC
  by_cases c : i = a ∧ j = b
  · obtain ⟨rfl, rfl⟩ := c
    rw [if_neg (by omega), if_pos (by omega), h]
  · by_cases c2 : i < a ∨ i = a ∧ j < b
    · rw [if_pos c2, if_pos (by omega)]
    · rw [if_neg c2, if_neg (by omega)]
theorem mixV_set (t : List (List Int)) (a b : Nat) (ha : a < t.length) (hb : b < t.length) : (mixV t a b).set a (((mixV t a b).getD a []).set b (cellV t a b)) = mixV t a (b + 1) := by
  rw [mixV_row t a b a ha]
  apply List.ext_getElem
  · simp [mixV]
  · intro i h1 h2
    have hi : i < t.length := by simpa [mixV] using h2
    rw [List.getElem_set]
    by_cases e : a = i
    · rw [if_pos e]
      subst e
      apply List.ext_getElem
      · simp [mixV]
      · intro j g1 g2
        have hj : j < t.length := by simpa using g1
        rw [List.getElem_set]
        by_cases e2 : b = j
        · rw [if_pos e2]
          subst e2
          simp [mixV, mixC]
        · rw [if_neg e2]
          simp only [mixV, mixC, List.getElem_map, List.getElem_range]
          by_cases c : j < b
          · have c2 : j < b + 1 := by omega
            simp [c, c2]
          · have c2 : ¬ j < b + 1 := by omega
            simp [c, c2]
    · rw [if_neg e]
      simp only [mixV, List.getElem_map, List.getElem_range]
      refine List.map_congr_left fun j hj => ?_
      unfold mixC
      by_cases c : i < a ∨ i = a ∧ j < b
      · rw [if_pos c, if_pos (by omega)]
      · rw [if_neg c, if_neg (by omega)]
theorem mixV_start (t : List (List Int)) (ht : timesB t = true) : mixV t 0 0 = t := by
  apply List.ext_getElem
  · simp [mixV]
  · intro i h1 h2
    have hrow := times_row ht (a := (i : Int)) (by simp [hostB, h2])
    have hg : t.getD ((i : Int).toNat) [] = t[i] := by simp [h2]
    rw [hg] at hrow
    simp only [mixV, List.getElem_map, List.getElem_range]
    apply List.ext_getElem
    · simp [hrow.1]
    · intro j g1 g2
      simp only [List.getElem_map, List.getElem_range, mixC]
      rw [if_neg (by omega)]
      simp [tm, h2, g2]
theorem copyRows_l0 : ∀ (suf pre : List (List Int)), (pre ++ suf).length ≤ 1048576 → (∀ r ∈ suf, r.length ≤ 1048576) →
    Ev (fun k => impl_copyRows.l0 k pre (pre ++ suf) ((pre ++ suf).length : Int) (pre.length : Int)) (pre ++ suf) := by
  intro suf
  induction suf with
  | nil =>
    intro pre hb hr
    refine Ev.step (fun k => by rw [impl_copyRows.l0]) (evNeg (by simp) (evEq (by simp) (Ev.now _)))
  | cons y suf ih =>
    intro pre hb hr
    have hb' := hb
    simp only [List.length_append, List.length_cons] at hb
    refine Ev.step (fun k => by rw [impl_copyRows.l0]) ?_
    refine evPos (by simp only [List.length_append, List.length_cons]; omega) (evPos (by omega) (evPos (by simp only [List.length_append, List.length_cons]; omega) ?_))
    rw [rd_L2, getD_mid, wsucc (by omega)]
    refine evSome (clone_eq y (hr y (by simp))) (evPos (by omega) ?_)
    have h := ih (pre ++ [y]) (by simpa using hb') (fun r h => hr r (by simp [h]))
    simpa using h
theorem copyRows_ev (l : List (List Int)) (hl : l.length ≤ 1048576) (hr : ∀ r ∈ l, r.length ≤ 1048576) : Ev (fun k => impl_copyRows.f k l) l := by
  have h := copyRows_l0 l [] (by simpa using hl) hr
  simpa [impl_copyRows.f] using h
theorem impl_BestTimes_l1 (t : List (List Int)) (hl : t.length ≤ 1048576) (hr : ∀ r ∈ t, r.length ≤ 1048576) (a : Nat) (ha : a < t.length) (R : List (List Int))
    (hk : Ev (fun k => impl_BestTimes.l0 k t (mixV t (a + 1) 0) (t.length : Int) ((a + 1 : Nat) : Int)) R) : ∀ (d b : Nat), b + d = t.length →
    Ev (fun k => impl_BestTimes.l1 k t (mixV t a b) (a : Int) (t.length : Int) (a : Int) (t.length : Int) (b : Int)) R := by
  intro d
  induction d with
  | zero =>
    intro b e
    obtain rfl : b = t.length := by omega
    refine Ev.step (fun k => by rw [impl_BestTimes.l1]) (evNeg (by omega) ?_)
    rw [wsucc (by omega), mixV_next]
    exact hk
  | succ d ih =>
    intro b e
    have hn := ih (b + 1) (by omega)
    have hb : b < t.length := by omega
    have ec : rd (rd_L2 (mixV t a b) (a : Int)) (b : Int) = tm t a b := by
      have h := mixV_cell t a b a b ha hb
      rw [mixC, if_neg (by omega)] at h
      exact h
    have erow : (rd_L2 (mixV t a b) (a : Int)).length = t.length := by
      have h := mixV_row t a b a ha
      have e2 : rd_L2 (mixV t a b) (a : Int) = (mixV t a b).getD a [] := rfl
      rw [e2, h]
      simp
    refine Ev.step (fun k => by rw [impl_BestTimes.l1]) (evPos (by omega) (Ev.bind (impl_BestRelay_ev t a b hl hr) (Ev.bind (impl_TimeOver_ev t a (bestV t a b) b hr) ?_)))
    rw [wsucc (by omega)]
    have hset : 0 ≤ overV t a (bestV t a b) b ∧ (tm t a b < 0 ∨ overV t a (bestV t a b) b < tm t a b) → (mixV t a b).set ((a : Int)).toNat ((rd_L2 (mixV t a b) (a : Int)).set ((b : Int)).toNat (overV t a (bestV t a b) b)) = mixV t a (b + 1) := fun c => by
      have h := mixV_set t a b ha hb
      rw [cellV, if_pos c] at h
      exact h
    have hkeep : ¬ (0 ≤ overV t a (bestV t a b) b ∧ (tm t a b < 0 ∨ overV t a (bestV t a b) b < tm t a b)) → mixV t a b = mixV t a (b + 1) := fun c => mixV_same t a b (by rw [cellV, if_neg c])
    by_cases c0 : overV t a (bestV t a b) b ≥ 0
    · refine evPos c0 (evPos (by omega) (evPos (by rw [mixV_length]; omega) (evPos (by omega) (evPos (by rw [erow]; omega) ?_))))
      rw [ec]
      by_cases c1 : tm t a b < 0
      · refine evPos c1 ?_
        rw [hset ⟨c0, .inl c1⟩]
        exact hn
      · by_cases c2 : overV t a (bestV t a b) b < tm t a b
        · refine evNeg c1 (evPos c2 ?_)
          rw [hset ⟨c0, .inr c2⟩]
          exact hn
        · refine evNeg c1 (evNeg c2 ?_)
          rw [hkeep (fun h => by omega)]
          exact hn
    · refine evNeg c0 ?_
      rw [hkeep (fun h => by omega)]
      exact hn
theorem impl_BestTimes_l0 (t : List (List Int)) (hl : t.length ≤ 1048576) (hr : ∀ r ∈ t, r.length ≤ 1048576) : ∀ (d a : Nat), a + d = t.length →
    Ev (fun k => impl_BestTimes.l0 k t (mixV t a 0) (t.length : Int) (a : Int)) (mixV t t.length 0) := by
  intro d
  induction d with
  | zero =>
    intro a e
    obtain rfl : a = t.length := by omega
    exact Ev.step (fun k => by rw [impl_BestTimes.l0]) (evNeg (by omega) (Ev.now _))
  | succ d ih =>
    intro a e
    refine Ev.step (fun k => by rw [impl_BestTimes.l0]) ?_
    exact evPos (by omega) (impl_BestTimes_l1 t hl hr a (by omega) _ (ih (a + 1) (by omega)) t.length 0 (by omega))
theorem impl_BestTimes_ev (t : List (List Int)) (hl : t.length ≤ 1048576) (hr : ∀ r ∈ t, r.length ≤ 1048576) : Ev (fun k => impl_BestTimes.f k t) (btV t) := by
  unfold impl_BestTimes.f btV
  refine Ev.bind (impl_IsTimes_ev t hr) ?_
  by_cases c : timesB t = true
  · rw [if_pos c]
    refine evPos c (Ev.bind (copyRows_ev t hl hr) ?_)
    have h := impl_BestTimes_l0 t hl hr t.length 0 (by omega)
    rw [mixV_start t c] at h
    exact h
  · rw [if_neg c]
    exact evNeg c (Ev.now _)
theorem bestF_min (t : List (List Int)) (a b : Int) : ∀ (d r : Nat) (best : Int), (∀ k : Nat, k < r → ¬ (k : Int) = a → ¬ (k : Int) = b → 0 ≤ overV t a k b → 0 ≤ best ∧ overV t a best b ≤ overV t a k b) →
    ∀ k : Nat, k < r + d → ¬ (k : Int) = a → ¬ (k : Int) = b → 0 ≤ overV t a k b → 0 ≤ bestF t a b d r best ∧ overV t a (bestF t a b d r best) b ≤ overV t a k b
  | 0, _, _, h => h
  | d + 1, r, best, h => by
    rw [bestF]
    have ih := bestF_min t a b d (r + 1) (bestS t a b best (r : Int)) (fun k hk ha hb ho => by
      unfold bestS
      by_cases e : k = r
      · subst e
        rw [if_neg (by omega)]
        split
        · exact ⟨by omega, Int.le_refl _⟩
        · omega
      · have hp := h k (by omega) ha hb ho
        split
        · exact hp
        · split
          · exact ⟨by omega, by omega⟩
          · exact hp)
    intro k hk
    exact ih k (by omega)
theorem bestV_min (t : List (List Int)) (a b : Int) (k : Nat) (hk : k < t.length) (ha : ¬ (k : Int) = a) (hb : ¬ (k : Int) = b) (ho : 0 ≤ overV t a k b) : 0 ≤ bestV t a b ∧ overV t a (bestV t a b) b ≤ overV t a k b :=
  bestF_min t a b t.length 0 (-1) (fun k hk => by omega) k (by omega) ha hb ho
/-! ### law_FnOverlays -/
theorem rd_btV (t : List (List Int)) (ht : timesB t = true) (a b : Nat) (ha : a < t.length) (hb : b < t.length) : rd (rd_L2 (btV t) (a : Int)) (b : Int) = cellV t a b := by
  have h := mixV_cell t t.length 0 a b ha hb
  rw [mixC, if_pos (.inl ha)] at h
  unfold btV
  rw [if_pos ht]
  exact h
theorem row_btV (t : List (List Int)) (ht : timesB t = true) (a : Nat) (ha : a < t.length) : (rd_L2 (btV t) (a : Int)).length = t.length := by
  have h := mixV_row t t.length 0 a ha
  unfold btV
  rw [if_pos ht]
  have e2 : rd_L2 (mixV t t.length 0) (a : Int) = (mixV t t.length 0).getD a [] := rfl
  rw [e2, h]
  simp
theorem len_btV (t : List (List Int)) (ht : timesB t = true) : (btV t).length = t.length := by
  unfold btV
  rw [if_pos ht, mixV_length]
/-! ### own -/
/-- A row that a call made: its blocks are those between the two worlds. -/
theorem S_fresh {α : Type} {d : Kd α} {e : Nat} {w w2 W w3 : World} {v : Value} {xs : List α} (h0 : Below w.heap.size w w2) (h1 : Below w2.heap.size w2 W) (ho : Kd.S d e w3 W.heap.size (fun _ => True) v xs) (hb : Below W.heap.size W w3) : Kd.S d e w3 w.heap.size (fun k => w2.heap.size ≤ k ∧ k < w3.heap.size) v xs :=
  Kd.S_lower (Kd.S_mono (Kd.S_bound ho) (fun k hk => ⟨Nat.le_trans h1.size hk.2.1, hk.2.2.1⟩)) (Nat.le_trans h0.size h1.size)
theorem R_fresh {α : Type} {d : Kd α} {e : Nat} {w w2 W w3 : World} {v : Value} {xs : List α} (h0 : Below w.heap.size w w2) (h1 : Below w2.heap.size w2 W) (ho : Kd.R d e w3 W.heap.size (fun _ => True) v xs) (hb : Below W.heap.size W w3) : Kd.R d e w3 w.heap.size (fun k => w2.heap.size ≤ k ∧ k < w3.heap.size) v xs :=
  Kd.R_lower (Kd.R_mono (Kd.R_bound ho) (fun k hk => ⟨Nat.le_trans h1.size hk.2.1, hk.2.2.1⟩)) (Nat.le_trans h0.size h1.size)
/-- A flat row that was written and comes back: its blocks are the same. -/
theorem R_tight' {α β : Type} {d : Kd α} {d' : Kd β} {e e' : Nat} {w w' : World} {b b' : Nat} {ok ok' : Nat → Prop} {v : Value} {xs : List α} {ys : List β} (hE : d.E = []) (h : Kd.R d e w b ok v xs) (h' : Kd.R d' e' w' b' ok' v ys) : Kd.R d e w b ok' v xs :=
  Kd.R_mono (Kd.R_tight hE h) (fun k hk => h'.1 k hk.symm)
theorem calls_cast {P : Program} {f : Nat} {args args' : Array Value} {w : World} {Q : Ending → World → Prop} (h : args = args') (hc : Calls P f args w Q) : Calls P f args' w Q := h ▸ hc
/-! ### ovreg -/
def findReg (n : Nat) : Code → Option Code
  | .region id ops d => if id = n then some (.region id ops d) else none
  | .seq a b => match findReg n a with
    | some c => some c
    | none => findReg n b
  | .block _ c => findReg n c
  | .loop c => findReg n c
  | .cond _ a b => match findReg n a with
    | some c => some c
    | none => findReg n b
  | _ => none
noncomputable def ovReg : Code := (Try.f4.body.bind (findReg 17)).getD .skip
set_option maxHeartbeats 8000000 in
set_option maxRecDepth 100000 in
theorem ovReg_pp (K : Act → World → Prop) (Q : Exit → Act → World → Prop) (ad1 ad2 ad1i ad2i : Addr) (n1 c1 n2 c2 m1 m2 d1_ d2_ a b : Nat) (g r m c : Int) (s0 s1 s2 s9 s10 s11 s12 s13 s14 s15 s16 s17 s18 s19 s20 s21 s22 s23 s24 s25 s26 s27 s28 s29 s30 s31 s32 s33 s34 s35 s36 s37 s38 s39 s40 s41 s42 s43 s44 s45 s46 s47 s48 s49 s50 s51 s52 s53 s54 s55 s56 s57 s58 s59 s60 s61 s62 s63 s64 s65 s66 s67 s68 s69 s70 s71 s72 s73 s74 s75 s76 s77 s78 s79 s80 s81 s82 s83 s84 s85 s86 s87 s88 s89 s90 s91 s92 s93 s94 s95 s96 s97 s98 s99 s100 s101 s102 s103 s104 s105 s106 s107 s108 s109 s110 s111 s112 s113 s114 s115 s116 s117 s118 s119 s120 s121 s122 s123 s124 s125 s126 s127 s128 s129 s130 s131 s132 s133 s134 s135 s136 s137 s138 s139 s140 s141 s142 s143 s144 s145 s146 s147 s148 s149 s150 s151 s152 s153 s154 s155 s156 s157 s158 s159 s160 s161 s162 s163 s164 s165 s166 s167 s168 s169 s170 s171 s172 s173 s174 s175 : Value) (w : World) (h11 : w.cell? (ad1.add a) = some (.slice (some ad1i) m1 d1_)) (h12 : w.cell? (ad1i.add b) = some (.int .i64 m)) (h21 : w.cell? (ad2.add a) = some (.slice (some ad2i) m2 d2_)) (h22 : w.cell? (ad2i.add b) = some (.int .i64 c)) (q1 : (a : Int) < (n1 : Int)) (q2 : (a : Int) < (n2 : Int)) (q3 : (b : Int) < (m1 : Int)) (q4 : (b : Int) < (m2 : Int)) (e3 : (r == (a : Int)) = false) (e4 : (r == (b : Int)) = false) (d0 : decide (0 ≤ r) = true) (d1 : decide (0 ≤ m) = true) (d2 : decide (c < 0) = false) (d3 : decide (m < c) = false) (d4 : IntKind.i64.wrap (m - c) = m - c) (d5 : ((m - c) != g) = false)
    (hK : ∀ (v48 v49 v50 v51 v52 v53 v54 v55 v56 v57 v58 v59 v60 v61 v62 v63 v64 v65 v66 v67 v68 v69 v70 v71 v72 v73 v74 v75 v76 v77 v78 v79 v80 v81 v82 v83 v84 v85 v86 v87 v88 v89 v90 v91 v92 v93 v94 v95 v96 v97 v98 v99 v100 v101 v102 v103 v104 v105 v106 v107 v108 v109 v110 v111 v112 v113 v114 v115 v116 v117 v118 v119 v120 v121 v122 : Value) (n : Nat), K ⟨#[s0, s1, s2, (.slice (some ad1) n1 c1), (.slice (some ad2) n2 c2), (.int .i64 (a : Int)), (.int .i64 (b : Int)), (.int .i64 g), (.int .i64 r), s9, s10, s11, s12, s13, s14, s15, s16, s17, s18, s19, s20, s21, s22, s23, s24, s25, s26, s27, s28, s29, s30, s31, s32, s33, s34, s35, s36, s37, s38, s39, s40, s41, s42, s43, s44, s45, s46, s47, v48, v49, v50, v51, v52, v53, v54, v55, v56, v57, v58, v59, v60, v61, v62, v63, v64, v65, v66, v67, v68, v69, v70, v71, v72, v73, v74, v75, v76, v77, v78, v79, v80, v81, v82, v83, v84, v85, v86, v87, v88, v89, v90, v91, v92, v93, v94, v95, v96, v97, v98, v99, v100, v101, v102, v103, v104, v105, v106, v107, v108, v109, v110, v111, v112, v113, v114, v115, v116, v117, v118, v119, v120, v121, v122, (.bool false), s124, s125, s126, s127, s128, s129, s130, s131, s132, s133, s134, s135, s136, s137, s138, s139, s140, s141, s142, s143, s144, s145, s146, s147, s148, s149, s150, s151, s152, s153, s154, s155, s156, s157, s158, s159, s160, s161, s162, s163, s164, s165, s166, s167, s168, s169, s170, s171, s172, s173, s174, s175], []⟩ (w.drewN n)) :
    Code.wp Try.prog ovReg (Exit.then K Q) ⟨#[s0, s1, s2, (.slice (some ad1) n1 c1), (.slice (some ad2) n2 c2), (.int .i64 (a : Int)), (.int .i64 (b : Int)), (.int .i64 g), (.int .i64 r), s9, s10, s11, s12, s13, s14, s15, s16, s17, s18, s19, s20, s21, s22, s23, s24, s25, s26, s27, s28, s29, s30, s31, s32, s33, s34, s35, s36, s37, s38, s39, s40, s41, s42, s43, s44, s45, s46, s47, s48, s49, s50, s51, s52, s53, s54, s55, s56, s57, s58, s59, s60, s61, s62, s63, s64, s65, s66, s67, s68, s69, s70, s71, s72, s73, s74, s75, s76, s77, s78, s79, s80, s81, s82, s83, s84, s85, s86, s87, s88, s89, s90, s91, s92, s93, s94, s95, s96, s97, s98, s99, s100, s101, s102, s103, s104, s105, s106, s107, s108, s109, s110, s111, s112, s113, s114, s115, s116, s117, s118, s119, s120, s121, s122, s123, s124, s125, s126, s127, s128, s129, s130, s131, s132, s133, s134, s135, s136, s137, s138, s139, s140, s141, s142, s143, s144, s145, s146, s147, s148, s149, s150, s151, s152, s153, s154, s155, s156, s157, s158, s159, s160, s161, s162, s163, s164, s165, s166, s167, s168, s169, s170, s171, s172, s173, s174, s175], []⟩ w := by
  have hu22 := Try.underlying22
  have hu23 := Try.underlying23
  conv => arg 2; whnf
  (try dsimp only [List.append])
  refine wp_region_quiet_lit (by kernel_rfl) (by kernel_rfl) ?_
  repeat (go_big_quiet_step (fail))
  refine wpQuiet_nil ?_
  intro _ hw'
  obtain ⟨nq, hw''⟩ := hw'
  subst hw''
  exact hK _ _ _ _ _ _ _ _ _ _ _ _ _ _ _ _ _ _ _ _ _ _ _ _ _ _ _ _ _ _ _ _ _ _ _ _ _ _ _ _ _ _ _ _ _ _ _ _ _ _ _ _ _ _ _ _ _ _ _ _ _ _ _ _ _ _ _ _ _ _ _ _ _ _ _ _
set_option maxHeartbeats 8000000 in
set_option maxRecDepth 100000 in
theorem ovReg_np (K : Act → World → Prop) (Q : Exit → Act → World → Prop) (ad1 ad2 ad1i ad2i : Addr) (n1 c1 n2 c2 m1 m2 d1_ d2_ a b : Nat) (g r m c : Int) (s0 s1 s2 s9 s10 s11 s12 s13 s14 s15 s16 s17 s18 s19 s20 s21 s22 s23 s24 s25 s26 s27 s28 s29 s30 s31 s32 s33 s34 s35 s36 s37 s38 s39 s40 s41 s42 s43 s44 s45 s46 s47 s48 s49 s50 s51 s52 s53 s54 s55 s56 s57 s58 s59 s60 s61 s62 s63 s64 s65 s66 s67 s68 s69 s70 s71 s72 s73 s74 s75 s76 s77 s78 s79 s80 s81 s82 s83 s84 s85 s86 s87 s88 s89 s90 s91 s92 s93 s94 s95 s96 s97 s98 s99 s100 s101 s102 s103 s104 s105 s106 s107 s108 s109 s110 s111 s112 s113 s114 s115 s116 s117 s118 s119 s120 s121 s122 s123 s124 s125 s126 s127 s128 s129 s130 s131 s132 s133 s134 s135 s136 s137 s138 s139 s140 s141 s142 s143 s144 s145 s146 s147 s148 s149 s150 s151 s152 s153 s154 s155 s156 s157 s158 s159 s160 s161 s162 s163 s164 s165 s166 s167 s168 s169 s170 s171 s172 s173 s174 s175 : Value) (w : World) (h11 : w.cell? (ad1.add a) = some (.slice (some ad1i) m1 d1_)) (h12 : w.cell? (ad1i.add b) = some (.int .i64 m)) (h21 : w.cell? (ad2.add a) = some (.slice (some ad2i) m2 d2_)) (h22 : w.cell? (ad2i.add b) = some (.int .i64 c)) (q1 : (a : Int) < (n1 : Int)) (q2 : (a : Int) < (n2 : Int)) (q3 : (b : Int) < (m1 : Int)) (q4 : (b : Int) < (m2 : Int)) (e3 : (r == (a : Int)) = false) (e4 : (r == (b : Int)) = false) (d0 : decide (0 ≤ r) = false) (d1 : decide (0 ≤ m) = true) (d2 : decide (c < 0) = false) (d3 : decide (m < c) = false) (d4 : IntKind.i64.wrap (m - c) = m - c) (d5 : ((m - c) != g) = false)
    (hK : ∀ (v48 v49 v50 v51 v52 v53 v54 v55 v56 v57 v58 v59 v60 v61 v62 v63 v64 v65 v66 v67 v68 v69 v70 v71 v72 v73 v74 v75 v76 v77 v78 v79 v80 v81 v82 v83 v84 v85 v86 v87 v88 v89 v90 v91 v92 v93 v94 v95 v96 v97 v98 v99 v100 v101 v102 v103 v104 v105 v106 v107 v108 v109 v110 v111 v112 v113 v114 v115 v116 v117 v118 v119 v120 v121 v122 : Value) (n : Nat), K ⟨#[s0, s1, s2, (.slice (some ad1) n1 c1), (.slice (some ad2) n2 c2), (.int .i64 (a : Int)), (.int .i64 (b : Int)), (.int .i64 g), (.int .i64 r), s9, s10, s11, s12, s13, s14, s15, s16, s17, s18, s19, s20, s21, s22, s23, s24, s25, s26, s27, s28, s29, s30, s31, s32, s33, s34, s35, s36, s37, s38, s39, s40, s41, s42, s43, s44, s45, s46, s47, v48, v49, v50, v51, v52, v53, v54, v55, v56, v57, v58, v59, v60, v61, v62, v63, v64, v65, v66, v67, v68, v69, v70, v71, v72, v73, v74, v75, v76, v77, v78, v79, v80, v81, v82, v83, v84, v85, v86, v87, v88, v89, v90, v91, v92, v93, v94, v95, v96, v97, v98, v99, v100, v101, v102, v103, v104, v105, v106, v107, v108, v109, v110, v111, v112, v113, v114, v115, v116, v117, v118, v119, v120, v121, v122, (.bool false), s124, s125, s126, s127, s128, s129, s130, s131, s132, s133, s134, s135, s136, s137, s138, s139, s140, s141, s142, s143, s144, s145, s146, s147, s148, s149, s150, s151, s152, s153, s154, s155, s156, s157, s158, s159, s160, s161, s162, s163, s164, s165, s166, s167, s168, s169, s170, s171, s172, s173, s174, s175], []⟩ (w.drewN n)) :
    Code.wp Try.prog ovReg (Exit.then K Q) ⟨#[s0, s1, s2, (.slice (some ad1) n1 c1), (.slice (some ad2) n2 c2), (.int .i64 (a : Int)), (.int .i64 (b : Int)), (.int .i64 g), (.int .i64 r), s9, s10, s11, s12, s13, s14, s15, s16, s17, s18, s19, s20, s21, s22, s23, s24, s25, s26, s27, s28, s29, s30, s31, s32, s33, s34, s35, s36, s37, s38, s39, s40, s41, s42, s43, s44, s45, s46, s47, s48, s49, s50, s51, s52, s53, s54, s55, s56, s57, s58, s59, s60, s61, s62, s63, s64, s65, s66, s67, s68, s69, s70, s71, s72, s73, s74, s75, s76, s77, s78, s79, s80, s81, s82, s83, s84, s85, s86, s87, s88, s89, s90, s91, s92, s93, s94, s95, s96, s97, s98, s99, s100, s101, s102, s103, s104, s105, s106, s107, s108, s109, s110, s111, s112, s113, s114, s115, s116, s117, s118, s119, s120, s121, s122, s123, s124, s125, s126, s127, s128, s129, s130, s131, s132, s133, s134, s135, s136, s137, s138, s139, s140, s141, s142, s143, s144, s145, s146, s147, s148, s149, s150, s151, s152, s153, s154, s155, s156, s157, s158, s159, s160, s161, s162, s163, s164, s165, s166, s167, s168, s169, s170, s171, s172, s173, s174, s175], []⟩ w := by
  have hu22 := Try.underlying22
  have hu23 := Try.underlying23
  conv => arg 2; whnf
  (try dsimp only [List.append])
  refine wp_region_quiet_lit (by kernel_rfl) (by kernel_rfl) ?_
  repeat (go_big_quiet_step (fail))
  refine wpQuiet_nil ?_
  intro _ hw'
  obtain ⟨nq, hw''⟩ := hw'
  subst hw''
  exact hK _ _ _ _ _ _ _ _ _ _ _ _ _ _ _ _ _ _ _ _ _ _ _ _ _ _ _ _ _ _ _ _ _ _ _ _ _ _ _ _ _ _ _ _ _ _ _ _ _ _ _ _ _ _ _ _ _ _ _ _ _ _ _ _ _ _ _ _ _ _ _ _ _ _ _ _
set_option maxHeartbeats 8000000 in
set_option maxRecDepth 100000 in
theorem ovReg_pn (K : Act → World → Prop) (Q : Exit → Act → World → Prop) (ad1 ad2 ad1i ad2i : Addr) (n1 c1 n2 c2 m1 m2 d1_ d2_ a b : Nat) (g r m c : Int) (s0 s1 s2 s9 s10 s11 s12 s13 s14 s15 s16 s17 s18 s19 s20 s21 s22 s23 s24 s25 s26 s27 s28 s29 s30 s31 s32 s33 s34 s35 s36 s37 s38 s39 s40 s41 s42 s43 s44 s45 s46 s47 s48 s49 s50 s51 s52 s53 s54 s55 s56 s57 s58 s59 s60 s61 s62 s63 s64 s65 s66 s67 s68 s69 s70 s71 s72 s73 s74 s75 s76 s77 s78 s79 s80 s81 s82 s83 s84 s85 s86 s87 s88 s89 s90 s91 s92 s93 s94 s95 s96 s97 s98 s99 s100 s101 s102 s103 s104 s105 s106 s107 s108 s109 s110 s111 s112 s113 s114 s115 s116 s117 s118 s119 s120 s121 s122 s123 s124 s125 s126 s127 s128 s129 s130 s131 s132 s133 s134 s135 s136 s137 s138 s139 s140 s141 s142 s143 s144 s145 s146 s147 s148 s149 s150 s151 s152 s153 s154 s155 s156 s157 s158 s159 s160 s161 s162 s163 s164 s165 s166 s167 s168 s169 s170 s171 s172 s173 s174 s175 : Value) (w : World) (h11 : w.cell? (ad1.add a) = some (.slice (some ad1i) m1 d1_)) (h12 : w.cell? (ad1i.add b) = some (.int .i64 m)) (h21 : w.cell? (ad2.add a) = some (.slice (some ad2i) m2 d2_)) (h22 : w.cell? (ad2i.add b) = some (.int .i64 c)) (q1 : (a : Int) < (n1 : Int)) (q2 : (a : Int) < (n2 : Int)) (q3 : (b : Int) < (m1 : Int)) (q4 : (b : Int) < (m2 : Int)) (e3 : (r == (a : Int)) = false) (e4 : (r == (b : Int)) = false) (d0 : decide (0 ≤ r) = true) (d1 : decide (0 ≤ m) = false)
    (hK : ∀ (v48 v49 v50 v51 v52 v53 v54 v55 v56 v57 v58 v59 v60 v61 v62 v63 v64 v65 v66 v67 v68 v69 v70 v71 v72 v73 v74 v75 v76 v77 v78 v79 v80 v81 v82 v83 v84 v85 v86 v87 v88 v89 v90 v91 v92 v93 v94 v95 v96 v97 v98 v99 v100 v101 v102 v103 v104 v105 v106 v107 v108 v109 v110 v111 v112 v113 v114 v115 v116 v117 v118 v119 v120 v121 v122 : Value) (n : Nat), K ⟨#[s0, s1, s2, (.slice (some ad1) n1 c1), (.slice (some ad2) n2 c2), (.int .i64 (a : Int)), (.int .i64 (b : Int)), (.int .i64 g), (.int .i64 r), s9, s10, s11, s12, s13, s14, s15, s16, s17, s18, s19, s20, s21, s22, s23, s24, s25, s26, s27, s28, s29, s30, s31, s32, s33, s34, s35, s36, s37, s38, s39, s40, s41, s42, s43, s44, s45, s46, s47, v48, v49, v50, v51, v52, v53, v54, v55, v56, v57, v58, v59, v60, v61, v62, v63, v64, v65, v66, v67, v68, v69, v70, v71, v72, v73, v74, v75, v76, v77, v78, v79, v80, v81, v82, v83, v84, v85, v86, v87, v88, v89, v90, v91, v92, v93, v94, v95, v96, v97, v98, v99, v100, v101, v102, v103, v104, v105, v106, v107, v108, v109, v110, v111, v112, v113, v114, v115, v116, v117, v118, v119, v120, v121, v122, (.bool false), s124, s125, s126, s127, s128, s129, s130, s131, s132, s133, s134, s135, s136, s137, s138, s139, s140, s141, s142, s143, s144, s145, s146, s147, s148, s149, s150, s151, s152, s153, s154, s155, s156, s157, s158, s159, s160, s161, s162, s163, s164, s165, s166, s167, s168, s169, s170, s171, s172, s173, s174, s175], []⟩ (w.drewN n)) :
    Code.wp Try.prog ovReg (Exit.then K Q) ⟨#[s0, s1, s2, (.slice (some ad1) n1 c1), (.slice (some ad2) n2 c2), (.int .i64 (a : Int)), (.int .i64 (b : Int)), (.int .i64 g), (.int .i64 r), s9, s10, s11, s12, s13, s14, s15, s16, s17, s18, s19, s20, s21, s22, s23, s24, s25, s26, s27, s28, s29, s30, s31, s32, s33, s34, s35, s36, s37, s38, s39, s40, s41, s42, s43, s44, s45, s46, s47, s48, s49, s50, s51, s52, s53, s54, s55, s56, s57, s58, s59, s60, s61, s62, s63, s64, s65, s66, s67, s68, s69, s70, s71, s72, s73, s74, s75, s76, s77, s78, s79, s80, s81, s82, s83, s84, s85, s86, s87, s88, s89, s90, s91, s92, s93, s94, s95, s96, s97, s98, s99, s100, s101, s102, s103, s104, s105, s106, s107, s108, s109, s110, s111, s112, s113, s114, s115, s116, s117, s118, s119, s120, s121, s122, s123, s124, s125, s126, s127, s128, s129, s130, s131, s132, s133, s134, s135, s136, s137, s138, s139, s140, s141, s142, s143, s144, s145, s146, s147, s148, s149, s150, s151, s152, s153, s154, s155, s156, s157, s158, s159, s160, s161, s162, s163, s164, s165, s166, s167, s168, s169, s170, s171, s172, s173, s174, s175], []⟩ w := by
  have hu22 := Try.underlying22
  have hu23 := Try.underlying23
  conv => arg 2; whnf
  (try dsimp only [List.append])
  refine wp_region_quiet_lit (by kernel_rfl) (by kernel_rfl) ?_
  repeat (go_big_quiet_step (fail))
  refine wpQuiet_nil ?_
  intro _ hw'
  obtain ⟨nq, hw''⟩ := hw'
  subst hw''
  exact hK _ _ _ _ _ _ _ _ _ _ _ _ _ _ _ _ _ _ _ _ _ _ _ _ _ _ _ _ _ _ _ _ _ _ _ _ _ _ _ _ _ _ _ _ _ _ _ _ _ _ _ _ _ _ _ _ _ _ _ _ _ _ _ _ _ _ _ _ _ _ _ _ _ _ _ _
set_option maxHeartbeats 8000000 in
set_option maxRecDepth 100000 in
theorem ovReg_nn (K : Act → World → Prop) (Q : Exit → Act → World → Prop) (ad1 ad2 ad1i ad2i : Addr) (n1 c1 n2 c2 m1 m2 d1_ d2_ a b : Nat) (g r m c : Int) (s0 s1 s2 s9 s10 s11 s12 s13 s14 s15 s16 s17 s18 s19 s20 s21 s22 s23 s24 s25 s26 s27 s28 s29 s30 s31 s32 s33 s34 s35 s36 s37 s38 s39 s40 s41 s42 s43 s44 s45 s46 s47 s48 s49 s50 s51 s52 s53 s54 s55 s56 s57 s58 s59 s60 s61 s62 s63 s64 s65 s66 s67 s68 s69 s70 s71 s72 s73 s74 s75 s76 s77 s78 s79 s80 s81 s82 s83 s84 s85 s86 s87 s88 s89 s90 s91 s92 s93 s94 s95 s96 s97 s98 s99 s100 s101 s102 s103 s104 s105 s106 s107 s108 s109 s110 s111 s112 s113 s114 s115 s116 s117 s118 s119 s120 s121 s122 s123 s124 s125 s126 s127 s128 s129 s130 s131 s132 s133 s134 s135 s136 s137 s138 s139 s140 s141 s142 s143 s144 s145 s146 s147 s148 s149 s150 s151 s152 s153 s154 s155 s156 s157 s158 s159 s160 s161 s162 s163 s164 s165 s166 s167 s168 s169 s170 s171 s172 s173 s174 s175 : Value) (w : World) (h11 : w.cell? (ad1.add a) = some (.slice (some ad1i) m1 d1_)) (h12 : w.cell? (ad1i.add b) = some (.int .i64 m)) (h21 : w.cell? (ad2.add a) = some (.slice (some ad2i) m2 d2_)) (h22 : w.cell? (ad2i.add b) = some (.int .i64 c)) (q1 : (a : Int) < (n1 : Int)) (q2 : (a : Int) < (n2 : Int)) (q3 : (b : Int) < (m1 : Int)) (q4 : (b : Int) < (m2 : Int)) (e3 : (r == (a : Int)) = false) (e4 : (r == (b : Int)) = false) (d0 : decide (0 ≤ r) = false) (d1 : decide (0 ≤ m) = false)
    (hK : ∀ (v48 v49 v50 v51 v52 v53 v54 v55 v56 v57 v58 v59 v60 v61 v62 v63 v64 v65 v66 v67 v68 v69 v70 v71 v72 v73 v74 v75 v76 v77 v78 v79 v80 v81 v82 v83 v84 v85 v86 v87 v88 v89 v90 v91 v92 v93 v94 v95 v96 v97 v98 v99 v100 v101 v102 v103 v104 v105 v106 v107 v108 v109 v110 v111 v112 v113 v114 v115 v116 v117 v118 v119 v120 v121 v122 : Value) (n : Nat), K ⟨#[s0, s1, s2, (.slice (some ad1) n1 c1), (.slice (some ad2) n2 c2), (.int .i64 (a : Int)), (.int .i64 (b : Int)), (.int .i64 g), (.int .i64 r), s9, s10, s11, s12, s13, s14, s15, s16, s17, s18, s19, s20, s21, s22, s23, s24, s25, s26, s27, s28, s29, s30, s31, s32, s33, s34, s35, s36, s37, s38, s39, s40, s41, s42, s43, s44, s45, s46, s47, v48, v49, v50, v51, v52, v53, v54, v55, v56, v57, v58, v59, v60, v61, v62, v63, v64, v65, v66, v67, v68, v69, v70, v71, v72, v73, v74, v75, v76, v77, v78, v79, v80, v81, v82, v83, v84, v85, v86, v87, v88, v89, v90, v91, v92, v93, v94, v95, v96, v97, v98, v99, v100, v101, v102, v103, v104, v105, v106, v107, v108, v109, v110, v111, v112, v113, v114, v115, v116, v117, v118, v119, v120, v121, v122, (.bool false), s124, s125, s126, s127, s128, s129, s130, s131, s132, s133, s134, s135, s136, s137, s138, s139, s140, s141, s142, s143, s144, s145, s146, s147, s148, s149, s150, s151, s152, s153, s154, s155, s156, s157, s158, s159, s160, s161, s162, s163, s164, s165, s166, s167, s168, s169, s170, s171, s172, s173, s174, s175], []⟩ (w.drewN n)) :
    Code.wp Try.prog ovReg (Exit.then K Q) ⟨#[s0, s1, s2, (.slice (some ad1) n1 c1), (.slice (some ad2) n2 c2), (.int .i64 (a : Int)), (.int .i64 (b : Int)), (.int .i64 g), (.int .i64 r), s9, s10, s11, s12, s13, s14, s15, s16, s17, s18, s19, s20, s21, s22, s23, s24, s25, s26, s27, s28, s29, s30, s31, s32, s33, s34, s35, s36, s37, s38, s39, s40, s41, s42, s43, s44, s45, s46, s47, s48, s49, s50, s51, s52, s53, s54, s55, s56, s57, s58, s59, s60, s61, s62, s63, s64, s65, s66, s67, s68, s69, s70, s71, s72, s73, s74, s75, s76, s77, s78, s79, s80, s81, s82, s83, s84, s85, s86, s87, s88, s89, s90, s91, s92, s93, s94, s95, s96, s97, s98, s99, s100, s101, s102, s103, s104, s105, s106, s107, s108, s109, s110, s111, s112, s113, s114, s115, s116, s117, s118, s119, s120, s121, s122, s123, s124, s125, s126, s127, s128, s129, s130, s131, s132, s133, s134, s135, s136, s137, s138, s139, s140, s141, s142, s143, s144, s145, s146, s147, s148, s149, s150, s151, s152, s153, s154, s155, s156, s157, s158, s159, s160, s161, s162, s163, s164, s165, s166, s167, s168, s169, s170, s171, s172, s173, s174, s175], []⟩ w := by
  have hu22 := Try.underlying22
  have hu23 := Try.underlying23
  conv => arg 2; whnf
  (try dsimp only [List.append])
  refine wp_region_quiet_lit (by kernel_rfl) (by kernel_rfl) ?_
  repeat (go_big_quiet_step (fail))
  refine wpQuiet_nil ?_
  intro _ hw'
  obtain ⟨nq, hw''⟩ := hw'
  subst hw''
  exact hK _ _ _ _ _ _ _ _ _ _ _ _ _ _ _ _ _ _ _ _ _ _ _ _ _ _ _ _ _ _ _ _ _ _ _ _ _ _ _ _ _ _ _ _ _ _ _ _ _ _ _ _ _ _ _ _ _ _ _ _ _ _ _ _ _ _ _ _ _ _ _ _ _ _ _ _
/-! ### hl_FnOverlays -/
theorem cell_read2 {w : World} {A : Option Addr} {n : Nat} {l : List (List Int)} (h : (Kd.slice 3 (Kd.int .i64)).C w A n l) (a b : Nat) (ha : a < n) (hb : b < (l.getD a []).length) :
    ∃ ad ad' c, A = some ad ∧ w.cell? (ad.add a) = some (.slice (some ad') (l.getD a []).length c) ∧ w.cell? (ad'.add b) = some (.int .i64 (rd (l.getD a []) (b : Int))) := by
  obtain ⟨ad, A', c, e, h1, h2, h3⟩ := at_L2 h (a : Int) (by omega) (by omega)
  obtain ⟨ad', e', h4⟩ := Kd.at_int h3 (b : Int) (by omega) (by simpa [rd_L2] using hb)
  subst e'
  exact ⟨ad, ad', c, e, by simpa [rd_L2] using h1, by simpa [rd_L2] using h4⟩
theorem ov_facts {t : List (List Int)} (ht : timesB t = true) (hl : t.length ≤ 6) {a b : Nat} (ha : a < t.length) (hb : b < t.length) :
    (-1 ≤ tm t a b ∧ tm t a b ≤ 100000) ∧ (0 ≤ tm t a b → 0 ≤ cellV t a b ∧ cellV t a b ≤ tm t a b ∧ gainV t a b = tm t a b - cellV t a b) ∧ (bestV t a b ≠ a ∧ bestV t a b ≠ b ∧ -1 ≤ bestV t a b) ∧
    ∀ j : Nat, j < t.length → ¬ (j : Int) = a → ¬ (j : Int) = b → 0 ≤ overV t a j b → 0 ≤ bestV t a b ∧ overV t a (bestV t a b) b ≤ overV t a j b ∧ cellV t a b ≤ overV t a j b := by
  have hrg := tm_range ht (a := (a : Int)) (b := (b : Int)) (by simp [hostB, ha])
  have hi := bestV_inv t a b
  have hneg : bestV t a b = -1 → overV t a (bestV t a b) b = -1 := fun h => by
    rw [h]
    unfold overV
    rw [if_neg]
    intro c
    have := c.2.2.1
    simp [hostB] at this
  refine ⟨hrg, fun c0 => ?_, by omega, fun j hj c1 c2 c3 => ?_⟩
  · have hc1 : 0 ≤ cellV t a b ∧ cellV t a b ≤ tm t a b := by
      unfold cellV
      split <;> omega
    refine ⟨hc1.1, hc1.2, Eq.symm ?_⟩
    unfold cellV gainV
    rcases hi with hi | hi
    · have := hneg hi
      rw [if_neg (by omega), if_pos (by omega)]
      omega
    · rw [if_neg (show ¬ bestV t a b < 0 by omega), if_neg (show ¬ tm t a b < 0 by omega)]
      by_cases cc : overV t a (bestV t a b) b < tm t a b
      · rw [if_pos ⟨hi.2.2.2, .inr cc⟩, if_neg (by omega)]
      · rw [if_neg (by omega)]
        split <;> omega
  · have hm := bestV_min t a b j hj c1 c2 c3
    have ho : 0 ≤ overV t a (bestV t a b) b := by omega
    refine ⟨hm.1, hm.2, ?_⟩
    unfold cellV
    split <;> omega
set_option maxHeartbeats 8000000 in
set_option maxRecDepth 100000 in
theorem FnOverlays_calls (A0 : Option Addr) (c0 : Nat) (l0 : List Int) (w : World) (hr0 : Kd.C (Kd.int .u8) w A0 l0.length l0) (hc0 : l0.length ≤ c0) (g0 : l0.length ≤ 9223372036854775807 ∧ ∀ y ∈ l0, (Lit.int .u8 y).wf = true) :
    Calls Try.prog 4 #[.slice A0 l0.length c0] w fun e w' => e = .returned (.bool true) ∧ Below w.heap.size w w' := by
  have HR0 := Aside0.mk hr0
  have HBIG := Aside0.mk (big_eq l0)
  clear hr0
  by_cases hb : (l0.length : Int) > 1048576
  · have hb' : decide ((l0.length : Int) > 1048576) = true := decide_eq_true hb
    go_enter Try.func4, Try.ntmps4
    go_wp2_with fail
    go_at_call 25; (with_reducible refine (laws_big.calls _ _ l0 _ _ ?s0 hc0 HBIG.out).mono ?_); (case s0 => exact HR0.out); rintro e w' ⟨rfl, ⟨nd, rfl⟩⟩
    go_wp2
    go_ret
    exact ⟨rfl, by repeat (first | (with_reducible first | exact Below.refl _ _ | apply below_alloc | apply pw_below_drewN | apply below_drew1) | exact Below.refl _ _)⟩
  have hb' : decide ((l0.length : Int) > 1048576) = false := decide_eq_false hb
  obtain ⟨t, ed, hs⟩ := drawTimes_ev l0 (by omega)
  have h6 := hs.1
  have hr : ∀ r ∈ t, r.length ≤ 1048576 := fun r hm => by
    have := hs.2 r hm
    omega
  obtain ⟨x, hx⟩ : ∃ x, x = btV t := ⟨_, rfl⟩
  obtain ⟨k1, hk1⟩ := ed.rounds
  obtain ⟨k2, hk2⟩ := (impl_BestTimes_ev t (by omega) hr).rounds
  obtain ⟨k3, hk3⟩ := (impl_IsTimes_ev t hr).rounds
  obtain ⟨k4, hk4⟩ := (spec_IsTimes_ev t (by omega) hr).rounds
  have hlx : timesB t = true → x.length = t.length := fun h => by rw [hx]; exact len_btV t h
  have hlx0 : timesB t = false → x.length = 0 := fun h => by rw [hx, btV, if_neg (by simp [h])]; rfl
  rw [← hx] at hk2
  have hget : timesB t = true → ∀ a : Nat, a < t.length → (x.getD a []).length = t.length := fun h a ha => by
    have := row_btV t h a ha
    rw [hx]
    simpa [rd_L2] using this
  have hcell : timesB t = true → ∀ a b : Nat, a < t.length → b < t.length → rd (x.getD a []) (b : Int) = cellV t a b := fun h a b ha hb => by
    have := rd_btV t h a b ha hb
    rw [hx]
    simpa [rd_L2] using this
  have hrl : timesB t = true → ∀ a : Nat, a < t.length → (t.getD a []).length = t.length := fun h a ha => (times_row h (a := (a : Int)) (by simp [hostB, ha])).1
  have HRL := Aside0.mk hrl
  obtain ⟨tb, htb⟩ : ∃ tb, tb = timesB t := ⟨_, rfl⟩
  rw [← htb] at hk3 hk4
  have K1 := Aside0.mk hk1
  have K2 := Aside0.mk hk2
  have K3 := Aside0.mk hk3
  have K4 := Aside0.mk hk4
  have HS := Aside0.mk hs
  have HR := Aside0.mk hr
  have HX := Aside0.mk hx
  have HLX := Aside0.mk hlx
  have HLX0 := Aside0.mk hlx0
  have HG := Aside0.mk hget
  have HCL := Aside0.mk hcell
  have HTB := Aside0.mk htb
  clear hk1 hk2 hk3 hk4 hs hr ed h6 hx hlx hlx0 hget hcell htb hrl
  have H6 : t.length ≤ 6 := HS.out.1
  go_enter Try.func4, Try.ntmps4
  go_wp2_with fail
  go_at_call 25; (with_reducible refine (laws_big.calls _ _ l0 _ _ ?s0 hc0 HBIG.out).mono ?_); (case s0 => exact HR0.out); rintro e w' ⟨rfl, ⟨nd, rfl⟩⟩
  go_wp2_with fail
  go_at_call 26; (with_reducible refine (spec_DrawBestTimes.calls k1 _ _ l0 t _ ?s0 hc0 K1.out).mono ?_); (case s0 => repeat (first | exact HR0.out | (with_reducible refine Kd.C_alloc ?_ _) | (with_reducible refine Kd.C_drewN ?_ _) | (with_reducible refine Kd.C_drew ?_))); rintro e w1 ⟨v, rfl, ho, hb1⟩
  obtain ⟨A1, c1, rfl⟩ := Kd.S_slice ho
  have HT1 := Aside0.mk (Kd.S_reads' ho)
  have HB1 := Aside0.mk (below_step (w := w) (by repeat (first | (with_reducible first | exact Below.refl _ _ | apply below_alloc | apply pw_below_drewN | apply below_drew1) | exact Below.refl _ _)) hb1)
  clear ho hb1
  go_wp2_with fail
  go_at_call 27; (with_reducible refine (impl_BestTimes.calls k2 _ _ t x _ ?s0 ?s1 K2.out).mono ?_); (case s0 => repeat (first | exact HT1.out.2.2 | (with_reducible refine Kd.C_alloc ?_ _) | (with_reducible refine Kd.C_drewN ?_ _) | (with_reducible refine Kd.C_drew ?_))); (case s1 => exact HT1.out.2.1); rintro e w2 ⟨v, rfl, ho, hb2⟩
  obtain ⟨A2, c2, rfl⟩ := Kd.S_slice ho
  have HX2 := Aside0.mk (Kd.S_reads' ho)
  have hbz := below_step (w := w1) (by repeat (first | (with_reducible first | exact Below.refl _ _ | apply below_alloc | apply pw_below_drewN | apply below_drew1) | exact Below.refl _ _)) hb2
  have HT2 := Aside0.mk (show Kd.C (Kd.slice 3 (Kd.int .i64)) w2 A1 t.length t from Kd.C_below HT1.out.2.2 hbz)
  have HTC := Aside0.mk HT1.out.2.1
  have HB2 := Aside0.mk (below_step HB1.out hbz)
  clear ho hb2 hbz HT1 HB1
  go_wp2_with fail
  go_at_call 28; (with_reducible refine (impl_IsTimes.calls k3 _ _ t tb _ ?s0 HTC.out K3.out).mono ?_); (case s0 => repeat (first | exact HT2.out | (with_reducible refine Kd.C_alloc ?_ _) | (with_reducible refine Kd.C_drewN ?_ _) | (with_reducible refine Kd.C_drew ?_))); rintro e w' ⟨rfl, ⟨nd, rfl⟩⟩
  go_wp2_with fail
  go_at_call 29; (with_reducible refine (spec_IsTimes.calls k4 _ _ t tb _ ?s0 HTC.out K4.out).mono ?_); (case s0 => repeat (first | exact HT2.out | (with_reducible refine Kd.C_alloc ?_ _) | (with_reducible refine Kd.C_drewN ?_ _) | (with_reducible refine Kd.C_drew ?_))); rintro e w' ⟨rfl, ⟨nd, rfl⟩⟩
  cases tb with
  | false =>
    go_wp2_with fail
    go_at_call 28; (with_reducible refine (impl_IsTimes.calls k3 _ _ t false _ ?s0 HTC.out K3.out).mono ?_); (case s0 => repeat (first | exact HT2.out | (with_reducible refine Kd.C_alloc ?_ _) | (with_reducible refine Kd.C_drewN ?_ _) | (with_reducible refine Kd.C_drew ?_))); rintro e w' ⟨rfl, ⟨nd, rfl⟩⟩
    go_wp2
    go_ret
    exact ⟨by simp [HLX0.out HTB.out.symm], below_step HB2.out (by repeat (first | (with_reducible first | exact Below.refl _ _ | apply below_alloc | apply pw_below_drewN | apply below_drew1) | exact Below.refl _ _))⟩
  | true =>
    go_wp2_with fail
    go_at_call 28; (with_reducible refine (impl_IsTimes.calls k3 _ _ t true _ ?s0 HTC.out K3.out).mono ?_); (case s0 => repeat (first | exact HT2.out | (with_reducible refine Kd.C_alloc ?_ _) | (with_reducible refine Kd.C_drewN ?_ _) | (with_reducible refine Kd.C_drew ?_))); rintro e w' ⟨rfl, ⟨nd, rfl⟩⟩
    go_wp2
    have H1 : 1 ≤ t.length := by
      by_cases h0 : t.length = 0
      · have e0 : t = [] := List.eq_nil_of_length_eq_zero h0
        have h_ := HTB.out
        rw [e0] at h_
        simp [timesB] at h_
      · omega
    go_loopg [5] t.length (fun gg v5 wr => ∃ a : Nat, a ≤ t.length ∧ gg = t.length - a ∧ v5 = .int .i64 (a : Int) ∧ Aside0 (Below w2.heap.size w2 wr))
    case atStart => exact ⟨0, Nat.zero_le _, rfl, rfl, ⟨(by repeat (first | (with_reducible first | exact Below.refl _ _ | apply below_alloc | apply pw_below_drewN | apply below_drew1) | exact Below.refl _ _))⟩⟩
    case round =>
      obtain ⟨a, ha, rfl, rfl, HBa⟩ := hrel
      by_cases hlt : a < t.length
      case neg =>
        have hltz : ¬ (a : Int) < (t.length : Int) := by omega
        go_wp2
        go_ret
        exact ⟨by simp [HLX.out HTB.out.symm], below_step HB2.out HBa.out⟩
      case pos =>
        have hltz : (a : Int) < (t.length : Int) := by omega
        go_wp2
        go_loopg [6] t.length (fun gg v6 wr => ∃ b : Nat, b ≤ t.length ∧ gg = t.length - b ∧ v6 = .int .i64 (b : Int) ∧ Aside0 (Below w2.heap.size w2 wr))
        case atStart => exact ⟨0, Nat.zero_le _, rfl, rfl, HBa⟩
        case round =>
          clear HBa
          obtain ⟨b, hb, rfl, rfl, HBb⟩ := hrel
          by_cases hltb : b < t.length
          case neg =>
            have hltbz : ¬ (b : Int) < (t.length : Int) := by omega
            go_wp2
            go_roundg (t.length - (a + 1))
            case measure => omega
            case rel => exact ⟨a + 1, by omega, rfl, by go_num, HBb⟩
          case pos =>
            have hltbz : (b : Int) < (t.length : Int) := by omega
            obtain ⟨kg, hkg⟩ := (impl_Gain_ev t a b (by omega) HR.out).rounds
            obtain ⟨kr, hkr⟩ := (impl_BestRelay_ev t a b (by omega) HR.out).rounds
            have hf := ov_facts HTB.out.symm H6 hlt hltb
            obtain ⟨m, hm⟩ : ∃ m, m = tm t a b := ⟨_, rfl⟩
            obtain ⟨c, hc⟩ : ∃ c, c = cellV t a b := ⟨_, rfl⟩
            obtain ⟨r, hrr⟩ : ∃ r, r = bestV t a b := ⟨_, rfl⟩
            obtain ⟨g, hgg⟩ : ∃ g, g = gainV t a b := ⟨_, rfl⟩
            rw [← hrr] at hkr
            rw [← hgg] at hkg
            rw [← hm, ← hc, ← hgg, ← hrr] at hf
            obtain ⟨hf1, hf2, hf3, hf4⟩ := hf
            have hm2 : rd (t.getD a []) (b : Int) = m := hm.symm
            have hc2 : rd (x.getD a []) (b : Int) = c := (HCL.out HTB.out.symm a b hlt hltb).trans hc.symm
            have HKG := Aside0.mk hkg
            have HKR := Aside0.mk hkr
            have HF4 := Aside0.mk hf4
            have HM := Aside0.mk hm2
            have HC := Aside0.mk hc2
            clear hkg hkr hf4 hm2 hc2 hm hc hrr hgg
            go_wp2_with fail
            go_at_call 30; (with_reducible refine (impl_Gain.calls kg _ _ t a b g _ ?s0 HTC.out HKG.out).mono ?_); (case s0 => exact Kd.C_below HT2.out (by repeat (first | (with_reducible first | exact HBb.out | apply below_alloc | apply pw_below_drewN | apply below_drew1) | exact HBb.out))); rintro e w5 ⟨rfl, hb5⟩
            have HB5 := Aside0.mk (below_step (by repeat (first | (with_reducible first | exact HBb.out | apply below_alloc | apply pw_below_drewN | apply below_drew1) | exact HBb.out)) hb5)
            clear hb5 HBb
            go_wp2_with fail
            have HT5 := Aside0.mk (show Kd.C (Kd.slice 3 (Kd.int .i64)) w5 A1 t.length t from Kd.C_below HT2.out HB5.out)
            have HX5 := Aside0.mk (show Kd.C (Kd.slice 3 (Kd.int .i64)) w5 A2 x.length x from Kd.C_below HX2.out.2.2 HB5.out)
            go_at_call 31; (with_reducible refine (impl_BestRelay.calls kr _ _ t a b r _ ?s0 HTC.out HKR.out).mono ?_); (case s0 => repeat (first | exact HT5.out | (with_reducible refine Kd.C_alloc ?_ _) | (with_reducible refine Kd.C_drewN ?_ _) | (with_reducible refine Kd.C_drew ?_))); rintro e w' ⟨rfl, ⟨nd, rfl⟩⟩
            obtain ⟨ad1, ad1i, cc1, e1, h11, h12⟩ := cell_read2 HT5.out a b hlt (by rw [HRL.out HTB.out.symm a hlt]; exact hltb)
            obtain ⟨ad2, ad2i, cc2, e2, h21, h22⟩ := cell_read2 HX5.out a b (by rw [HLX.out HTB.out.symm]; exact hlt) (by rw [HG.out HTB.out.symm a hlt]; exact hltb)
            subst e1 e2
            rw [HM.out] at h12
            rw [HC.out] at h22
            have l1 : (t.getD a []).length = t.length := HRL.out HTB.out.symm a hlt
            have l2 : (x.getD a []).length = t.length := HG.out HTB.out.symm a hlt
            have l3 : x.length = t.length := HLX.out HTB.out.symm
            rw [l1] at h11
            rw [l2] at h21
            have hltx : (a : Int) < (x.length : Int) := by omega
            have L3 := Aside0.mk l3
            clear l1 l2 l3
            go_upto_region 17 with (fail)
            (try simp only [Act.put, List.setIfInBounds_toArray, List.set_cons_zero, List.set_cons_succ])
            go_cut [123] (fun v123 wc => v123 = .bool false ∧ Aside0 (Below w2.heap.size w2 wc))
            case first =>
              have e3 : (r == (a : Int)) = false := by simpa using hf3.1
              have e4 : (r == (b : Int)) = false := by simpa using hf3.2.1
              have HF1 := Aside0.mk hf1
              have HF2 := Aside0.mk hf2
              have HF3 := Aside0.mk hf3
              clear hf1 hf2 hf3
              by_cases hr0 : 0 ≤ r
              case pos =>
                have d0 : decide (0 ≤ r) = true := decide_eq_true hr0
                by_cases hm0 : 0 ≤ m
                case pos =>
                  have d1 : decide (0 ≤ m) = true := decide_eq_true hm0
                  have d2 : decide (c < 0) = false := decide_eq_false (by have := HF2.out hm0; omega)
                  have d3 : decide (m < c) = false := decide_eq_false (by have := HF2.out hm0; omega)
                  have d4 : IntKind.i64.wrap (m - c) = m - c := by have h_ := HF2.out hm0; have h2_ := HF1.out; rw [IntKind.wrap_i64]; omega
                  have d5 : ((m - c) != g) = false := by have h_ := HF2.out hm0; simp; omega
                  refine ovReg_pp _ _ ad1 ad2 ad1i ad2i _ _ _ _ _ _ cc1 cc2 a b g r m c _ _ _ _ _ _ _ _ _ _ _ _ _ _ _ _ _ _ _ _ _ _ _ _ _ _ _ _ _ _ _ _ _ _ _ _ _ _ _ _ _ _ _ _ _ _ _ _ _ _ _ _ _ _ _ _ _ _ _ _ _ _ _ _ _ _ _ _ _ _ _ _ _ _ _ _ _ _ _ _ _ _ _ _ _ _ _ _ _ _ _ _ _ _ _ _ _ _ _ _ _ _ _ _ _ _ _ _ _ _ _ _ _ _ _ _ _ _ _ _ _ _ _ _ _ _ _ _ _ _ _ _ _ _ _ _ _ _ _ _ _ _ _ _ _ _ _ _ _ _ _ _ _ _ _ _ _ _ _ _ _ _ _ _ _ _ _ _ _ _ _ h11 h12 h21 h22 hltz hltx hltbz hltbz e3 e4 d0 d1 d2 d3 d4 d5 ?_
                  intros
                  go_wp2_with fail
                  go_meet
                  exact ⟨rfl, ⟨(by repeat (first | (with_reducible first | exact HB5.out | apply below_alloc | apply pw_below_drewN | apply below_drew1) | exact HB5.out))⟩⟩
                case neg =>
                  have d1 : decide (0 ≤ m) = false := decide_eq_false hm0
                  refine ovReg_pn _ _ ad1 ad2 ad1i ad2i _ _ _ _ _ _ cc1 cc2 a b g r m c _ _ _ _ _ _ _ _ _ _ _ _ _ _ _ _ _ _ _ _ _ _ _ _ _ _ _ _ _ _ _ _ _ _ _ _ _ _ _ _ _ _ _ _ _ _ _ _ _ _ _ _ _ _ _ _ _ _ _ _ _ _ _ _ _ _ _ _ _ _ _ _ _ _ _ _ _ _ _ _ _ _ _ _ _ _ _ _ _ _ _ _ _ _ _ _ _ _ _ _ _ _ _ _ _ _ _ _ _ _ _ _ _ _ _ _ _ _ _ _ _ _ _ _ _ _ _ _ _ _ _ _ _ _ _ _ _ _ _ _ _ _ _ _ _ _ _ _ _ _ _ _ _ _ _ _ _ _ _ _ _ _ _ _ _ _ _ _ _ _ _ h11 h12 h21 h22 hltz hltx hltbz hltbz e3 e4 d0 d1 ?_
                  intros
                  go_wp2_with fail
                  go_meet
                  exact ⟨rfl, ⟨(by repeat (first | (with_reducible first | exact HB5.out | apply below_alloc | apply pw_below_drewN | apply below_drew1) | exact HB5.out))⟩⟩
              case neg =>
                have d0 : decide (0 ≤ r) = false := decide_eq_false hr0
                by_cases hm0 : 0 ≤ m
                case pos =>
                  have d1 : decide (0 ≤ m) = true := decide_eq_true hm0
                  have d2 : decide (c < 0) = false := decide_eq_false (by have := HF2.out hm0; omega)
                  have d3 : decide (m < c) = false := decide_eq_false (by have := HF2.out hm0; omega)
                  have d4 : IntKind.i64.wrap (m - c) = m - c := by have h_ := HF2.out hm0; have h2_ := HF1.out; rw [IntKind.wrap_i64]; omega
                  have d5 : ((m - c) != g) = false := by have h_ := HF2.out hm0; simp; omega
                  refine ovReg_np _ _ ad1 ad2 ad1i ad2i _ _ _ _ _ _ cc1 cc2 a b g r m c _ _ _ _ _ _ _ _ _ _ _ _ _ _ _ _ _ _ _ _ _ _ _ _ _ _ _ _ _ _ _ _ _ _ _ _ _ _ _ _ _ _ _ _ _ _ _ _ _ _ _ _ _ _ _ _ _ _ _ _ _ _ _ _ _ _ _ _ _ _ _ _ _ _ _ _ _ _ _ _ _ _ _ _ _ _ _ _ _ _ _ _ _ _ _ _ _ _ _ _ _ _ _ _ _ _ _ _ _ _ _ _ _ _ _ _ _ _ _ _ _ _ _ _ _ _ _ _ _ _ _ _ _ _ _ _ _ _ _ _ _ _ _ _ _ _ _ _ _ _ _ _ _ _ _ _ _ _ _ _ _ _ _ _ _ _ _ _ _ _ _ h11 h12 h21 h22 hltz hltx hltbz hltbz e3 e4 d0 d1 d2 d3 d4 d5 ?_
                  intros
                  go_wp2_with fail
                  go_meet
                  exact ⟨rfl, ⟨(by repeat (first | (with_reducible first | exact HB5.out | apply below_alloc | apply pw_below_drewN | apply below_drew1) | exact HB5.out))⟩⟩
                case neg =>
                  have d1 : decide (0 ≤ m) = false := decide_eq_false hm0
                  refine ovReg_nn _ _ ad1 ad2 ad1i ad2i _ _ _ _ _ _ cc1 cc2 a b g r m c _ _ _ _ _ _ _ _ _ _ _ _ _ _ _ _ _ _ _ _ _ _ _ _ _ _ _ _ _ _ _ _ _ _ _ _ _ _ _ _ _ _ _ _ _ _ _ _ _ _ _ _ _ _ _ _ _ _ _ _ _ _ _ _ _ _ _ _ _ _ _ _ _ _ _ _ _ _ _ _ _ _ _ _ _ _ _ _ _ _ _ _ _ _ _ _ _ _ _ _ _ _ _ _ _ _ _ _ _ _ _ _ _ _ _ _ _ _ _ _ _ _ _ _ _ _ _ _ _ _ _ _ _ _ _ _ _ _ _ _ _ _ _ _ _ _ _ _ _ _ _ _ _ _ _ _ _ _ _ _ _ _ _ _ _ _ _ _ _ _ _ h11 h12 h21 h22 hltz hltx hltbz hltbz e3 e4 d0 d1 ?_
                  intros
                  go_wp2_with fail
                  go_meet
                  exact ⟨rfl, ⟨(by repeat (first | (with_reducible first | exact HB5.out | apply below_alloc | apply pw_below_drewN | apply below_drew1) | exact HB5.out))⟩⟩
            case rest =>
              obtain ⟨rfl, HBc⟩ := hcut
              go_wp2
              go_loopg [9] t.length (fun gg v9 wr => ∃ j : Nat, j ≤ t.length ∧ gg = t.length - j ∧ v9 = .int .i64 (j : Int) ∧ Aside0 (Below w2.heap.size w2 wr))
              case atStart => exact ⟨0, Nat.zero_le _, rfl, rfl, ⟨(by repeat (first | (with_reducible first | exact HBc.out | apply below_alloc | apply pw_below_drewN | apply below_drew1) | exact HBc.out))⟩⟩
              case round =>
                clear HBc
                obtain ⟨j, hj, rfl, rfl, HBj⟩ := hrel
                by_cases hltj : j < t.length
                case neg =>
                  have hltjz : ¬ (j : Int) < (t.length : Int) := by omega
                  go_wp2
                  go_roundg (t.length - (b + 1))
                  case measure => omega
                  case rel => exact ⟨b + 1, by omega, rfl, by go_num, HBj⟩
                case pos =>
                  have hltjz : (j : Int) < (t.length : Int) := by omega
                  obtain ⟨kt, hkt⟩ := (impl_TimeOver_ev t a j b HR.out).rounds
                  obtain ⟨ku, hku⟩ := (impl_TimeOver_ev t a r b HR.out).rounds
                  have hf5 := HF4.out j hltj
                  obtain ⟨n, hn⟩ : ∃ n, n = overV t a j b := ⟨_, rfl⟩
                  obtain ⟨o, ho⟩ : ∃ o, o = overV t a r b := ⟨_, rfl⟩
                  rw [← hn] at hkt hf5
                  rw [← ho] at hku hf5
                  have HKT := Aside0.mk hkt
                  have HKU := Aside0.mk hku
                  have HF5 := Aside0.mk hf5
                  clear hkt hku hf5 hn ho
                  have HTj := Aside0.mk (show Kd.C (Kd.slice 3 (Kd.int .i64)) wr _ t.length t from Kd.C_below HT2.out HBj.out)
                  have HXj := Aside0.mk (show Kd.C (Kd.slice 3 (Kd.int .i64)) wr _ x.length x from Kd.C_below HX2.out.2.2 HBj.out)
                  obtain ⟨ad2, ad2i, cc2, e2, h21, h22⟩ := cell_read2 HXj.out a b (by rw [HLX.out HTB.out.symm]; exact hlt) (by rw [HG.out HTB.out.symm a hlt]; exact hltb)
                  (first | subst e2 | cases e2)
                  rw [HC.out] at h22
                  have l2 : (x.getD a []).length = t.length := HG.out HTB.out.symm a hlt
                  have l3 : x.length = t.length := HLX.out HTB.out.symm
                  rw [l2] at h21
                  have hltx : (a : Int) < (x.length : Int) := by omega
                  clear l2 l3
                  go_wp2_with fail
                  go_at_call 32; (with_reducible refine (impl_TimeOver.calls kt _ _ t a j b n _ ?s0 HTC.out HKT.out).mono ?_); (case s0 => repeat (first | exact HTj.out | (with_reducible refine Kd.C_alloc ?_ _) | (with_reducible refine Kd.C_drewN ?_ _) | (with_reducible refine Kd.C_drew ?_))); rintro e w' ⟨rfl, ⟨nd, rfl⟩⟩
                  by_cases ca : (j : Int) = (a : Int)
                  case' pos =>
                    have d1 : ((j : Int) != (a : Int)) = false := by simpa using ca
                    have ca' := Aside0.mk ca
                    clear ca
                    go_wp2_with fail
                  case' neg =>
                    have d1 : ((j : Int) != (a : Int)) = true := by simpa using ca
                    by_cases cb : (j : Int) = (b : Int)
                    case' pos =>
                      have d2 : ((j : Int) != (b : Int)) = false := by simpa using cb
                      have cb' := Aside0.mk cb
                      clear cb
                      go_wp2_with fail
                    case' neg =>
                      have d2 : ((j : Int) != (b : Int)) = true := by simpa using cb
                      by_cases cn : 0 ≤ n
                      case' neg =>
                        have d3 : decide (0 ≤ n) = false := decide_eq_false cn
                        go_wp2_with fail
                      case' pos =>
                        have d3 : decide (0 ≤ n) = true := decide_eq_true cn
                        have hz := HF5.out ca cb cn
                        have d4 : decide (r < 0) = false := decide_eq_false (by omega)
                        have d5 : decide (n < o) = false := decide_eq_false (by omega)
                        have d6 : decide (n < c) = false := decide_eq_false (by omega)
                        clear hz
                        go_wp2_with fail
                        go_at_call 32; (with_reducible refine (impl_TimeOver.calls ku _ _ t a r b o _ ?s0 HTC.out HKU.out).mono ?_); (case s0 => repeat (first | exact HTj.out | (with_reducible refine Kd.C_alloc ?_ _) | (with_reducible refine Kd.C_drewN ?_ _) | (with_reducible refine Kd.C_drew ?_))); rintro e w' ⟨rfl, ⟨nd, rfl⟩⟩
                        go_wp2_with fail
                  all_goals
                    go_roundg (t.length - (j + 1))
                    case measure => omega
                    case rel => exact ⟨j + 1, by omega, rfl, by go_num, ⟨(by repeat (first | (with_reducible first | exact HBj.out | apply below_alloc | apply pw_below_drewN | apply below_drew1) | exact HBj.out))⟩⟩
end Go.Proofs.Ytakembkodcjbjaa.Pure
