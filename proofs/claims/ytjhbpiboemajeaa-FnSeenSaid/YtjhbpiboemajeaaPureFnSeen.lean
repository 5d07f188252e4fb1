/- The last observations are kept, and forgetting takes only what is old: for all drawn inputs. -/
import Derived.Test.YtjhbpiboemajeaaRFnSeen
import Derived.Test.YtjhbpiboemajeaaBase
namespace Go.Proofs.Ytjhbpiboemajeaa.Pure
open Go.RowKit Go.Proofs.Ytjhbpiboemajeaa.Base Go.Proofs.Ytjhbpiboemajeaa.PFnSeen Go.Proofs.YtjhbpiboemajeaaW.PrintWords Go.Proofs.YtjhbpiboemajeaaW.PrintLast
set_option linter.unusedVariables false
set_option linter.unusedSimpArgs false
/-! ### draw -/
/-- A cursor that a draw may go on with: it stands within the bytes. -/
def cur (b : List Int) (i : Int) : Prop := b.length ≤ 9223372036854775807 ∧ 0 ≤ i ∧ i ≤ (b.length : Int)
theorem l1New_l0 (b : List Int) (hb : b.length ≤ 9223372036854775806) : ∀ (d j : Nat) (h : Int), j + d = b.length → ∃ h', Ev (fun k => spec_l1New.l0 k b h (j : Int)) (b, 0, h') := by
  intro d
  induction d with
  | zero =>
    intro j h e
    exact ⟨h, (by refine Ev.step (fun k => by rw [spec_l1New.l0]) ?_; exact evNeg (by omega) (Ev.now _))⟩
  | succ d ih =>
    intro j h e
    by_cases hj : (j : Int) < 4000
    · obtain ⟨h', he⟩ := ih (j + 1) (Go.bits .and .i64 (wrap64 ((wrap64 ((wrap64 (h * 137)) + (wrap64 (rd b (j : Int))))) + 11)) 1073741823) (by omega)
      refine ⟨h', ?_⟩
      refine Ev.step (fun k => by rw [spec_l1New.l0]) ?_
      refine evPos (by omega) (evPos hj (evPos (by omega) ?_))
      rw [wsucc (by omega)]
      exact he
    · exact ⟨h, Ev.step (fun k => by rw [spec_l1New.l0]) (evPos (by omega) (evNeg hj (Ev.now _)))⟩
theorem l1New_ev (b : List Int) (hb : b.length ≤ 9223372036854775806) : ∃ h, Ev (fun k => spec_l1New.f k b) (b, 0, h) ∧ cur b 0 := by
  obtain ⟨h, he⟩ := l1New_l0 b hb b.length 0 (wrap64 (193017 + (b.length : Int))) (by omega)
  exact ⟨h, he, by omega, by omega, by omega⟩
theorem l1Byte_eq (b : List Int) (i h : Int) (hc : cur b i) : ∃ v i' h', spec_l1Byte.f b i h = some (v, i', h') ∧ cur b i' ∧ 0 ≤ v ∧ v ≤ 255 := by
  obtain ⟨h1, h2, h3⟩ := hc
  unfold spec_l1Byte.f
  by_cases hi : i < (b.length : Int)
  · rw [if_pos hi, if_pos h2]
    have ha := and255 (wrap64 ((Go.bits .and .i64 (Go.bits .xor .i64 ((wrap64 ((wrap64 (h * 6364136223846793005)) + 1442695040888963407)) / 8589934592) ((wrap64 ((wrap64 (h * 6364136223846793005)) + 1442695040888963407)) / 140737488355328)) 255) + (wrap64 (rd b i))))
    refine ⟨_, _, _, rfl, ⟨h1, ?_, ?_⟩, ha.1, ha.2⟩
    · rw [w64 (by omega) (by omega)]
      omega
    · rw [w64 (by omega) (by omega)]
      omega
  · rw [if_neg hi]
    have ha := and255 (Go.bits .xor .i64 ((wrap64 ((wrap64 (h * 6364136223846793005)) + 1442695040888963407)) / 8589934592) ((wrap64 ((wrap64 (h * 6364136223846793005)) + 1442695040888963407)) / 140737488355328))
    exact ⟨_, _, _, rfl, ⟨h1, h2, h3⟩, ha.1, ha.2⟩
theorem l1Below_eq (b : List Int) (i h n : Int) (hc : cur b i) (hn : 1 ≤ n) : ∃ v i' h', spec_l1Below.f b i h n = some (v, i', h') ∧ cur b i' ∧ 0 ≤ v ∧ v < n := by
  unfold spec_l1Below.f
  rw [if_neg (by omega)]
  obtain ⟨v1, i1, h1, e1, c1, p1, q1⟩ := l1Byte_eq b i h hc
  by_cases hs : n ≤ 256
  · rw [if_pos hs, e1]
    have hr := tmod_range hn p1
    exact ⟨_, _, _, by rw [Option.bind_some, if_neg (by omega)], c1, hr.1, hr.2⟩
  · obtain ⟨v2, i2, h2, e2, c2, p2, q2⟩ := l1Byte_eq b i1 h1 c1
    obtain ⟨v3, i3, h3, e3, c3, p3, q3⟩ := l1Byte_eq b i2 h2 c2
    rw [if_neg hs, e1, Option.bind_some, e2, Option.bind_some, e3, Option.bind_some, if_neg (by omega)]
    dsimp only
    rw [w64 (n := v1 * 65536) (by omega) (by omega), w64 (n := v2 * 256) (by omega) (by omega), w64 (n := v1 * 65536 + v2 * 256) (by omega) (by omega), w64 (n := v1 * 65536 + v2 * 256 + v3) (by omega) (by omega)]
    have hr := tmod_range (a := v1 * 65536 + v2 * 256 + v3) hn (by omega)
    exact ⟨_, _, _, rfl, c3, hr.1, hr.2⟩
theorem l1Below_zero (b : List Int) (i h n : Int) (hn : n ≤ 0) : spec_l1Below.f b i h n = some (0, i, h) := by
  unfold spec_l1Below.f
  rw [if_pos hn]
theorem l1Int_eq (b : List Int) (i h : Int) (l : List Int) (hc : cur b i) (hl : l ≠ []) : ∃ v i' h', spec_l1Int.f b i h l = some (v, i', h') ∧ cur b i' ∧ v ∈ l := by
  have hp : 0 < l.length := List.length_pos_iff.2 hl
  obtain ⟨v, i', h', e, c, p, q⟩ := l1Below_eq b i h (l.length : Int) hc (by omega)
  unfold spec_l1Int.f
  rw [e, Option.bind_some, if_pos p, if_pos q]
  refine ⟨_, _, _, rfl, c, ?_⟩
  have hv : v.toNat < l.length := by omega
  have : rd l v = l[v.toNat] := by simp [rd, hv]
  rw [this]
  exact List.getElem_mem hv
theorem l1Once_eq (b : List Int) (i h n : Int) (hc : cur b i) (hn : 1 ≤ n) : ∃ v i' h', spec_l1Once.f b i h n = some (v, i', h') ∧ cur b i' := by
  obtain ⟨v, i', h', e, c, _⟩ := l1Below_eq b i h n hc hn
  unfold spec_l1Once.f
  rw [e]
  exact ⟨_, _, _, rfl, c⟩
theorem big_eq (l : List Int) : laws_big.f l = some (decide ((l.length : Int) > 1048576)) := rfl
/-! ### ilat -/
abbrev Sn := S51
def mt (p : Int) (b : Bool) (x : Sn) : Bool := decide (x.f0 = p) && (x.f4 == b)
def latF (p : Int) (b : Bool) : Nat → Int → List Sn → Int
  | _, k, [] => k
  | i, k, x :: xs => latF p b (i + 1) (if mt p b x = true then (i : Int) else k) xs
def latV (l : List Sn) (p : Int) (b : Bool) : Int := latF p b 0 (-1) l
theorem latF_snoc (p : Int) (b : Bool) (x : Sn) : ∀ (l : List Sn) (i : Nat) (k : Int), latF p b i k (l ++ [x]) = if mt p b x = true then ((i + l.length : Nat) : Int) else latF p b i k l
  | [], i, k => by simp [latF]
  | y :: l, i, k => by
    rw [List.cons_append, latF, latF_snoc p b x l, latF]
    simp only [List.length_cons]
    rw [show i + 1 + l.length = i + (l.length + 1) by omega]
theorem impl_LatestOf_l0 (l : List Sn) (p : Int) (b : Bool) (hl : l.length ≤ 1048576) : ∀ n : Nat, n ≤ l.length →
    Ev (fun k => impl_LatestOf.l0 k l p b ((n : Int) - 1)) (latV (l.take n) p b) := by
  intro n
  induction n with
  | zero =>
    intro _
    refine Ev.step (fun k => by rw [impl_LatestOf.l0]) ?_
    exact evNeg (by omega) (Ev.now _)
  | succ n ih =>
    intro hn
    have e : ((n + 1 : Nat) : Int) - 1 = (n : Int) := by omega
    rw [e]
    have et : l.take (n + 1) = l.take n ++ [l[n]] := by rw [List.take_succ_eq_append_getElem (by omega)]
    have ev : latV (l.take (n + 1)) p b = if mt p b l[n] = true then (n : Int) else latV (l.take n) p b := by
      rw [et, latV, latF_snoc]
      simp only [Nat.zero_add, List.length_take, Nat.min_eq_left (show n ≤ l.length by omega)]
      rfl
    rw [ev]
    refine Ev.step (fun k => by rw [impl_LatestOf.l0]) ?_
    refine evPos (by omega) (evPos (by omega) (evPos (by omega) ?_))
    simp only [rd_T51, getD_at l _ n (show n < l.length by omega)]
    rw [w64 (by omega) (by omega)]
    by_cases h1 : l[n].f0 = p
    · refine evPos h1 ?_
      by_cases h2 : (l[n].f4 == b) = true
      · refine evPos h2 (evEq ?_ (Ev.now _))
        rw [if_pos (by simp only [mt, h1, h2, decide_true, Bool.true_and])]
      · refine evNeg h2 (evEq ?_ (ih (by omega)))
        rw [if_neg (by simp only [mt, h1, decide_true, Bool.true_and]; exact h2)]
    · refine evNeg h1 (evEq ?_ (ih (by omega)))
      rw [if_neg (by simp [mt, h1])]
theorem impl_LatestOf_ev (l : List Sn) (p : Int) (b : Bool) (hl : l.length ≤ 1048576) : Ev (fun k => impl_LatestOf.f k l p b) (latV l p b) := by
  unfold impl_LatestOf.f
  rw [w64 (by omega) (by omega)]
  have h := impl_LatestOf_l0 l p b hl l.length (Nat.le_refl _)
  rw [List.take_length] at h
  exact h
theorem latV_range (l : List Sn) (p : Int) (b : Bool) : -1 ≤ latV l p b ∧ latV l p b < l.length := by
  have key : ∀ (l : List Sn) (i : Nat) (k : Int), -1 ≤ k → k < i → -1 ≤ latF p b i k l ∧ latF p b i k l < i + l.length := by
    intro l
    induction l with
    | nil =>
      intro i k h1 h2
      simp [latF]
      omega
    | cons x l ih =>
      intro i k h1 h2
      rw [latF]
      have h := ih (i + 1) (if mt p b x = true then (i : Int) else k) (by split <;> omega) (by split <;> omega)
      simp only [List.length_cons]
      omega
  have h := key l 0 (-1) (by omega) (by omega)
  unfold latV
  omega
/-! ### drawseen -/
theorem l9Raw_eq (b : List Int) (i h : Int) (hc : cur b i) : ∃ v i' h', spec_l9Raw.f b i h = some (v, i', h') ∧ cur b i' := by
  obtain ⟨t, i1, h1, e1, c1⟩ := l1Once_eq b i h 6 hc (by omega)
  unfold spec_l9Raw.f
  rw [e1, Option.bind_some]
  cases t with
  | true =>
    obtain ⟨v, i2, h2, e2, c2, _⟩ := l1Int_eq b i1 h1 [(-1), 0, 100000, 100001, (-100000), (-100001), 9223372036854775807, (-9223372036854775808)] c1 (by simp)
    exact ⟨v, i2, h2, by rw [if_pos rfl, e2]; rfl, c2⟩
  | false =>
    obtain ⟨v, i2, h2, e2, c2, _⟩ := l1Below_eq b i1 h1 60 c1 (by omega)
    exact ⟨v, i2, h2, by rw [if_neg (by simp), e2]; rfl, c2⟩
theorem l28Draw_l0 (b : List Int) (n : Int) (h0 : 0 ≤ n) (hn : n ≤ 11) : ∀ (d j : Nat) (l : List Sn) (t i h : Int), cur b i → (j : Int) + d = n → l.length = j →
    ∃ r i' h', Ev (fun k => spec_l28Draw.l0 k l t n (j : Int) b i h) (r, i', h') ∧ cur b i' ∧ r.length ≤ 11 := by
  intro d
  induction d with
  | zero =>
    intro j l t i h hc e hl
    exact ⟨_, _, _, (by refine Ev.step (fun k => by rw [spec_l28Draw.l0]) ?_; exact evNeg (by omega) (Ev.now _)), hc, by omega⟩
  | succ d ih =>
    intro j l t i h hc e hl
    obtain ⟨v1, i1, h1, e1, c1, p1, q1⟩ := l1Below_eq b i h 2 hc (by omega)
    obtain ⟨v2, i2, h2, e2, c2, p2, q2⟩ := l1Below_eq b i1 h1 4 c1 (by omega)
    obtain ⟨v3, i3, h3, e3, c3, p3, q3⟩ := l1Below_eq b i2 h2 3 c2 (by omega)
    obtain ⟨v4, i4, h4, e4, c4, p4, q4⟩ := l1Below_eq b i3 h3 40 c3 (by omega)
    obtain ⟨t5, i5, h5, e5, c5⟩ := l1Once_eq b i4 h4 4 c4 (by omega)
    cases t5 with
    | true =>
      obtain ⟨r, i', h', he, hc', hr⟩ := ih (j + 1) (l ++ [⟨v2, v3, wrap64 (t + v1), 0, true⟩]) (wrap64 (t + v1)) i5 h5 c5 (by omega) (by simp; omega)
      refine ⟨r, i', h', ?_, hc', hr⟩
      refine Ev.step (fun k => by rw [spec_l28Draw.l0]) ?_
      refine evPos (by omega) (evSome e1 (evSome e2 (evSome e3 (evSome e4 (evSome e5 (evPos rfl (evPos (by omega) ?_)))))))
      rw [wsucc (by omega)]
      exact he
    | false =>
      obtain ⟨r, i', h', he, hc', hr⟩ := ih (j + 1) (l ++ [⟨v2, v3, wrap64 (t + v1), v4, false⟩]) (wrap64 (t + v1)) i5 h5 c5 (by omega) (by simp; omega)
      refine ⟨r, i', h', ?_, hc', hr⟩
      refine Ev.step (fun k => by rw [spec_l28Draw.l0]) ?_
      refine evPos (by omega) (evSome e1 (evSome e2 (evSome e3 (evSome e4 (evSome e5 (evNeg (by simp) (evPos (by omega) ?_)))))))
      rw [wsucc (by omega)]
      exact he
theorem l28Draw_ev (b : List Int) (i h : Int) (hc : cur b i) : ∃ r i' h', Ev (fun k => spec_l28Draw.f k b i h) (r, i', h') ∧ cur b i' ∧ r.length ≤ 11 := by
  obtain ⟨v, i1, h1, e1, c1, p1, q1⟩ := l1Below_eq b i h 12 hc (by omega)
  obtain ⟨r, i', h', he, hc', hr⟩ := l28Draw_l0 b v p1 (by omega) v.toNat 0 [] 0 i1 h1 c1 (by omega) rfl
  refine ⟨r, i', h', ?_, hc', hr⟩
  unfold spec_l28Draw.f
  exact evSome e1 he
theorem l28Any_l0 (b : List Int) (i h : Int) : ∀ (d : Nat) (l : List Sn), l.length + d = 61 → 1 ≤ l.length →
    ∃ r, Ev (fun k => spec_l28Any.l0 k l b i h) (r, i, h) ∧ r.length ≤ 61 := by
  intro d
  induction d with
  | zero =>
    intro l e h1
    exact ⟨l, (by refine Ev.step (fun k => by rw [spec_l28Any.l0]) ?_; exact evNeg (by omega) (Ev.now _)), by omega⟩
  | succ d ih =>
    intro l e h1
    obtain ⟨r, he, hr⟩ := ih (l ++ [(⟨(rd_T51 l (wrap64 ((l.length : Int) - 1))).f0, (rd_T51 l (wrap64 ((l.length : Int) - 1))).f1, (rd_T51 l (wrap64 ((l.length : Int) - 1))).f2, (rd_T51 l (wrap64 ((l.length : Int) - 1))).f3, (rd_T51 l (wrap64 ((l.length : Int) - 1))).f4⟩ : Sn)]) (by simp; omega) (by simp)
    have hw : wrap64 ((l.length : Int) - 1) = (l.length : Int) - 1 := w64 (by omega) (by omega)
    exact ⟨r, (by refine Ev.step (fun k => by rw [spec_l28Any.l0]) ?_; exact evPos (by omega) (evPos (by omega) (evPos (by omega) (evPos (by omega) he)))), hr⟩
theorem l28Any_ev (b : List Int) (i h : Int) (hc : cur b i) : ∃ r i' h', Ev (fun k => spec_l28Any.f k b i h) (r, i', h') ∧ cur b i' ∧ r.length ≤ 61 := by
  obtain ⟨l, i0, h0, e0, c0, hl⟩ := l28Draw_ev b i h hc
  unfold spec_l28Any.f
  by_cases hz : (l.length : Int) = 0
  · exact ⟨_, _, _, Ev.bind e0 (evPos hz (Ev.now _)), c0, by dsimp only; omega⟩
  obtain ⟨v1, i1, h1, e1, c1, p1, q1⟩ := l1Below_eq b i0 h0 (l.length : Int) c0 (by omega)
  obtain ⟨v2, i2, h2, e2, c2, p2, q2⟩ := l1Below_eq b i1 h1 9 c1 (by omega)
  have hs : ∀ x : Sn, (l.set v1.toNat x).length ≤ 61 := fun x => by
    rw [List.length_set]
    omega
  by_cases k0 : v2 = 0
  · obtain ⟨v3, i3, h3, e3, c3, _⟩ := l1Int_eq b i2 h2 [(-1), 4, 9223372036854775807] c2 (by simp)
    exact ⟨_, _, _, Ev.bind e0 (evNeg hz (evSome e1 (evSome e2 (evPos k0 (evSome e3 (evPos p1 (evPos q1 (Ev.now _)))))))), c3, hs _⟩
  by_cases k1 : v2 = 1
  · obtain ⟨v3, i3, h3, e3, c3, _⟩ := l1Int_eq b i2 h2 [(-1), 5, 6] c2 (by simp)
    exact ⟨_, _, _, Ev.bind e0 (evNeg hz (evSome e1 (evSome e2 (evNeg k0 (evPos k1 (evSome e3 (evPos p1 (evPos q1 (Ev.now _))))))))), c3, hs _⟩
  by_cases k2 : v2 = 2
  · obtain ⟨v3, i3, h3, e3, c3⟩ := l9Raw_eq b i2 h2 c2
    exact ⟨_, _, _, Ev.bind e0 (evNeg hz (evSome e1 (evSome e2 (evNeg k0 (evNeg k1 (evPos k2 (evSome e3 (evPos p1 (evPos q1 (Ev.now _)))))))))), c3, hs _⟩
  by_cases k3 : v2 = 3
  · obtain ⟨v3, i3, h3, e3, c3, _⟩ := l1Int_eq b i2 h2 [(-1), 1000, 1001] c2 (by simp)
    exact ⟨_, _, _, Ev.bind e0 (evNeg hz (evSome e1 (evSome e2 (evNeg k0 (evNeg k1 (evNeg k2 (evPos k3 (evSome e3 (evPos p1 (evPos q1 (Ev.now _))))))))))), c3, hs _⟩
  by_cases k4 : v2 = 4
  · exact ⟨_, _, _, Ev.bind e0 (evNeg hz (evSome e1 (evSome e2 (evNeg k0 (evNeg k1 (evNeg k2 (evNeg k3 (evPos k4 (evPos p1 (evPos q1 (Ev.now _))))))))))), c2, hs _⟩
  by_cases k5 : v2 = 5
  · obtain ⟨r, he, hr⟩ := l28Any_l0 b i2 h2 (61 - l.length) l (by omega) (by omega)
    exact ⟨_, _, _, Ev.bind e0 (evNeg hz (evSome e1 (evSome e2 (evNeg k0 (evNeg k1 (evNeg k2 (evNeg k3 (evNeg k4 (evPos k5 he))))))))), c2, hr⟩
  · exact ⟨_, _, _, Ev.bind e0 (evNeg hz (evSome e1 (evSome e2 (evNeg k0 (evNeg k1 (evNeg k2 (evNeg k3 (evNeg k4 (evNeg k5 (Ev.now _)))))))))), c2, by dsimp only; omega⟩
theorem drawForget_ev (b : List Int) (hb : b.length ≤ 1048576) : ∃ l n, Ev (fun k => spec_DrawForgetSeen.f k b) (l, n) ∧ l.length ≤ 61 := by
  obtain ⟨h0, e0, c0⟩ := l1New_ev b (by omega)
  obtain ⟨l, i1, h1, e1, c1, hl⟩ := l28Any_ev b 0 h0 c0
  obtain ⟨v, i2, h2, e2, c2⟩ := l9Raw_eq b i1 h1 c1
  refine ⟨l, Int.tmod v 12, ?_, hl⟩
  unfold spec_DrawForgetSeen.f
  exact Ev.bind e0 (Ev.bind e1 (evSome e2 (Ev.now _)))
theorem drawSeenAt_ev (b : List Int) (hb : b.length ≤ 1048576) : ∃ l n, Ev (fun k => spec_DrawSeenAt.f k b) (l, n) ∧ l.length ≤ 61 := by
  obtain ⟨h0, e0, c0⟩ := l1New_ev b (by omega)
  obtain ⟨l, i1, h1, e1, c1, hl⟩ := l28Any_ev b 0 h0 c0
  obtain ⟨v, i2, h2, e2, c2, _⟩ := l1Below_eq b i1 h1 9 c1 (by omega)
  refine ⟨l, v, ?_, hl⟩
  unfold spec_DrawSeenAt.f
  exact Ev.bind e0 (Ev.bind e1 (evSome e2 (Ev.now _)))
theorem drawGoodOnes_ev (b : List Int) (hb : b.length ≤ 1048576) : ∃ l n, Ev (fun k => spec_DrawGoodOnes.f k b) (l, n) ∧ l.length ≤ 61 := by
  obtain ⟨h0, e0, c0⟩ := l1New_ev b (by omega)
  obtain ⟨l, i1, h1, e1, c1, hl⟩ := l28Any_ev b 0 h0 c0
  obtain ⟨v, i2, h2, e2, c2, _⟩ := l1Int_eq b i1 h1 [4, 4, 3, 0, 12, 13, (-1)] c1 (by simp)
  refine ⟨l, v, ?_, hl⟩
  unfold spec_DrawGoodOnes.f
  exact Ev.bind e0 (Ev.bind e1 (evSome e2 (Ev.now _)))
/-! ### forget -/
def forgV (l : List S51) (b : Int) : List S51 := l.filter fun x => decide (b ≤ x.f2)
theorem forgV_length (l : List S51) (b : Int) : (forgV l b).length ≤ l.length := List.length_filter_le _ _
theorem impl_ForgetSeen_l0 (b : Int) : ∀ (suf pre out : List S51), (pre ++ suf).length ≤ 1048576 → out.length ≤ pre.length →
    Ev (fun k => impl_ForgetSeen.l0 k b out (pre ++ suf) ((pre ++ suf).length : Int) (pre.length : Int)) (out ++ forgV suf b) := by
  intro suf
  induction suf with
  | nil =>
    intro pre out hb ho
    refine Ev.step (fun k => by rw [impl_ForgetSeen.l0]) ?_
    refine evNeg (by simp) (evEq ?_ (Ev.now _))
    simp [forgV]
  | cons x suf ih =>
    intro pre out hb ho
    simp only [List.length_append, List.length_cons] at hb
    refine Ev.step (fun k => by rw [impl_ForgetSeen.l0]) ?_
    refine evPos (by simp only [List.length_append, List.length_cons]; omega) (evPos (by omega) (evPos (by simp only [List.length_append, List.length_cons]; omega) ?_))
    simp only [rd_T51, getD_mid]
    rw [wsucc (by omega)]
    have h := fun out ho => ih (pre ++ [x]) out (by simp; omega) ho
    by_cases hx : x.f2 ≥ b
    · have h' := h (out ++ [x]) (by simp; omega)
      refine evPos hx (evPos (by omega) (evEq ?_ (Ev.congr (fun k => ?_) h')))
      · simp [forgV, show b ≤ x.f2 from hx]
      · simp
    · have h' := h out (by simp; omega)
      refine evNeg hx (evEq ?_ (Ev.congr (fun k => ?_) h'))
      · simp [forgV, show ¬ b ≤ x.f2 from hx]
      · simp
theorem impl_ForgetSeen_ev (l : List S51) (b : Int) (hl : l.length ≤ 1048576) : Ev (fun k => impl_ForgetSeen.f k l b) (forgV l b) := by
  have h := impl_ForgetSeen_l0 b l [] [] (by simpa using hl) (by simp)
  simpa [impl_ForgetSeen.f] using h
/-! ### ilatest -/
/-- The last place of a probe, of either kind. -/
def lasF (p : Int) : Nat → Int → List Sn → Int
  | _, k, [] => k
  | i, k, x :: xs => lasF p (i + 1) (if x.f0 = p then (i : Int) else k) xs
def latestV (l : List Sn) (p : Int) : Int := mx (latV l p false) (latV l p true)
theorem mx_latF (p : Int) : ∀ (l : List Sn) (i : Nat) (a b : Int), a < i → b < i → mx (latF p false i a l) (latF p true i b l) = lasF p i (mx a b) l
  | [], _, _, _, _, _ => rfl
  | x :: xs, i, a, b, ha, hb => by
    rw [latF, latF, lasF]
    by_cases h : x.f0 = p
    · cases h4 : x.f4 with
      | true =>
        have e1 : mt p false x = false := by simp [mt, h4]
        have e2 : mt p true x = true := by simp [mt, h, h4]
        rw [e1, e2, if_pos h, if_pos rfl, if_neg (by simp), mx_latF p xs (i + 1) a i (by omega) (by omega)]
        congr 1
        unfold mx
        omega
      | false =>
        have e1 : mt p false x = true := by simp [mt, h, h4]
        have e2 : mt p true x = false := by simp [mt, h4]
        rw [e1, e2, if_pos h, if_pos rfl, if_neg (by simp), mx_latF p xs (i + 1) i b (by omega) (by omega)]
        congr 1
        unfold mx
        omega
    · have e1 : mt p false x = false := by simp [mt, h]
      have e2 : mt p true x = false := by simp [mt, h]
      rw [e1, e2, if_neg h, if_neg (by simp), if_neg (by simp), mx_latF p xs (i + 1) a b (by omega) (by omega)]
theorem latestV_eq (l : List Sn) (p : Int) : latestV l p = lasF p 0 (-1) l := by
  unfold latestV latV
  rw [mx_latF p l 0 (-1) (-1) (by omega) (by omega)]
  rfl
theorem lasF_append (p : Int) : ∀ (pre suf : List Sn) (i : Nat) (k : Int), lasF p i k (pre ++ suf) = lasF p (i + pre.length) (lasF p i k pre) suf
  | [], suf, i, k => by simp [lasF]
  | x :: pre, suf, i, k => by
    rw [List.cons_append, lasF, lasF, lasF_append p pre suf (i + 1) _, List.length_cons, show i + 1 + pre.length = i + (pre.length + 1) by omega]
theorem lasF_all (p : Int) : ∀ (l : List Sn) (i : Nat) (k : Int), k < i → ((l.all fun y => decide (y.f0 ≠ p)) = true → lasF p i k l = k) ∧ ((l.all fun y => decide (y.f0 ≠ p)) = false → (i : Int) ≤ lasF p i k l)
  | [], i, k, h => by simp [lasF]
  | x :: xs, i, k, h => by
    rw [lasF, List.all_cons]
    by_cases hx : x.f0 = p
    · rw [if_pos hx]
      have ih := lasF_all p xs (i + 1) i (by omega)
      refine ⟨fun c => by simp [hx] at c, fun _ => ?_⟩
      cases hc : xs.all fun y => decide (y.f0 ≠ p) with
      | true =>
        rw [ih.1 hc]
        exact Int.le_refl _
      | false =>
        have := ih.2 hc
        omega
    · rw [if_neg hx]
      have ih := lasF_all p xs (i + 1) k (by omega)
      have e : decide (x.f0 ≠ p) = true := by simp [hx]
      rw [e, Bool.true_and]
      refine ⟨ih.1, fun c => ?_⟩
      have := ih.2 c
      omega
theorem lasF_lt (p : Int) : ∀ (l : List Sn) (i : Nat) (k : Int), k < i → lasF p i k l < i + l.length
  | [], i, k, h => by simp [lasF]; omega
  | x :: xs, i, k, h => by
    rw [lasF, List.length_cons]
    have := lasF_lt p xs (i + 1) (if x.f0 = p then (i : Int) else k) (by split <;> omega)
    omega
theorem latestV_mid (pre suf : List Sn) (x : Sn) : latestV (pre ++ x :: suf) x.f0 = (pre.length : Int) ↔ (suf.all fun y => decide (y.f0 ≠ x.f0)) = true := by
  rw [latestV_eq, lasF_append, lasF, if_pos rfl, Nat.zero_add]
  have h := lasF_all x.f0 suf (pre.length + 1) (pre.length : Int) (by omega)
  cases hc : suf.all fun y => decide (y.f0 ≠ x.f0) with
  | true => simp [h.1 hc]
  | false =>
    have := h.2 hc
    simp
    omega
theorem impl_latest_ev (l : List Sn) (p : Int) (hl : l.length ≤ 1048576) : Ev (fun k => impl_latest.f k l p) (latestV l p) := by
  unfold impl_latest.f
  exact Ev.bind (impl_LatestOf_ev l p false hl) (Ev.bind (impl_LatestOf_ev l p true hl) (Ev.now _))
/-! ### seenat -/
def seenF (t : Int) : Nat → List Sn → List Int
  | _, [] => []
  | i, x :: xs => if (decide (x.f2 = t) && xs.all fun y => decide (y.f0 ≠ x.f0)) = true then (i : Int) :: seenF t (i + 1) xs else seenF t (i + 1) xs
def seenV (l : List Sn) (t : Int) : List Int := seenF t 0 l
theorem seenF_length (t : Int) : ∀ (l : List Sn) (i : Nat), (seenF t i l).length ≤ l.length
  | [], _ => by simp [seenF]
  | x :: xs, i => by
    have h := seenF_length t xs (i + 1)
    rw [seenF]
    split <;> simp only [List.length_cons] <;> omega
theorem seenV_length (l : List Sn) (t : Int) : (seenV l t).length ≤ l.length := seenF_length t l 0
theorem impl_SeenAt_l0 (t : Int) (l : List Sn) (hl : l.length ≤ 1048576) : ∀ (suf pre : List Sn) (out : List Int), pre ++ suf = l → out.length ≤ pre.length →
    Ev (fun k => impl_SeenAt.l0 k l t out l (l.length : Int) (pre.length : Int)) (out ++ seenF t pre.length suf) := by
  intro suf
  induction suf with
  | nil =>
    intro pre out e ho
    have hn : l.length = pre.length := by rw [← e]; simp
    refine Ev.step (fun k => by rw [impl_SeenAt.l0]) ?_
    refine evNeg (by omega) (evEq ?_ (Ev.now _))
    simp [seenF]
  | cons x suf ih =>
    intro pre out e ho
    have hn : l.length = pre.length + (suf.length + 1) := by rw [← e]; simp
    have hx : rd_T51 l (pre.length : Int) = x := by rw [rd_T51, ← e, getD_mid]
    refine Ev.step (fun k => by rw [impl_SeenAt.l0]) ?_
    refine evPos (by omega) (evPos (by omega) (evPos (by omega) ?_))
    rw [hx, wsucc (by omega)]
    have h := fun out ho => ih (pre ++ [x]) out (by simp [← e]) ho
    have h2 : Ev (fun k => impl_SeenAt.l0 k l t out l (l.length : Int) ((pre.length + 1 : Nat) : Int)) (out ++ seenF t (pre.length + 1) suf) := by simpa using h out (by simp; omega)
    by_cases ht : x.f2 = t
    · refine evPos ht (Ev.bind (impl_latest_ev l x.f0 hl) ?_)
      have hlat : latestV l x.f0 = (pre.length : Int) ↔ (suf.all fun y => decide (y.f0 ≠ x.f0)) = true := by rw [← e]; exact latestV_mid pre suf x
      by_cases ha : (suf.all fun y => decide (y.f0 ≠ x.f0)) = true
      · have h1 := h (out ++ [(pre.length : Int)]) (by simp; omega)
        refine evPos (hlat.2 ha) (evPos (by omega) (evEq ?_ (Ev.congr (fun k => ?_) h1)))
        · rw [seenF, ha, decide_eq_true ht]
          simp
        · simp
      · refine evNeg (fun c => ha (hlat.1 c)) (evEq ?_ h2)
        have ha' : (suf.all fun y => decide (y.f0 ≠ x.f0)) = false := by simpa using ha
        rw [seenF, ha']
        simp
    · refine evNeg ht (evEq ?_ h2)
      rw [seenF, decide_eq_false ht]
      simp
theorem impl_SeenAt_ev (l : List Sn) (t : Int) (hl : l.length ≤ 1048576) : Ev (fun k => impl_SeenAt.f k l t) (seenV l t) := by
  have h := impl_SeenAt_l0 t l hl l [] [] rfl (by simp)
  simpa [impl_SeenAt.f, seenV] using h
/-! ### inrange -/
theorem impl_InRange_eq (a b c : Int) : impl_InRange.f a b c = some (decide (b ≤ a ∧ a ≤ c)) := by
  unfold impl_InRange.f
  by_cases h : b ≤ a
  · rw [if_pos h]
    simp [h]
  · rw [if_neg h]
    simp [h]
/-! ### igood -/
def goodF (l : List Sn) : Nat → Nat → List Int
  | 0, _ => []
  | d + 1, p => (if latV l p false ≥ 0 then [latV l p false] else []) ++ goodF l d (p + 1)
def goodV (l : List Sn) (n : Int) : List Int := if 0 ≤ n ∧ n ≤ 12 then goodF l n.toNat 0 else []
theorem goodF_length (l : List Sn) : ∀ (d p : Nat), (goodF l d p).length ≤ d
  | 0, _ => by simp [goodF]
  | d + 1, p => by
    have h := goodF_length l d (p + 1)
    rw [goodF, List.length_append]
    split <;> simp <;> omega
theorem goodV_length (l : List Sn) (n : Int) : (goodV l n).length ≤ 12 := by
  unfold goodV
  split
  · have := goodF_length l n.toNat 0
    omega
  · simp
theorem impl_GoodOnes_l0 (l : List Sn) (hl : l.length ≤ 1048576) (n : Nat) (hn : n ≤ 12) : ∀ (d p : Nat) (out : List Int), p + d = n → out.length ≤ p →
    Ev (fun k => impl_GoodOnes.l0 k l out (n : Int) (p : Int)) (out ++ goodF l d p) := by
  intro d
  induction d with
  | zero =>
    intro p out e ho
    refine Ev.step (fun k => by rw [impl_GoodOnes.l0]) ?_
    refine evNeg (by omega) (evEq ?_ (Ev.now _))
    simp [goodF]
  | succ d ih =>
    intro p out e ho
    refine Ev.step (fun k => by rw [impl_GoodOnes.l0]) ?_
    refine evPos (by omega) (Ev.bind (impl_LatestOf_ev l p false hl) ?_)
    rw [wsucc (by omega)]
    by_cases h : latV l p false ≥ 0
    · refine evPos h (evPos (by omega) (evEq ?_ (ih (p + 1) _ (by omega) (by simp; omega))))
      simp [goodF, h]
    · refine evNeg h (evEq ?_ (ih (p + 1) _ (by omega) (by omega)))
      simp [goodF, h]
theorem impl_GoodOnes_ev (l : List Sn) (n : Int) (hl : l.length ≤ 1048576) : Ev (fun k => impl_GoodOnes.f k l n) (goodV l n) := by
  unfold impl_GoodOnes.f
  refine evSome (impl_InRange_eq _ _ _) ?_
  by_cases h : 0 ≤ n ∧ n ≤ 12
  · refine evPos (by simpa using h) ?_
    have h2 := impl_GoodOnes_l0 l hl n.toNat (by omega) n.toNat 0 [] (by omega) (by simp)
    rw [Int.toNat_of_nonneg h.1] at h2
    refine evEq ?_ h2
    simp [goodV, h]
  · refine evNeg (by simpa using h) (evEq ?_ (Ev.now _))
    simp [goodV, h]
/-! ### series -/
def serV (l : List S51) (p : Int) : List Int := (l.filter fun x => decide (x.f0 = p) && !x.f4).map (·.f3)
theorem serV_length (l : List S51) (p : Int) : (serV l p).length ≤ l.length := by
  unfold serV
  rw [List.length_map]
  exact List.length_filter_le _ _
theorem impl_SeriesOf_l0 (p : Int) : ∀ (suf pre : List S51) (out : List Int), (pre ++ suf).length ≤ 1048576 → out.length ≤ pre.length →
    Ev (fun k => impl_SeriesOf.l0 k p out (pre ++ suf) ((pre ++ suf).length : Int) (pre.length : Int)) (out ++ serV suf p) := by
  intro suf
  induction suf with
  | nil =>
    intro pre out hb ho
    refine Ev.step (fun k => by rw [impl_SeriesOf.l0]) ?_
    refine evNeg (by simp) (evEq ?_ (Ev.now _))
    simp [serV]
  | cons x suf ih =>
    intro pre out hb ho
    simp only [List.length_append, List.length_cons] at hb
    refine Ev.step (fun k => by rw [impl_SeriesOf.l0]) ?_
    refine evPos (by simp only [List.length_append, List.length_cons]; omega) (evPos (by omega) (evPos (by simp only [List.length_append, List.length_cons]; omega) ?_))
    simp only [rd_T51, getD_mid]
    rw [wsucc (by omega)]
    have h := fun out ho => ih (pre ++ [x]) out (by simp; omega) ho
    have hno := h out (by simp; omega)
    by_cases h1 : x.f0 = p
    · refine evPos h1 ?_
      by_cases h4 : x.f4 = true
      · refine evPos h4 (evEq ?_ (Ev.congr (fun k => ?_) hno))
        · simp [serV, h1, h4]
        · simp
      · have h' := h (out ++ [x.f3]) (by simp; omega)
        refine evNeg h4 (evPos (by omega) (evEq ?_ (Ev.congr (fun k => ?_) h')))
        · simp [serV, h1, h4]
        · simp
    · refine evNeg h1 (evEq ?_ (Ev.congr (fun k => ?_) hno))
      · simp [serV, h1]
      · simp
theorem impl_SeriesOf_ev (l : List S51) (p : Int) (hl : l.length ≤ 1048576) : Ev (fun k => impl_SeriesOf.f k l p) (serV l p) := by
  have h := impl_SeriesOf_l0 p l [] [] (by simpa using hl) (by simp)
  simpa [impl_SeriesOf.f] using h
/-! ### law_FnSeen -/
/-- How many are old. -/
def oldN (b : Int) : List Sn → Nat
  | [] => 0
  | x :: xs => (if x.f2 < b then 1 else 0) + oldN b xs
theorem oldN_forg (b : Int) : ∀ l : List Sn, (forgV l b).length + oldN b l = l.length
  | [] => rfl
  | x :: xs => by
    have ih := oldN_forg b xs
    unfold forgV at ih ⊢
    rw [List.filter_cons]
    simp only [oldN, List.length_cons]
    by_cases c : x.f2 < b
    · rw [if_neg (by simp; omega), if_pos c]
      omega
    · rw [if_pos (by simp; omega), if_neg c, List.length_cons]
      omega
theorem oldN_app (b : Int) (x : Sn) : ∀ l : List Sn, oldN b (l ++ [x]) = oldN b l + (if x.f2 < b then 1 else 0)
  | [] => by simp [oldN]
  | y :: l => by
    rw [List.cons_append, oldN, oldN, oldN_app b x l]
    omega
theorem rd_T_mid (pre suf : List Sn) (x : Sn) : rd_T51 (pre ++ x :: suf) (pre.length : Int) = x := by
  unfold rd_T51
  exact getD_mid pre suf x _
theorem seenF_mem (t : Int) : ∀ (l : List Sn) (i : Nat) (v : Int), v ∈ seenF t i l → ∃ pre x suf, l = pre ++ x :: suf ∧ v = ((i + pre.length : Nat) : Int) ∧ x.f2 = t ∧ (suf.all fun y => decide (y.f0 ≠ x.f0)) = true
  | [], i, v, h => by simp [seenF] at h
  | x :: xs, i, v, h => by
    rw [seenF] at h
    have up : v ∈ seenF t (i + 1) xs → ∃ pre y suf, x :: xs = pre ++ y :: suf ∧ v = ((i + pre.length : Nat) : Int) ∧ y.f2 = t ∧ (suf.all fun z => decide (z.f0 ≠ y.f0)) = true := fun h => by
      obtain ⟨pre, y, suf, e1, e2, e3, e4⟩ := seenF_mem t xs (i + 1) v h
      exact ⟨x :: pre, y, suf, by rw [e1]; rfl, by rw [e2, List.length_cons]; omega, e3, e4⟩
    by_cases c : (decide (x.f2 = t) && xs.all fun y => decide (y.f0 ≠ x.f0)) = true
    · rw [if_pos c] at h
      rcases List.mem_cons.1 h with rfl | h
      · rw [Bool.and_eq_true, decide_eq_true_eq] at c
        exact ⟨[], x, xs, rfl, by simp, c.1, c.2⟩
      · exact up h
    · rw [if_neg c] at h
      exact up h
theorem mx_comm (a b : Int) : mx a b = mx b a := by
  unfold mx
  split <;> split <;> omega
theorem seenV_mem {t : Int} {l : List Sn} {v : Int} (h : v ∈ seenV l t) : (0 ≤ v ∧ v < (l.length : Int)) ∧ (rd_T51 l v).f2 = t ∧ mx (latV l (rd_T51 l v).f0 true) (latV l (rd_T51 l v).f0 false) = v := by
  obtain ⟨pre, x, suf, e1, e2, e3, e4⟩ := seenF_mem t l 0 v h
  rw [Nat.zero_add] at e2
  subst e1 e2
  rw [rd_T_mid]
  refine ⟨⟨by omega, by simp; omega⟩, e3, ?_⟩
  rw [mx_comm]
  exact (latestV_mid pre suf x).2 e4
theorem latF_mem (p : Int) (b : Bool) : ∀ (l : List Sn) (i : Nat) (k : Int), latF p b i k l = k ∨ ∃ pre x suf, l = pre ++ x :: suf ∧ latF p b i k l = ((i + pre.length : Nat) : Int) ∧ mt p b x = true ∧ ∀ y ∈ suf, mt p b y = false
  | [], i, k => Or.inl rfl
  | x :: xs, i, k => by
    rw [latF]
    by_cases c : mt p b x = true
    · rw [if_pos c]
      by_cases ca : ∀ y ∈ xs, mt p b y = false
      · right
        refine ⟨[], x, xs, rfl, ?_, c, ca⟩
        have stay : ∀ (l : List Sn) (i : Nat) (k : Int), (∀ y ∈ l, mt p b y = false) → latF p b i k l = k := by
          intro l
          induction l with
          | nil => intro i k _; rfl
          | cons z l il =>
            intro i k hz
            rw [latF, if_neg (by rw [hz z (by simp)]; simp)]
            exact il _ _ (fun y hy => hz y (by simp [hy]))
        rw [stay xs _ _ ca]
        simp
      · rcases latF_mem p b xs (i + 1) (i : Int) with h | ⟨pre, y, suf, e1, e2, e3, e4⟩
        · exfalso
          apply ca
          intro y hy
          cases hm : mt p b y with
          | false => rfl
          | true =>
            exfalso
            have big : ∀ (l : List Sn) (i : Nat) (k : Int), k < i → (∃ y ∈ l, mt p b y = true) → (i : Int) ≤ latF p b i k l := by
              have ge : ∀ (l : List Sn) (i : Nat) (k : Int), k < i → k ≤ latF p b i k l := by
                intro l
                induction l with
                | nil => intro i k _; exact Int.le_refl _
                | cons z l il =>
                  intro i k hk
                  rw [latF]
                  split
                  · have := il (i + 1) (i : Int) (by omega)
                    omega
                  · exact il (i + 1) k (by omega)
              intro l
              induction l with
              | nil => rintro i k _ ⟨y, hy, _⟩; simp at hy
              | cons z l il =>
                rintro i k hk ⟨y, hy, hm⟩
                rw [latF]
                rcases List.mem_cons.1 hy with rfl | hy
                · rw [if_pos hm]
                  exact ge l (i + 1) (i : Int) (by omega)
                · have := il (i + 1) (if mt p b z = true then (i : Int) else k) (by split <;> omega) ⟨y, hy, hm⟩
                  omega
            have := big xs (i + 1) (i : Int) (by omega) ⟨y, hy, hm⟩
            omega
        · right
          exact ⟨x :: pre, y, suf, by rw [e1]; rfl, by rw [e2, List.length_cons]; omega, e3, e4⟩
    · rw [if_neg c]
      rcases latF_mem p b xs (i + 1) k with h | ⟨pre, y, suf, e1, e2, e3, e4⟩
      · exact Or.inl h
      · right
        exact ⟨x :: pre, y, suf, by rw [e1]; rfl, by rw [e2, List.length_cons]; omega, e3, e4⟩
theorem latV_mem {l : List Sn} {p : Int} (h : latV l p false ≥ 0) : (latV l p false < (l.length : Int)) ∧ (rd_T51 l (latV l p false)).f0 = p ∧ (rd_T51 l (latV l p false)).f4 = false ∧
    ∃ q, serV l p = q ++ [(rd_T51 l (latV l p false)).f3] := by
  rcases latF_mem p false l 0 (-1) with e | ⟨pre, x, suf, e1, e2, e3, e4⟩
  · unfold latV at h
    omega
  · rw [Nat.zero_add] at e2
    have e2' : latV l p false = (pre.length : Int) := e2
    rw [e2']
    subst e1
    rw [rd_T_mid]
    simp only [mt, Bool.and_eq_true, decide_eq_true_eq, beq_iff_eq] at e3
    refine ⟨by simp; omega, e3.1, e3.2, serV pre p, ?_⟩
    unfold serV
    rw [List.filter_append, List.filter_cons, if_pos (by simp [e3])]
    have : suf.filter (fun x => decide (x.f0 = p) && !x.f4) = [] := by
      rw [List.filter_eq_nil_iff]
      intro y hy
      have := e4 y hy
      simp only [mt] at this
      cases hf : y.f4 with
      | true => simp
      | false =>
        rw [hf] at this
        simpa using this
    rw [this]
    simp
/-- The probe of what stands at a place. -/
def prAt (l : List Sn) (v : Int) : Int := (rd_T51 l v).f0
theorem goodF_mem (l : List Sn) : ∀ (d p : Nat), (∀ v ∈ goodF l d p, (p : Int) ≤ prAt l v ∧ v = latV l (prAt l v) false ∧ 0 ≤ v) ∧ (goodF l d p).Pairwise (fun u v => prAt l u < prAt l v)
  | 0, p => by simp [goodF]
  | d + 1, p => by
    have ih := goodF_mem l d (p + 1)
    rw [goodF]
    by_cases h : latV l (p : Int) false ≥ 0
    · have hm := latV_mem h
      have hp : prAt l (latV l (p : Int) false) = (p : Int) := hm.2.1
      rw [if_pos h, List.singleton_append]
      refine ⟨?_, List.pairwise_cons.2 ⟨fun v hv => ?_, ih.2⟩⟩
      · intro v hv
        rcases List.mem_cons.1 hv with rfl | hv
        · rw [hp]
          exact ⟨Int.le_refl _, rfl, h⟩
        · have := ih.1 v hv
          exact ⟨by omega, this.2⟩
      · have := ih.1 v hv
        omega
    · rw [if_neg h, List.nil_append]
      exact ⟨fun v hv => by have := ih.1 v hv; exact ⟨by omega, this.2⟩, ih.2⟩
theorem goodV_mem (l : List Sn) (n : Int) : (∀ v ∈ goodV l n, v = latV l (prAt l v) false ∧ 0 ≤ v) ∧ (goodV l n).Pairwise (fun u v => prAt l u < prAt l v) := by
  unfold goodV
  split
  · have h := goodF_mem l n.toNat 0
    exact ⟨fun v hv => (h.1 v hv).2, h.2⟩
  · simp
theorem law_l2 (l : List Sn) (n : Int) (hl : l.length ≤ 61) : ∀ (d j : Nat), j + d = (goodV l n).length → Ev (fun k => laws_FnSeen.l2 k l (goodV l n) (j : Int)) true := by
  have hg := goodV_mem l n
  have hgl := goodV_length l n
  intro d
  induction d with
  | zero =>
    intro j e
    exact Ev.step (fun k => by rw [laws_FnSeen.l2]) (evNeg (by omega) (Ev.now _))
  | succ d ih =>
    intro j e
    have hn := ih (j + 1) (by omega)
    have hj : j < (goodV l n).length := by omega
    have hv := hg.1 _ (List.getElem_mem hj)
    have hv2 := hv.2
    have er : rd (goodV l n) (j : Int) = (goodV l n)[j] := rd_at _ j hj
    have hm := latV_mem (l := l) (p := prAt l (goodV l n)[j]) (by omega)
    rw [← hv.1] at hm
    obtain ⟨q, hq⟩ := hm.2.2.2
    have hql : (serV l (prAt l (goodV l n)[j])).length = q.length + 1 := by rw [hq]; simp
    have hsl := serV_length l (prAt l (goodV l n)[j])
    refine Ev.step (fun k => by rw [laws_FnSeen.l2]) (evPos (by omega) (evPos (by omega) ?_))
    rw [er, wsucc (by omega)]
    refine evPos hv.2 (evPos hm.1 (Ev.bind (impl_SeriesOf_ev l _ (by omega)) (evNeg (by rw [hm.2.2.1]; simp) ?_)))
    have e0 : (rd_T51 l (goodV l n)[j]).f0 = prAt l (goodV l n)[j] := rfl
    rw [e0, hql, w64 (by omega) (by omega)]
    refine evNeg (by omega) (evPos (by omega) (evPos (by omega) (evPos ?_ ?_)))
    · rw [hq, show ((q.length + 1 : Nat) : Int) - 1 = (q.length : Int) by omega]
      exact rd_mid q [] _
    · by_cases h0 : (j : Int) > 0
      · have hjj : j - 1 < (goodV l n).length := by omega
        have er2 : rd (goodV l n) (wrap64 ((j : Int) - 1)) = (goodV l n)[j - 1] := by
          rw [w64 (by omega) (by omega), show (j : Int) - 1 = ((j - 1 : Nat) : Int) by omega]
          exact rd_at _ _ hjj
        have hw : wrap64 ((j : Int) - 1) = (j : Int) - 1 := w64 (by omega) (by omega)
        have hlt := List.pairwise_iff_getElem.1 hg.2 (j - 1) j hjj hj (by omega)
        have hu := hg.1 _ (List.getElem_mem hjj)
        have hu2 := hu.2
        have hum := latV_mem (l := l) (p := prAt l (goodV l n)[j - 1]) (by omega)
        rw [← hu.1] at hum
        rw [er2]
        refine evPos h0 (evPos (by omega) (evPos (by omega) (evPos hu.2 (evPos hum.1 (evNeg ?_ hn)))))
        have : (rd_T51 l (goodV l n)[j - 1]).f0 = prAt l (goodV l n)[j - 1] := rfl
        rw [this]
        omega
      · exact evNeg h0 hn
theorem law_l1 (b : List Int) (hb : b.length ≤ 1048576) (l : List Sn) (t : Int) (hl : l.length ≤ 61) : ∀ (d j : Nat), j + d = (seenV l t).length → Ev (fun k => laws_FnSeen.l1 k b l t (seenV l t) (j : Int)) true := by
  have hsl := seenV_length l t
  intro d
  induction d with
  | zero =>
    intro j e
    obtain ⟨o, n, ed, ho⟩ := drawGoodOnes_ev b hb
    exact Ev.step (fun k => by rw [laws_FnSeen.l1]) (evNeg (by omega) (Ev.bind ed (Ev.bind (impl_GoodOnes_ev o n (by omega)) (law_l2 o n ho (goodV o n).length 0 (by omega)))))
  | succ d ih =>
    intro j e
    have hn := ih (j + 1) (by omega)
    have hj : j < (seenV l t).length := by omega
    have hv := seenV_mem (List.getElem_mem hj)
    have er : rd (seenV l t) (j : Int) = (seenV l t)[j] := rd_at _ j hj
    refine Ev.step (fun k => by rw [laws_FnSeen.l1]) (evPos (by omega) (evPos (by omega) ?_))
    rw [er, wsucc (by omega)]
    exact evPos hv.1.1 (evPos hv.1.2 (evPos hv.2.1 (Ev.bind (impl_LatestOf_ev l _ true (by omega)) (Ev.bind (impl_LatestOf_ev l _ false (by omega)) (evSome rfl (evPos hv.2.2 hn))))))
theorem law_l0 (b : List Int) (hb : b.length ≤ 1048576) (l : List Sn) (t : Int) (hl : l.length ≤ 61) : ∀ (suf pre : List Sn), pre ++ suf = l → Ev (fun k => laws_FnSeen.l0 k b l t (forgV l t) ((oldN t pre : Nat) : Int) (pre.length : Int)) true := by
  have hf := forgV_length l t
  have ho := oldN_forg t l
  intro suf
  induction suf with
  | nil =>
    intro pre e
    rw [List.append_nil] at e
    subst e
    obtain ⟨s, n, ed, hs⟩ := drawSeenAt_ev b hb
    refine Ev.step (fun k => by rw [laws_FnSeen.l0]) (evNeg (by omega) ?_)
    rw [w64 (by omega) (by omega)]
    exact evPos (by omega) (Ev.bind ed (Ev.bind (impl_SeenAt_ev s n (by omega)) (law_l1 b hb s n hs (seenV s n).length 0 (by omega))))
  | cons x suf ih =>
    intro pre e
    have hn := ih (pre ++ [x]) (by rw [List.append_assoc]; exact e)
    rw [oldN_app, show ((pre ++ [x]).length : Nat) = pre.length + 1 by simp] at hn
    have hl2 : l.length = pre.length + (suf.length + 1) := by
      rw [← e]
      simp
    have ho2 : oldN t pre ≤ pre.length := by
      have := oldN_forg t pre
      omega
    have er : rd_T51 l (pre.length : Int) = x := by
      rw [← e]
      exact rd_T_mid pre suf x
    refine Ev.step (fun k => by rw [laws_FnSeen.l0]) (evPos (by omega) (evPos (by omega) ?_))
    rw [er, wsucc (j := pre.length) (by omega)]
    by_cases c : x.f2 < t
    · rw [if_pos c] at hn
      rw [wsucc (j := oldN t pre) (by omega)]
      exact evPos c hn
    · rw [if_neg c, Nat.add_zero] at hn
      exact evNeg c hn
theorem FnSeen : laws_FnSeen.PureR := by
  intro b h
  refine Ev.rounds ?_
  unfold laws_FnSeen.f
  refine evSome (big_eq b) ?_
  by_cases hb : (b.length : Int) > 1048576
  · exact evPos (by simp [hb]) (Ev.now _)
  refine evNeg (by simp; omega) ?_
  obtain ⟨l, t, ed, hl⟩ := drawForget_ev b (by omega)
  exact Ev.bind ed (Ev.bind (impl_ForgetSeen_ev l t (by omega)) (law_l0 b (by omega) l t hl l [] rfl))
end Go.Proofs.Ytjhbpiboemajeaa.Pure
