/- Shares add up to the sum of the secrets, and without one of them every secret is as possible as any other: for all drawn inputs. -/
import Derived.Test.YtjhbpiboemajeaaRFnSecrets
import Derived.Test.YtjhbpiboemajeaaBase
namespace Go.Proofs.Ytjhbpiboemajeaa.Pure
open Go.RowKit Go.Proofs.Ytjhbpiboemajeaa.Base Go.Proofs.Ytjhbpiboemajeaa.PFnSecrets Go.Proofs.YtjhbpiboemajeaaW.PrintWords Go.Proofs.YtjhbpiboemajeaaW.PrintLast
set_option linter.unusedVariables false
set_option linter.unusedSimpArgs false
/-! ### draw -/
/-- A cursor that a draw may go on with: it stands within the bytes. -/
def cur (b : List Int) (i : Int) : Prop := b.length ≤ 9223372036854775807 ∧ 0 ≤ i ∧ i ≤ (b.length : Int)
theorem l1New_l0 (b : List Int) (hb : b.length ≤ 9223372036854775806) : ∀ (d j : Nat) (h : Int), j + d = b.length → ∃ h', Ev (fun k => spec_l1New.l0 k b h (j : Int)) (b, 0, h') := by
  intro d
  induction d with
  | zero =>
    intro j h e
    exact ⟨h, (by refine Ev.step (fun k => by rw [spec_l1New.l0]) ?_; exact evNeg (by omega) (Ev.now _))⟩
  | succ d ih =>
    intro j h e
    by_cases hj : (j : Int) < 4000
    · obtain ⟨h', he⟩ := ih (j + 1) (Go.bits .and .i64 (wrap64 ((wrap64 ((wrap64 (h * 137)) + (wrap64 (rd b (j : Int))))) + 11)) 1073741823) (by omega)
      refine ⟨h', ?_⟩
      refine Ev.step (fun k => by rw [spec_l1New.l0]) ?_
      refine evPos (by omega) (evPos hj (evPos (by omega) ?_))
      rw [wsucc (by omega)]
      exact he
    · exact ⟨h, Ev.step (fun k => by rw [spec_l1New.l0]) (evPos (by omega) (evNeg hj (Ev.now _)))⟩
theorem l1New_ev (b : List Int) (hb : b.length ≤ 9223372036854775806) : ∃ h, Ev (fun k => spec_l1New.f k b) (b, 0, h) ∧ cur b 0 := by
  obtain ⟨h, he⟩ := l1New_l0 b hb b.length 0 (wrap64 (193017 + (b.length : Int))) (by omega)
  exact ⟨h, he, by omega, by omega, by omega⟩
theorem l1Byte_eq (b : List Int) (i h : Int) (hc : cur b i) : ∃ v i' h', spec_l1Byte.f b i h = some (v, i', h') ∧ cur b i' ∧ 0 ≤ v ∧ v ≤ 255 := by
  obtain ⟨h1, h2, h3⟩ := hc
  unfold spec_l1Byte.f
  by_cases hi : i < (b.length : Int)
  · rw [if_pos hi, if_pos h2]
    have ha := and255 (wrap64 ((Go.bits .and .i64 (Go.bits .xor .i64 ((wrap64 ((wrap64 (h * 6364136223846793005)) + 1442695040888963407)) / 8589934592) ((wrap64 ((wrap64 (h * 6364136223846793005)) + 1442695040888963407)) / 140737488355328)) 255) + (wrap64 (rd b i))))
    refine ⟨_, _, _, rfl, ⟨h1, ?_, ?_⟩, ha.1, ha.2⟩
    · rw [w64 (by omega) (by omega)]
      omega
    · rw [w64 (by omega) (by omega)]
      omega
  · rw [if_neg hi]
    have ha := and255 (Go.bits .xor .i64 ((wrap64 ((wrap64 (h * 6364136223846793005)) + 1442695040888963407)) / 8589934592) ((wrap64 ((wrap64 (h * 6364136223846793005)) + 1442695040888963407)) / 140737488355328))
    exact ⟨_, _, _, rfl, ⟨h1, h2, h3⟩, ha.1, ha.2⟩
theorem l1Below_eq (b : List Int) (i h n : Int) (hc : cur b i) (hn : 1 ≤ n) : ∃ v i' h', spec_l1Below.f b i h n = some (v, i', h') ∧ cur b i' ∧ 0 ≤ v ∧ v < n := by
  unfold spec_l1Below.f
  rw [if_neg (by omega)]
  obtain ⟨v1, i1, h1, e1, c1, p1, q1⟩ := l1Byte_eq b i h hc
  by_cases hs : n ≤ 256
  · rw [if_pos hs, e1]
    have hr := tmod_range hn p1
    exact ⟨_, _, _, by rw [Option.bind_some, if_neg (by omega)], c1, hr.1, hr.2⟩
  · obtain ⟨v2, i2, h2, e2, c2, p2, q2⟩ := l1Byte_eq b i1 h1 c1
    obtain ⟨v3, i3, h3, e3, c3, p3, q3⟩ := l1Byte_eq b i2 h2 c2
    rw [if_neg hs, e1, Option.bind_some, e2, Option.bind_some, e3, Option.bind_some, if_neg (by omega)]
    dsimp only
    rw [w64 (n := v1 * 65536) (by omega) (by omega), w64 (n := v2 * 256) (by omega) (by omega), w64 (n := v1 * 65536 + v2 * 256) (by omega) (by omega), w64 (n := v1 * 65536 + v2 * 256 + v3) (by omega) (by omega)]
    have hr := tmod_range (a := v1 * 65536 + v2 * 256 + v3) hn (by omega)
    exact ⟨_, _, _, rfl, c3, hr.1, hr.2⟩
theorem l1Below_zero (b : List Int) (i h n : Int) (hn : n ≤ 0) : spec_l1Below.f b i h n = some (0, i, h) := by
  unfold spec_l1Below.f
  rw [if_pos hn]
theorem l1Int_eq (b : List Int) (i h : Int) (l : List Int) (hc : cur b i) (hl : l ≠ []) : ∃ v i' h', spec_l1Int.f b i h l = some (v, i', h') ∧ cur b i' ∧ v ∈ l := by
  have hp : 0 < l.length := List.length_pos_iff.2 hl
  obtain ⟨v, i', h', e, c, p, q⟩ := l1Below_eq b i h (l.length : Int) hc (by omega)
  unfold spec_l1Int.f
  rw [e, Option.bind_some, if_pos p, if_pos q]
  refine ⟨_, _, _, rfl, c, ?_⟩
  have hv : v.toNat < l.length := by omega
  have : rd l v = l[v.toNat] := by simp [rd, hv]
  rw [this]
  exact List.getElem_mem hv
theorem l1Once_eq (b : List Int) (i h n : Int) (hc : cur b i) (hn : 1 ≤ n) : ∃ v i' h', spec_l1Once.f b i h n = some (v, i', h') ∧ cur b i' := by
  obtain ⟨v, i', h', e, c, _⟩ := l1Below_eq b i h n hc hn
  unfold spec_l1Once.f
  rw [e]
  exact ⟨_, _, _, rfl, c⟩
theorem big_eq (l : List Int) : laws_big.f l = some (decide ((l.length : Int) > 1048576)) := rfl
/-! ### inrange -/
theorem impl_InRange_eq (a b c : Int) : impl_InRange.f a b c = some (decide (b ≤ a ∧ a ≤ c)) := by
  unfold impl_InRange.f
  by_cases h : b ≤ a
  · rw [if_pos h]
    simp [h]
  · rw [if_neg h]
    simp [h]
/-! ### allin -/
theorem impl_allIn_l0 (lo hi : Int) : ∀ (suf pre : List Int), (pre ++ suf).length ≤ 1048576 →
    Ev (fun k => impl_allIn.l0 k lo hi (pre ++ suf) ((pre ++ suf).length : Int) (pre.length : Int)) (suf.all fun x => decide (lo ≤ x ∧ x ≤ hi)) := by
  intro suf
  induction suf with
  | nil =>
    intro pre hb
    refine Ev.step (fun k => by rw [impl_allIn.l0]) ?_
    exact evNeg (by simp) (Ev.now _)
  | cons x suf ih =>
    intro pre hb
    simp only [List.length_append, List.length_cons] at hb
    refine Ev.step (fun k => by rw [impl_allIn.l0]) ?_
    refine evPos (by simp only [List.length_append, List.length_cons]; omega) (evPos (by omega) (evPos (by simp only [List.length_append, List.length_cons]; omega) ?_))
    rw [rd_mid, wsucc (by omega)]
    refine evSome (impl_InRange_eq _ _ _) ?_
    by_cases hx : lo ≤ x ∧ x ≤ hi
    · refine evPos (by simp [hx]) ?_
      have h := ih (pre ++ [x]) (by simp; omega)
      refine evEq ?_ (Ev.congr (fun k => ?_) h)
      · simp [hx]
      · simp
    · refine evNeg (by simpa using hx) (evEq ?_ (Ev.now _))
      simp [hx]
theorem impl_allIn_ev (l : List Int) (lo hi : Int) (hl : l.length ≤ 1048576) : Ev (fun k => impl_allIn.f k l lo hi) (l.all fun x => decide (lo ≤ x ∧ x ≤ hi)) := by
  have h := impl_allIn_l0 lo hi l [] (by simpa using hl)
  simpa [impl_allIn.f] using h
/-! ### small -/
theorem spec_l1In_eq (a b c : Int) : spec_l1In.f a b c = some (decide (b ≤ a ∧ a ≤ c)) := by
  unfold spec_l1In.f
  by_cases h : a ≥ b
  · rw [if_pos h]
    simp [show b ≤ a from h]
  · rw [if_neg h]
    have : ¬ b ≤ a := h
    simp [this]
/-! ### sumi -/
def sumI : List Int → Int
  | [] => 0
  | x :: xs => x + sumI xs
def inW (l : List Int) : Bool := l.all fun x => decide (0 ≤ x ∧ x ≤ 996)
theorem sumI_bounds : ∀ l : List Int, inW l = true → 0 ≤ sumI l ∧ sumI l ≤ 996 * (l.length : Int)
  | [], _ => by simp [sumI]
  | x :: xs, h => by
    simp only [inW, List.all_cons, Bool.and_eq_true, decide_eq_true_eq] at h
    have ih := sumI_bounds xs h.2
    simp only [sumI, List.length_cons]
    omega
theorem spec_l25In_eq (x : Int) : spec_l25In.f x = some (decide (0 ≤ x ∧ x ≤ 996)) := by
  unfold spec_l25In.f
  rw [spec_l1In_eq]
  rfl
/-! ### clone -/
theorem clone_eq (l : List Int) (hl : l.length ≤ 1048576) : slices_Clone_int_int.f l = some l := by
  unfold slices_Clone_int_int.f
  simp
  omega
/-! ### smod -/
theorem tmod_twice (n m : Int) (h1 : 1 ≤ m) (h2 : m ≤ 1000000000000) : Int.tmod (wrap64 ((Int.tmod n m) + m)) m = n % m := by
  have h3 : -m < Int.tmod n m ∧ Int.tmod n m < m := by
    have a := Int.tmod_lt_of_pos n (show 0 < m by omega)
    have b := Int.lt_tmod_of_pos n (show 0 < m by omega)
    omega
  rw [w64 (by omega) (by omega), Int.tmod_eq_emod_of_nonneg (by omega), Int.add_emod_right]
  rcases Int.le_total 0 n with h | h
  · rw [Int.tmod_eq_emod_of_nonneg h, Int.emod_emod]
  · obtain ⟨p, rfl⟩ : ∃ p, n = -p := ⟨-n, by omega⟩
    rw [Int.neg_tmod, Int.tmod_eq_emod_of_nonneg (by omega)]
    have e := Int.mul_ediv_add_emod p m
    have e2 : -p = -(p % m) + m * (-(p / m)) := by
      rw [Int.mul_neg]
      omega
    rw [e2, Int.add_mul_emod_self_left]
theorem spec_Mod_eq (n m : Int) (h1 : 1 ≤ m) (h2 : m ≤ 1000000000000) : spec_Mod.f n m = some (n % m) := by
  unfold spec_Mod.f
  rw [spec_l1In_eq, Option.bind_some, if_pos (by simp [h1, h2]), if_neg (by omega), tmod_twice n m h1 h2]
/-! ### imod -/
theorem impl_Mod_eq (n m : Int) (h1 : 1 ≤ m) (h2 : m ≤ 1000000000000) : impl_Mod.f n m = some (n % m) := by
  unfold impl_Mod.f
  rw [impl_InRange_eq, Option.bind_some, if_pos (by simp [h1, h2]), if_neg (by omega), tmod_twice n m h1 h2]
/-! ### shares -/
def shareV (s : Int) (p : List Int) : List Int := if (1 ≤ p.length ∧ p.length ≤ 4) ∧ (0 ≤ s ∧ s ≤ 996) ∧ inW p = true then p ++ [(s - sumI p) % 997] else []
theorem shareV_length (s : Int) (p : List Int) : (shareV s p).length ≤ 5 := by
  unfold shareV
  split
  · rename_i h
    simp
    omega
  · simp
theorem inW_cons' {x : Int} {l : List Int} : inW (x :: l) = true ↔ (0 ≤ x ∧ x ≤ 996) ∧ inW l = true := by
  simp [inW]
theorem spec_SharesOf_l0 (s : Int) (h0 : 0 ≤ s ∧ s ≤ 996) : ∀ (suf pre : List Int) (t : Int), (pre ++ suf).length ≤ 4 → 0 ≤ t → t ≤ 996 * (pre.length : Int) →
    Ev (fun k => spec_SharesOf.l0 k s (pre ++ suf) t (pre.length : Int)) (if inW suf = true then pre ++ suf ++ [(s - (t + sumI suf)) % 997] else []) := by
  intro suf
  induction suf with
  | nil =>
    intro pre t hb ht hs
    refine Ev.step (fun k => by rw [spec_SharesOf.l0]) ?_
    simp only [List.length_append, List.length_nil] at hb
    refine evNeg (by simp) (evSome rfl (evPos (by simp; omega) (evSome rfl ?_)))
    rw [w64 (by omega) (by omega)]
    refine evSome (spec_Mod_eq _ _ (by omega) (by omega)) (evPos (by simp; omega) (evEq ?_ (Ev.now _)))
    simp [inW, sumI]
  | cons x suf ih =>
    intro pre t hb ht hs
    simp only [List.length_append, List.length_cons] at hb
    refine Ev.step (fun k => by rw [spec_SharesOf.l0]) ?_
    refine evPos (by simp only [List.length_append, List.length_cons]; omega) (evPos (by omega) ?_)
    rw [rd_mid, wsucc (by omega)]
    refine evSome (spec_l25In_eq _) ?_
    by_cases hx : 0 ≤ x ∧ x ≤ 996
    · refine evPos (by simp [hx]) ?_
      rw [w64 (by omega) (by omega)]
      have h := ih (pre ++ [x]) (t + x) (by simp; omega) (by omega) (by simp; omega)
      refine evEq ?_ (Ev.congr (fun k => ?_) h)
      · simp only [inW_cons', hx, sumI, Int.add_assoc]
        simp
      · simp
    · refine evNeg (by simpa using hx) (evEq ?_ (Ev.now _))
      simp only [inW_cons', hx, false_and, if_false]
theorem spec_SharesOf_ev (s : Int) (p : List Int) : Ev (fun k => spec_SharesOf.f k s p) (shareV s p) := by
  unfold spec_SharesOf.f
  refine evSome (spec_l1In_eq _ _ _) ?_
  by_cases hl : 1 ≤ p.length ∧ p.length ≤ 4
  · refine evPos (by simp; omega) (evSome (spec_l25In_eq _) (Ev.step (fun k => by rw [spec_SharesOf.j0]) ?_))
    by_cases hs : 0 ≤ s ∧ s ≤ 996
    · refine evNeg (by simp [hs]) ?_
      have h := spec_SharesOf_l0 s hs p [] 0 (by simpa using hl.2) (by omega) (by simp)
      refine evEq ?_ h
      simp [shareV, hl, hs]
    · refine evPos (by simp; omega) (evEq ?_ (Ev.now _))
      simp [shareV, hs]
  · refine evNeg (by simp; omega) (Ev.step (fun k => by rw [spec_SharesOf.j0]) (evPos rfl (evEq ?_ (Ev.now _))))
    simp [shareV, hl]
theorem impl_SharesOf_l0 (p : List Int) (hp : p.length ≤ 4) : ∀ (suf pre : List Int) (t : Int), pre ++ suf = p → inW suf = true → -996 * (pre.length : Int) ≤ t → t ≤ 996 →
    Ev (fun k => impl_SharesOf.l0 k p t p (p.length : Int) (pre.length : Int)) (p ++ [(t - sumI suf) % 997]) := by
  intro suf
  induction suf with
  | nil =>
    intro pre t e hw h0 h1
    have hl : p.length = pre.length := by rw [← e]; simp
    refine Ev.step (fun k => by rw [impl_SharesOf.l0]) ?_
    refine evNeg (by omega) (evSome (clone_eq p (by omega)) (evSome (impl_Mod_eq _ _ (by omega) (by omega)) (evPos (by omega) (evEq ?_ (Ev.now _)))))
    simp [sumI]
  | cons x suf ih =>
    intro pre t e hw h0 h1
    rw [inW_cons'] at hw
    have hl : p.length = pre.length + (suf.length + 1) := by rw [← e]; simp
    have hx : rd p (pre.length : Int) = x := by rw [← e, rd_mid]
    refine Ev.step (fun k => by rw [impl_SharesOf.l0]) ?_
    refine evPos (by omega) (evPos (by omega) (evPos (by omega) ?_))
    rw [hx, wsucc (by omega), w64 (by omega) (by omega)]
    have h := ih (pre ++ [x]) (t - x) (by simp [← e]) hw.2 (by simp; omega) (by omega)
    refine evEq ?_ (Ev.congr (fun k => ?_) h)
    · rw [sumI, show t - (x + sumI suf) = t - x - sumI suf by omega]
    · simp
theorem impl_SharesOf_ev (s : Int) (p : List Int) (hp : p.length ≤ 1048576) : Ev (fun k => impl_SharesOf.f k s p) (shareV s p) := by
  unfold impl_SharesOf.f
  refine evSome (impl_InRange_eq _ _ _) ?_
  by_cases hl : 1 ≤ p.length ∧ p.length ≤ 4
  · refine evPos (by simp; omega) (Ev.bind (impl_allIn_ev p 0 996 hp) ?_)
    by_cases hw : inW p = true
    · refine evPos hw (evSome (impl_InRange_eq _ _ _) (Ev.step (fun k => by rw [impl_SharesOf.j0]) ?_))
      by_cases hs : 0 ≤ s ∧ s ≤ 996
      · refine evNeg (by simp [hs]) (evEq ?_ (impl_SharesOf_l0 p hl.2 p [] s rfl hw (by simp; omega) hs.2))
        simp [shareV, hl, hs, hw]
      · refine evPos (by simp; omega) (evEq ?_ (Ev.now _))
        simp [shareV, hs]
    · refine evNeg hw (Ev.step (fun k => by rw [impl_SharesOf.j0]) (evPos rfl (evEq ?_ (Ev.now _))))
      simp [shareV, hw]
  · refine evNeg (by simp; omega) (Ev.step (fun k => by rw [impl_SharesOf.j0]) (evPos rfl (evEq ?_ (Ev.now _))))
    simp [shareV, hl]
/-! ### drawshares -/
theorem l25Parts_l0 (b : List Int) : ∀ (d : Nat) (out : List Int) (i h : Int), cur b i → out.length + d ≤ 5 → 1 ≤ out.length + d →
    ∃ r i' h', Ev (fun k => spec_l25Parts.l0 k out (d : Int) b i h) (r, i', h') ∧ cur b i' ∧ r.length ≤ 5 := by
  intro d
  induction d with
  | zero =>
    intro out i h hc hl h1
    obtain ⟨v, i1, h1', e1, c1, p1, q1⟩ := l1Below_eq b i h 9 hc (by omega)
    by_cases hv0 : v = 0
    · obtain ⟨v2, i2, h2, e2, c2, _⟩ := l1Int_eq b i1 h1' [(-1), 997, 9223372036854775807] c1 (by simp)
      refine ⟨_, _, _, (by refine Ev.step (fun k => by rw [spec_l25Parts.l0]) ?_; exact evNeg (by omega) (evSome e1 (evPos hv0 (evSome e2 (evPos (by omega) (Ev.now _)))))), c2, ?_⟩
      rw [List.length_set]
      omega
    by_cases hv1 : v = 1
    · exact ⟨_, _, _, Ev.step (fun k => by rw [spec_l25Parts.l0]) (evNeg (by omega) (evSome e1 (evNeg hv0 (evPos hv1 (Ev.now _))))), c1, by simp⟩
    by_cases hv2 : v = 2
    · exact ⟨_, _, _, Ev.step (fun k => by rw [spec_l25Parts.l0]) (evNeg (by omega) (evSome e1 (evNeg hv0 (evNeg hv1 (evPos hv2 (Ev.now _)))))), c1, by simp⟩
    · exact ⟨_, _, _, Ev.step (fun k => by rw [spec_l25Parts.l0]) (evNeg (by omega) (evSome e1 (evNeg hv0 (evNeg hv1 (evNeg hv2 (Ev.now _)))))), c1, by omega⟩
  | succ d ih =>
    intro out i h hc hl h1
    obtain ⟨v, i1, h1', e1, c1, p1, q1⟩ := l1Below_eq b i h 997 hc (by omega)
    obtain ⟨r, i', h', he, hc', hr⟩ := ih (out ++ [v]) i1 h1' c1 (by simp; omega) (by simp; omega)
    refine ⟨r, i', h', ?_, hc', hr⟩
    refine Ev.step (fun k => by rw [spec_l25Parts.l0]) ?_
    refine evPos (by omega) (evSome e1 (evPos (by omega) ?_))
    rw [w64 (by omega) (by omega), show ((d + 1 : Nat) : Int) - 1 = (d : Int) by omega]
    exact he
theorem l25Parts_ev (b : List Int) (i h : Int) (hc : cur b i) : ∃ r i' h', Ev (fun k => spec_l25Parts.f k b i h) (r, i', h') ∧ cur b i' ∧ r.length ≤ 5 := by
  obtain ⟨v, i1, h1, e1, c1, p1, q1⟩ := l1Below_eq b i h 4 hc (by omega)
  obtain ⟨r, i', h', he, hc', hr⟩ := l25Parts_l0 b (v + 1).toNat [] i1 h1 c1 (by simp; omega) (by simp; omega)
  refine ⟨r, i', h', ?_, hc', hr⟩
  unfold spec_l25Parts.f
  refine evSome e1 ?_
  rw [w64 (by omega) (by omega), show 1 + v = ((v + 1).toNat : Int) by omega]
  exact he
theorem drawShares_ev (b : List Int) (hb : b.length ≤ 1048576) : ∃ s p, Ev (fun k => spec_DrawSharesOf.f k b) (s, p) ∧ p.length ≤ 5 := by
  obtain ⟨h0, e0, c0⟩ := l1New_ev b (by omega)
  obtain ⟨v, i1, h1, e1, c1, p1, q1⟩ := l1Below_eq b 0 h0 997 c0 (by omega)
  obtain ⟨t, i2, h2, e2, c2⟩ := l1Once_eq b i1 h1 8 c1 (by omega)
  unfold spec_DrawSharesOf.f
  cases t with
  | true =>
    obtain ⟨v3, i3, h3, e3, c3, _⟩ := l1Int_eq b i2 h2 [(-1), 997] c2 (by simp)
    obtain ⟨r, i4, h4, e4, c4, hr⟩ := l25Parts_ev b i3 h3 c3
    exact ⟨v3, r, Ev.bind e0 (evSome e1 (evSome e2 (evPos rfl (evSome e3 (Ev.bind e4 (Ev.now _)))))), hr⟩
  | false =>
    obtain ⟨r, i4, h4, e4, c4, hr⟩ := l25Parts_ev b i2 h2 c2
    exact ⟨v, r, Ev.bind e0 (evSome e1 (evSome e2 (evNeg (by simp) (Ev.bind e4 (Ev.now _))))), hr⟩
theorem l25Any_ev (b : List Int) (i h : Int) (hc : cur b i) : ∃ r i' h', Ev (fun k => spec_l25Any.f k b i h) (r, i', h') ∧ cur b i' ∧ r.length ≤ 5 := by
  obtain ⟨v, i1, h1, e1, c1, p1, q1⟩ := l1Below_eq b i h 997 hc (by omega)
  obtain ⟨p, i2, h2, e2, c2, hp⟩ := l25Parts_ev b i1 h1 c1
  have hl := shareV_length v p
  have hs := spec_SharesOf_ev v p
  unfold spec_l25Any.f
  by_cases h0 : ((shareV v p).length : Int) > 0
  · obtain ⟨t, i3, h3, e3, c3⟩ := l1Once_eq b i2 h2 8 c2 (by omega)
    cases t with
    | true =>
      obtain ⟨v4, i4, h4, e4, c4, _⟩ := l1Int_eq b i3 h3 [(-1), 997] c3 (by simp)
      refine ⟨_, _, _, evSome e1 (Ev.bind e2 (Ev.bind hs (evPos h0 (evSome e3 (evPos rfl (evSome e4 (evPos (by omega) (Ev.now _)))))))), c4, ?_⟩
      rw [List.length_set]
      exact hl
    | false => exact ⟨_, _, _, evSome e1 (Ev.bind e2 (Ev.bind hs (evPos h0 (evSome e3 (evNeg (by simp) (Ev.now _)))))), c3, hl⟩
  · exact ⟨_, _, _, evSome e1 (Ev.bind e2 (Ev.bind hs (evNeg h0 (Ev.now _)))), c2, hl⟩
/-- Few rows, and short ones. -/
def shortII (l : List (List Int)) : Prop := l.length ≤ 5 ∧ ∀ r ∈ l, r.length ≤ 5
theorem drawSumOfAll_l1 (b : List Int) (x4 : List (List Int)) (n m : Int) (hn : n ≤ 4) (R : Int → Int → List (List Int) → Prop)
    (hk : ∀ (y : List Int) (i h : Int), cur b i → y.length ≤ 5 → ∃ r, Ev (fun k => spec_DrawSumOfAll.l0 k (x4 ++ [y]) n (wrap64 (m - 1)) b i h) r ∧ shortII r) (hx : x4.length ≤ 5) : ∀ (d j : Nat) (out : List Int) (i h : Int), cur b i → (j : Int) + d = n → out.length = j →
    ∃ r, Ev (fun k => spec_DrawSumOfAll.l1 k x4 n m out (j : Int) b i h) r ∧ shortII r := by
  intro d
  induction d with
  | zero =>
    intro j out i h hc e ho
    obtain ⟨v, i1, h1, e1, c1, p1, q1⟩ := l1Below_eq b i h 300 hc (by omega)
    obtain ⟨r, he, hr⟩ := hk (shareV v out) i1 h1 c1 (shareV_length v out)
    exact ⟨r, (by refine Ev.step (fun k => by rw [spec_DrawSumOfAll.l1]) ?_; exact evNeg (by omega) (evSome e1 (Ev.bind (spec_SharesOf_ev v out) (evPos (by omega) he)))), hr⟩
  | succ d ih =>
    intro j out i h hc e ho
    obtain ⟨v, i1, h1, e1, c1, p1, q1⟩ := l1Below_eq b i h 997 hc (by omega)
    obtain ⟨r, he, hr⟩ := ih (j + 1) (out ++ [v]) i1 h1 c1 (by omega) (by simp [ho])
    refine ⟨r, ?_, hr⟩
    refine Ev.step (fun k => by rw [spec_DrawSumOfAll.l1]) ?_
    refine evPos (by omega) (evSome e1 (evPos (by omega) ?_))
    rw [wsucc (by omega)]
    exact he
theorem drawSumOfAll_l0 (b : List Int) (n : Int) (h0 : 0 ≤ n) (hn : n ≤ 4) : ∀ (d : Nat) (x4 : List (List Int)) (i h : Int), cur b i → x4.length + d ≤ 4 → (∀ r ∈ x4, r.length ≤ 5) →
    ∃ r, Ev (fun k => spec_DrawSumOfAll.l0 k x4 n (d : Int) b i h) r ∧ shortII r := by
  intro d
  induction d with
  | zero =>
    intro x4 i h hc hl hr
    by_cases hp : (x4.length : Int) > 0
    · obtain ⟨t, i1, h1, e1, c1⟩ := l1Once_eq b i h 8 hc (by omega)
      cases t with
      | true =>
        obtain ⟨y, i2, h2, e2, c2, hy⟩ := l25Any_ev b i1 h1 c1
        refine ⟨x4.set 0 y, (by refine Ev.step (fun k => by rw [spec_DrawSumOfAll.l0]) ?_; exact evNeg (by omega) (evPos hp (evSome e1 (evPos rfl (Ev.bind e2 (evPos (by omega) (Ev.now _))))))), by rw [List.length_set]; omega, fun r hm => ?_⟩
        rcases List.mem_or_eq_of_mem_set hm with hm | rfl
        · exact hr r hm
        · exact hy
      | false => exact ⟨x4, (by refine Ev.step (fun k => by rw [spec_DrawSumOfAll.l0]) ?_; exact evNeg (by omega) (evPos hp (evSome e1 (evNeg (by simp) (Ev.now _))))), by omega, hr⟩
    · exact ⟨_, Ev.step (fun k => by rw [spec_DrawSumOfAll.l0]) (evNeg (by omega) (evNeg hp (Ev.now _))), by omega, hr⟩
  | succ d ih =>
    intro x4 i h hc hl hr
    obtain ⟨r, he, hrr⟩ := drawSumOfAll_l1 b x4 n ((d + 1 : Nat) : Int) hn (fun _ _ _ => True) (fun y i h hc hy => by
      obtain ⟨r, he, hrr⟩ := ih (x4 ++ [y]) i h hc (by simp; omega) (fun q hq => by
        rcases List.mem_append.1 hq with hq | hq
        · exact hr q hq
        · rw [List.mem_singleton.1 hq]
          exact hy)
      refine ⟨r, ?_, hrr⟩
      rw [w64 (by omega) (by omega), show ((d + 1 : Nat) : Int) - 1 = (d : Int) by omega]
      exact he) (by omega) n.toNat 0 [] i h hc (by omega) rfl
    exact ⟨r, (by refine Ev.step (fun k => by rw [spec_DrawSumOfAll.l0]) ?_; exact evPos (by omega) (evSome rfl he)), hrr⟩
theorem drawSumOfAll_ev (b : List Int) (hb : b.length ≤ 1048576) : ∃ r, Ev (fun k => spec_DrawSumOfAll.f k b) r ∧ shortII r := by
  obtain ⟨h0, e0, c0⟩ := l1New_ev b (by omega)
  obtain ⟨v, i1, h1, e1, c1, p1, q1⟩ := l1Below_eq b 0 h0 4 c0 (by omega)
  obtain ⟨v2, i2, h2, e2, c2, p2, q2⟩ := l1Below_eq b i1 h1 5 c1 (by omega)
  obtain ⟨r, he, hr⟩ := drawSumOfAll_l0 b (1 + v) (by omega) (by omega) v2.toNat [] i2 h2 c2 (by simp; omega) (by simp)
  refine ⟨r, ?_, hr⟩
  unfold spec_DrawSumOfAll.f
  refine Ev.bind e0 (evSome e1 (evSome e2 (evSome rfl ?_)))
  dsimp only
  rw [w64 (by omega) (by omega), show v2 = (v2.toNat : Int) by omega]
  exact he
theorem drawHide_ev (b : List Int) (hb : b.length ≤ 1048576) : ∃ l h s, Ev (fun k => spec_DrawHideAs.f k b) (l, h, s) ∧ l.length ≤ 5 := by
  obtain ⟨h0, e0, c0⟩ := l1New_ev b (by omega)
  obtain ⟨r, i1, h1, e1, c1, hr⟩ := l25Any_ev b 0 h0 c0
  obtain ⟨v2, i2, h2, e2, c2, p2, q2⟩ := l1Below_eq b i1 h1 7 c1 (by omega)
  obtain ⟨v3, i3, h3, e3, c3, _⟩ := l1Int_eq b 0 h0 [0, 5, 996, 997, (-1)] c0 (by simp)
  have hc : Ev (fun k => spec_DrawCountSecrets.f k b) (r, wrap64 (v2 - 1)) := by
    unfold spec_DrawCountSecrets.f
    exact Ev.bind e0 (Ev.bind e1 (evSome e2 (Ev.now _)))
  refine ⟨r, wrap64 (v2 - 1), v3, ?_, hr⟩
  unfold spec_DrawHideAs.f
  exact Ev.bind hc (Ev.bind e0 (evSome e3 (Ev.now _)))
/-! ### join -/
def joinV (l : List Int) : Int := if (2 ≤ l.length ∧ l.length ≤ 5) ∧ inW l = true then sumI l % 997 else -1
theorem joinV_range (l : List Int) : -1 ≤ joinV l ∧ joinV l ≤ 996 := by
  unfold joinV
  split
  · omega
  · omega
theorem impl_JoinShares_l0 : ∀ (suf pre : List Int) (s : Int), (pre ++ suf).length ≤ 5 → 0 ≤ s → s ≤ 996 * (pre.length : Int) → inW suf = true →
    Ev (fun k => impl_JoinShares.l0 k s (pre ++ suf) ((pre ++ suf).length : Int) (pre.length : Int)) ((s + sumI suf) % 997) := by
  intro suf
  induction suf with
  | nil =>
    intro pre s hb h0 hs _
    refine Ev.step (fun k => by rw [impl_JoinShares.l0]) ?_
    refine evNeg (by simp) (evEq ?_ (Ev.now _))
    rw [Int.tmod_eq_emod_of_nonneg h0]
    simp [sumI]
  | cons x suf ih =>
    intro pre s hb h0 hs hw
    simp only [inW, List.all_cons, Bool.and_eq_true, decide_eq_true_eq] at hw
    simp only [List.length_append, List.length_cons] at hb
    refine Ev.step (fun k => by rw [impl_JoinShares.l0]) ?_
    refine evPos (by simp only [List.length_append, List.length_cons]; omega) (evPos (by omega) (evPos (by simp only [List.length_append, List.length_cons]; omega) ?_))
    rw [rd_mid, wsucc (by omega), w64 (by omega) (by omega)]
    have h := ih (pre ++ [x]) (s + x) (by simp; omega) (by omega) (by simp; omega) hw.2
    refine evEq ?_ (Ev.congr (fun k => ?_) h)
    · simp [sumI, Int.add_assoc]
    · simp
theorem impl_JoinShares_ev (l : List Int) (hl : l.length ≤ 1048576) : Ev (fun k => impl_JoinShares.f k l) (joinV l) := by
  unfold impl_JoinShares.f
  refine evSome (impl_InRange_eq _ _ _) ?_
  by_cases h2 : 2 ≤ l.length ∧ l.length ≤ 5
  · refine evPos (by simp; omega) (Ev.bind (impl_allIn_ev l 0 996 hl) ?_)
    refine Ev.step (fun k => by rw [impl_JoinShares.j0]) ?_
    by_cases hw : inW l = true
    · have hw' : (l.all fun x => decide (0 ≤ x ∧ x ≤ 996)) = true := hw
      rw [hw']
      refine evNeg (by simp) ?_
      have h := impl_JoinShares_l0 l [] 0 (by simpa using h2.2) (by omega) (by simp) hw
      refine evEq ?_ h
      simp [joinV, h2, hw]
    · have hw' : (l.all fun x => decide (0 ≤ x ∧ x ≤ 996)) = false := by simpa [inW] using hw
      rw [hw']
      refine evPos rfl (evEq ?_ (Ev.now _))
      simp [joinV, hw]
  · refine evNeg (by simp; omega) ?_
    refine Ev.step (fun k => by rw [impl_JoinShares.j0]) ?_
    refine evPos rfl (evEq ?_ (Ev.now _))
    simp [joinV, h2]
/-! ### add -/
def addL (a b : List Int) : List Int := List.zipWith (fun x y => (x + y) % 997) a b
def addV (a b : List Int) : List Int := if a.length = b.length ∧ ¬ joinV a < 0 ∧ ¬ joinV b < 0 then addL a b else []
theorem joinV_inW {l : List Int} (h : ¬ joinV l < 0) : inW l = true ∧ l.length ≤ 5 := by
  unfold joinV at h
  split at h
  · rename_i h1
    exact ⟨h1.2, h1.1.2⟩
  · omega
theorem inW_cons {x : Int} {l : List Int} : inW (x :: l) = true ↔ (0 ≤ x ∧ x ≤ 996) ∧ inW l = true := by
  simp [inW]
theorem impl_AddShares_l0 : ∀ (sa sb pa pb out : List Int), sa.length = sb.length → pa.length = pb.length → out.length = pa.length → (pa ++ sa).length ≤ 5 → inW sa = true → inW sb = true →
    Ev (fun k => impl_AddShares.l0 k (pa ++ sa) (pb ++ sb) out ((pa ++ sa).length : Int) (pa.length : Int)) (out ++ addL sa sb) := by
  intro sa
  induction sa with
  | nil =>
    intro sb pa pb out h1 h2 h3 h4 h5 h6
    refine Ev.step (fun k => by rw [impl_AddShares.l0]) ?_
    refine evNeg (by simp) (evEq ?_ (Ev.now _))
    simp [addL]
  | cons x sa ih =>
    intro sb pa pb out h1 h2 h3 h4 h5 h6
    obtain ⟨y, sb, rfl⟩ : ∃ y t, sb = y :: t := by
      cases sb with
      | nil => simp at h1
      | cons y t => exact ⟨y, t, rfl⟩
    simp only [List.length_append, List.length_cons] at h1 h4
    rw [inW_cons] at h5 h6
    refine Ev.step (fun k => by rw [impl_AddShares.l0]) ?_
    refine evPos (by simp only [List.length_append, List.length_cons]; omega) (evPos (by omega) (evPos (by simp only [List.length_append, List.length_cons]; omega) (evPos (by simp only [List.length_append, List.length_cons]; omega) (evPos (by omega) ?_))))
    rw [rd_mid, rd_mid' pb sb y h2.symm, wsucc (by omega), w64 (by omega) (by omega), Int.tmod_eq_emod_of_nonneg (by omega)]
    have h := ih sb (pa ++ [x]) (pb ++ [y]) (out ++ [(x + y) % 997]) (by omega) (by simp [h2]) (by simp [h3]) (by simp; omega) h5.2 h6.2
    refine evEq ?_ (Ev.congr (fun k => ?_) h)
    · simp [addL]
    · simp
theorem impl_AddShares_ev (a b : List Int) (hal : a.length ≤ 1048576) (hbl : b.length ≤ 1048576) : Ev (fun k => impl_AddShares.f k a b) (addV a b) := by
  unfold impl_AddShares.f
  have ra := joinV_range a
  have rb := joinV_range b
  by_cases hl : a.length = b.length
  · refine evPos (by omega) (Ev.bind (impl_JoinShares_ev a hal) ?_)
    by_cases ha : joinV a < 0
    · refine evPos (by omega) (Ev.step (fun k => by rw [impl_AddShares.j0]) (evPos rfl (evEq ?_ (Ev.now _))))
      simp [addV, ha]
    · refine evNeg (by omega) (Ev.bind (impl_JoinShares_ev b hbl) (Ev.step (fun k => by rw [impl_AddShares.j0]) ?_))
      by_cases hb : joinV b < 0
      · refine evPos (by simp; omega) (evEq ?_ (Ev.now _))
        simp [addV, hb]
      · refine evNeg (by simp; omega) ?_
        have h := impl_AddShares_l0 a b [] [] [] hl rfl rfl (by simpa using (joinV_inW ha).2) (joinV_inW ha).1 (joinV_inW hb).1
        refine evEq ?_ h
        simp [addV, hl, ha, hb]
  · refine evNeg (by omega) (Ev.step (fun k => by rw [impl_AddShares.j0]) (evPos rfl (evEq ?_ (Ev.now _))))
    simp [addV, hl]
theorem addV_length (a b : List Int) : (addV a b).length ≤ 5 := by
  unfold addV
  split
  · rename_i h
    have := (joinV_inW h.2.1).2
    simp [addL]
    omega
  · simp
/-! ### sumall -/
def sumAllV : List (List Int) → Int
  | [] => -1
  | x :: xs => joinV (xs.foldl addV x)
theorem impl_SumOfAll_l0 : ∀ (suf pre : List (List Int)) (x : List Int), (pre ++ suf).length ≤ 1048576 → x.length ≤ 1048576 → (∀ r ∈ suf, r.length ≤ 1048576) →
    Ev (fun k => impl_SumOfAll.l0 k x (pre ++ suf) ((pre ++ suf).length : Int) (pre.length : Int)) (joinV (suf.foldl addV x)) := by
  intro suf
  induction suf with
  | nil =>
    intro pre x hb hx hr
    refine Ev.step (fun k => by rw [impl_SumOfAll.l0]) ?_
    exact evNeg (by simp) (Ev.bind (impl_JoinShares_ev x hx) (Ev.now _))
  | cons y suf ih =>
    intro pre x hb hx hr
    simp only [List.length_append, List.length_cons] at hb
    refine Ev.step (fun k => by rw [impl_SumOfAll.l0]) ?_
    refine evPos (by simp only [List.length_append, List.length_cons]; omega) (evPos (by omega) (evPos (by simp only [List.length_append, List.length_cons]; omega) ?_))
    rw [rd_L1, getD_mid, wsucc (by omega)]
    refine Ev.bind (impl_AddShares_ev x y hx (hr y (by simp))) ?_
    have ha := addV_length x y
    have h := ih (pre ++ [y]) (addV x y) (by simp; omega) (by omega) (fun r h => hr r (by simp [h]))
    simpa using h
theorem impl_SumOfAll_ev (l : List (List Int)) (hl : l.length ≤ 1048576) (hr : ∀ r ∈ l, r.length ≤ 1048576) : Ev (fun k => impl_SumOfAll.f k l) (sumAllV l) := by
  unfold impl_SumOfAll.f
  cases l with
  | nil => exact evPos rfl (Ev.now _)
  | cons x xs =>
    simp only [List.length_cons] at hl
    refine evNeg (by simp only [List.length_cons]; omega) (evPos (by simp only [List.length_cons]; omega) (evPos (by simp only [List.length_cons]; omega) (evSome rfl ?_)))
    have h := impl_SumOfAll_l0 xs [] x (by simp; omega) (hr x (by simp)) (fun r h => hr r (by simp [h]))
    simpa [rd_L1, sumAllV] using h
/-! ### at -/
theorem impl_at_eq (a n : Int) : impl_at.f a n = some (decide (0 ≤ a ∧ a < n)) := by
  unfold impl_at.f
  by_cases h : a ≥ 0
  · rw [if_pos h]
    simp [show 0 ≤ a from h]
  · rw [if_neg h]
    have : ¬ 0 ≤ a := h
    simp [this]
/-! ### hide -/
def hideV (l : List Int) (h s : Int) : List Int := if ¬ joinV l < 0 ∧ (0 ≤ h ∧ h < (l.length : Int)) ∧ (0 ≤ s ∧ s ≤ 996) then l.set h.toNat ((rd l h + s - joinV l) % 997) else []
theorem hide_in {l : List Int} (h : ¬ joinV l < 0) : inW l = true ∧ l.length ≤ 5 := by
  unfold joinV at h
  split at h
  · rename_i h1
    exact ⟨h1.2, h1.1.2⟩
  · omega
theorem hideV_length (l : List Int) (h s : Int) : (hideV l h s).length ≤ 5 := by
  unfold hideV
  split
  · rename_i h1
    rw [List.length_set]
    exact (hide_in h1.1).2
  · simp
theorem inW_rd {l : List Int} (hw : inW l = true) (h : Int) : 0 ≤ rd l h ∧ rd l h ≤ 996 := by
  unfold rd
  rw [List.getD_eq_getElem?_getD]
  rcases e : l[h.toNat]? with _ | v
  · simp
  · simp only [inW, List.all_eq_true, decide_eq_true_eq] at hw
    exact hw v (List.mem_of_getElem? e)
theorem impl_HideAs_ev (l : List Int) (h s : Int) (hl : l.length ≤ 1048576) : Ev (fun k => impl_HideAs.f k l h s) (hideV l h s) := by
  unfold impl_HideAs.f
  have hj0 := joinV_range l
  refine Ev.bind (impl_JoinShares_ev l hl) ?_
  have no : ∀ (e : ¬ (¬ joinV l < 0 ∧ (0 ≤ h ∧ h < (l.length : Int)) ∧ (0 ≤ s ∧ s ≤ 996))), Ev (fun k => impl_HideAs.j0 k l h s true) (hideV l h s) := fun e => by
    refine Ev.step (fun k => by rw [impl_HideAs.j0]) (evPos rfl (evEq ?_ (Ev.now _)))
    rw [hideV, if_neg e]
  by_cases hj : joinV l < 0
  · exact evPos (by omega) (no (fun e => e.1 hj))
  refine evNeg (by omega) (evSome (impl_at_eq _ _) ?_)
  by_cases hh : 0 ≤ h ∧ h < (l.length : Int)
  · refine evPos (by simpa using hh) (evSome (impl_InRange_eq _ _ _) ?_)
    by_cases hs : 0 ≤ s ∧ s ≤ 996
    · have e : (!decide (0 ≤ s ∧ s ≤ 996)) = false := by simp [hs]
      rw [e]
      have hr := inW_rd (hide_in hj).1 h
      refine Ev.step (fun k => by rw [impl_HideAs.j0]) ?_
      refine evNeg (by simp) (evSome (clone_eq l hl) (evPos hh.1 (evPos hh.2 (Ev.bind (impl_JoinShares_ev l hl) ?_))))
      rw [w64 (n := rd l h + s) (by omega) (by omega), w64 (by omega) (by omega)]
      refine evSome (impl_Mod_eq _ _ (by omega) (by omega)) (evEq ?_ (Ev.now _))
      rw [hideV, if_pos ⟨hj, hh, hs⟩]
    · have e : (!decide (0 ≤ s ∧ s ≤ 996)) = true := by simp [hs]
      rw [e]
      exact no (fun e => hs e.2.2)
  · exact evNeg (by simpa using hh) (no (fun e => hh e.2.1))
/-! ### count -/
def countV (l : List Int) (h : Int) : Int := if joinV l < 0 then 0 else if 0 ≤ h ∧ h < (l.length : Int) then 997 else 1
theorem impl_CountSecrets_ev (l : List Int) (h : Int) (hl : l.length ≤ 1048576) : Ev (fun k => impl_CountSecrets.f k l h) (countV l h) := by
  unfold impl_CountSecrets.f
  refine Ev.bind (impl_JoinShares_ev l hl) ?_
  have hr := joinV_range l
  by_cases hj : joinV l < 0
  · refine evPos (by omega) (evEq ?_ (Ev.now _))
    simp [countV, hj]
  · refine evNeg (by omega) (evSome (impl_at_eq _ _) ?_)
    by_cases hh : 0 ≤ h ∧ h < (l.length : Int)
    · refine evPos (by simpa using hh) (evEq ?_ (Ev.now _))
      simp [countV, hj, hh]
    · refine evNeg (by simpa using hh) (evEq ?_ (Ev.now _))
      simp [countV, hj, hh]
/-! ### secrets -/
theorem sumI_app : ∀ (a b : List Int), sumI (a ++ b) = sumI a + sumI b
  | [], b => by simp [sumI]
  | x :: a, b => by
    rw [List.cons_append, sumI, sumI, sumI_app a b]
    omega
theorem sumI_put (l : List Int) (h v : Int) (h0 : 0 ≤ h) (h1 : h < (l.length : Int)) : sumI (l.set h.toNat v) = sumI l - rd l h + v := by
  obtain ⟨j, rfl⟩ : ∃ j : Nat, h = (j : Int) := ⟨h.toNat, by omega⟩
  have hj : j < l.length := by omega
  have e : l = l.take j ++ l[j] :: l.drop (j + 1) := by
    rw [← List.drop_eq_getElem_cons hj, List.take_append_drop]
  have hm : (l.take j).length = j := by simp; omega
  have er : rd l (j : Int) = l[j] := rd_at l j hj
  rw [er]
  have es : l.set ((j : Int).toNat) v = l.take j ++ v :: l.drop (j + 1) := by
    rw [Int.toNat_natCast, List.set_eq_take_append_cons_drop, if_pos hj]
  have e2 : sumI l = sumI (l.take j) + (l[j] + sumI (l.drop (j + 1))) := by
    conv => lhs; rw [e]
    rw [sumI_app, sumI]
  rw [es, sumI_app, sumI, e2]
  omega
theorem inW_app {a b : List Int} : inW (a ++ b) = true ↔ inW a = true ∧ inW b = true := by
  simp [inW, List.all_append]
theorem inW_put {l : List Int} {v : Int} (j : Nat) (hl : inW l = true) (hv : 0 ≤ v ∧ v ≤ 996) : inW (l.set j v) = true := by
  simp only [inW, List.all_eq_true, decide_eq_true_eq] at hl ⊢
  intro x hx
  rcases List.mem_or_eq_of_mem_set hx with hx | rfl
  · exact hl x hx
  · exact hv
theorem share_law (s : Int) (p : List Int) (h : ((shareV s p).length : Int) > 0) : joinV (shareV s p) = s ∧ (shareV s p).length = p.length + 1 := by
  unfold shareV at h ⊢
  split
  · rename_i c
    refine ⟨?_, by simp⟩
    have hb := sumI_bounds p c.2.2
    have hz : 0 ≤ (s - sumI p) % 997 ∧ (s - sumI p) % 997 ≤ 996 := by omega
    unfold joinV
    rw [if_pos ⟨by simp; omega, inW_app.2 ⟨c.2.2, by simp [inW]; omega⟩⟩, sumI_app]
    simp only [sumI]
    omega
  · rename_i c
    rw [if_neg c] at h
    simp at h
theorem hide_law (l : List Int) (h w : Int) (hx : ¬ ((hideV l h w).length : Int) = 0) : joinV (hideV l h w) = w ∧ countV l h = 997 ∧ (hideV l h w).length = l.length ∧ ∀ i : Nat, ¬ (i : Int) = h → rd (hideV l h w) i = rd l i := by
  unfold hideV at hx ⊢
  split
  · rename_i c
    obtain ⟨hj, hh, hw⟩ := c
    have hin := hide_in hj
    have hl : 2 ≤ l.length := by
      unfold joinV at hj
      split at hj
      · omega
      · omega
    have ej : joinV l = sumI l % 997 := by
      unfold joinV
      rw [if_pos ⟨⟨hl, hin.2⟩, hin.1⟩]
    have hz : 0 ≤ (rd l h + w - joinV l) % 997 ∧ (rd l h + w - joinV l) % 997 ≤ 996 := by omega
    refine ⟨?_, ?_, by simp, ?_⟩
    · unfold joinV
      rw [if_pos ⟨by simp; omega, inW_put _ hin.1 (by rw [ej] at hz; simpa [joinV, hl, hin] using hz)⟩, sumI_put l h _ hh.1 hh.2]
      rw [if_pos ⟨⟨hl, hin.2⟩, hin.1⟩]
      omega
    · unfold countV
      rw [if_neg hj, if_pos hh]
    · intro i hi
      unfold rd
      simp only [List.getD_eq_getElem?_getD]
      rw [List.getElem?_set_ne (by omega)]
  · rename_i c
    rw [if_neg c] at hx
    simp at hx
def sumJ : List (List Int) → Int
  | [] => 0
  | x :: xs => joinV x + sumJ xs
theorem addL_len (a b : List Int) (h : a.length = b.length) : (addL a b).length = a.length := by
  unfold addL
  rw [List.length_zipWith]
  omega
theorem addL_law : ∀ (a b : List Int), a.length = b.length → inW (addL a b) = true ∧ (sumI (addL a b)) % 997 = (sumI a + sumI b) % 997
  | [], b, h => by
    obtain rfl : b = [] := List.length_eq_zero_iff.1 h.symm
    simp [addL, inW, sumI]
  | x :: a, [], h => by simp at h
  | x :: a, y :: b, h => by
    have ih := addL_law a b (by simpa using h)
    have e : addL (x :: a) (y :: b) = (x + y) % 997 :: addL a b := rfl
    rw [e, inW_cons]
    refine ⟨⟨by omega, ih.1⟩, ?_⟩
    simp only [sumI]
    omega
theorem joinV_pos {l : List Int} (h : ¬ joinV l < 0) : 2 ≤ l.length ∧ l.length ≤ 5 ∧ inW l = true ∧ joinV l = sumI l % 997 := by
  unfold joinV at h ⊢
  split at h
  · rename_i c
    rw [if_pos c]
    exact ⟨c.1.1, c.1.2, c.2, rfl⟩
  · omega
theorem joinV_nil : joinV [] = -1 := rfl
theorem fold_law : ∀ (xs : List (List Int)) (x : List Int),
    ((¬ joinV x < 0 ∧ ∀ y ∈ xs, ¬ joinV y < 0 ∧ y.length = x.length) → joinV (xs.foldl addV x) = (joinV x + sumJ xs) % 997) ∧
    (¬ (¬ joinV x < 0 ∧ ∀ y ∈ xs, ¬ joinV y < 0 ∧ y.length = x.length) → joinV (xs.foldl addV x) < 0)
  | [], x => by
    have hr := joinV_range x
    simp only [List.foldl_nil, sumJ]
    refine ⟨fun h => ?_, fun h => ?_⟩
    · have := h.1
      omega
    · have : ¬ ¬ joinV x < 0 := fun c => h ⟨c, by simp⟩
      omega
  | y :: xs, x => by
    have ih := fold_law xs (addV x y)
    simp only [List.foldl_cons]
    by_cases c : x.length = y.length ∧ ¬ joinV x < 0 ∧ ¬ joinV y < 0
    · have e : addV x y = addL x y := by unfold addV; rw [if_pos c]
      have hx := joinV_pos c.2.1
      have hy := joinV_pos c.2.2
      have ha := addL_law x y c.1
      have hl := addL_len x y c.1
      have hj : joinV (addL x y) = sumI (addL x y) % 997 := by
        unfold joinV
        rw [if_pos ⟨by omega, ha.1⟩]
      rw [e] at ih ⊢
      refine ⟨fun h => ?_, fun h => ih.2 fun g => h ⟨c.2.1, fun z hz => ?_⟩⟩
      · rw [ih.1 ⟨by omega, fun z hz => by rw [hl]; exact h.2 z (by simp [hz])⟩]
        simp only [sumJ]
        omega
      · rcases List.mem_cons.1 hz with rfl | hz
        · exact ⟨c.2.2, c.1.symm⟩
        · rw [← hl]
          exact g.2 z hz
    · have e : addV x y = [] := by unfold addV; rw [if_neg c]
      rw [e] at ih ⊢
      refine ⟨fun h => ?_, fun _ => ih.2 fun g => g.1 (by rw [joinV_nil]; omega)⟩
      have := h.2 y (by simp)
      exact absurd ⟨this.2.symm, h.1, this.1⟩ c
/-! ### law_FnSecrets -/
theorem law_l1 (l : List Int) (h w : Int) (x : List Int) (hl : l.length ≤ 5) (hx : x.length = l.length) (hj : joinV x = w) (hc : countV l h = 997) (hr : ∀ i : Nat, ¬ (i : Int) = h → rd x i = rd l i) :
    ∀ (d j : Nat), j + d = x.length → Ev (fun k => laws_FnSecrets.l1 k l h w x (j : Int)) true := by
  intro d
  induction d with
  | zero =>
    intro j e
    refine Ev.step (fun k => by rw [laws_FnSecrets.l1]) (evNeg (by omega) (Ev.bind (impl_JoinShares_ev x (by omega)) (evPos hj (Ev.bind (impl_CountSecrets_ev l h (by omega)) ?_))))
    rw [hc]
    exact Ev.now _
  | succ d ih =>
    intro j e
    have hn := ih (j + 1) (by omega)
    refine Ev.step (fun k => by rw [laws_FnSecrets.l1]) (evPos (by omega) ?_)
    rw [wsucc (by omega)]
    by_cases hh : (j : Int) = h
    · exact evPos hh hn
    · exact evNeg hh (evPos (by omega) (evPos (by omega) (evPos (hr j hh) hn)))
theorem law_j2 (b : List Int) (hb : b.length ≤ 1048576) : Ev (fun k => laws_FnSecrets.j2 k b false) true := by
  obtain ⟨l, h, w, ed, hl⟩ := drawHide_ev b hb
  refine Ev.step (fun k => by rw [laws_FnSecrets.j2]) (evNeg (by simp) (Ev.bind ed (Ev.bind (impl_HideAs_ev l h w (by omega)) ?_)))
  by_cases hx : ((hideV l h w).length : Int) = 0
  · exact evPos hx (Ev.now _)
  · have hh := hide_law l h w hx
    exact evNeg hx (law_l1 l h w _ hl hh.2.2.1 hh.1 hh.2.1 hh.2.2.2 (hideV l h w).length 0 (by omega))
/-- What the law's loop has seen so far. -/
def okJ (n : Nat) (l : List (List Int)) : Bool := l.all fun y => decide (¬ joinV y < 0 ∧ y.length = n)
theorem law_l0 (b : List Int) (hb : b.length ≤ 1048576) (all : List (List Int)) (x : List Int) (xs : List (List Int)) (hall : all = x :: xs) (hs : shortII all) :
    ∀ (suf pre : List (List Int)) (s : Int), pre ++ suf = all → s = sumJ pre → -(pre.length : Int) ≤ s → s ≤ 996 * (pre.length : Int) →
    Ev (fun k => laws_FnSecrets.l0 k b all s (okJ x.length pre) (pre.length : Int)) true := by
  have h5 := hs.1
  intro suf
  induction suf with
  | nil =>
    intro pre s e1 e2 e3 e4
    rw [List.append_nil] at e1
    subst e1
    refine Ev.step (fun k => by rw [laws_FnSecrets.l0]) (evNeg (by omega) (Ev.bind (impl_SumOfAll_ev pre (by omega) (fun r hr => by have := hs.2 r hr; omega)) ?_))
    subst hall
    have hf := fold_law xs x
    have ev : sumAllV (x :: xs) = joinV (xs.foldl addV x) := rfl
    rw [ev]
    by_cases ok : ¬ joinV x < 0 ∧ ∀ y ∈ xs, ¬ joinV y < 0 ∧ y.length = x.length
    · have eo : okJ x.length (x :: xs) = true := by
        simp only [okJ, List.all_eq_true, decide_eq_true_eq, List.mem_cons]
        rintro y (rfl | hy)
        · exact ⟨ok.1, rfl⟩
        · exact ok.2 y hy
      have hv := hf.1 ok
      have ht : joinV (xs.foldl addV x) = Int.tmod s 997 := by
        rw [hv, e2, Int.tmod_eq_emod_of_nonneg]
        · rfl
        · have hp : ∀ ys : List (List Int), (∀ y ∈ ys, ¬ joinV y < 0 ∧ y.length = x.length) → 0 ≤ sumJ ys := by
            intro ys
            induction ys with
            | nil => intro _; simp [sumJ]
            | cons y ys ih =>
              intro h
              have a := (h y (by simp)).1
              have c := ih (fun z hz => h z (by simp [hz]))
              simp only [sumJ]
              omega
          have a := hp xs ok.2
          simp only [sumJ]
          omega
      rw [eo]
      refine evNeg ?_ (evPos rfl ?_)
      · have : joinV (xs.foldl addV x) ≥ 0 := by omega
        simp [this]
      · rw [ht]
        simp only [bne_self_eq_false]
        exact law_j2 b hb
    · have eo : okJ x.length (x :: xs) = false := by
        rw [Bool.eq_false_iff]
        intro h
        simp only [okJ, List.all_eq_true, decide_eq_true_eq, List.mem_cons] at h
        exact ok ⟨(h x (Or.inl rfl)).1, fun y hy => h y (Or.inr hy)⟩
      have hv := hf.2 ok
      rw [eo]
      refine evNeg ?_ (evNeg (by simp) (law_j2 b hb))
      have : ¬ joinV (xs.foldl addV x) ≥ 0 := by omega
      simp [this]
  | cons y suf ih =>
    intro pre s e1 e2 e3 e4
    have hl : all.length = pre.length + (suf.length + 1) := by
      rw [← e1]
      simp
    have hy : y ∈ all := by
      rw [← e1]
      simp
    have hy5 := hs.2 y hy
    have hj := joinV_range y
    have sumJ_app : ∀ a : List (List Int), sumJ (a ++ [y]) = sumJ a + joinV y := by
      intro a
      induction a with
      | nil => simp [sumJ]
      | cons z a ia =>
        simp only [List.cons_append, sumJ, ia]
        omega
    have hn := ih (pre ++ [y]) (s + joinV y) (by rw [List.append_assoc]; exact e1) (by rw [sumJ_app, e2]) (by simp only [List.length_append, List.length_singleton]; omega) (by simp only [List.length_append, List.length_singleton]; omega)
    have ok2 : okJ x.length (pre ++ [y]) = (okJ x.length pre && decide (¬ joinV y < 0 ∧ y.length = x.length)) := by
      simp [okJ, List.all_append]
    rw [ok2] at hn
    have er : rd_L1 all (pre.length : Int) = y := by
      rw [← e1, rd_L1, getD_mid]
    have e0 : rd_L1 all 0 = x := by
      rw [hall]
      rfl
    refine Ev.step (fun k => by rw [laws_FnSecrets.l0]) (evPos (by omega) (evPos (by omega) ?_))
    rw [er, e0, wsucc (by omega)]
    refine Ev.bind (impl_JoinShares_ev y (by omega)) ?_
    rw [w64 (n := s + joinV y) (by omega) (by omega)]
    rw [show (((pre ++ [y]).length : Nat) : Int) = ((pre.length + 1 : Nat) : Int) by simp] at hn
    cases hp : okJ x.length pre with
    | true =>
      rw [hp, Bool.true_and] at hn
      refine evPos rfl ?_
      by_cases hg : joinV y ≥ 0
      · refine evPos hg (evPos (by omega) ?_)
        have e : ((y.length : Int) == (x.length : Int)) = decide (¬ joinV y < 0 ∧ y.length = x.length) := by
          by_cases hh : y.length = x.length
          · simp [hh, hg]
          · have : ¬ (y.length : Int) = (x.length : Int) := by omega
            simp [hh, this]
        rw [e]
        exact hn
      · refine evNeg hg ?_
        have e : decide (¬ joinV y < 0 ∧ y.length = x.length) = false := by
          simp only [decide_eq_false_iff_not]
          omega
        rw [e] at hn
        exact hn
    | false =>
      rw [hp, Bool.false_and] at hn
      exact evNeg (by simp) hn
theorem law_j0 (b : List Int) (hb : b.length ≤ 1048576) : Ev (fun k => laws_FnSecrets.j0 k b false) true := by
  obtain ⟨all, ed, hs⟩ := drawSumOfAll_ev b hb
  refine Ev.step (fun k => by rw [laws_FnSecrets.j0]) (evNeg (by simp) (Ev.bind ed ?_))
  cases all with
  | nil =>
    refine Ev.step (fun k => by rw [laws_FnSecrets.l0]) (evNeg (by simp) (Ev.bind (impl_SumOfAll_ev [] (by simp) (by simp)) ?_))
    exact evNeg (by simp [sumAllV]) (evNeg (by simp) (law_j2 b hb))
  | cons x xs =>
    have h := law_l0 b hb (x :: xs) x xs rfl hs (x :: xs) [] 0 rfl rfl (by simp) (by simp)
    have e : okJ x.length [] = decide (((x :: xs).length : Int) > 0) := by
      simp [okJ]
    rw [e] at h
    exact h
theorem FnSecrets : laws_FnSecrets.PureR := by
  intro b h
  refine Ev.rounds ?_
  unfold laws_FnSecrets.f
  refine evSome (big_eq b) ?_
  by_cases hb : (b.length : Int) > 1048576
  · exact evPos (by simp [hb]) (Ev.now _)
  refine evNeg (by simp; omega) ?_
  obtain ⟨s, p, ed, hp⟩ := drawShares_ev b (by omega)
  refine Ev.bind ed (Ev.bind (impl_SharesOf_ev s p (by omega)) ?_)
  have hl := shareV_length s p
  by_cases h0 : ((shareV s p).length : Int) > 0
  · have hs := share_law s p h0
    refine evPos h0 (Ev.bind (impl_JoinShares_ev _ (by omega)) (evPos hs.1 ?_))
    dsimp only
    rw [hs.2, w64 (by omega) (by omega)]
    have e : (((p.length + 1 : Nat) : Int) != (p.length : Int) + 1) = false := by
      rw [show ((p.length + 1 : Nat) : Int) = (p.length : Int) + 1 by omega]
      simp
    rw [e]
    exact law_j0 b (by omega)
  · exact evNeg h0 (law_j0 b (by omega))
end Go.Proofs.Ytjhbpiboemajeaa.Pure
