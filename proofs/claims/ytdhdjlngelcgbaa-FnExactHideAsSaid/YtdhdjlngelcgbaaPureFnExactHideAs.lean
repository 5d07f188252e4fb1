/- The program's HideAs returns what the reference's returns, leaves its argument alone and returns new memory: for every list, index and secret. -/
import Derived.Test.YtdhdjlngelcgbaaRFnExactHideAs
import Derived.Test.YtdhdjlngelcgbaaBase
namespace Go.Proofs.Ytdhdjlngelcgbaa.Pure
open Go.RowKit Go.Proofs.Ytdhdjlngelcgbaa.Base Go.Proofs.Ytdhdjlngelcgbaa.PFnExactHideAs Go.Proofs.YtdhdjlngelcgbaaW.PrintWords Go.Proofs.YtdhdjlngelcgbaaW.PrintLast
set_option linter.unusedVariables false
set_option linter.unusedSimpArgs false
/-! ### ints -/
theorem toIntS_l0 : ∀ (suf pre rest : List Int), (pre ++ suf).length ≤ 1048576 → rest.length = suf.length →
    Ev (fun k => laws_toIntS.l0 k (pre ++ suf) (pre ++ rest) (pre.length : Int)) (pre ++ suf) := by
  intro suf
  induction suf with
  | nil =>
    intro pre rest hb hr
    obtain rfl : rest = [] := by simpa using hr
    refine Ev.step (fun k => by rw [laws_toIntS.l0]) ?_
    exact evNeg (by simp) (Ev.now _)
  | cons x suf ih =>
    intro pre rest hb hr
    obtain ⟨r, rest, rfl⟩ : ∃ r t, rest = r :: t := by
      cases rest with
      | nil => simp at hr
      | cons r t => exact ⟨r, t, rfl⟩
    simp only [List.length_append, List.length_cons] at hb hr
    refine Ev.step (fun k => by rw [laws_toIntS.l0]) ?_
    refine evPos (by simp only [List.length_append, List.length_cons]; omega) (evPos (by omega) (evPos (by simp only [List.length_append, List.length_cons]; omega) ?_))
    rw [rd_mid, set_mid, wsucc (by omega)]
    have h := ih (pre ++ [x]) rest (by simp; omega) (by omega)
    simpa using h
theorem toIntS_ev (l : List Int) (hl : l.length ≤ 1048576) : Ev (fun k => laws_toIntS.f k l) l := by
  unfold laws_toIntS.f
  refine evPos (by omega) (evPos (by omega) ?_)
  have h := toIntS_l0 l [] (List.replicate l.length 0) (by simpa using hl) (by simp)
  simpa using h
theorem eqIntS_l0 : ∀ (suf pre : List Int), (pre ++ suf).length ≤ 1048576 →
    Ev (fun k => laws_eqIntS.l0 k (pre ++ suf) (pre ++ suf) (pre.length : Int)) true := by
  intro suf
  induction suf with
  | nil =>
    intro pre hb
    refine Ev.step (fun k => by rw [laws_eqIntS.l0]) ?_
    exact evNeg (by simp) (Ev.now _)
  | cons x suf ih =>
    intro pre hb
    simp only [List.length_append, List.length_cons] at hb
    refine Ev.step (fun k => by rw [laws_eqIntS.l0]) ?_
    refine evPos (by simp only [List.length_append, List.length_cons]; omega) (evPos (by omega) (evPos (by simp only [List.length_append, List.length_cons]; omega) (evPos rfl ?_)))
    rw [wsucc (by omega)]
    have h := ih (pre ++ [x]) (by simp; omega)
    simpa using h
theorem eqIntS_ev (l : List Int) (hl : l.length ≤ 1048576) : Ev (fun k => laws_eqIntS.f k l l) true := by
  unfold laws_eqIntS.f
  refine evPos rfl ?_
  have h := eqIntS_l0 l [] (by simpa using hl)
  simpa using h
/-! ### mints -/
def mkI : Int → Nat → List Int
  | _, 0 => []
  | k, n + 1 => k :: mkI (k + 1) n
theorem mkI_length : ∀ (n : Nat) (k : Int), (mkI k n).length = n
  | 0, _ => rfl
  | n + 1, k => by simp [mkI, mkI_length n]
theorem markIntS_l0 : ∀ (suf pre : List Int) (m : Int), (pre ++ suf).length ≤ 1048576 → 0 ≤ m → m + suf.length ≤ 4611686018427387904 →
    Ev (fun k => laws_markIntS.l0 k (pre ++ suf) m (pre.length : Int)) (m + suf.length, pre ++ mkI m suf.length) := by
  intro suf
  induction suf with
  | nil =>
    intro pre m hb h0 hm
    refine Ev.step (fun k => by rw [laws_markIntS.l0]) ?_
    refine evNeg (by simp) (evEq ?_ (Ev.now _))
    simp [mkI]
  | cons x suf ih =>
    intro pre m hb h0 hm
    simp only [List.length_append, List.length_cons] at hb hm
    refine Ev.step (fun k => by rw [laws_markIntS.l0]) ?_
    refine evPos (by simp only [List.length_append, List.length_cons]; omega) (evPos (by omega) ?_)
    rw [set_mid, wsucc (by omega), w64 (by omega) (by omega)]
    have h := ih (pre ++ [m]) (m + 1) (by simp; omega) (by omega) (by omega)
    refine evEq ?_ (Ev.congr (fun k => ?_) h)
    · simp [mkI]
      omega
    · simp
theorem markIntS_ev (l : List Int) (m : Int) (hl : l.length ≤ 1048576) (h0 : 0 ≤ m) (hm : m ≤ 1099511627776) : Ev (fun k => laws_markIntS.f k l m) (m + l.length, mkI m l.length) := by
  have h := markIntS_l0 l [] m (by simpa using hl) h0 (by omega)
  simpa [laws_markIntS.f] using h
theorem heldIntS_l0 : ∀ (n : Nat) (pre : List Int) (m : Int), pre.length + n ≤ 1048576 → 0 ≤ m → m + n ≤ 4611686018427387904 →
    Ev (fun k => laws_heldIntS.l0 k (pre ++ mkI m n) m (pre.length : Int)) (m + n) := by
  intro n
  induction n with
  | zero =>
    intro pre m hb h0 hm
    refine Ev.step (fun k => by rw [laws_heldIntS.l0]) ?_
    refine evNeg (by simp [mkI]) (evEq ?_ (Ev.now _))
    simp
  | succ n ih =>
    intro pre m hb h0 hm
    refine Ev.step (fun k => by rw [laws_heldIntS.l0]) ?_
    refine evPos (by simp only [List.length_append, mkI_length]; omega) (evPos (by omega) ?_)
    rw [mkI, rd_mid, wsucc (by omega), w64 (by omega) (by omega)]
    refine evPos rfl ?_
    have h := ih (pre ++ [m]) (m + 1) (by simp; omega) (by omega) (by omega)
    refine evEq ?_ (Ev.congr (fun k => ?_) h)
    · omega
    · simp
theorem heldIntS_ev (n : Nat) (m : Int) (hl : n ≤ 1048576) (h0 : 0 ≤ m) (hm : m ≤ 1099511627776) : Ev (fun k => laws_heldIntS.f k (mkI m n) m) (m + n) := by
  have h := heldIntS_l0 n [] m (by simpa using hl) h0 (by omega)
  simpa [laws_heldIntS.f] using h
/-! ### small -/
theorem spec_l1In_eq (a b c : Int) : spec_l1In.f a b c = some (decide (b ≤ a ∧ a ≤ c)) := by
  unfold spec_l1In.f
  by_cases h : a ≥ b
  · rw [if_pos h]
    simp [show b ≤ a from h]
  · rw [if_neg h]
    have : ¬ b ≤ a := h
    simp [this]
/-! ### smod -/
theorem tmod_twice (n m : Int) (h1 : 1 ≤ m) (h2 : m ≤ 1000000000000) : Int.tmod (wrap64 ((Int.tmod n m) + m)) m = n % m := by
  have h3 : -m < Int.tmod n m ∧ Int.tmod n m < m := by
    have a := Int.tmod_lt_of_pos n (show 0 < m by omega)
    have b := Int.lt_tmod_of_pos n (show 0 < m by omega)
    omega
  rw [w64 (by omega) (by omega), Int.tmod_eq_emod_of_nonneg (by omega), Int.add_emod_right]
  rcases Int.le_total 0 n with h | h
  · rw [Int.tmod_eq_emod_of_nonneg h, Int.emod_emod]
  · obtain ⟨p, rfl⟩ : ∃ p, n = -p := ⟨-n, by omega⟩
    rw [Int.neg_tmod, Int.tmod_eq_emod_of_nonneg (by omega)]
    have e := Int.mul_ediv_add_emod p m
    have e2 : -p = -(p % m) + m * (-(p / m)) := by
      rw [Int.mul_neg]
      omega
    rw [e2, Int.add_mul_emod_self_left]
theorem spec_Mod_eq (n m : Int) (h1 : 1 ≤ m) (h2 : m ≤ 1000000000000) : spec_Mod.f n m = some (n % m) := by
  unfold spec_Mod.f
  rw [spec_l1In_eq, Option.bind_some, if_pos (by simp [h1, h2]), if_neg (by omega), tmod_twice n m h1 h2]
/-! ### inrange -/
theorem impl_InRange_eq (a b c : Int) : impl_InRange.f a b c = some (decide (b ≤ a ∧ a ≤ c)) := by
  unfold impl_InRange.f
  by_cases h : b ≤ a
  · rw [if_pos h]
    simp [h]
  · rw [if_neg h]
    simp [h]
/-! ### allin -/
theorem impl_allIn_l0 (lo hi : Int) : ∀ (suf pre : List Int), (pre ++ suf).length ≤ 1048576 →
    Ev (fun k => impl_allIn.l0 k lo hi (pre ++ suf) ((pre ++ suf).length : Int) (pre.length : Int)) (suf.all fun x => decide (lo ≤ x ∧ x ≤ hi)) := by
  intro suf
  induction suf with
  | nil =>
    intro pre hb
    refine Ev.step (fun k => by rw [impl_allIn.l0]) ?_
    exact evNeg (by simp) (Ev.now _)
  | cons x suf ih =>
    intro pre hb
    simp only [List.length_append, List.length_cons] at hb
    refine Ev.step (fun k => by rw [impl_allIn.l0]) ?_
    refine evPos (by simp only [List.length_append, List.length_cons]; omega) (evPos (by omega) (evPos (by simp only [List.length_append, List.length_cons]; omega) ?_))
    rw [rd_mid, wsucc (by omega)]
    refine evSome (impl_InRange_eq _ _ _) ?_
    by_cases hx : lo ≤ x ∧ x ≤ hi
    · refine evPos (by simp [hx]) ?_
      have h := ih (pre ++ [x]) (by simp; omega)
      refine evEq ?_ (Ev.congr (fun k => ?_) h)
      · simp [hx]
      · simp
    · refine evNeg (by simpa using hx) (evEq ?_ (Ev.now _))
      simp [hx]
theorem impl_allIn_ev (l : List Int) (lo hi : Int) (hl : l.length ≤ 1048576) : Ev (fun k => impl_allIn.f k l lo hi) (l.all fun x => decide (lo ≤ x ∧ x ≤ hi)) := by
  have h := impl_allIn_l0 lo hi l [] (by simpa using hl)
  simpa [impl_allIn.f] using h
/-! ### sumi -/
def sumI : List Int → Int
  | [] => 0
  | x :: xs => x + sumI xs
def inW (l : List Int) : Bool := l.all fun x => decide (0 ≤ x ∧ x ≤ 996)
theorem sumI_bounds : ∀ l : List Int, inW l = true → 0 ≤ sumI l ∧ sumI l ≤ 996 * (l.length : Int)
  | [], _ => by simp [sumI]
  | x :: xs, h => by
    simp only [inW, List.all_cons, Bool.and_eq_true, decide_eq_true_eq] at h
    have ih := sumI_bounds xs h.2
    simp only [sumI, List.length_cons]
    omega
theorem spec_l25In_eq (x : Int) : spec_l25In.f x = some (decide (0 ≤ x ∧ x ≤ 996)) := by
  unfold spec_l25In.f
  rw [spec_l1In_eq]
  rfl
/-! ### join -/
def joinV (l : List Int) : Int := if (2 ≤ l.length ∧ l.length ≤ 5) ∧ inW l = true then sumI l % 997 else -1
theorem joinV_range (l : List Int) : -1 ≤ joinV l ∧ joinV l ≤ 996 := by
  unfold joinV
  split
  · omega
  · omega
theorem spec_JoinShares_l0 : ∀ (suf pre : List Int) (s : Int), (pre ++ suf).length ≤ 5 → 0 ≤ s → s ≤ 996 * (pre.length : Int) →
    Ev (fun k => spec_JoinShares.l0 k (pre ++ suf) s (pre.length : Int)) (if inW suf = true then (s + sumI suf) % 997 else -1) := by
  intro suf
  induction suf with
  | nil =>
    intro pre s hb h0 hs
    refine Ev.step (fun k => by rw [spec_JoinShares.l0]) ?_
    refine evNeg (by simp) (evSome (spec_Mod_eq _ _ (by omega) (by omega)) (evEq ?_ (Ev.now _)))
    simp [inW, sumI]
  | cons x suf ih =>
    intro pre s hb h0 hs
    simp only [List.length_append, List.length_cons] at hb
    refine Ev.step (fun k => by rw [spec_JoinShares.l0]) ?_
    refine evPos (by simp only [List.length_append, List.length_cons]; omega) (evPos (by omega) ?_)
    rw [rd_mid, wsucc (by omega)]
    refine evSome (spec_l25In_eq _) ?_
    by_cases hx : 0 ≤ x ∧ x ≤ 996
    · refine evPos (by simp [hx]) ?_
      rw [w64 (by omega) (by omega)]
      have h := ih (pre ++ [x]) (s + x) (by simp; omega) (by omega) (by simp; omega)
      refine evEq ?_ (Ev.congr (fun k => ?_) h)
      · simp [inW, hx, sumI, Int.add_assoc]
      · simp
    · refine evNeg (by simpa using hx) (evEq ?_ (Ev.now _))
      simp [inW, hx]
theorem spec_JoinShares_ev (l : List Int) : Ev (fun k => spec_JoinShares.f k l) (joinV l) := by
  unfold spec_JoinShares.f
  refine evSome (spec_l1In_eq _ _ _) ?_
  by_cases hl : 2 ≤ l.length ∧ l.length ≤ 5
  · refine evPos (by simp; omega) ?_
    have h := spec_JoinShares_l0 l [] 0 (by simpa using hl.2) (by omega) (by simp)
    refine evEq ?_ h
    simp [joinV, hl]
  · refine evNeg (by simp; omega) (evEq ?_ (Ev.now _))
    simp [joinV, hl]
theorem impl_JoinShares_l0 : ∀ (suf pre : List Int) (s : Int), (pre ++ suf).length ≤ 5 → 0 ≤ s → s ≤ 996 * (pre.length : Int) → inW suf = true →
    Ev (fun k => impl_JoinShares.l0 k s (pre ++ suf) ((pre ++ suf).length : Int) (pre.length : Int)) ((s + sumI suf) % 997) := by
  intro suf
  induction suf with
  | nil =>
    intro pre s hb h0 hs _
    refine Ev.step (fun k => by rw [impl_JoinShares.l0]) ?_
    refine evNeg (by simp) (evEq ?_ (Ev.now _))
    rw [Int.tmod_eq_emod_of_nonneg h0]
    simp [sumI]
  | cons x suf ih =>
    intro pre s hb h0 hs hw
    simp only [inW, List.all_cons, Bool.and_eq_true, decide_eq_true_eq] at hw
    simp only [List.length_append, List.length_cons] at hb
    refine Ev.step (fun k => by rw [impl_JoinShares.l0]) ?_
    refine evPos (by simp only [List.length_append, List.length_cons]; omega) (evPos (by omega) (evPos (by simp only [List.length_append, List.length_cons]; omega) ?_))
    rw [rd_mid, wsucc (by omega), w64 (by omega) (by omega)]
    have h := ih (pre ++ [x]) (s + x) (by simp; omega) (by omega) (by simp; omega) hw.2
    refine evEq ?_ (Ev.congr (fun k => ?_) h)
    · simp [sumI, Int.add_assoc]
    · simp
theorem impl_JoinShares_ev (l : List Int) (hl : l.length ≤ 1048576) : Ev (fun k => impl_JoinShares.f k l) (joinV l) := by
  unfold impl_JoinShares.f
  refine evSome (impl_InRange_eq _ _ _) ?_
  by_cases h2 : 2 ≤ l.length ∧ l.length ≤ 5
  · refine evPos (by simp; omega) (Ev.bind (impl_allIn_ev l 0 996 hl) ?_)
    refine Ev.step (fun k => by rw [impl_JoinShares.j0]) ?_
    by_cases hw : inW l = true
    · have hw' : (l.all fun x => decide (0 ≤ x ∧ x ≤ 996)) = true := hw
      rw [hw']
      refine evNeg (by simp) ?_
      have h := impl_JoinShares_l0 l [] 0 (by simpa using h2.2) (by omega) (by simp) hw
      refine evEq ?_ h
      simp [joinV, h2, hw]
    · have hw' : (l.all fun x => decide (0 ≤ x ∧ x ≤ 996)) = false := by simpa [inW] using hw
      rw [hw']
      refine evPos rfl (evEq ?_ (Ev.now _))
      simp [joinV, hw]
  · refine evNeg (by simp; omega) ?_
    refine Ev.step (fun k => by rw [impl_JoinShares.j0]) ?_
    refine evPos rfl (evEq ?_ (Ev.now _))
    simp [joinV, h2]
/-! ### clone -/
theorem clone_eq (l : List Int) (hl : l.length ≤ 1048576) : slices_Clone_int_int.f l = some l := by
  unfold slices_Clone_int_int.f
  simp
  omega
/-! ### imod -/
theorem impl_Mod_eq (n m : Int) (h1 : 1 ≤ m) (h2 : m ≤ 1000000000000) : impl_Mod.f n m = some (n % m) := by
  unfold impl_Mod.f
  rw [impl_InRange_eq, Option.bind_some, if_pos (by simp [h1, h2]), if_neg (by omega), tmod_twice n m h1 h2]
/-! ### at -/
theorem impl_at_eq (a n : Int) : impl_at.f a n = some (decide (0 ≤ a ∧ a < n)) := by
  unfold impl_at.f
  by_cases h : a ≥ 0
  · rw [if_pos h]
    simp [show 0 ≤ a from h]
  · rw [if_neg h]
    have : ¬ 0 ≤ a := h
    simp [this]
/-! ### hide -/
def hideV (l : List Int) (h s : Int) : List Int := if ¬ joinV l < 0 ∧ (0 ≤ h ∧ h < (l.length : Int)) ∧ (0 ≤ s ∧ s ≤ 996) then l.set h.toNat ((rd l h + s - joinV l) % 997) else []
theorem hide_in {l : List Int} (h : ¬ joinV l < 0) : inW l = true ∧ l.length ≤ 5 := by
  unfold joinV at h
  split at h
  · rename_i h1
    exact ⟨h1.2, h1.1.2⟩
  · omega
theorem hideV_length (l : List Int) (h s : Int) : (hideV l h s).length ≤ 5 := by
  unfold hideV
  split
  · rename_i h1
    rw [List.length_set]
    exact (hide_in h1.1).2
  · simp
theorem inW_rd {l : List Int} (hw : inW l = true) (h : Int) : 0 ≤ rd l h ∧ rd l h ≤ 996 := by
  unfold rd
  rw [List.getD_eq_getElem?_getD]
  rcases e : l[h.toNat]? with _ | v
  · simp
  · simp only [inW, List.all_eq_true, decide_eq_true_eq] at hw
    exact hw v (List.mem_of_getElem? e)
theorem spec_HideAs_ev (l : List Int) (h s : Int) (hl : l.length ≤ 1048576) : Ev (fun k => spec_HideAs.f k l h s) (hideV l h s) := by
  unfold spec_HideAs.f
  have hj0 := joinV_range l
  refine Ev.bind (spec_JoinShares_ev l) ?_
  have no : ∀ (e : ¬ (¬ joinV l < 0 ∧ (0 ≤ h ∧ h < (l.length : Int)) ∧ (0 ≤ s ∧ s ≤ 996))), Ev (fun k => spec_HideAs.j0 k l h s true) (hideV l h s) := fun e => by
    refine Ev.step (fun k => by rw [spec_HideAs.j0]) (evPos rfl (evEq ?_ (Ev.now _)))
    rw [hideV, if_neg e]
  by_cases hj : joinV l < 0
  · exact evPos hj (no (fun e => e.1 hj))
  refine evNeg hj (evSome (spec_l1In_eq _ _ _) ?_)
  rw [w64 (by omega) (by omega)]
  by_cases hh : 0 ≤ h ∧ h < (l.length : Int)
  · refine evPos (by simp; omega) (evSome (spec_l25In_eq _) ?_)
    by_cases hs : 0 ≤ s ∧ s ≤ 996
    · have e : (!decide (0 ≤ s ∧ s ≤ 996)) = false := by simp [hs]
      rw [e]
      have hr := inW_rd (hide_in hj).1 h
      refine Ev.step (fun k => by rw [spec_HideAs.j0]) ?_
      refine evNeg (by simp) (evSome rfl (evPos (by simp; omega) (evSome rfl (evPos hh.1 (evPos hh.2 (Ev.bind (spec_JoinShares_ev l) ?_))))))
      rw [w64 (n := rd l h + s) (by omega) (by omega), w64 (by omega) (by omega)]
      refine evSome (spec_Mod_eq _ _ (by omega) (by omega)) (evPos (by simpa using hh.2) (evEq ?_ (Ev.now _)))
      rw [hideV, if_pos ⟨hj, hh, hs⟩]
      simp
    · have e : (!decide (0 ≤ s ∧ s ≤ 996)) = true := by simp [hs]
      rw [e]
      exact no (fun e => hs e.2.2)
  · exact evNeg (by simp; omega) (no (fun e => hh e.2.1))
theorem impl_HideAs_ev (l : List Int) (h s : Int) (hl : l.length ≤ 1048576) : Ev (fun k => impl_HideAs.f k l h s) (hideV l h s) := by
  unfold impl_HideAs.f
  have hj0 := joinV_range l
  refine Ev.bind (impl_JoinShares_ev l hl) ?_
  have no : ∀ (e : ¬ (¬ joinV l < 0 ∧ (0 ≤ h ∧ h < (l.length : Int)) ∧ (0 ≤ s ∧ s ≤ 996))), Ev (fun k => impl_HideAs.j0 k l h s true) (hideV l h s) := fun e => by
    refine Ev.step (fun k => by rw [impl_HideAs.j0]) (evPos rfl (evEq ?_ (Ev.now _)))
    rw [hideV, if_neg e]
  by_cases hj : joinV l < 0
  · exact evPos (by omega) (no (fun e => e.1 hj))
  refine evNeg (by omega) (evSome (impl_at_eq _ _) ?_)
  by_cases hh : 0 ≤ h ∧ h < (l.length : Int)
  · refine evPos (by simpa using hh) (evSome (impl_InRange_eq _ _ _) ?_)
    by_cases hs : 0 ≤ s ∧ s ≤ 996
    · have e : (!decide (0 ≤ s ∧ s ≤ 996)) = false := by simp [hs]
      rw [e]
      have hr := inW_rd (hide_in hj).1 h
      refine Ev.step (fun k => by rw [impl_HideAs.j0]) ?_
      refine evNeg (by simp) (evSome (clone_eq l hl) (evPos hh.1 (evPos hh.2 (Ev.bind (impl_JoinShares_ev l hl) ?_))))
      rw [w64 (n := rd l h + s) (by omega) (by omega), w64 (by omega) (by omega)]
      refine evSome (impl_Mod_eq _ _ (by omega) (by omega)) (evEq ?_ (Ev.now _))
      rw [hideV, if_pos ⟨hj, hh, hs⟩]
    · have e : (!decide (0 ≤ s ∧ s ≤ 996)) = true := by simp [hs]
      rw [e]
      exact no (fun e => hs e.2.2)
  · exact evNeg (by simpa using hh) (no (fun e => hh e.2.1))
/-! ### law_FnExactHideAs -/
theorem FnExactHideAs : laws_FnExactHideAs.PureR := by
  intro l h s h1 _ _
  refine Ev.rounds ?_
  unfold laws_FnExactHideAs.f
  by_cases hb : (l.length : Int) > 1048576
  · exact evPos hb (Ev.now _)
  have hp : l.length ≤ 1048576 := by omega
  have hv := hideV_length l h s
  refine evNeg hb (Ev.bind (toIntS_ev l hp) (Ev.bind (spec_HideAs_ev l h s hp) (Ev.bind (toIntS_ev l hp) (Ev.bind (impl_HideAs_ev l h s hp) (Ev.bind (eqIntS_ev _ (by omega)) (evPos rfl ?_))))))
  refine Ev.bind (toIntS_ev l hp) (Ev.bind (eqIntS_ev l hp) (evPos rfl (Ev.bind (markIntS_ev l 1 hp (by omega) (by omega)) (evNeg (by simp; omega) (Ev.bind (eqIntS_ev _ (by omega)) ?_)))))
  refine Ev.step (fun k => by rw [laws_FnExactHideAs.j0]) ?_
  refine evNeg (by simp) (Ev.bind (markIntS_ev _ 1 (by omega) (by omega) (by omega)) (Ev.bind (heldIntS_ev _ 1 (by omega) (by omega) (by omega)) (evNeg (by omega) (evPos rfl ?_))))
  refine Ev.bind (toIntS_ev l hp) (Ev.bind (impl_HideAs_ev l h s hp) (Ev.bind (eqIntS_ev _ (by omega)) (evPos rfl ?_)))
  exact Ev.bind (heldIntS_ev _ 1 (by omega) (by omega) (by omega)) (evNeg (by omega) (evPos rfl (Ev.now _)))
end Go.Proofs.Ytdhdjlngelcgbaa.Pure
