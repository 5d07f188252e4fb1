/- The program's IsChecked returns what the reference's returns, and leaves its arguments alone: for all rows, owners and numbers. -/
import Derived.Test.YtkimiekgghfoiaaRFnExactIsChecked
import Derived.Test.YtkimiekgghfoiaaBase
namespace Go.Proofs.Ytkimiekgghfoiaa.Pure
open Go.RowKit Go.Proofs.Ytkimiekgghfoiaa.Base Go.Proofs.Ytkimiekgghfoiaa.PFnExactIsChecked Go.Proofs.YtkimiekgghfoiaaW.PrintWords Go.Proofs.YtkimiekgghfoiaaW.PrintLast
set_option linter.unusedVariables false
set_option linter.unusedSimpArgs false
/-! ### ints -/
theorem toIntS_l0 : ∀ (suf pre rest : List Int), (pre ++ suf).length ≤ 1048576 → rest.length = suf.length →
    Ev (fun k => laws_toIntS.l0 k (pre ++ suf) (pre ++ rest) (pre.length : Int)) (pre ++ suf) := by
  intro suf
  induction suf with
  | nil =>
    intro pre rest hb hr
    obtain rfl : rest = [] := by simpa using hr
    refine Ev.step (fun k => by rw [laws_toIntS.l0]) ?_
    exact evNeg (by simp) (Ev.now _)
  | cons x suf ih =>
    intro pre rest hb hr
    obtain ⟨r, rest, rfl⟩ : ∃ r t, rest = r :: t := by
      cases rest with
      | nil => simp at hr
      | cons r t => exact ⟨r, t, rfl⟩
    simp only [List.length_append, List.length_cons] at hb hr
    refine Ev.step (fun k => by rw [laws_toIntS.l0]) ?_
    refine evPos (by simp only [List.length_append, List.length_cons]; omega) (evPos (by omega) (evPos (by simp only [List.length_append, List.length_cons]; omega) ?_))
    rw [rd_mid, set_mid, wsucc (by omega)]
    have h := ih (pre ++ [x]) rest (by simp; omega) (by omega)
    simpa using h
theorem toIntS_ev (l : List Int) (hl : l.length ≤ 1048576) : Ev (fun k => laws_toIntS.f k l) l := by
  unfold laws_toIntS.f
  refine evPos (by omega) (evPos (by omega) ?_)
  have h := toIntS_l0 l [] (List.replicate l.length 0) (by simpa using hl) (by simp)
  simpa using h
theorem eqIntS_l0 : ∀ (suf pre : List Int), (pre ++ suf).length ≤ 1048576 →
    Ev (fun k => laws_eqIntS.l0 k (pre ++ suf) (pre ++ suf) (pre.length : Int)) true := by
  intro suf
  induction suf with
  | nil =>
    intro pre hb
    refine Ev.step (fun k => by rw [laws_eqIntS.l0]) ?_
    exact evNeg (by simp) (Ev.now _)
  | cons x suf ih =>
    intro pre hb
    simp only [List.length_append, List.length_cons] at hb
    refine Ev.step (fun k => by rw [laws_eqIntS.l0]) ?_
    refine evPos (by simp only [List.length_append, List.length_cons]; omega) (evPos (by omega) (evPos (by simp only [List.length_append, List.length_cons]; omega) (evPos rfl ?_)))
    rw [wsucc (by omega)]
    have h := ih (pre ++ [x]) (by simp; omega)
    simpa using h
theorem eqIntS_ev (l : List Int) (hl : l.length ≤ 1048576) : Ev (fun k => laws_eqIntS.f k l l) true := by
  unfold laws_eqIntS.f
  refine evPos rfl ?_
  have h := eqIntS_l0 l [] (by simpa using hl)
  simpa using h
/-! ### szints -/
def leftI (l : List Int) (a : Int) : Int := if a - (l.length : Int) < 0 then -1 else a - (l.length : Int)
theorem szIntS_eq (l : List Int) (a : Int) (h0 : 0 ≤ a) (h1 : a ≤ 1048576) (hl : l.length ≤ 9223372036854775807) : laws_szIntS.f l a = some (leftI l a) := by
  unfold laws_szIntS.f leftI
  rw [w64 (by omega) (by omega)]
  split <;> rfl
/-! ### intss -/
/-- What is left of a behind the lists' own lengths and the list's length; -1 where it is not enough. -/
def leftR : List (List Int) → Int → Int
  | [], a => a
  | r :: rs, a => if leftI r a < 0 then -1 else leftR rs (leftI r a)
def leftII (l : List (List Int)) (a : Int) : Int := if a - (l.length : Int) < 0 then -1 else leftR l (a - (l.length : Int))
theorem szIntSS_l0 : ∀ (suf pre : List (List Int)) (a : Int), (pre ++ suf).length ≤ 1048576 → 0 ≤ a → a ≤ 1048576 → (∀ r ∈ suf, r.length ≤ 9223372036854775807) →
    Ev (fun k => laws_szIntSS.l0 k (pre ++ suf) a (pre.length : Int)) (leftR suf a) := by
  intro suf
  induction suf with
  | nil =>
    intro pre a hb h0 h1 hr
    refine Ev.step (fun k => by rw [laws_szIntSS.l0]) ?_
    exact evNeg (by simp) (Ev.now _)
  | cons x suf ih =>
    intro pre a hb h0 h1 hr
    simp only [List.length_append, List.length_cons] at hb
    refine Ev.step (fun k => by rw [laws_szIntSS.l0]) ?_
    refine evPos (by simp only [List.length_append, List.length_cons]; omega) (evPos (by omega) ?_)
    rw [rd_L1, getD_mid, wsucc (by omega)]
    refine evSome (szIntS_eq x a h0 h1 (hr x (by simp))) ?_
    by_cases hx : leftI x a < 0
    · refine evPos hx (evEq ?_ (Ev.now _))
      simp [leftR, hx]
    · refine evNeg hx ?_
      have hle : leftI x a ≤ 1048576 := by
        unfold leftI
        split <;> omega
      have h := ih (pre ++ [x]) (leftI x a) (by simp; omega) (by omega) hle (fun r h => hr r (by simp [h]))
      refine evEq ?_ (Ev.congr (fun k => ?_) h)
      · simp [leftR, hx]
      · simp
theorem szIntSS_ev (l : List (List Int)) (a : Int) (h0 : 0 ≤ a) (h1 : a ≤ 1048576) (hl : l.length ≤ 9223372036854775807) (hr : ∀ r ∈ l, r.length ≤ 9223372036854775807) : Ev (fun k => laws_szIntSS.f k l a) (leftII l a) := by
  unfold laws_szIntSS.f
  rw [w64 (by omega) (by omega)]
  by_cases h : a - (l.length : Int) < 0
  · refine evPos h (evEq ?_ (Ev.now _))
    simp [leftII, h]
  · refine evNeg h (evEq ?_ (szIntSS_l0 l [] _ (by simp; omega) (by omega) (by omega) hr))
    simp [leftII, h]
theorem leftR_rows : ∀ (l : List (List Int)) (a : Int), 0 ≤ leftR l a → 0 ≤ a → a ≤ 1048576 → (∀ r ∈ l, r.length ≤ 1048576)
  | [], _, _, _, _ => by simp
  | r :: rs, a, h, h0, h1 => by
    unfold leftR at h
    split at h
    · omega
    · rename_i hx
      have hx' : 0 ≤ leftI r a := by omega
      have hrl : r.length ≤ 1048576 ∧ leftI r a ≤ 1048576 := by
        unfold leftI at hx' ⊢
        split at hx' <;> split <;> omega
      intro q hq
      rcases List.mem_cons.1 hq with rfl | hq
      · exact hrl.1
      · exact leftR_rows rs _ h hx' hrl.2 q hq
/-- Rows that may be examined. -/
def okII (l : List (List Int)) : Prop := l.length ≤ 1048576 ∧ ∀ r ∈ l, r.length ≤ 1048576
theorem leftII_ok {l : List (List Int)} (h : 0 ≤ leftII l 1048576) : okII l := by
  unfold leftII at h
  split at h
  · omega
  · exact ⟨by omega, leftR_rows l _ h (by omega) (by omega)⟩
theorem toIntSS_l0 : ∀ (suf pre rest : List (List Int)), (pre ++ suf).length ≤ 1048576 → rest.length = suf.length → (∀ r ∈ suf, r.length ≤ 1048576) →
    Ev (fun k => laws_toIntSS.l0 k (pre ++ suf) (pre ++ rest) (pre.length : Int)) (pre ++ suf) := by
  intro suf
  induction suf with
  | nil =>
    intro pre rest hb hr hq
    obtain rfl : rest = [] := by simpa using hr
    refine Ev.step (fun k => by rw [laws_toIntSS.l0]) ?_
    exact evNeg (by simp) (Ev.now _)
  | cons x suf ih =>
    intro pre rest hb hr hq
    obtain ⟨r, rest, rfl⟩ : ∃ r t, rest = r :: t := by
      cases rest with
      | nil => simp at hr
      | cons r t => exact ⟨r, t, rfl⟩
    simp only [List.length_append, List.length_cons] at hb hr
    refine Ev.step (fun k => by rw [laws_toIntSS.l0]) ?_
    refine evPos (by simp only [List.length_append, List.length_cons]; omega) (evPos (by omega) ?_)
    rw [rd_L1, getD_mid]
    refine Ev.bind (toIntS_ev x (hq x (by simp))) (evPos (by simp only [List.length_append, List.length_cons]; omega) ?_)
    rw [set_mid, wsucc (by omega)]
    have h := ih (pre ++ [x]) rest (by simp; omega) (by omega) (fun r h => hq r (by simp [h]))
    simpa using h
theorem toIntSS_ev (l : List (List Int)) (hl : okII l) : Ev (fun k => laws_toIntSS.f k l) l := by
  have h0 := hl.1
  unfold laws_toIntSS.f
  refine evPos (by omega) (evPos (by omega) ?_)
  have h := toIntSS_l0 l [] (List.replicate l.length []) (by simpa using hl.1) (by simp) hl.2
  simpa using h
theorem eqIntSS_l0 : ∀ (suf pre : List (List Int)), (pre ++ suf).length ≤ 1048576 → (∀ r ∈ suf, r.length ≤ 1048576) →
    Ev (fun k => laws_eqIntSS.l0 k (pre ++ suf) (pre ++ suf) (pre.length : Int)) true := by
  intro suf
  induction suf with
  | nil =>
    intro pre hb hq
    refine Ev.step (fun k => by rw [laws_eqIntSS.l0]) ?_
    exact evNeg (by simp) (Ev.now _)
  | cons x suf ih =>
    intro pre hb hq
    simp only [List.length_append, List.length_cons] at hb
    refine Ev.step (fun k => by rw [laws_eqIntSS.l0]) ?_
    refine evPos (by simp only [List.length_append, List.length_cons]; omega) (evPos (by omega) (evPos (by simp only [List.length_append, List.length_cons]; omega) ?_))
    rw [rd_L1, getD_mid]
    refine Ev.bind (eqIntS_ev x (hq x (by simp))) (evPos rfl ?_)
    rw [wsucc (by omega)]
    have h := ih (pre ++ [x]) (by simp; omega) (fun r h => hq r (by simp [h]))
    simpa using h
theorem eqIntSS_ev (l : List (List Int)) (hl : okII l) : Ev (fun k => laws_eqIntSS.f k l l) true := by
  unfold laws_eqIntSS.f
  refine evPos rfl ?_
  have h := eqIntSS_l0 l [] (by simpa using hl.1) hl.2
  simpa using h
/-! ### has -/
def hasB (l : List Int) (v : Int) : Bool := l.any fun x => decide (x = v)
theorem spec_l7Has_l0 (v : Int) : ∀ (suf pre : List Int), (pre ++ suf).length ≤ 1048576 → Ev (fun k => spec_l7Has.l0 k (pre ++ suf) v (pre.length : Int)) (hasB suf v) := by
  intro suf
  induction suf with
  | nil =>
    intro pre hb
    refine Ev.step (fun k => by rw [spec_l7Has.l0]) ?_
    exact evNeg (by simp) (Ev.now _)
  | cons x suf ih =>
    intro pre hb
    simp only [List.length_append, List.length_cons] at hb
    refine Ev.step (fun k => by rw [spec_l7Has.l0]) ?_
    refine evPos (by simp only [List.length_append, List.length_cons]; omega) (evPos (by omega) ?_)
    rw [rd_mid, wsucc (by omega)]
    by_cases hx : x = v
    · refine evPos hx (evEq ?_ (Ev.now _))
      simp [hasB, hx]
    · have h := ih (pre ++ [x]) (by simp; omega)
      refine evNeg hx (evEq ?_ (Ev.congr (fun k => ?_) h))
      · simp [hasB, hx]
      · simp
theorem spec_l7Has_ev (l : List Int) (v : Int) (hl : l.length ≤ 1048576) : Ev (fun k => spec_l7Has.f k l v) (hasB l v) := by
  unfold spec_l7Has.f
  exact spec_l7Has_l0 v l [] (by simpa using hl)
theorem slices_Index_l0 (v : Int) : ∀ (suf pre : List Int), (pre ++ suf).length ≤ 1048576 →
    ∃ r, Ev (fun k => slices_Index_int_int.l0 k (pre ++ suf) v ((pre ++ suf).length : Int) (pre.length : Int)) r ∧ decide (r ≥ 0) = hasB suf v := by
  intro suf
  induction suf with
  | nil =>
    intro pre hb
    exact ⟨-1, Ev.step (fun k => by rw [slices_Index_int_int.l0]) (evNeg (by simp) (Ev.now _)), rfl⟩
  | cons x suf ih =>
    intro pre hb
    simp only [List.length_append, List.length_cons] at hb
    by_cases hx : v = x
    · refine ⟨(pre.length : Int), Ev.step (fun k => by rw [slices_Index_int_int.l0]) ?_, ?_⟩
      · refine evPos (by simp only [List.length_append, List.length_cons]; omega) (evPos (by omega) (evPos (by simp only [List.length_append, List.length_cons]; omega) ?_))
        rw [rd_mid]
        exact evPos hx (Ev.now _)
      · simp [hasB, hx]
    · obtain ⟨r, h, e⟩ := ih (pre ++ [x]) (by simp; omega)
      refine ⟨r, Ev.step (fun k => by rw [slices_Index_int_int.l0]) ?_, ?_⟩
      · refine evPos (by simp only [List.length_append, List.length_cons]; omega) (evPos (by omega) (evPos (by simp only [List.length_append, List.length_cons]; omega) ?_))
        rw [rd_mid, wsucc (by omega)]
        exact evNeg hx (Ev.congr (fun k => by simp) h)
      · rw [e]
        have : ¬ x = v := fun c => hx c.symm
        simp [hasB, this]
theorem slices_Contains_ev (l : List Int) (v : Int) (hl : l.length ≤ 1048576) : Ev (fun k => slices_Contains_int_int.f k l v) (hasB l v) := by
  unfold slices_Contains_int_int.f slices_Index_int_int.f
  obtain ⟨r, h, e⟩ := slices_Index_l0 v l [] (by simpa using hl)
  exact Ev.bind h (evEq e (Ev.now _))
/-! ### without -/
def woV : List (List Int) → List Int → List Int → List (List Int)
  | m :: ms, o :: os, d => if hasB d o = true then woV ms os d else m :: woV ms os d
  | _, _, _ => []
theorem woV_nil2 : ∀ (ms : List (List Int)) (d : List Int), woV ms [] d = [] := by
  intro ms d; cases ms <;> rfl
theorem woV_nil1 (os d : List Int) : woV [] os d = [] := rfl
theorem woV_len : ∀ (ms : List (List Int)) (os d : List Int), (woV ms os d).length ≤ ms.length
  | [], _, _ => by simp [woV]
  | m :: ms, [], d => by simp [woV_nil2]
  | m :: ms, o :: os, d => by
    have := woV_len ms os d
    rw [woV]
    split <;> simp only [List.length_cons] <;> omega
theorem woV_mem : ∀ (ms : List (List Int)) (os d : List Int) (r : List Int), r ∈ woV ms os d → r ∈ ms
  | [], _, _, r, h => by simp [woV] at h
  | m :: ms, [], d, r, h => by simp [woV_nil2] at h
  | m :: ms, o :: os, d, r, h => by
    rw [woV] at h
    split at h
    · exact List.mem_cons_of_mem _ (woV_mem ms os d r h)
    · rcases List.mem_cons.1 h with h | h
      · rw [h]; simp
      · exact List.mem_cons_of_mem _ (woV_mem ms os d r h)
theorem woV_tot : ∀ (ms : List (List Int)) (os d : List Int), okII ms → okII (woV ms os d) := fun ms os d h => ⟨Nat.le_trans (woV_len _ _ _) h.1, fun r hr => h.2 r (woV_mem _ _ _ _ hr)⟩
theorem mn_len (a b : Nat) : mn (a : Int) (b : Int) = ((min a b : Nat) : Int) := by
  unfold mn
  split <;> omega
theorem impl_WithoutOwners_l0 (d : List Int) (hd : d.length ≤ 1048576) : ∀ (sm : List (List Int)) (so : List Int) (pm : List (List Int)) (po : List Int) (out : List (List Int)), pm.length = po.length → (pm ++ sm).length ≤ 1048576 → (po ++ so).length ≤ 1048576 → (∀ r ∈ sm, r.length ≤ 1048576) → out.length ≤ pm.length →
    Ev (fun k => impl_WithoutOwners.l0 k (pm ++ sm) (po ++ so) d out (mn ((pm ++ sm).length : Int) ((po ++ so).length : Int)) (po.length : Int)) (out ++ woV sm so d) := by
  intro sm
  induction sm with
  | nil =>
    intro so pm po out h1 h2 h3 h4 h5
    refine Ev.step (fun k => by rw [impl_WithoutOwners.l0]) ?_
    refine evNeg (by rw [mn_len]; simp only [List.length_append, List.length_nil]; omega) (evEq ?_ (Ev.now _))
    simp [woV]
  | cons x sm ih =>
    intro so pm po out h1 h2 h3 h4 h5
    cases so with
    | nil =>
      refine Ev.step (fun k => by rw [impl_WithoutOwners.l0]) ?_
      refine evNeg (by rw [mn_len]; simp only [List.length_append, List.length_nil]; omega) (evEq ?_ (Ev.now _))
      simp [woV]
    | cons o so =>
      simp only [List.length_append, List.length_cons] at h2 h3
      refine Ev.step (fun k => by rw [impl_WithoutOwners.l0]) ?_
      refine evPos (by rw [mn_len]; simp only [List.length_append, List.length_cons]; omega) (evPos (by omega) (evPos (by simp only [List.length_append, List.length_cons]; omega) ?_))
      rw [rd_mid]
      refine Ev.bind (slices_Contains_ev d o hd) ?_
      rw [wsucc (by omega)]
      by_cases hb : hasB d o = true
      · refine evPos hb ?_
        have h := ih so (pm ++ [x]) (po ++ [o]) out (by simp [h1]) (by simp; omega) (by simp; omega) (fun r hr => h4 r (by simp [hr])) (by simp; omega)
        refine evEq ?_ (Ev.congr (fun k => ?_) h)
        · simp only [woV, if_pos hb]
        · simp
      · refine evNeg hb (evPos (by simp only [List.length_append, List.length_cons]; omega) ?_)
        rw [rd_L1, getD_mid' pm sm x [] h1]
        have hcl : slices_Clone_int_int_131.f x = some x := by
          unfold slices_Clone_int_int_131.f
          have := h4 x (by simp)
          simp
          omega
        refine evSome hcl (evPos (by omega) ?_)
        have h := ih so (pm ++ [x]) (po ++ [o]) (out ++ [x]) (by simp [h1]) (by simp; omega) (by simp; omega) (fun r hr => h4 r (by simp [hr])) (by simp; omega)
        refine evEq ?_ (Ev.congr (fun k => ?_) h)
        · simp only [woV, if_neg hb]; simp
        · simp
theorem impl_WithoutOwners_ev (m : List (List Int)) (o d : List Int) (hm : okII m) (ho : o.length ≤ 1048576) (hd : d.length ≤ 1048576) : Ev (fun k => impl_WithoutOwners.f k m o d) (woV m o d) := by
  have h := impl_WithoutOwners_l0 d hd m o [] [] [] rfl (by simpa using hm.1) (by simpa using ho) hm.2 (by simp)
  simpa [impl_WithoutOwners.f] using h
theorem spec_WithoutOwners_l0 (d : List Int) (hd : d.length ≤ 1048576) : ∀ (sm : List (List Int)) (so : List Int) (pm : List (List Int)) (po : List Int) (out : List (List Int)), pm.length = po.length → (pm ++ sm).length ≤ 1048576 → (po ++ so).length ≤ 1048576 → (∀ r ∈ sm, r.length ≤ 1048576) → out.length ≤ pm.length →
    Ev (fun k => spec_WithoutOwners.l0 k (pm ++ sm) (po ++ so) d out (pm.length : Int)) (out ++ woV sm so d) := by
  intro sm
  induction sm with
  | nil =>
    intro so pm po out h1 h2 h3 h4 h5
    refine Ev.step (fun k => by rw [spec_WithoutOwners.l0]) ?_
    refine evNeg (by simp) (Ev.step (fun k => by rw [spec_WithoutOwners.j1]) ?_)
    refine evNeg (by simp) (evEq ?_ (Ev.now _))
    simp [woV]
  | cons x sm ih =>
    intro so pm po out h1 h2 h3 h4 h5
    cases so with
    | nil =>
      refine Ev.step (fun k => by rw [spec_WithoutOwners.l0]) ?_
      refine evPos (by simp only [List.length_append, List.length_cons]; omega) (Ev.step (fun k => by rw [spec_WithoutOwners.j1]) ?_)
      refine evNeg (by simp only [List.append_nil, decide_eq_true_eq]; omega) (evEq ?_ (Ev.now _))
      simp [woV]
    | cons o so =>
      simp only [List.length_append, List.length_cons] at h2 h3
      refine Ev.step (fun k => by rw [spec_WithoutOwners.l0]) ?_
      refine evPos (by simp only [List.length_append, List.length_cons]; omega) (Ev.step (fun k => by rw [spec_WithoutOwners.j1]) ?_)
      refine evPos (by simp only [List.length_append, List.length_cons, decide_eq_true_eq]; omega) (evPos (by omega) (evPos (by simp only [List.length_append, List.length_cons]; omega) ?_))
      rw [rd_mid' po so o h1.symm]
      refine Ev.bind (spec_l7Has_ev d o hd) ?_
      by_cases hb : hasB d o = true
      · refine evPos hb ?_
        rw [wsucc (by omega)]
        have h := ih so (pm ++ [x]) (po ++ [o]) out (by simp [h1]) (by simp; omega) (by simp; omega) (fun r hr => h4 r (by simp [hr])) (by simp; omega)
        refine evEq ?_ (Ev.congr (fun k => ?_) h)
        · simp only [woV, if_pos hb]
        · simp
      · refine evNeg hb ?_
        rw [rd_L1, getD_mid pm sm x []]
        rw [wsucc (by omega)]
        have hx := h4 x (by simp)
        refine evPos (by simp only [List.length_append, List.length_cons]; omega) (evPos (by simp; omega) (evPos (by omega) ?_))
        have h := ih so (pm ++ [x]) (po ++ [o]) (out ++ [x]) (by simp [h1]) (by simp; omega) (by simp; omega) (fun r hr => h4 r (by simp [hr])) (by simp; omega)
        refine evEq ?_ (Ev.congr (fun k => ?_) h)
        · simp only [woV, if_neg hb]; simp
        · simp
theorem spec_WithoutOwners_ev (m : List (List Int)) (o d : List Int) (hm : okII m) (ho : o.length ≤ 1048576) (hd : d.length ≤ 1048576) : Ev (fun k => spec_WithoutOwners.f k m o d) (woV m o d) := by
  have h := spec_WithoutOwners_l0 d hd m o [] [] [] rfl (by simpa using hm.1) (by simpa using ho) hm.2 (by simp)
  simpa [spec_WithoutOwners.f] using h
/-! ### linalg -/
/-! ### redi -/
/-! ### specred -/
theorem rd_vec (r : List Int) (j : Nat) : rd r (j : Int) = vec r j := by simp [rd, vec]
theorem spec_Max_abs (a : Int) (h : a.natAbs ≤ 9223372036854775807) : spec_Max.f a (wrap64 (-a)) = some ((a.natAbs : Nat) : Int) := by
  unfold spec_Max.f
  rw [w64 (by omega) (by omega)]
  by_cases h0 : -a > a
  · rw [if_pos h0]; congr 1; omega
  · rw [if_neg h0]; congr 1; omega
theorem spec_l4Gcd_l0 : ∀ (n b a : Nat), b ≤ n → Ev (fun k => spec_l4Gcd.l0 k (a : Int) (b : Int)) ((Nat.gcd a b : Nat) : Int) := by
  intro n
  induction n with
  | zero =>
    intro b a hb
    obtain rfl : b = 0 := by omega
    refine Ev.step (fun k => by rw [spec_l4Gcd.l0]) ?_
    exact evNeg (by simp) (evEq (by simp) (Ev.now _))
  | succ n ih =>
    intro b a hb
    refine Ev.step (fun k => by rw [spec_l4Gcd.l0]) ?_
    by_cases h0 : b = 0
    · subst h0
      exact evNeg (by simp) (evEq (by simp) (Ev.now _))
    · refine evPos (by omega) (evNeg (by omega) ?_)
      rw [Int.tmod_eq_emod_of_nonneg (by omega), show (a : Int) % (b : Int) = ((a % b : Nat) : Int) by omega]
      have h := ih (a % b) b (by have := Nat.mod_lt a (by omega : b > 0); omega)
      refine evEq ?_ h
      rw [Nat.gcd_comm a b, Nat.gcd_rec b a, Nat.gcd_comm]
theorem spec_l4Gcd_ev (a b : Int) (ha : a.natAbs ≤ 9223372036854775807) (hb : b.natAbs ≤ 9223372036854775807) : Ev (fun k => spec_l4Gcd.f k a b) ((Int.gcd a b : Nat) : Int) := by
  unfold spec_l4Gcd.f
  exact evSome (spec_Max_abs a ha) (evSome (spec_Max_abs b hb) (spec_l4Gcd_l0 _ _ _ (Nat.le_refl _)))
theorem gcdL_le_of (a b : Int) (M : Nat) (ha : a.natAbs ≤ M) (hb : b.natAbs ≤ M) : Int.gcd a b ≤ M := by
  by_cases h : b = 0
  · subst h; simpa using ha
  · exact Nat.le_trans (Nat.le_of_dvd (by omega) (Nat.gcd_dvd_right a.natAbs b.natAbs)) hb
theorem gcdL_le (M : Nat) : ∀ (r : List Int) (g : Int), g.natAbs ≤ M → (∀ x ∈ r, x.natAbs ≤ M) → (gcdF g r).natAbs ≤ M
  | [], g, h, _ => h
  | x :: r, g, h, hr => gcdL_le M r _ (by
      have := gcdL_le_of g x M h (hr x (by simp))
      simpa using this) (fun y hy => hr y (by simp [hy]))
theorem gcdL_append (g : Int) (r : List Int) (x : Int) : gcdF g (r ++ [x]) = ((Int.gcd (gcdF g r) x : Nat) : Int) := by simp [gcdF, List.foldl_append]
theorem spec_l5Lead_l0 : ∀ (suf pre : List Int), (pre ++ suf).length ≤ 1048576 → (∀ x ∈ pre, x = 0) →
    Ev (fun k => spec_l5Lead.l0 k (pre ++ suf) (pre.length : Int)) ((leadL (pre ++ suf) : Nat) : Int) := by
  intro suf
  induction suf with
  | nil =>
    intro pre hb hz
    refine Ev.step (fun k => by rw [spec_l5Lead.l0]) ?_
    refine evNeg (by simp) (evEq ?_ (Ev.now _))
    rw [leadL_zero]
    intro j
    rcases vec_mem (pre ++ []) j with h | h
    · exact h
    · exact hz _ (by simpa using h)
  | cons x suf ih =>
    intro pre hb hz
    simp only [List.length_append, List.length_cons] at hb
    refine Ev.step (fun k => by rw [spec_l5Lead.l0]) ?_
    refine evPos (by simp only [List.length_append, List.length_cons]; omega) (evPos (by omega) ?_)
    rw [rd_mid, wsucc (by omega)]
    by_cases hx : x = 0
    · refine evPos hx ?_
      have h := ih (pre ++ [x]) (by simp; omega) (fun y hy => by
        rcases List.mem_append.1 hy with hy | hy
        · exact hz y hy
        · rw [List.mem_singleton.1 hy]; exact hx)
      refine evEq ?_ (Ev.congr (fun k => ?_) h)
      · simp
      · simp
    · refine evNeg hx (evEq ?_ (Ev.now _))
      rw [leadL_eq (pre ++ x :: suf) pre.length (by simp) ?_ ?_]
      · intro j hj
        rw [vec_of_lt _ _ (by simp; omega), List.getElem_append_left hj]
        exact hz _ (List.getElem_mem _)
      · rw [vec_of_lt _ _ (by simp)]
        simpa using hx
theorem spec_l5Lead_ev (r : List Int) (h : r.length ≤ 1048576) : Ev (fun k => spec_l5Lead.f k r) ((leadL r : Nat) : Int) := by
  unfold spec_l5Lead.f
  have := spec_l5Lead_l0 r [] (by simpa using h) (by simp)
  simpa using this
theorem spec_l5Tidy_l1 (s : Int) (hs : s ≠ 0) : ∀ (suf pre : List Int), (pre ++ suf).length ≤ 1048576 → (∀ x ∈ suf, x.natAbs ≤ 4611686018427387904) →
    Ev (fun k => spec_l5Tidy.l1 k s (pre ++ suf) (pre.length : Int)) (pre ++ suf.map fun x => Int.tdiv x s) := by
  intro suf
  induction suf with
  | nil =>
    intro pre hb hz
    refine Ev.step (fun k => by rw [spec_l5Tidy.l1]) ?_
    exact evNeg (by simp) (evEq (by simp) (Ev.now _))
  | cons x suf ih =>
    intro pre hb hz
    simp only [List.length_append, List.length_cons] at hb
    refine Ev.step (fun k => by rw [spec_l5Tidy.l1]) ?_
    refine evPos (by simp only [List.length_append, List.length_cons]; omega) (evPos (by omega) (evNeg hs ?_))
    have hx := hz x (by simp)
    have hd := tdiv_le x s
    rw [rd_mid, wsucc (by omega), set_mid, w64 (n := Int.tdiv x s) (by omega) (by omega)]
    have h := ih (pre ++ [Int.tdiv x s]) (by simp; omega) (fun y hy => hz y (by simp [hy]))
    refine evEq ?_ (Ev.congr (fun k => ?_) h)
    · simp
    · simp
theorem spec_l5Tidy_l0 (r : List Int) (hl : r.length ≤ 1048576) (hb : bound62 r) : ∀ (suf pre : List Int), r = pre ++ suf →
    Ev (fun k => spec_l5Tidy.l0 k r (gcdF 0 pre) (pre.length : Int)) (tidyL r) := by
  intro suf
  induction suf with
  | nil =>
    intro pre e
    have e0 : pre = r := by simpa using e.symm
    subst e0
    refine Ev.step (fun k => by rw [spec_l5Tidy.l0]) ?_
    refine evNeg (by omega) ?_
    refine evSome rfl (evPos (by simp; omega) (evSome rfl (Ev.bind (spec_l5Lead_ev pre hl) ?_)))
    by_cases hz : leadL pre = pre.length
    · refine evPos (by omega) (evEq ?_ (Ev.now _))
      unfold tidyL
      rw [if_pos hz]; simp
    · have hlt : leadL pre < pre.length := Nat.lt_of_le_of_ne List.findIdx_le_length hz
      have hp := gcdF_pos pre hz
      have hle := gcdL_le 4611686018427387904 pre 0 (by simp) hb
      refine evNeg (by omega) (evPos (by omega) (evPos (by omega) ?_))
      rw [rd_vec]
      have et : tidyL pre = [] ++ pre.map fun x => Int.tdiv x (sgnG pre) := by unfold tidyL; rw [if_neg hz]; simp
      rw [et]
      by_cases hn : vec pre (leadL pre) < 0
      · refine evPos hn (Ev.step (fun k => by rw [spec_l5Tidy.j1]) ?_)
        rw [w64 (by omega) (by omega), show - gcdF 0 pre = sgnG pre by unfold sgnG; rw [if_pos hn]]
        have h := spec_l5Tidy_l1 (sgnG pre) (by unfold sgnG; rw [if_pos hn]; omega) pre [] (by simpa using hl) hb
        simpa using h
      · refine evNeg hn (Ev.step (fun k => by rw [spec_l5Tidy.j1]) ?_)
        rw [show gcdF 0 pre = sgnG pre by unfold sgnG; rw [if_neg hn]]
        have h := spec_l5Tidy_l1 (sgnG pre) (by unfold sgnG; rw [if_neg hn]; omega) pre [] (by simpa using hl) hb
        simpa using h
  | cons x suf ih =>
    intro pre e
    have hlen : pre.length < r.length := by rw [e]; simp
    refine Ev.step (fun k => by rw [spec_l5Tidy.l0]) ?_
    refine evPos (by omega) (evPos (by omega) ?_)
    have hx : rd r (pre.length : Int) = x := by rw [e]; exact rd_mid pre suf x
    rw [hx, wsucc (by omega)]
    have h1 := gcdL_le 4611686018427387904 pre 0 (by simp) (fun y hy => hb y (by rw [e]; simp [hy]))
    have h2 := hb x (by rw [e]; simp)
    refine Ev.bind (spec_l4Gcd_ev (gcdF 0 pre) x (by omega) (by omega)) ?_
    rw [← gcdL_append]
    have h := ih (pre ++ [x]) (by simp [e])
    simpa using h
theorem spec_l5Tidy_ev (r : List Int) (hl : r.length ≤ 1048576) (hb : bound62 r) : Ev (fun k => spec_l5Tidy.f k r) (tidyL r) := by
  have h := spec_l5Tidy_l0 r hl hb r [] rfl
  exact h
theorem spec_l5Clear_l0 (a p : List Int) (c : Nat) (hN : a.length = p.length) (hl : a.length ≤ 1048576) (hc : c < a.length) (ha : ∀ j, (vec a j).natAbs ≤ 322560000) (hp : ∀ j, (vec p j).natAbs ≤ 322560000) :
    ∀ (d j : Nat), j + d = a.length → Ev (fun k => spec_l5Clear.l0 k a p (c : Int) ((List.zipWith (fun x y => x * vec p c - y * vec a c) a p).take j) (j : Int)) (clearL a p c) := by
  intro d
  induction d with
  | zero =>
    intro j hj
    refine Ev.step (fun k => by rw [spec_l5Clear.l0]) ?_
    refine evNeg (by omega) ?_
    have et : (List.zipWith (fun x y => x * vec p c - y * vec a c) a p).take j = List.zipWith (fun x y => x * vec p c - y * vec a c) a p := List.take_of_length_le (by simp; omega)
    rw [et]
    refine Ev.bind (spec_l5Tidy_ev _ (by simp; omega) ?_) (evEq (by unfold clearL; rfl) (Ev.now _))
    intro x hx
    obtain ⟨i, hi, rfl⟩ := List.mem_iff_getElem.1 hx
    simp at hi
    rw [List.getElem_zipWith]
    have e1 := ha i
    have e2 := hp i
    rw [vec_of_lt a i (by omega)] at e1
    rw [vec_of_lt p i (by omega)] at e2
    have m1 := mul_bd e1 (hp c)
    have m2 := mul_bd e2 (ha c)
    omega
  | succ d ih =>
    intro j hj
    refine Ev.step (fun k => by rw [spec_l5Clear.l0]) ?_
    refine evPos (by omega) (evPos (by omega) (evPos (by omega) (evPos (by omega) (evPos (by omega) (evPos (by omega) (evPos (by simp; omega) ?_))))))
    rw [rd_vec, rd_vec, rd_vec, rd_vec, wsucc (by omega)]
    have m1 := mul_bd (ha j) (hp c)
    have m2 := mul_bd (hp j) (ha c)
    rw [w64 (n := vec a j * vec p c) (by omega) (by omega), w64 (n := vec p j * vec a c) (by omega) (by omega), w64 (n := vec a j * vec p c - vec p j * vec a c) (by omega) (by omega)]
    have h := ih (j + 1) (by omega)
    have hz : j < (List.zipWith (fun x y => x * vec p c - y * vec a c) a p).length := by simp; omega
    rw [List.take_add_one, List.getElem?_eq_getElem hz, List.getElem_zipWith] at h
    rw [vec_of_lt a j (by omega), vec_of_lt p j (by omega)]
    exact h
theorem spec_l5Clear_ev (a p : List Int) (c : Nat) (hN : a.length = p.length) (hl : a.length ≤ 1048576) (hc : c < a.length) (ha : ∀ j, (vec a j).natAbs ≤ 322560000) (hp : ∀ j, (vec p j).natAbs ≤ 322560000) : Ev (fun k => spec_l5Clear.f k a p (c : Int)) (clearL a p c) := by
  have h := spec_l5Clear_l0 a p c hN hl hc ha hp a.length 0 (by omega)
  exact h
/-! ### specred2 -/
theorem rdL_at (L : List (List Int)) (j : Nat) : rd_L1 L (j : Int) = L.getD j [] := by simp [rd_L1]
theorem spec_l2_skip (res : List (List Int)) (N cols c at_ : Nat) (hc : c < N) (rest : List (List Int)) : ∀ (Z pre : List (List Int)), (pre ++ Z ++ rest).length ≤ 1048576 → (∀ z ∈ Z, vec z c = 0 ∧ z.length = N) →
    Ev (fun k => spec_l5Reduce.l2 k (cols : Int) (pre ++ Z ++ rest) (at_ : Int) (c : Int) ((pre.length + Z.length : Nat) : Int)) res →
    Ev (fun k => spec_l5Reduce.l2 k (cols : Int) (pre ++ Z ++ rest) (at_ : Int) (c : Int) (pre.length : Int)) res := by
  intro Z
  induction Z with
  | nil => intro pre hl hz h; simpa using h
  | cons z Z ih =>
    intro pre hl hz h
    have hz0 := hz z (by simp)
    simp only [List.length_append, List.length_cons] at hl
    refine Ev.step (fun k => by rw [spec_l5Reduce.l2]) ?_
    have hg : (pre ++ z :: Z ++ rest).getD pre.length [] = z := by simp
    rw [rdL_at, hg, rd_vec, wsucc (by omega)]
    refine evPos (by simp only [List.length_append, List.length_cons]; omega) (evPos (by omega) (evPos (by omega) (evPos (by omega) (evPos hz0.1 ?_))))
    have h2 := ih (pre ++ [z]) (by simp; omega) (fun y hy => hz y (by simp [hy])) (by
      refine Ev.congr (fun k => ?_) h
      simp only [List.length_append, List.length_cons, List.length_nil, List.append_assoc, List.cons_append, List.nil_append]
      rw [show pre.length + (0 + 1) + Z.length = pre.length + (Z.length + 1) by omega])
    refine Ev.congr (fun k => ?_) h2
    simp
theorem spec_l3_skip (res : List (List Int)) (N cols c at_ : Nat) (x : List Int) (hc : c < N) (hx : x.length = N) (hN : N ≤ 1048576) (hxb : ∀ j, (vec x j).natAbs ≤ 322560000) (rest : List (List Int)) : ∀ (Z pre : List (List Int)), (pre ++ Z ++ rest).length ≤ 1048576 → at_ < (pre ++ Z ++ rest).length → (∀ z ∈ Z, z.length = N ∧ ∀ j, (vec z j).natAbs ≤ 322560000) →
    (pre.length + Z.length ≤ at_ ∨ at_ < pre.length) → (∀ Z' : List (List Int), Z'.length = Z.length → (pre ++ Z' ++ rest).getD at_ [] = x) →
    Ev (fun k => spec_l5Reduce.l3 k (cols : Int) (pre ++ Z.map (fun r => clearIf r x c) ++ rest) (at_ : Int) (c : Int) ((pre.length + Z.length : Nat) : Int)) res →
    Ev (fun k => spec_l5Reduce.l3 k (cols : Int) (pre ++ Z ++ rest) (at_ : Int) (c : Int) (pre.length : Int)) res := by
  intro Z
  induction Z with
  | nil => intro pre hl hat hz ha hp h; simpa using h
  | cons z Z ih =>
    intro pre hl hat hz ha hp h
    have hz0 := hz z (by simp)
    have hl' := hl
    simp only [List.length_append, List.length_cons] at hl ha hat
    have hg : (pre ++ z :: Z ++ rest).getD pre.length [] = z := by simp
    have hpx := hp (z :: Z) rfl
    have next : Ev (fun k => spec_l5Reduce.l3 k (cols : Int) (pre ++ [clearIf z x c] ++ Z ++ rest) (at_ : Int) (c : Int) (((pre ++ [clearIf z x c]).length : Nat) : Int)) res := by
      refine ih (pre ++ [clearIf z x c]) (by simp; omega) (by simp; omega) (fun y hy => hz y (by simp [hy])) (by simp; omega) (fun Z' hZ' => ?_) ?_
      · have h1 := hp (clearIf z x c :: Z') (by simp [hZ'])
        simpa using h1
      · refine Ev.congr (fun k => ?_) h
        simp only [List.length_append, List.length_cons, List.length_nil, List.append_assoc, List.cons_append, List.nil_append, List.map_cons]
        rw [show pre.length + (0 + 1) + Z.length = pre.length + (Z.length + 1) by omega]
    have hs : ((pre ++ [clearIf z x c]).length : Int) = ((pre.length + 1 : Nat) : Int) := by simp
    refine Ev.step (fun k => by rw [spec_l5Reduce.l3]) ?_
    rw [rdL_at, rdL_at, hg, hpx, rd_vec, wsucc (by omega)]
    refine evPos (by simp only [List.length_append, List.length_cons]; omega) (evNeg (by omega) (evPos (by omega) (evPos (by omega) (evPos (by omega) ?_))))
    by_cases h0 : vec z c = 0
    · refine evPos h0 ?_
      have e : clearIf z x c = z := by unfold clearIf; rw [if_pos h0]
      rw [e] at next
      refine Ev.congr (fun k => ?_) next
      simp
    · refine evNeg h0 (evPos (by omega) (evPos (by simp only [List.length_append, List.length_cons]; omega) (Ev.bind (spec_l5Clear_ev z x c (by rw [hz0.1, hx]) (by omega) (by omega) hz0.2 hxb) ?_)))
      have e : clearIf z x c = clearL z x c := by unfold clearIf; rw [if_neg h0]
      rw [e] at next
      refine Ev.congr (fun k => ?_) next
      simp
theorem first_at (c : Nat) : ∀ (R : List (List Int)), (∀ r ∈ R, vec r c = 0) ∨ ∃ R0 x R1, R = R0 ++ x :: R1 ∧ (∀ r ∈ R0, vec r c = 0) ∧ vec x c ≠ 0
  | [] => .inl (by simp)
  | r :: R => by
    by_cases h : vec r c = 0
    · rcases first_at c R with h1 | ⟨R0, x, R1, e, h1, h2⟩
      · left
        intro s hs
        rcases List.mem_cons.1 hs with rfl | hs
        · exact h
        · exact h1 s hs
      · right
        refine ⟨r :: R0, x, R1, by rw [e]; rfl, ?_, h2⟩
        intro s hs
        rcases List.mem_cons.1 hs with rfl | hs
        · exact h
        · exact h1 s hs
    · exact .inr ⟨[], r, R, rfl, by simp, h⟩
theorem spec_l5Reduce_l1 (X : List (List Int)) (N cb cols : Nat) (hNc : N ≤ cb + 1) (h6 : cb ≤ 6) (hX : ∀ r ∈ X, ∀ j, (vec r j).natAbs ≤ cellB cb j) (hcols : cols ≤ N) (hXl : X.length ≤ 1048576) : ∀ (d c : Nat) (O R : List (List Int)), c + d = cols → CInv X N c R O → (O ++ R).length = X.length →
    ∃ O' R', Ev (fun k => spec_l5Reduce.l1 k (cols : Int) (O ++ R) (O.length : Int) (c : Int)) (O' ++ R') ∧ CInv X N cols R' O' ∧ (O' ++ R').length = X.length := by
  intro d
  induction d with
  | zero =>
    intro c O R hc h hl
    obtain rfl : c = cols := by omega
    exact ⟨O, R, Ev.step (fun k => by rw [spec_l5Reduce.l1]) (evNeg (by omega) (Ev.now _)), h, hl⟩
  | succ d ih =>
    intro c O R hc h hl
    have hcN : c < N := by omega
    have hN7 : N ≤ 7 := by omega
    have hlen : O.length + R.length = X.length := by rw [← hl, List.length_append]
    rcases first_at c R with hz | ⟨R0, x, R1, e, hz, hx⟩
    · obtain ⟨O', R', he, hi, hl'⟩ := ih (c + 1) O R (by omega) (h.skip hz) hl
      refine ⟨O', R', ?_, hi, hl'⟩
      refine Ev.step (fun k => by rw [spec_l5Reduce.l1]) (evPos (by omega) ?_)
      have hs := spec_l2_skip (O' ++ R') N cols c O.length hcN [] R O (by simp; omega) (fun z hz' => ⟨hz z hz', h.lenr z hz'⟩)
      simp only [List.append_nil] at hs
      refine hs ?_
      refine Ev.step (fun k => by rw [spec_l5Reduce.l2]) (evNeg (by simp) ?_)
      refine Ev.step (fun k => by rw [spec_l5Reduce.j3]) (evPos (by simp) ?_)
      rw [wsucc (by omega)]
      exact he
    · have hxR : x ∈ R := by rw [e]; simp
      obtain ⟨others, ho, hset⟩ : ∃ others : List (List Int), (∀ r, r ∈ R ↔ r = x ∨ r ∈ others) ∧ (((O ++ R).set (O.length + R0.length) ((O ++ R).getD O.length [])).set O.length x = O ++ x :: others) := by
        cases R0 with
        | nil =>
          refine ⟨R1, fun r => by rw [e]; simp, ?_⟩
          rw [e]
          simp
        | cons y t =>
          refine ⟨t ++ y :: R1, fun r => by rw [e]; simp; grind, ?_⟩
          rw [e]
          simp
      have hol : others.length + 1 = R.length := by
        have := congrArg List.length hset
        simp at this
        omega
      have hbR : ∀ r ∈ R, r.length = N ∧ ∀ j, (vec r j).natAbs ≤ 322560000 := fun r hr => ⟨h.lenr r hr, fun j => h.rem_le hNc h6 hX (by omega) r hr j⟩
      have hbO : ∀ r ∈ O, r.length = N ∧ ∀ j, (vec r j).natAbs ≤ 322560000 := fun r hr => ⟨h.leno r hr, fun j => h.out_le hNc h6 hX (by omega) r hr j⟩
      have hbo : ∀ r ∈ others, r.length = N ∧ ∀ j, (vec r j).natAbs ≤ 322560000 := fun r hr => hbR r ((ho r).2 (.inr hr))
      have hp := h.pivot hx ho
      have hl2 : ((O.map (fun r => clearIf r x c) ++ [x]) ++ others.map (fun r => clearIf r x c)).length = X.length := by simp; omega
      obtain ⟨O', R', he, hi, hl'⟩ := ih (c + 1) _ _ (by omega) hp hl2
      refine ⟨O', R', ?_, hi, hl'⟩
      refine Ev.step (fun k => by rw [spec_l5Reduce.l1]) (evPos (by omega) ?_)
      have hOR : O ++ R = O ++ R0 ++ x :: R1 := by rw [e]; simp
      rw [hOR]
      refine spec_l2_skip (O' ++ R') N cols c O.length hcN (x :: R1) R0 O (by rw [← hOR]; omega) (fun z hz' => ⟨hz z hz', h.lenr z (by rw [e]; simp [hz'])⟩) ?_
      have hgx : (O ++ R0 ++ x :: R1).getD (O.length + R0.length) [] = x := by simp
      have hRl : R0.length < R.length := by rw [e]; simp
      refine Ev.step (fun k => by rw [spec_l5Reduce.l2]) ?_
      rw [rdL_at, hgx, rd_vec]
      refine evPos (by rw [← hOR]; simp only [List.length_append]; omega) (evPos (by omega) (evPos (by omega) (evPos (by have := h.lenr x hxR; omega) (evNeg hx ?_))))
      refine Ev.step (fun k => by rw [spec_l5Reduce.j3]) ?_
      rw [rdL_at, rdL_at, hgx]
      refine evNeg (by rw [← hOR]; simp only [List.length_append]; omega) (evPos (by omega) (evPos (by rw [← hOR]; simp only [List.length_append]; omega) (evPos (by omega) (evPos (by rw [← hOR]; simp only [List.length_append]; omega) ?_))))
      have htx : tidyL x = x := tidy_id (h.inv.tid _ ⟨x, hxR, rfl⟩)
      have ht := spec_l5Tidy_ev x (by rw [h.lenr x hxR]; omega) (fun y hy => by
        obtain ⟨j, hj, rfl⟩ := List.mem_iff_getElem.1 hy
        have := (hbR x hxR).2 j
        rw [vec_of_lt x j hj] at this
        omega)
      rw [htx] at ht
      refine Ev.bind ht ?_
      simp only [Int.toNat_natCast]
      rw [← hOR, hset]
      -- the rows ahead
      have s1 := spec_l3_skip (O' ++ R') N cols c O.length x hcN (h.lenr x hxR) (by omega) (hbR x hxR).2 (x :: others) O [] (by simp; omega) (by simp) hbO (.inl (by simp)) (fun Z' hZ' => by rw [List.nil_append, ← hZ']; simp)
      simp only [List.nil_append, List.length_nil, Nat.zero_add] at s1
      refine s1 ?_
      -- the pivot
      refine Ev.step (fun k => by rw [spec_l5Reduce.l3]) ?_
      refine evPos (by simp only [List.length_append, List.length_map, List.length_cons]; omega) (evPos rfl ?_)
      rw [wsucc (by omega)]
      -- the rows behind
      have s2 := spec_l3_skip (O' ++ R') N cols c O.length x hcN (h.lenr x hxR) (by omega) (hbR x hxR).2 [] others (O.map (fun r => clearIf r x c) ++ [x]) (by first | (simp; done) | (simp; omega)) (by first | (simp; done) | (simp; omega)) hbo (.inr (by simp)) (fun Z' hZ' => by
        rw [List.append_nil, List.append_assoc, List.getD_eq_getElem?_getD, List.getElem?_append_right (by simp)]
        simp)
      simp only [List.append_nil, List.length_append, List.length_map, List.length_cons, List.length_nil, Nat.zero_add, List.append_assoc, List.cons_append, List.nil_append] at s2
      refine s2 ?_
      refine Ev.step (fun k => by rw [spec_l5Reduce.l3]) ?_
      refine evNeg (by simp only [List.length_append, List.length_map, List.length_cons]; omega) ?_
      rw [wsucc (by omega), wsucc (by omega)]
      refine Ev.congr (fun k => ?_) he
      simp
theorem spec_l5Reduce_l0 (X : List (List Int)) (cols : Int) (hl : X.length ≤ 1048576) (hb : ∀ r ∈ X, r.length ≤ 1048576 ∧ bound62 r) (res : List (List Int)) (h : Ev (fun k => spec_l5Reduce.l1 k cols (X.map tidyL) 0 0) res) : ∀ (suf pre : List (List Int)), X = pre ++ suf →
    Ev (fun k => spec_l5Reduce.l0 k X cols (pre.map tidyL) (pre.length : Int)) res := by
  intro suf
  induction suf with
  | nil =>
    intro pre e
    have e0 : pre = X := by simpa using e.symm
    subst e0
    exact Ev.step (fun k => by rw [spec_l5Reduce.l0]) (evNeg (by omega) h)
  | cons x suf ih =>
    intro pre e
    have hlen : pre.length < X.length := by rw [e]; simp
    have hx := hb x (by rw [e]; simp)
    refine Ev.step (fun k => by rw [spec_l5Reduce.l0]) ?_
    have hg : X.getD pre.length [] = x := by rw [e]; simp
    rw [rdL_at, hg, wsucc (by omega)]
    refine evPos (by omega) (evPos (by omega) (Ev.bind (spec_l5Tidy_ev x hx.1 hx.2) (evPos (by simp; omega) ?_)))
    have h2 := ih (pre ++ [x]) (by simp [e])
    refine Ev.congr (fun k => ?_) h2
    simp
theorem bound62_cell {r : List Int} {cb : Nat} (h : ∀ j, (vec r j).natAbs ≤ cellB cb j) : bound62 r := by
  intro x hx
  obtain ⟨j, hj, rfl⟩ := List.mem_iff_getElem.1 hx
  have h1 := h j
  rw [vec_of_lt r j hj] at h1
  unfold cellB at h1
  split at h1 <;> omega
theorem spec_l5Reduce_ev (X : List (List Int)) (N cb cols : Nat) (hN : ∀ r ∈ X, r.length = N) (hNc : N ≤ cb + 1) (h6 : cb ≤ 6) (hX : ∀ r ∈ X, ∀ j, (vec r j).natAbs ≤ cellB cb j) (hcols : cols ≤ N) (hXl : X.length ≤ 1048576) :
    ∃ O R, Ev (fun k => spec_l5Reduce.f k X (cols : Int)) (O ++ R) ∧ CInv X N cols R O ∧ (O ++ R).length = X.length := by
  obtain ⟨O, R, he, hi, hl⟩ := spec_l5Reduce_l1 X N cb cols hNc h6 hX hcols hXl cols 0 [] (X.map tidyL) (by omega) (CInv.init X N hN) (by simp)
  refine ⟨O, R, ?_, hi, hl⟩
  unfold spec_l5Reduce.f
  have h := spec_l5Reduce_l0 X cols hXl (fun r hr => ⟨by rw [hN r hr]; omega, bound62_cell (hX r hr)⟩) (O ++ R) (by simpa using he) X [] rfl
  exact h
/-! ### span -/
/-! ### small -/
theorem spec_l1In_eq (a b c : Int) : spec_l1In.f a b c = some (decide (b ≤ a ∧ a ≤ c)) := by
  unfold spec_l1In.f
  by_cases h : a ≥ b
  · rw [if_pos h]
    simp [show b ≤ a from h]
  · rw [if_neg h]
    have : ¬ b ≤ a := h
    simp [this]
/-! ### inrange -/
/-! ### allin -/
/-! ### matrix -/
/-! ### smatrix -/
theorem spec_IsMatrix_l1 (pre suf : List (List Int)) (row : List Int) (R : Bool) (hb : (pre ++ row :: suf).length ≤ 12) (hr : row.length ≤ 6)
    (hk : Ev (fun k => spec_IsMatrix.l0 k (pre ++ row :: suf) (row.length : Int) ((pre.length + 1 : Nat) : Int)) R) : ∀ (rs rp : List Int), row = rp ++ rs →
    Ev (fun k => spec_IsMatrix.l1 k (pre ++ row :: suf) (row.length : Int) (pre.length : Int) (rp.length : Int)) (rs.all cellR && R) := by
  intro rs
  simp only [List.length_append, List.length_cons] at hb
  induction rs with
  | nil =>
    intro rp e
    have hl : row.length = rp.length := by rw [e]; simp
    refine Ev.step (fun k => by rw [spec_IsMatrix.l1]) ?_
    refine evNeg (by omega) ?_
    rw [wsucc (by omega)]
    simpa using hk
  | cons v vs ih =>
    intro rp e
    have hl : row.length = rp.length + (vs.length + 1) := by rw [e]; simp
    have ev : rd row (rp.length : Int) = v := by rw [e, rd_mid]
    refine Ev.step (fun k => by rw [spec_IsMatrix.l1]) ?_
    simp only [rd_L1, getD_mid]
    refine evPos (by omega) (evPos (by omega) (evPos (by simp only [List.length_append, List.length_cons]; omega) (evPos (by omega) (evPos (by omega) ?_))))
    rw [ev, wsucc (by omega)]
    refine evSome (spec_l1In_eq _ _ _) ?_
    have h := ih (rp ++ [v]) (by simp [e])
    have h' : Ev (fun k => spec_IsMatrix.l1 k (pre ++ row :: suf) (row.length : Int) (pre.length : Int) ((rp.length + 1 : Nat) : Int)) (vs.all cellR && R) := by simpa using h
    by_cases hv : -2 ≤ v ∧ v ≤ 2
    · refine evPos (by simpa using hv) (evEq ?_ h')
      simp only [List.all_cons, show cellR v = true from decide_eq_true hv, Bool.true_and]
    · refine evNeg (by simpa using hv) (evEq ?_ (Ev.now _))
      simp only [List.all_cons, show cellR v = false from decide_eq_false hv, Bool.false_and]
theorem spec_IsMatrix_l0 (c : Int) (hc : 1 ≤ c ∧ c ≤ 6) : ∀ (suf pre : List (List Int)), (pre ++ suf).length ≤ 12 →
    Ev (fun k => spec_IsMatrix.l0 k (pre ++ suf) c (pre.length : Int)) (suf.all fun r => decide ((r.length : Int) = c) && r.all cellR) := by
  intro suf
  induction suf with
  | nil =>
    intro pre hb
    refine Ev.step (fun k => by rw [spec_IsMatrix.l0]) ?_
    exact evNeg (by simp) (Ev.now _)
  | cons x suf ih =>
    intro pre hb
    have hb' := hb
    simp only [List.length_append, List.length_cons] at hb'
    refine Ev.step (fun k => by rw [spec_IsMatrix.l0]) ?_
    refine evPos (by simp only [List.length_append, List.length_cons]; omega) (evPos (by omega) ?_)
    have e : rd_L1 (pre ++ x :: suf) (pre.length : Int) = x := by rw [rd_L1, getD_mid]
    rw [e]
    by_cases hx : (x.length : Int) = c
    · refine evPos hx ?_
      subst hx
      have h := ih (pre ++ [x]) (by simpa using hb)
      have h' : Ev (fun k => spec_IsMatrix.l0 k (pre ++ x :: suf) (x.length : Int) ((pre.length + 1 : Nat) : Int)) (suf.all fun r => decide ((r.length : Int) = (x.length : Int)) && r.all cellR) := by simpa using h
      refine evEq ?_ (spec_IsMatrix_l1 pre suf x _ hb (by omega) h' x [] rfl)
      simp only [List.all_cons, decide_true, Bool.true_and]
    · refine evNeg hx (evEq ?_ (Ev.now _))
      simp only [List.all_cons, decide_eq_false hx, Bool.false_and]
theorem spec_IsMatrix_ev (m : List (List Int)) (c : Int) : Ev (fun k => spec_IsMatrix.f k m c) (matB m c) := by
  unfold spec_IsMatrix.f
  refine evSome (spec_l1In_eq _ _ _) ?_
  by_cases h1 : 1 ≤ c ∧ c ≤ 6
  · refine evPos (by simpa using h1) (Ev.step (fun k => by rw [spec_IsMatrix.j0]) ?_)
    by_cases h2 : m.length ≤ 12
    · refine evNeg (by simp; omega) (evEq ?_ (spec_IsMatrix_l0 c h1 m [] (by simpa using h2)))
      simp only [matB, decide_eq_true h1, decide_eq_true h2, Bool.true_and]
    · refine evPos (by simp; omega) (evEq ?_ (Ev.now _))
      simp only [matB, decide_eq_false h2, Bool.and_false, Bool.false_and]
  · refine evNeg (by simpa using h1) (Ev.step (fun k => by rw [spec_IsMatrix.j0]) (evPos rfl (evEq ?_ (Ev.now _))))
    simp only [matB, decide_eq_false h1, Bool.false_and]
/-! ### spanv -/
/-! ### spanspec -/
theorem clear_bound {m : List (List Int)} {row : List Int} {R O : List (List Int)} (hm : matB m (row.length : Int) = true) (hrow : ∀ j, (vec row j).natAbs ≤ 2) (h : CInv m row.length row.length R O) : ∀ O1 O2, O = O1 ++ O2 → ∀ j, (vec (goL O1 row) j).natAbs ≤ 322560000 := by
  intro O1 O2 e j
  have hr := matB_rows hm
  have hX : ∀ i c, (xvec m i c).natAbs ≤ cellB 6 c := fun i k => by
    by_cases hi : i < m.length
    · rw [xvec_mem m i hi]; exact matB_cell hm _ (List.getElem_mem _) k
    · have : xvec m i k = 0 := by simp [xvec, List.getD_eq_getElem?_getD, List.getElem?_eq_none (Nat.le_of_not_lt hi), vec]
      rw [this]; simp
  obtain ⟨D, hD, hDb, hall⟩ := h.inv.dens (cellB 6) hX
  have hlt : ∀ c ∈ (outE O).map (·.1), c < 6 := fun c hc => by
    obtain ⟨a, ha, rfl⟩ := List.mem_map.1 hc
    obtain ⟨r, hr', rfl⟩ := List.mem_map.1 ha
    have := h.lead r hr'
    simp only
    omega
  have hl6 : ((outE O).map (·.1)).length ≤ 6 := nodup_len 6 _ h.inv.ech.nodup hlt
  have hDle : D.natAbs ≤ 46080 := Nat.le_trans hDb (fb_num60 6 _ h.inv.ech.nodup hl6 (fun hc => by have := hlt 6 hc; omega))
  have hOl : O.length ≤ 6 := by simpa [outE] using hl6
  have key := goL_bound D hD (vec row) 92160 O row (fun j => D * vec row j) D 1 92160 h.inv.ech (fun r hr' => by
    refine ⟨h.leno r hr', ?_⟩
    obtain ⟨P1, P2, hP⟩ := List.append_of_mem hr'
    obtain ⟨q, hq, hDq, hj⟩ := hall (outE P1) (leadL r, vec r) (outE P2) (by rw [hP]; simp [outE])
    have hnd : ∀ j, vec r j ≠ 0 → (q * vec r j).natAbs ≤ 46080 := fun j h0 => by
      refine Nat.le_trans (hj j h0) ?_
      have hap := List.pairwise_append.1 (by rw [hP] at h; simpa [outE] using h.inv.ech.apart : (outE P1 ++ (leadL r, vec r) :: outE P2).Pairwise (fun a b => a.1 < b.1 ∧ a.2 b.1 = 0 ∧ b.2 a.1 = 0))
      have hap2 := List.pairwise_cons.1 hap.2.1
      have hjN : j < 6 := Nat.lt_of_not_le fun hge => h0 (vec_out r j (by rw [h.leno r hr']; omega))
      have hnp : j ∉ (outE P1 ++ outE P2).map (·.1) := fun hmm => by
        obtain ⟨e, he, rfl⟩ := List.mem_map.1 hmm
        rcases List.mem_append.1 he with he | he
        · exact h0 (hap.2.2 e he (leadL r, vec r) (by simp)).2.2
        · exact h0 (hap2.1 e he).2.1
      have hsub : ∀ c ∈ (outE P1 ++ outE P2).map (·.1), c < 6 := fun c hc => hlt c (by
        obtain ⟨a, ha, rfl⟩ := List.mem_map.1 hc
        rw [hP]
        simp only [outE, List.map_append, List.map_cons] at ha ⊢
        rcases List.mem_append.1 ha with ha | ha
        · exact List.mem_append.2 (.inl (List.mem_map.2 ⟨a, ha, rfl⟩))
        · exact List.mem_append.2 (.inr (List.mem_cons_of_mem _ (List.mem_map.2 ⟨a, ha, rfl⟩))))
      have hndp : (j :: (outE P1 ++ outE P2).map (·.1)).Nodup := by
        rw [List.nodup_cons]
        refine ⟨hnp, ?_⟩
        have := h.inv.ech.nodup
        rw [hP] at this
        simp only [outE, List.map_append, List.map_cons] at this ⊢
        exact (List.nodup_cons.1 ((List.perm_middle.nodup_iff).1 this)).2
      refine fb_num60 6 _ hndp (nodup_len 6 _ hndp fun c hc => ?_) (fun hc => ?_)
      · rcases List.mem_cons.1 hc with rfl | hc
        · exact hjN
        · exact hsub c hc
      · rcases List.mem_cons.1 hc with e | hc
        · omega
        · have := hsub 6 hc; omega
    have hfin : ∀ q' : Int, q'.natAbs = q.natAbs → ∀ j, (vec row (leadL r) * (q' * vec r j)).natAbs ≤ 92160 := fun q' hq' j => by
      rw [Int.natAbs_mul, Int.natAbs_mul, hq', ← Int.natAbs_mul]
      by_cases h0 : vec r j = 0
      · rw [h0]; simp
      · exact Nat.mul_le_mul (hrow _) (hnd j h0)
    rcases hDq with hDq | hDq
    · exact ⟨q, hDq, hfin q rfl⟩
    · exact ⟨-q, by rw [hDq]; simp only; rw [Int.neg_mul], hfin (-q) (by simp)⟩) hD (fun j => by simp) (fun r _ => rfl) (fun j => by
      rw [Int.natAbs_mul]
      exact Nat.mul_le_mul hDle (hrow j)) (fun j => by have := hrow j; omega) O1 O2 e j
  have hO1 : O1.length ≤ 6 := by
    have := congrArg List.length e
    simp at this
    omega
  have h1 : O1.length * 92160 ≤ 6 * 92160 := Nat.mul_le_mul hO1 (Nat.le_refl _)
  omega
theorem spec_ReduceRows_l0 (N : Nat) (hN : N ≤ 1048576) (Rs : List (List Int)) : ∀ (suf pre : List (List Int)) (acc : List (List Int)), Rs = pre ++ suf → Rs.length ≤ 1048576 → acc.length ≤ pre.length → (∀ r ∈ suf, r.length = N) →
    Ev (fun k => spec_ReduceRows.l0 k (N : Int) acc Rs (pre.length : Int)) (acc ++ suf.filter fun r => decide (leadL r < N)) := by
  intro suf
  induction suf with
  | nil =>
    intro pre acc e hl ha hr
    refine Ev.step (fun k => by rw [spec_ReduceRows.l0]) ?_
    exact evNeg (by rw [e]; simp) (evEq (by simp) (Ev.now _))
  | cons x suf ih =>
    intro pre acc e hl ha hr
    have hlen : pre.length < Rs.length := by rw [e]; simp
    have hg : Rs.getD pre.length [] = x := by rw [e]; simp
    have hx := hr x (by simp)
    refine Ev.step (fun k => by rw [spec_ReduceRows.l0]) ?_
    rw [rdL_at, hg, wsucc (by omega)]
    refine evPos (by omega) (evPos (by omega) (Ev.bind (spec_l5Lead_ev x (by omega)) ?_))
    by_cases hc : leadL x < N
    · refine evPos (by omega) (evSome rfl (evPos (by simp; omega) (evPos (by omega) ?_)))
      have h := ih (pre ++ [x]) (acc ++ [x]) (by simp [e]) hl (by simp; omega) (fun r hr' => hr r (by simp [hr']))
      refine evEq ?_ (Ev.congr (fun k => ?_) h)
      · simp [hc]
      · simp
    · refine evNeg (by omega) ?_
      have h := ih (pre ++ [x]) acc (by simp [e]) hl (by simp; omega) (fun r hr' => hr r (by simp [hr']))
      refine evEq ?_ (Ev.congr (fun k => ?_) h)
      · simp [hc]
      · simp
theorem redI_CInv (m : List (List Int)) (N : Nat) (h : ∀ r ∈ m, r.length = N) : CInv m N N (runI m N).1 (redI m N) := runI_CInv m N h N (Nat.le_refl _)
theorem spec_ReduceRows_ev (m : List (List Int)) (N : Nat) (hm : matB m (N : Int) = true) : Ev (fun k => spec_ReduceRows.f k m (N : Int)) (redI m N) := by
  have hr := matB_rows hm
  obtain ⟨O, R, he, hi, hl⟩ := spec_l5Reduce_ev m N 6 N hr.2.2.1 (by omega) (by omega) (matB_cell hm) (Nat.le_refl _) (by omega)
  have hO : O = redI m N := hi.unique (redI_CInv m N hr.2.2.1) hi.zeros (redI_CInv m N hr.2.2.1).zeros (fun y => Iff.rfl)
  unfold spec_ReduceRows.f
  refine evSome rfl (Ev.bind (spec_IsMatrix_ev m (N : Int)) (evPos hm (Ev.bind he ?_)))
  have h := spec_ReduceRows_l0 N (by omega) (O ++ R) (O ++ R) [] [] rfl (by omega) (by simp) (fun r hr' => by
    rcases List.mem_append.1 hr' with h1 | h1
    · exact hi.leno r h1
    · exact hi.lenr r h1)
  refine evEq ?_ h
  rw [List.nil_append, List.filter_append, ← hO]
  have f1 : O.filter (fun r => decide (leadL r < N)) = O := List.filter_eq_self.2 fun r hr' => by simpa using hi.lead r hr'
  have f2 : R.filter (fun r => decide (leadL r < N)) = [] := List.filter_eq_nil_iff.2 fun r hr' => by
    have h1 := leadL_zero r (hi.zeros r hr')
    rw [hi.lenr r hr'] at h1
    simp; omega
  rw [f1, f2, List.append_nil]
theorem spec_IsInSpan_l0 (N : Nat) (hN : N ≤ 1048576) (x0 : List Int) (hx0 : x0.length = N) (O : List (List Int)) (hOl : O.length ≤ 1048576) (hE : ∀ r ∈ O, r.length = N ∧ leadL r < N ∧ ∀ j, (vec r j).natAbs ≤ 322560000) (hb : ∀ O1 O2, O = O1 ++ O2 → ∀ j, (vec (goL O1 x0) j).natAbs ≤ 322560000) :
    ∀ (O2 O1 : List (List Int)), O = O1 ++ O2 → Ev (fun k => spec_IsInSpan.l0 k (goL O1 x0) O (O1.length : Int)) (((leadL (goL O x0) : Nat) : Int) == ((goL O x0).length : Int)) := by
  have hlen : ∀ O1 O2, O = O1 ++ O2 → (goL O1 x0).length = N := fun O1 O2 e => goL_length O1 x0 (fun r hr => (hE r (by rw [e]; simp [hr])).1) hx0
  have snoc : ∀ (O1 : List (List Int)) (r : List Int) (x : List Int), goL (O1 ++ [r]) x = clearIf (goL O1 x) r (leadL r) := by
    intro O1
    induction O1 with
    | nil => intro r x; rfl
    | cons s O1 ih => intro r x; exact ih r _
  intro O2
  induction O2 with
  | nil =>
    intro O1 e
    have e0 : O = O1 := by simpa using e
    subst e0
    refine Ev.step (fun k => by rw [spec_IsInSpan.l0]) ?_
    exact evNeg (by omega) (Ev.bind (spec_l5Lead_ev _ (by rw [hlen O [] (by simp)]; exact hN)) (Ev.now _))
  | cons r O2 ih =>
    intro O1 e
    have hlt : O1.length < O.length := by rw [e]; simp
    have hg : O.getD O1.length [] = r := by rw [e]; simp
    have hr := hE r (by rw [e]; simp)
    have hxl := hlen O1 (r :: O2) e
    refine Ev.step (fun k => by rw [spec_IsInSpan.l0]) ?_
    rw [rdL_at, hg, wsucc (by omega)]
    refine evPos (by omega) (evPos (by omega) (Ev.bind (spec_l5Lead_ev r (by omega)) (evPos (by omega) (evPos (by omega) ?_))))
    rw [rd_vec]
    have h := ih (O1 ++ [r]) (by simp [e])
    rw [snoc, show (((O1 ++ [r]).length : Nat) : Int) = ((O1.length + 1 : Nat) : Int) by simp] at h
    by_cases h0 : vec (goL O1 x0) (leadL r) = 0
    · refine evPos h0 ?_
      unfold clearIf at h
      rw [if_pos h0] at h
      exact h
    · refine evNeg h0 (Ev.bind (spec_l5Clear_ev _ r (leadL r) (by rw [hxl, hr.1]) (by omega) (by omega) (hb O1 (r :: O2) e) hr.2.2) ?_)
      unfold clearIf at h
      rw [if_neg h0] at h
      exact h
theorem spec_IsInSpan_ev (m : List (List Int)) (row : List Int) (hl : row.length ≤ 1048576) : Ev (fun k => spec_IsInSpan.f k m row) (spanV m row) := by
  have hboth : Ev (fun k => spec_l5Both.f k m row) (matB m (row.length : Int) && matB [row] (row.length : Int)) := by
    unfold spec_l5Both.f
    refine Ev.bind (spec_IsMatrix_ev m _) ?_
    by_cases h : matB m (row.length : Int) = true
    · exact evPos h (Ev.bind (spec_IsMatrix_ev [row] _) (evEq (by rw [h]; simp) (Ev.now _)))
    · exact evNeg h (evEq (by simp at h; rw [h]; simp) (Ev.now _))
  unfold spec_IsInSpan.f
  refine Ev.bind hboth ?_
  by_cases h : (matB m (row.length : Int) && matB [row] (row.length : Int)) = true
  · refine evPos h (evSome rfl (evPos (by simp; omega) ?_))
    have h' := h
    rw [Bool.and_eq_true] at h'
    have hm := matB_rows h'.1
    have hrw := matB_rows h'.2
    have hrow : ∀ j, (vec row j).natAbs ≤ 2 := hrw.2.2.2 row (by simp)
    refine Ev.bind (spec_ReduceRows_ev m row.length h'.1) ?_
    have hi := redI_CInv m row.length hm.2.2.1
    have hi2 := redI_CInv (m ++ [row]) row.length (fun r hr => by
      rcases List.mem_append.1 hr with hr | hr
      · exact hm.2.2.1 r hr
      · rw [List.mem_singleton.1 hr])
    have hlen : (redI m row.length).length ≤ 1048576 := by
      have := runI_len m row.length
      unfold redI
      omega
    have hs := spec_IsInSpan_l0 row.length hl row rfl (redI m row.length) hlen (fun r hr => ⟨hi.leno r hr, hi.lead r hr, fun j => hi.out_le (cols := 6) (by omega) (by omega) (matB_cell h'.1) (by omega) r hr j⟩) (clear_bound h'.1 hrow hi) (redI m row.length) [] rfl
    refine evEq ?_ (Ev.congr (fun k => by simp [goL]) hs)
    unfold spanV
    rw [h, Bool.true_and]
    have hgl : (goL (redI m row.length) row).length = row.length := goL_length _ _ hi.leno rfl
    have hz := goL_zero hi hi.zeros row rfl
    have hk := rank_span hi hi2 hi.zeros hi2.zeros rfl
    have hzl : (leadL (goL (redI m row.length) row) = (goL (redI m row.length) row).length) ↔ ∀ j, vec (goL (redI m row.length) row) j = 0 := by
      constructor
      · intro h1 j
        by_cases hj : j < (goL (redI m row.length) row).length
        · exact leadL_low _ j (by omega)
        · exact vec_out _ j (by omega)
      · exact leadL_zero _
    by_cases hd : (redI m row.length).length = (redI (m ++ [row]) row.length).length
    · have h1 := hzl.2 (hz.2 (hk.1 hd))
      rw [decide_eq_true hd]
      simp; omega
    · rw [decide_eq_false hd]
      have h1 : leadL (goL (redI m row.length) row) ≠ (goL (redI m row.length) row).length := fun e => hd (hk.2 (hz.1 (hzl.1 e)))
      simp; omega
  · refine evNeg h (evEq ?_ (Ev.now _))
    unfold spanV
    simp at h
    by_cases h1 : matB m (row.length : Int) = true
    · rw [h h1]; simp
    · simp at h1; rw [h1]; simp
/-! ### checked -/
def checkV (rest : List (List Int)) (w : Int) : List (List Int) → List Int → Bool → Bool
  | m :: ms, o :: os, b => if o = w then (if spanV rest m = true then checkV rest w ms os true else false) else checkV rest w ms os b
  | _, _, b => b
theorem checkV_nil (rest : List (List Int)) (w : Int) (ms : List (List Int)) (b : Bool) : checkV rest w ms [] b = b := by cases ms <;> rfl
theorem impl_IsInSpan_eq (m : List (List Int)) (r : List Int) (hm : okII m) (hr : r.length ≤ 1048576) : impl_IsInSpan.f m r = some (spanV m r) := by
  unfold impl_IsInSpan.f
  rw [if_pos ⟨hm.1, hr, hm.2⟩]
theorem spec_IsChecked_l0 (rest : List (List Int)) (w : Int) : ∀ (sm : List (List Int)) (so : List Int) (pm : List (List Int)) (po : List Int) (b : Bool), pm.length = po.length → (pm ++ sm).length ≤ 1048576 → (po ++ so).length ≤ 1048576 → (∀ r ∈ sm, r.length ≤ 1048576) →
    Ev (fun k => spec_IsChecked.l0 k (pm ++ sm) (po ++ so) w b rest (po.length : Int)) (checkV rest w sm so b) := by
  intro sm
  induction sm with
  | nil =>
    intro so pm po b h1 h2 h3 h4
    refine Ev.step (fun k => by rw [spec_IsChecked.l0]) ?_
    refine evNeg (by simp only [List.length_append, List.length_nil]; omega) (Ev.step (fun k => by rw [spec_IsChecked.j1]) ?_)
    exact evNeg (by simp) (Ev.now _)
  | cons x sm ih =>
    intro so pm po b h1 h2 h3 h4
    cases so with
    | nil =>
      refine Ev.step (fun k => by rw [spec_IsChecked.l0]) ?_
      refine evPos (by simp only [List.length_append, List.length_cons]; omega) (Ev.step (fun k => by rw [spec_IsChecked.j1]) ?_)
      exact evNeg (by simp) (evEq (checkV_nil _ _ _ _).symm (Ev.now _))
    | cons o so =>
      simp only [List.length_append, List.length_cons] at h2 h3
      refine Ev.step (fun k => by rw [spec_IsChecked.l0]) ?_
      refine evPos (by simp only [List.length_append, List.length_cons]; omega) (Ev.step (fun k => by rw [spec_IsChecked.j1]) ?_)
      refine evPos (by simp only [List.length_append, List.length_cons, decide_eq_true_eq]; omega) (evPos (by omega) (evPos (by simp only [List.length_append, List.length_cons]; omega) ?_))
      rw [rd_mid, wsucc (by omega)]
      by_cases ho : o = w
      · refine evPos ho (evPos (by simp only [List.length_append, List.length_cons]; omega) ?_)
        rw [rd_L1, getD_mid' pm sm x [] h1]
        refine Ev.bind (spec_IsInSpan_ev rest x (h4 x (by simp))) ?_
        by_cases hs : spanV rest x = true
        · refine evPos hs ?_
          have h := ih so (pm ++ [x]) (po ++ [o]) true (by simp [h1]) (by simp; omega) (by simp; omega) (fun r hr => h4 r (by simp [hr]))
          refine evEq ?_ (Ev.congr (fun k => ?_) h)
          · simp only [checkV, if_pos ho, if_pos hs]
          · simp
        · exact evNeg hs (evEq (by simp only [checkV, if_pos ho, if_neg hs]) (Ev.now _))
      · refine evNeg ho ?_
        have h := ih so (pm ++ [x]) (po ++ [o]) b (by simp [h1]) (by simp; omega) (by simp; omega) (fun r hr => h4 r (by simp [hr]))
        refine evEq ?_ (Ev.congr (fun k => ?_) h)
        · simp only [checkV, if_neg ho]
        · simp
theorem impl_IsChecked_l0 (rest : List (List Int)) (hrest : okII rest) (w : Int) : ∀ (sm : List (List Int)) (so : List Int) (pm : List (List Int)) (po : List Int) (b : Bool), pm.length = po.length → (pm ++ sm).length ≤ 1048576 → (po ++ so).length ≤ 1048576 → (∀ r ∈ sm, r.length ≤ 1048576) →
    Ev (fun k => impl_IsChecked.l0 k (pm ++ sm) (po ++ so) w rest b (mn ((pm ++ sm).length : Int) ((po ++ so).length : Int)) (po.length : Int)) (checkV rest w sm so b) := by
  intro sm
  induction sm with
  | nil =>
    intro so pm po b h1 h2 h3 h4
    refine Ev.step (fun k => by rw [impl_IsChecked.l0]) ?_
    exact evNeg (by rw [mn_len]; simp only [List.length_append, List.length_nil]; omega) (Ev.now _)
  | cons x sm ih =>
    intro so pm po b h1 h2 h3 h4
    cases so with
    | nil =>
      refine Ev.step (fun k => by rw [impl_IsChecked.l0]) ?_
      exact evNeg (by rw [mn_len]; simp only [List.length_append, List.length_nil]; omega) (evEq (checkV_nil _ _ _ _).symm (Ev.now _))
    | cons o so =>
      simp only [List.length_append, List.length_cons] at h2 h3
      refine Ev.step (fun k => by rw [impl_IsChecked.l0]) ?_
      refine evPos (by rw [mn_len]; simp only [List.length_append, List.length_cons]; omega) (evPos (by omega) (evPos (by simp only [List.length_append, List.length_cons]; omega) ?_))
      rw [rd_mid, wsucc (by omega)]
      by_cases ho : o = w
      · refine evPos ho (evPos (by simp only [List.length_append, List.length_cons]; omega) ?_)
        rw [rd_L1, getD_mid' pm sm x [] h1]
        refine evSome (impl_IsInSpan_eq rest x hrest (h4 x (by simp))) ?_
        by_cases hs : spanV rest x = true
        · refine evPos hs ?_
          have h := ih so (pm ++ [x]) (po ++ [o]) true (by simp [h1]) (by simp; omega) (by simp; omega) (fun r hr => h4 r (by simp [hr]))
          refine evEq ?_ (Ev.congr (fun k => ?_) h)
          · simp only [checkV, if_pos ho, if_pos hs]
          · simp
        · exact evNeg hs (evEq (by simp only [checkV, if_pos ho, if_neg hs]) (Ev.now _))
      · refine evNeg ho ?_
        have h := ih so (pm ++ [x]) (po ++ [o]) b (by simp [h1]) (by simp; omega) (by simp; omega) (fun r hr => h4 r (by simp [hr]))
        refine evEq ?_ (Ev.congr (fun k => ?_) h)
        · simp only [checkV, if_neg ho]
        · simp
theorem spec_IsChecked_ev (m : List (List Int)) (o : List Int) (w : Int) (hm : okII m) (ho : o.length ≤ 1048576) : Ev (fun k => spec_IsChecked.f k m o w) (checkV (woV m o [w]) w m o false) := by
  unfold spec_IsChecked.f
  refine Ev.bind (spec_WithoutOwners_ev m o [w] hm ho (by simp)) ?_
  have h := spec_IsChecked_l0 (woV m o [w]) w m o [] [] false rfl (by simpa using hm.1) (by simpa using ho) hm.2
  simpa using h
theorem impl_IsChecked_ev (m : List (List Int)) (o : List Int) (w : Int) (hm : okII m) (ho : o.length ≤ 1048576) : Ev (fun k => impl_IsChecked.f k m o w) (checkV (woV m o [w]) w m o false) := by
  unfold impl_IsChecked.f
  refine Ev.bind (impl_WithoutOwners_ev m o [w] hm ho (by simp)) ?_
  have h := impl_IsChecked_l0 (woV m o [w]) (woV_tot _ _ _ hm) w m o [] [] false rfl (by simpa using hm.1) (by simpa using ho) hm.2
  simpa using h
/-! ### law_FnExactIsChecked -/
theorem FnExactIsChecked : laws_FnExactIsChecked.PureR := by
  intro m o w h h2 h3
  have hr : ∀ r ∈ m, r.length ≤ 9223372036854775807 := fun r hr => (h.2 r hr).1
  refine Ev.rounds ?_
  unfold laws_FnExactIsChecked.f
  by_cases hb : (o.length : Int) > 1048576
  · exact evPos hb (Ev.now _)
  have ho : o.length ≤ 1048576 := by omega
  refine evNeg hb (Ev.bind (szIntSS_ev m 1048576 (by omega) (by omega) h.1 hr) ?_)
  by_cases hx : leftII m 1048576 < 0
  · exact evPos hx (Ev.now _)
  have hm := leftII_ok (l := m) (by omega)
  refine evNeg hx (Ev.bind (toIntSS_ev m hm) (Ev.bind (toIntS_ev o ho) (Ev.bind (spec_IsChecked_ev m o w hm ho) (Ev.bind (toIntSS_ev m hm) (Ev.bind (toIntS_ev o ho) (Ev.bind (impl_IsChecked_ev m o w hm ho) (evNeg (by simp) ?_)))))))
  exact Ev.bind (toIntSS_ev m hm) (Ev.bind (eqIntSS_ev m hm) (evPos rfl (Ev.bind (toIntS_ev o ho) (Ev.bind (eqIntS_ev o ho) (evPos rfl (Ev.now _))))))
end Go.Proofs.Ytkimiekgghfoiaa.Pure
