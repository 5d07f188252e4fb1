/- The program's TrueBad returns what the reference's returns, and leaves its argument alone: for every world and number. -/
import Derived.Test.YtakembkodcjbjaaRFnExactTrueBad
import Derived.Test.YtakembkodcjbjaaBase
namespace Go.Proofs.Ytakembkodcjbjaa.Pure
open Go.RowKit Go.Proofs.Ytakembkodcjbjaa.Base Go.Proofs.Ytakembkodcjbjaa.PFnExactTrueBad Go.Proofs.YtakembkodcjbjaaW.PrintWords Go.Proofs.YtakembkodcjbjaaW.PrintLast
set_option linter.unusedVariables false
set_option linter.unusedSimpArgs false
/-! ### szints -/
def leftI (l : List Int) (a : Int) : Int := if a - (l.length : Int) < 0 then -1 else a - (l.length : Int)
theorem szIntS_eq (l : List Int) (a : Int) (h0 : 0 ≤ a) (h1 : a ≤ 1048576) (hl : l.length ≤ 9223372036854775807) : laws_szIntS.f l a = some (leftI l a) := by
  unfold laws_szIntS.f leftI
  rw [w64 (by omega) (by omega)]
  split <;> rfl
/-! ### ints -/
theorem toIntS_l0 : ∀ (suf pre rest : List Int), (pre ++ suf).length ≤ 1048576 → rest.length = suf.length →
    Ev (fun k => laws_toIntS.l0 k (pre ++ suf) (pre ++ rest) (pre.length : Int)) (pre ++ suf) := by
  intro suf
  induction suf with
  | nil =>
    intro pre rest hb hr
    obtain rfl : rest = [] := by simpa using hr
    refine Ev.step (fun k => by rw [laws_toIntS.l0]) ?_
    exact evNeg (by simp) (Ev.now _)
  | cons x suf ih =>
    intro pre rest hb hr
    obtain ⟨r, rest, rfl⟩ : ∃ r t, rest = r :: t := by
      cases rest with
      | nil => simp at hr
      | cons r t => exact ⟨r, t, rfl⟩
    simp only [List.length_append, List.length_cons] at hb hr
    refine Ev.step (fun k => by rw [laws_toIntS.l0]) ?_
    refine evPos (by simp only [List.length_append, List.length_cons]; omega) (evPos (by omega) (evPos (by simp only [List.length_append, List.length_cons]; omega) ?_))
    rw [rd_mid, set_mid, wsucc (by omega)]
    have h := ih (pre ++ [x]) rest (by simp; omega) (by omega)
    simpa using h
theorem toIntS_ev (l : List Int) (hl : l.length ≤ 1048576) : Ev (fun k => laws_toIntS.f k l) l := by
  unfold laws_toIntS.f
  refine evPos (by omega) (evPos (by omega) ?_)
  have h := toIntS_l0 l [] (List.replicate l.length 0) (by simpa using hl) (by simp)
  simpa using h
theorem eqIntS_l0 : ∀ (suf pre : List Int), (pre ++ suf).length ≤ 1048576 →
    Ev (fun k => laws_eqIntS.l0 k (pre ++ suf) (pre ++ suf) (pre.length : Int)) true := by
  intro suf
  induction suf with
  | nil =>
    intro pre hb
    refine Ev.step (fun k => by rw [laws_eqIntS.l0]) ?_
    exact evNeg (by simp) (Ev.now _)
  | cons x suf ih =>
    intro pre hb
    simp only [List.length_append, List.length_cons] at hb
    refine Ev.step (fun k => by rw [laws_eqIntS.l0]) ?_
    refine evPos (by simp only [List.length_append, List.length_cons]; omega) (evPos (by omega) (evPos (by simp only [List.length_append, List.length_cons]; omega) (evPos rfl ?_)))
    rw [wsucc (by omega)]
    have h := ih (pre ++ [x]) (by simp; omega)
    simpa using h
theorem eqIntS_ev (l : List Int) (hl : l.length ≤ 1048576) : Ev (fun k => laws_eqIntS.f k l l) true := by
  unfold laws_eqIntS.f
  refine evPos rfl ?_
  have h := eqIntS_l0 l [] (by simpa using hl)
  simpa using h
/-! ### seens -/
def leftL {α : Type} (l : List α) (a : Int) : Int := if a - (l.length : Int) < 0 then -1 else a - (l.length : Int)
theorem szSeenS_eq (l : List S120) (a : Int) (h0 : 0 ≤ a) (h1 : a ≤ 1048576) (hl : l.length ≤ 9223372036854775807) : laws_szSeenS.f l a = some (leftL l a) := by
  unfold laws_szSeenS.f leftL
  rw [w64 (by omega) (by omega)]
  split <;> rfl
theorem leftL_ok {α : Type} {l : List α} (h : 0 ≤ leftL l 1048576) : l.length ≤ 1048576 := by
  unfold leftL at h
  split at h <;> omega
def cvSeen (x : S120) : S62 := ⟨x.f0, x.f1, x.f2, x.f3, x.f4⟩
theorem toSeenS_l0 : ∀ (suf pre : List S120) (rest : List S62), (pre ++ suf).length ≤ 1048576 → rest.length = suf.length →
    Ev (fun k => laws_toSeenS.l0 k (pre ++ suf) (pre.map cvSeen ++ rest) (pre.length : Int)) ((pre ++ suf).map cvSeen) := by
  intro suf
  induction suf with
  | nil =>
    intro pre rest hb hr
    obtain rfl : rest = [] := by simpa using hr
    refine Ev.step (fun k => by rw [laws_toSeenS.l0]) ?_
    refine evNeg (by simp) (evEq ?_ (Ev.now _))
    simp
  | cons x suf ih =>
    intro pre rest hb hr
    obtain ⟨r, rest, rfl⟩ : ∃ r t, rest = r :: t := by
      cases rest with
      | nil => simp at hr
      | cons r t => exact ⟨r, t, rfl⟩
    simp only [List.length_append, List.length_cons] at hb hr
    refine Ev.step (fun k => by rw [laws_toSeenS.l0]) ?_
    refine evPos (by simp only [List.length_append, List.length_cons]; omega) (evPos (by omega) ?_)
    simp only [rd_T120, getD_mid]
    refine evSome rfl (evPos (by simp only [List.length_append, List.length_cons, List.length_map]; omega) ?_)
    rw [wsucc (by omega)]
    have h := ih (pre ++ [x]) rest (by simp; omega) (by omega)
    refine evEq ?_ (Ev.congr (fun k => ?_) h)
    · simp
    · have e : (pre.length : Int) = ((pre.map cvSeen).length : Int) := by simp
      rw [e, set_mid]
      simp [cvSeen]
theorem toSeenS_ev (l : List S120) (hl : l.length ≤ 1048576) : Ev (fun k => laws_toSeenS.f k l) (l.map cvSeen) := by
  unfold laws_toSeenS.f
  refine evPos (by omega) (evPos (by omega) ?_)
  have h := toSeenS_l0 l [] (List.replicate l.length z62) (by simpa using hl) (by simp)
  simpa using h
theorem eqSeen_eq (x : S62) : laws_eqSeen.f x.f0 x.f1 x.f2 x.f3 x.f4 x.f0 x.f1 x.f2 x.f3 x.f4 = some true := by
  simp [laws_eqSeen.f]
theorem eqSeenS_l0 : ∀ (suf pre : List S62), (pre ++ suf).length ≤ 1048576 →
    Ev (fun k => laws_eqSeenS.l0 k (pre ++ suf) (pre ++ suf) (pre.length : Int)) true := by
  intro suf
  induction suf with
  | nil =>
    intro pre hb
    refine Ev.step (fun k => by rw [laws_eqSeenS.l0]) ?_
    exact evNeg (by simp) (Ev.now _)
  | cons x suf ih =>
    intro pre hb
    simp only [List.length_append, List.length_cons] at hb
    refine Ev.step (fun k => by rw [laws_eqSeenS.l0]) ?_
    refine evPos (by simp only [List.length_append, List.length_cons]; omega) (evPos (by omega) (evPos (by simp only [List.length_append, List.length_cons]; omega) ?_))
    simp only [rd_T62, getD_mid]
    refine evSome (eqSeen_eq x) (evPos rfl ?_)
    rw [wsucc (by omega)]
    have h := ih (pre ++ [x]) (by simp; omega)
    simpa using h
theorem eqSeenS_ev (l : List S62) (hl : l.length ≤ 1048576) : Ev (fun k => laws_eqSeenS.f k l l) true := by
  unfold laws_eqSeenS.f
  refine evPos rfl ?_
  have h := eqSeenS_l0 l [] (by simpa using hl)
  simpa using h
/-! ### world -/
def okP (l : List S116) : Prop := l.length ≤ 1048576 ∧ ∀ p ∈ l, p.f2.length ≤ 1048576
def cvLink (x : S133) : S96 := ⟨x.f0, x.f1⟩
def cvProbe (x : S116) : S84 := ⟨x.f0, x.f1, x.f2⟩
theorem szLinkS_eq (l : List S133) (a : Int) (h0 : 0 ≤ a) (h1 : a ≤ 1048576) (hl : l.length ≤ 9223372036854775807) : laws_szLinkS.f l a = some (leftL l a) := by
  unfold laws_szLinkS.f leftL
  rw [w64 (by omega) (by omega)]
  split <;> rfl
theorem leftL_neg {α : Type} {l : List α} {a : Int} (h : leftL l a < 0) : leftL l a = -1 := by
  unfold leftL at h ⊢
  split <;> omega
theorem leftL_le {α : Type} (l : List α) {a : Int} (h0 : 0 ≤ a) : leftL l a ≤ a := by
  unfold leftL
  split <;> omega
theorem leftL_ok' {α : Type} {l : List α} {a : Int} (ha : a ≤ 1048576) (h : 0 ≤ leftL l a) : l.length ≤ 1048576 := by
  unfold leftL at h
  split at h <;> omega
theorem leftI_eq (l : List Int) (a : Int) : leftI l a = leftL l a := rfl
theorem szNet_eq (n : Int) (l : List S133) (a : Int) (h0 : 0 ≤ a) (h1 : a ≤ 1048576) (hl : l.length ≤ 9223372036854775807) : laws_szNet.f n l a = some (leftL l a) := by
  unfold laws_szNet.f
  rw [szLinkS_eq l a h0 h1 hl, Option.bind_some]
  split
  · rename_i h
    rw [leftL_neg h]
  · rfl
theorem szProbe_eq (x y : Int) (l : List Int) (a : Int) (h0 : 0 ≤ a) (h1 : a ≤ 1048576) (hl : l.length ≤ 9223372036854775807) : laws_szProbe.f x y l a = some (leftL l a) := by
  unfold laws_szProbe.f
  rw [szIntS_eq l a h0 h1 hl, Option.bind_some, leftI_eq]
  split
  · rename_i h
    rw [leftL_neg h]
  · rfl
theorem szProbeS_l0 : ∀ (suf pre : List S116) (a : Int), (pre ++ suf).length ≤ 1048576 → 0 ≤ a → a ≤ 1048576 → (∀ p ∈ suf, p.f2.length ≤ 9223372036854775807) →
    ∃ r, Ev (fun k => laws_szProbeS.l0 k (pre ++ suf) a (pre.length : Int)) r ∧ r ≤ 1048576 ∧ (0 ≤ r → ∀ p ∈ suf, p.f2.length ≤ 1048576) := by
  intro suf
  induction suf with
  | nil =>
    intro pre a hb h0 h1 hr
    refine ⟨a, Ev.step (fun k => by rw [laws_szProbeS.l0]) (evNeg (by simp) (Ev.now _)), h1, by simp⟩
  | cons x suf ih =>
    intro pre a hb h0 h1 hr
    simp only [List.length_append, List.length_cons] at hb
    have hx := szProbe_eq x.f0 x.f1 x.f2 a h0 h1 (hr x (by simp))
    have hle := leftL_le x.f2 h0
    by_cases hn : leftL x.f2 a < 0
    · refine ⟨-1, Ev.step (fun k => by rw [laws_szProbeS.l0]) ?_, by omega, fun h => by omega⟩
      refine evPos (by simp only [List.length_append, List.length_cons]; omega) (evPos (by omega) ?_)
      simp only [rd_T116, getD_mid]
      exact evSome hx (evPos hn (Ev.now _))
    · obtain ⟨r, he, hr1, hr2⟩ := ih (pre ++ [x]) (leftL x.f2 a) (by simp; omega) (by omega) (by omega) (fun p h => hr p (by simp [h]))
      refine ⟨r, Ev.step (fun k => by rw [laws_szProbeS.l0]) ?_, hr1, fun h p hp => ?_⟩
      · refine evPos (by simp only [List.length_append, List.length_cons]; omega) (evPos (by omega) ?_)
        simp only [rd_T116, getD_mid]
        refine evSome hx (evNeg hn ?_)
        rw [wsucc (by omega)]
        simpa using he
      · rcases List.mem_cons.1 hp with rfl | hp
        · exact leftL_ok' h1 (by omega)
        · exact hr2 h p hp
theorem szProbeS_ev (l : List S116) (a : Int) (h0 : 0 ≤ a) (h1 : a ≤ 1048576) (hl : l.length ≤ 9223372036854775807) (hr : ∀ p ∈ l, p.f2.length ≤ 9223372036854775807) :
    ∃ r, Ev (fun k => laws_szProbeS.f k l a) r ∧ r ≤ 1048576 ∧ (0 ≤ r → okP l) := by
  by_cases h : a - (l.length : Int) < 0
  · refine ⟨-1, ?_, by omega, fun h => by omega⟩
    unfold laws_szProbeS.f
    rw [w64 (by omega) (by omega)]
    exact evPos h (Ev.now _)
  · obtain ⟨r, he, hr1, hr2⟩ := szProbeS_l0 l [] (a - (l.length : Int)) (by simp; omega) (by omega) (by omega) hr
    refine ⟨r, ?_, hr1, fun h2 => ⟨by omega, hr2 h2⟩⟩
    unfold laws_szProbeS.f
    rw [w64 (by omega) (by omega)]
    exact evNeg h he
def okW (lk : List S133) (de dn : List Int) (pr : List S116) (ow li : List Int) (se : List S120) : Prop :=
  lk.length ≤ 1048576 ∧ de.length ≤ 1048576 ∧ dn.length ≤ 1048576 ∧ okP pr ∧ ow.length ≤ 1048576 ∧ li.length ≤ 1048576 ∧ se.length ≤ 1048576
theorem szWorld_ev (nd : Int) (lk : List S133) (de dn : List Int) (pr : List S116) (ow li : List Int) (b0 b1 b2 b3 : Int) (se : List S120) (nw : Int)
    (h1 : lk.length ≤ 9223372036854775807) (h2 : de.length ≤ 9223372036854775807) (h3 : dn.length ≤ 9223372036854775807) (h4 : pr.length ≤ 9223372036854775807) (h4' : ∀ p ∈ pr, p.f2.length ≤ 9223372036854775807)
    (h5 : ow.length ≤ 9223372036854775807) (h6 : li.length ≤ 9223372036854775807) (h7 : se.length ≤ 9223372036854775807) :
    ∃ r, Ev (fun k => laws_szWorld.f k nd lk de dn pr ow li b0 b1 b2 b3 se nw 1048576) r ∧ (¬ r < 0 → okW lk de dn pr ow li se) := by
  have no : ∀ {g : Nat → Option Int}, Ev g (-1) → ∃ r, Ev g r ∧ (¬ r < 0 → okW lk de dn pr ow li se) := fun h => ⟨-1, h, fun c => absurd (show (-1 : Int) < 0 by omega) c⟩
  unfold laws_szWorld.f
  have e1 := szNet_eq nd lk 1048576 (by omega) (by omega) h1
  have l1 := leftL_le lk (a := 1048576) (by omega)
  by_cases c1 : leftL lk 1048576 < 0
  · exact no (evSome e1 (evPos c1 (Ev.now _)))
  have e2 := szIntS_eq de (leftL lk 1048576) (by omega) (by omega) h2
  have l2 := leftL_le de (a := leftL lk 1048576) (by omega)
  rw [leftI_eq] at e2
  by_cases c2 : leftL de (leftL lk 1048576) < 0
  · exact no (evSome e1 (evNeg c1 (evSome e2 (evPos c2 (Ev.now _)))))
  have e3 := szIntS_eq dn (leftL de (leftL lk 1048576)) (by omega) (by omega) h3
  have l3 := leftL_le dn (a := leftL de (leftL lk 1048576)) (by omega)
  rw [leftI_eq] at e3
  by_cases c3 : leftL dn (leftL de (leftL lk 1048576)) < 0
  · exact no (evSome e1 (evNeg c1 (evSome e2 (evNeg c2 (evSome e3 (evPos c3 (Ev.now _)))))))
  obtain ⟨r4, e4, l4, o4⟩ := szProbeS_ev pr (leftL dn (leftL de (leftL lk 1048576))) (by omega) (by omega) h4 h4'
  by_cases c4 : r4 < 0
  · exact no (evSome e1 (evNeg c1 (evSome e2 (evNeg c2 (evSome e3 (evNeg c3 (Ev.bind e4 (evPos c4 (Ev.now _)))))))))
  have e5 := szIntS_eq ow r4 (by omega) (by omega) h5
  have l5 := leftL_le ow (a := r4) (by omega)
  rw [leftI_eq] at e5
  by_cases c5 : leftL ow r4 < 0
  · exact no (evSome e1 (evNeg c1 (evSome e2 (evNeg c2 (evSome e3 (evNeg c3 (Ev.bind e4 (evNeg c4 (evSome e5 (evPos c5 (Ev.now _)))))))))))
  have e6 := szIntS_eq li (leftL ow r4) (by omega) (by omega) h6
  have l6 := leftL_le li (a := leftL ow r4) (by omega)
  rw [leftI_eq] at e6
  by_cases c6 : leftL li (leftL ow r4) < 0
  · exact no (evSome e1 (evNeg c1 (evSome e2 (evNeg c2 (evSome e3 (evNeg c3 (Ev.bind e4 (evNeg c4 (evSome e5 (evNeg c5 (evSome e6 (evPos c6 (Ev.now _)))))))))))))
  have e7 := szSeenS_eq se (leftL li (leftL ow r4)) (by omega) (by omega) h7
  by_cases c7 : leftL se (leftL li (leftL ow r4)) < 0
  · exact no (evSome e1 (evNeg c1 (evSome e2 (evNeg c2 (evSome e3 (evNeg c3 (Ev.bind e4 (evNeg c4 (evSome e5 (evNeg c5 (evSome e6 (evNeg c6 (evSome e7 (evPos c7 (Ev.now _)))))))))))))))
  refine ⟨_, evSome e1 (evNeg c1 (evSome e2 (evNeg c2 (evSome e3 (evNeg c3 (Ev.bind e4 (evNeg c4 (evSome e5 (evNeg c5 (evSome e6 (evNeg c6 (evSome e7 (evNeg c7 (Ev.now _)))))))))))))), fun _ => ?_⟩
  exact ⟨leftL_ok' (a := 1048576) (by omega) (by omega), leftL_ok' (a := leftL lk 1048576) (by omega) (by omega), leftL_ok' (a := leftL de (leftL lk 1048576)) (by omega) (by omega), o4 (by omega), leftL_ok' (a := r4) (by omega) (by omega), leftL_ok' (a := leftL ow r4) (by omega) (by omega), leftL_ok' (a := leftL li (leftL ow r4)) (by omega) (by omega)⟩
theorem toLinkS_l0 : ∀ (suf pre : List S133) (rest : List S96), (pre ++ suf).length ≤ 1048576 → rest.length = suf.length → 
    Ev (fun k => laws_toLinkS.l0 k (pre ++ suf) (pre.map cvLink ++ rest) (pre.length : Int)) ((pre ++ suf).map cvLink) := by
  intro suf
  induction suf with
  | nil =>
    intro pre rest hb hr
    obtain rfl : rest = [] := by simpa using hr
    refine Ev.step (fun k => by rw [laws_toLinkS.l0]) ?_
    refine evNeg (by simp) (evEq ?_ (Ev.now _))
    simp
  | cons x suf ih =>
    intro pre rest hb hr
    obtain ⟨r, rest, rfl⟩ : ∃ r t, rest = r :: t := by
      cases rest with
      | nil => simp at hr
      | cons r t => exact ⟨r, t, rfl⟩
    simp only [List.length_append, List.length_cons] at hb hr
    refine Ev.step (fun k => by rw [laws_toLinkS.l0]) ?_
    refine evPos (by simp only [List.length_append, List.length_cons]; omega) (evPos (by omega) ?_)
    simp only [rd_T133, getD_mid]
    refine evSome rfl (evPos (by simp only [List.length_append, List.length_cons, List.length_map]; omega) ?_)
    rw [wsucc (by omega)]
    have h := ih (pre ++ [x]) rest (by simp; omega) (by omega)
    refine evEq ?_ (Ev.congr (fun k => ?_) h)
    · simp
    · have e : (pre.length : Int) = ((pre.map cvLink).length : Int) := by simp
      rw [e, set_mid]
      simp [cvLink]
theorem toLinkS_ev (l : List S133) (hl : l.length ≤ 1048576) : Ev (fun k => laws_toLinkS.f k l) (l.map cvLink) := by
  unfold laws_toLinkS.f
  refine evPos (by omega) (evPos (by omega) ?_)
  have h := toLinkS_l0 l [] (List.replicate l.length z96) (by simpa using hl) (by simp)
  simpa using h
theorem toProbe_ev (x : S116) (h : x.f2.length ≤ 1048576) : Ev (fun k => laws_toProbe.f k x.f0 x.f1 x.f2) (x.f0, x.f1, x.f2) := by
  unfold laws_toProbe.f
  exact Ev.bind (toIntS_ev x.f2 h) (Ev.now _)
theorem toProbeS_l0 : ∀ (suf pre : List S116) (rest : List S84), (pre ++ suf).length ≤ 1048576 → rest.length = suf.length → (∀ p ∈ suf, p.f2.length ≤ 1048576) →
    Ev (fun k => laws_toProbeS.l0 k (pre ++ suf) (pre.map cvProbe ++ rest) (pre.length : Int)) ((pre ++ suf).map cvProbe) := by
  intro suf
  induction suf with
  | nil =>
    intro pre rest hb hr hq
    obtain rfl : rest = [] := by simpa using hr
    refine Ev.step (fun k => by rw [laws_toProbeS.l0]) ?_
    refine evNeg (by simp) (evEq ?_ (Ev.now _))
    simp
  | cons x suf ih =>
    intro pre rest hb hr hq
    obtain ⟨r, rest, rfl⟩ : ∃ r t, rest = r :: t := by
      cases rest with
      | nil => simp at hr
      | cons r t => exact ⟨r, t, rfl⟩
    simp only [List.length_append, List.length_cons] at hb hr
    refine Ev.step (fun k => by rw [laws_toProbeS.l0]) ?_
    refine evPos (by simp only [List.length_append, List.length_cons]; omega) (evPos (by omega) ?_)
    simp only [rd_T116, getD_mid]
    refine Ev.bind (toProbe_ev x (hq x (by simp))) (evPos (by simp only [List.length_append, List.length_cons, List.length_map]; omega) ?_)
    rw [wsucc (by omega)]
    have h := ih (pre ++ [x]) rest (by simp; omega) (by omega) (fun p h => hq p (by simp [h]))
    refine evEq ?_ (Ev.congr (fun k => ?_) h)
    · simp
    · have e : (pre.length : Int) = ((pre.map cvProbe).length : Int) := by simp
      rw [e, set_mid]
      simp [cvProbe]
theorem toProbeS_ev (l : List S116) (hl : okP l) : Ev (fun k => laws_toProbeS.f k l) (l.map cvProbe) := by
  have hl1 := hl.1
  unfold laws_toProbeS.f
  refine evPos (by omega) (evPos (by omega) ?_)
  have h := toProbeS_l0 l [] (List.replicate l.length z84) (by simpa using hl.1) (by simp) hl.2
  simpa using h
theorem toWorld_ev (nd : Int) (lk : List S133) (de dn : List Int) (pr : List S116) (ow li : List Int) (b0 b1 b2 b3 : Int) (se : List S120) (nw : Int) (h : okW lk de dn pr ow li se) :
    Ev (fun k => laws_toWorld.f k nd lk de dn pr ow li b0 b1 b2 b3 se nw) (nd, lk.map cvLink, de, dn, pr.map cvProbe, ow, li, b0, b1, b2, b3, se.map cvSeen, nw) := by
  obtain ⟨h1, h2, h3, h4, h5, h6, h7⟩ := h
  have hn : Ev (fun k => laws_toNet.f k nd lk) (nd, lk.map cvLink) := by
    unfold laws_toNet.f
    exact Ev.bind (toLinkS_ev lk h1) (Ev.now _)
  unfold laws_toWorld.f
  exact Ev.bind hn (Ev.bind (toIntS_ev de h2) (Ev.bind (toIntS_ev dn h3) (Ev.bind (toProbeS_ev pr h4) (Ev.bind (toIntS_ev ow h5) (Ev.bind (toIntS_ev li h6) (evSome rfl (Ev.bind (toSeenS_ev se h7) (Ev.now _))))))))
theorem eqLink_eq (x : S96) : laws_eqLink.f x.f0 x.f1 x.f0 x.f1 = some true := by
  simp [laws_eqLink.f]
theorem eqLinkS_l0 : ∀ (suf pre : List S96), (pre ++ suf).length ≤ 1048576 → 
    Ev (fun k => laws_eqLinkS.l0 k (pre ++ suf) (pre ++ suf) (pre.length : Int)) true := by
  intro suf
  induction suf with
  | nil =>
    intro pre hb
    refine Ev.step (fun k => by rw [laws_eqLinkS.l0]) ?_
    exact evNeg (by simp) (Ev.now _)
  | cons x suf ih =>
    intro pre hb
    simp only [List.length_append, List.length_cons] at hb
    refine Ev.step (fun k => by rw [laws_eqLinkS.l0]) ?_
    refine evPos (by simp only [List.length_append, List.length_cons]; omega) (evPos (by omega) (evPos (by simp only [List.length_append, List.length_cons]; omega) ?_))
    simp only [rd_T96, getD_mid]
    refine evSome (eqLink_eq x) (evPos rfl ?_)
    rw [wsucc (by omega)]
    have h := ih (pre ++ [x]) (by simp; omega)
    simpa using h
theorem eqLinkS_ev (l : List S96) (hl : l.length ≤ 1048576) : Ev (fun k => laws_eqLinkS.f k l l) true := by
  unfold laws_eqLinkS.f
  refine evPos rfl ?_
  have h := eqLinkS_l0 l [] (by simpa using hl)
  simpa using h
def okP' (l : List S84) : Prop := l.length ≤ 1048576 ∧ ∀ p ∈ l, p.f2.length ≤ 1048576
theorem eqProbe_ev (x : S84) (h : x.f2.length ≤ 1048576) : Ev (fun k => laws_eqProbe.f k x.f0 x.f1 x.f2 x.f0 x.f1 x.f2) true := by
  unfold laws_eqProbe.f
  exact evPos rfl (evPos rfl (Ev.bind (eqIntS_ev x.f2 h) (evPos rfl (Ev.now _))))
theorem eqProbeS_l0 : ∀ (suf pre : List S84), (pre ++ suf).length ≤ 1048576 → (∀ p ∈ suf, p.f2.length ≤ 1048576) →
    Ev (fun k => laws_eqProbeS.l0 k (pre ++ suf) (pre ++ suf) (pre.length : Int)) true := by
  intro suf
  induction suf with
  | nil =>
    intro pre hb hq
    refine Ev.step (fun k => by rw [laws_eqProbeS.l0]) ?_
    exact evNeg (by simp) (Ev.now _)
  | cons x suf ih =>
    intro pre hb hq
    simp only [List.length_append, List.length_cons] at hb
    refine Ev.step (fun k => by rw [laws_eqProbeS.l0]) ?_
    refine evPos (by simp only [List.length_append, List.length_cons]; omega) (evPos (by omega) (evPos (by simp only [List.length_append, List.length_cons]; omega) ?_))
    simp only [rd_T84, getD_mid]
    refine Ev.bind (eqProbe_ev x (hq x (by simp))) (evPos rfl ?_)
    rw [wsucc (by omega)]
    have h := ih (pre ++ [x]) (by simp; omega) (fun p h => hq p (by simp [h]))
    simpa using h
theorem eqProbeS_ev (l : List S84) (hl : okP' l) : Ev (fun k => laws_eqProbeS.f k l l) true := by
  unfold laws_eqProbeS.f
  refine evPos rfl ?_
  have h := eqProbeS_l0 l [] (by simpa using hl.1) hl.2
  simpa using h
def okW' (lk : List S96) (de dn : List Int) (pr : List S84) (ow li : List Int) (se : List S62) : Prop :=
  lk.length ≤ 1048576 ∧ de.length ≤ 1048576 ∧ dn.length ≤ 1048576 ∧ okP' pr ∧ ow.length ≤ 1048576 ∧ li.length ≤ 1048576 ∧ se.length ≤ 1048576
theorem okW_cv {lk : List S133} {de dn : List Int} {pr : List S116} {ow li : List Int} {se : List S120} (h : okW lk de dn pr ow li se) :
    okW' (lk.map cvLink) de dn (pr.map cvProbe) ow li (se.map cvSeen) := by
  obtain ⟨h1, h2, h3, h4, h5, h6, h7⟩ := h
  refine ⟨by simpa using h1, h2, h3, ⟨by simpa using h4.1, fun p hp => ?_⟩, h5, h6, by simpa using h7⟩
  obtain ⟨q, hq, rfl⟩ := List.mem_map.1 hp
  exact h4.2 q hq
theorem eqBucket_eq (a b c d : Int) : laws_eqBucket.f a b c d a b c d = some true := by
  simp [laws_eqBucket.f]
theorem eqNet_ev (nd : Int) (lk : List S96) (h : lk.length ≤ 1048576) : Ev (fun k => laws_eqNet.f k nd lk nd lk) true := by
  unfold laws_eqNet.f
  exact evPos rfl (Ev.bind (eqLinkS_ev lk h) (evPos rfl (Ev.now _)))
theorem eqWorld_ev (nd : Int) (lk : List S96) (de dn : List Int) (pr : List S84) (ow li : List Int) (b0 b1 b2 b3 : Int) (se : List S62) (nw : Int) (h : okW' lk de dn pr ow li se) :
    Ev (fun k => laws_eqWorld.f k nd lk de dn pr ow li b0 b1 b2 b3 se nw nd lk de dn pr ow li b0 b1 b2 b3 se nw) true := by
  obtain ⟨h1, h2, h3, h4, h5, h6, h7⟩ := h
  unfold laws_eqWorld.f
  refine Ev.bind (eqNet_ev nd lk h1) (evPos rfl (Ev.bind (eqIntS_ev de h2) (evPos rfl (Ev.bind (eqIntS_ev dn h3) (evPos rfl (Ev.bind (eqProbeS_ev pr h4) (evPos rfl ?_)))))))
  exact Ev.bind (eqIntS_ev ow h5) (evPos rfl (Ev.bind (eqIntS_ev li h6) (evPos rfl (evSome (eqBucket_eq _ _ _ _) (evPos rfl (Ev.bind (eqSeenS_ev se h7) (evPos rfl (evPos rfl (Ev.now _)))))))))
/-! ### probeok -/
theorem probe_ok {pr : List S84} (h : okP' pr) (p : Int) : (pr.getD p.toNat z84).f2.length ≤ 1048576 := by
  rw [List.getD_eq_getElem?_getD]
  rcases e : pr[p.toNat]? with _ | q
  · simp [z84]
  · exact h.2 q (List.mem_of_getElem? e)
/-! ### at -/
/-! ### has -/
/-! ### small -/
theorem spec_l1In_eq (a b c : Int) : spec_l1In.f a b c = some (decide (b ≤ a ∧ a ≤ c)) := by
  unfold spec_l1In.f
  by_cases h : a ≥ b
  · rw [if_pos h]
    simp [show b ≤ a from h]
  · rw [if_neg h]
    have : ¬ b ≤ a := h
    simp [this]
/-! ### spectruebad -/
theorem spec_TrueBad_l0 (nd : Int) (lk : List S96) (de dn : List Int) (pr : List S84) (ow li : List Int) (b0 b1 b2 b3 : Int) (se : List S62) (nw : Int) (hd : dn.length ≤ 1048576) :
    ∀ (suf pre : List Int), (pre ++ suf).length ≤ 1048576 → Ev (fun k => spec_TrueBad.l0 k (pre ++ suf) (pre.length : Int) nd lk de dn pr ow li b0 b1 b2 b3 se nw) (suf.any fun k => hasB dn k) := by
  intro suf
  induction suf with
  | nil =>
    intro pre hb
    refine Ev.step (fun k => by rw [spec_TrueBad.l0]) ?_
    exact evNeg (by simp) (Ev.now _)
  | cons x suf ih =>
    intro pre hb
    simp only [List.length_append, List.length_cons] at hb
    refine Ev.step (fun k => by rw [spec_TrueBad.l0]) ?_
    refine evPos (by simp only [List.length_append, List.length_cons]; omega) (evPos (by omega) ?_)
    rw [rd_mid, wsucc (by omega)]
    refine Ev.bind (spec_l7Has_ev dn x hd) ?_
    rw [List.any_cons]
    by_cases hx : hasB dn x = true
    · rw [hx]
      exact evPos rfl (Ev.now _)
    · have hx' : hasB dn x = false := by simpa using hx
      rw [hx']
      have h := ih (pre ++ [x]) (by simp; omega)
      refine evNeg (by decide) (evEq (by simp) (Ev.congr (fun k => ?_) h))
      simp
theorem spec_TrueBad_ev (nd : Int) (lk : List S96) (de dn : List Int) (pr : List S84) (ow li : List Int) (b0 b1 b2 b3 : Int) (se : List S62) (nw p : Int) (h : okW' lk de dn pr ow li se) :
    Ev (fun k => spec_TrueBad.f k nd lk de dn pr ow li b0 b1 b2 b3 se nw p) (badV nd lk de dn pr ow li b0 b1 b2 b3 se nw p) := by
  have h4 := h.2.2.2.1.1
  have h3 := h.2.2.1
  unfold spec_TrueBad.f
  rw [w64 (n := (pr.length : Int) - 1) (by omega) (by omega)]
  refine evSome (spec_l1In_eq _ _ _) ?_
  by_cases hp : 0 ≤ p ∧ p < (pr.length : Int)
  · refine evPos (by simp; omega) (evPos hp.1 (evPos hp.2 ?_))
    have h2 := spec_TrueBad_l0 nd lk de dn pr ow li b0 b1 b2 b3 se nw h3 (pr.getD p.toNat z84).f2 [] (by simpa using probe_ok h.2.2.2.1 p)
    refine evEq ?_ h2
    rw [badV, if_pos hp]
    rfl
  · refine evNeg (by simp; omega) (evEq ?_ (Ev.now _))
    rw [badV, if_neg hp]
theorem impl_TrueBad_eq (nd : Int) (lk : List S96) (de dn : List Int) (pr : List S84) (ow li : List Int) (b0 b1 b2 b3 : Int) (se : List S62) (nw p : Int) (h : okW' lk de dn pr ow li se) :
    impl_TrueBad.f nd lk de dn pr ow li b0 b1 b2 b3 se nw p = some (badV nd lk de dn pr ow li b0 b1 b2 b3 se nw p) := by
  unfold impl_TrueBad.f
  rw [if_pos ⟨h.2.2.2.1.2, h.2.2.1, h.2.2.2.1.1⟩]
/-! ### law_FnExactTrueBad -/
theorem FnExactTrueBad : laws_FnExactTrueBad.PureR := by
  intro nd lk de dn pr ow li b0 b1 b2 b3 se nw p _ h1 h2 h3 h4 h5 h6 _ _ _ _ h7 _ _
  refine Ev.rounds ?_
  unfold laws_FnExactTrueBad.f
  obtain ⟨r, hr, ho⟩ := szWorld_ev nd lk de dn pr ow li b0 b1 b2 b3 se nw h1.1 h2.1 h3.1 h4.1 (fun p hp => (h4.2 p hp).2.2.1) h5.1 h6.1 h7.1
  refine Ev.bind hr ?_
  by_cases hb : r < 0
  · exact evPos hb (Ev.now _)
  have hw := ho hb
  have hw' := okW_cv hw
  refine evNeg hb (Ev.bind (toWorld_ev nd lk de dn pr ow li b0 b1 b2 b3 se nw hw) ?_)
  dsimp only
  refine Ev.bind (spec_TrueBad_ev _ _ _ _ _ _ _ _ _ _ _ _ _ p hw') (Ev.bind (toWorld_ev nd lk de dn pr ow li b0 b1 b2 b3 se nw hw) ?_)
  dsimp only
  refine evSome (impl_TrueBad_eq _ _ _ _ _ _ _ _ _ _ _ _ _ p hw') (evNeg (by simp) (Ev.bind (toWorld_ev nd lk de dn pr ow li b0 b1 b2 b3 se nw hw) ?_))
  dsimp only
  exact Ev.bind (eqWorld_ev _ _ _ _ _ _ _ _ _ _ _ _ _ hw') (evPos rfl (Ev.now _))
end Go.Proofs.Ytakembkodcjbjaa.Pure
