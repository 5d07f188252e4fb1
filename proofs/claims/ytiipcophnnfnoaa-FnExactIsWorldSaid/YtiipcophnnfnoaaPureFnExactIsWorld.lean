/- Lemmas: zw_FnExactIsWorld -/
import Derived.Test.YtiipcophnnfnoaaPFnExactIsWorldx0
import Derived.Test.YtiipcophnnfnoaaPFnExactIsWorldx1
import Derived.Test.YtiipcophnnfnoaaPFnExactIsWorldx2
import Derived.Test.YtiipcophnnfnoaaPFnExactIsWorldx3
import Derived.Test.YtiipcophnnfnoaaPFnExactIsWorldx4
import Derived.Test.YtiipcophnnfnoaaPFnExactIsWorldx5
import Derived.Test.YtiipcophnnfnoaaPFnExactIsWorldx6
import Derived.Test.YtiipcophnnfnoaaPFnExactIsWorldx7
import Derived.Test.YtiipcophnnfnoaaPFnExactIsWorldx8
import Derived.Test.YtiipcophnnfnoaaPFnExactIsWorldx9
import Derived.Test.YtiipcophnnfnoaaPFnExactIsWorldx10
import Derived.Test.YtiipcophnnfnoaaPFnExactIsWorldx11
import Derived.Test.YtiipcophnnfnoaaPFnExactIsWorldx12
import Derived.Test.YtiipcophnnfnoaaPFnExactIsWorldx13
import Derived.Test.YtiipcophnnfnoaaPFnExactIsWorldx14
import Derived.Test.YtiipcophnnfnoaaPFnExactIsWorldx15
import Derived.Test.YtiipcophnnfnoaaPFnExactIsWorldx16
import Derived.Test.YtiipcophnnfnoaaRFnExactIsWorld
import Derived.Test.YtiipcophnnfnoaaVFnExactIsWorld
import Derived.Lib.SlicesCompact
namespace Go.Proofs.Ytiipcophnnfnoaa.Pure
open Go.RowKit Go.Proofs.Ytiipcophnnfnoaa.Base Go.Proofs.Ytiipcophnnfnoaa.PFnExactIsWorld Go.Proofs.YtiipcophnnfnoaaW.PrintWords Go.Proofs.YtiipcophnnfnoaaW.PrintLast Go.Proofs.YtiipcophnnfnoaaW.PrintMore
set_option linter.unusedVariables false
set_option linter.unusedSimpArgs false
/-! ### own -/
/-! ### szints -/
def leftI (l : List Int) (a : Int) : Int := if a - (l.length : Int) < 0 then -1 else a - (l.length : Int)
theorem szIntS_eq (l : List Int) (a : Int) (h0 : 0 ≤ a) (h1 : a ≤ 1048576) (hl : l.length ≤ 9223372036854775807) : laws_szIntS.f l a = some (leftI l a) := by
 unfold laws_szIntS.f leftI
 rw [w64 (by omega) (by omega)]
 split <;> rfl
/-! ### ints -/
theorem toIntS_l0 : ∀ (suf pre rest : List Int), (pre ++ suf).length ≤ 1048576 → rest.length = suf.length →
  Ev (fun k => laws_toIntS.l0 k (pre ++ suf) (pre ++ rest) (pre.length : Int)) (pre ++ suf) := by
 intro suf
 induction suf with
 | nil =>
  intro pre rest hb hr
  obtain rfl : rest = [] := by simpa using hr
  refine Ev.step (fun k => by rw [laws_toIntS.l0]) ?_
  exact evNeg (by simp) (Ev.now _)
 | cons x suf ih =>
  intro pre rest hb hr
  obtain ⟨r, rest, rfl⟩ : ∃ r t, rest = r :: t := by
   cases rest with
   | nil => simp at hr
   | cons r t => exact ⟨r, t, rfl⟩
  simp only [List.length_append, List.length_cons] at hb hr
  refine Ev.step (fun k => by rw [laws_toIntS.l0]) ?_
  refine evPos (by simp only [List.length_append, List.length_cons]; omega) (evPos (by omega) (evPos (by simp only [List.length_append, List.length_cons]; omega) ?_))
  rw [rd_mid, set_mid, wsucc (by omega)]
  have h := ih (pre ++ [x]) rest (by simp; omega) (by omega)
  simpa using h
theorem toIntS_ev (l : List Int) (hl : l.length ≤ 1048576) : Ev (fun k => laws_toIntS.f k l) l := by
 unfold laws_toIntS.f
 refine evPos (by omega) (evPos (by omega) ?_)
 have h := toIntS_l0 l [] (List.replicate l.length 0) (by simpa using hl) (by simp)
 simpa using h
theorem eqIntS_l0 : ∀ (suf pre : List Int), (pre ++ suf).length ≤ 1048576 →
  Ev (fun k => laws_eqIntS.l0 k (pre ++ suf) (pre ++ suf) (pre.length : Int)) true := by
 intro suf
 induction suf with
 | nil =>
  intro pre hb
  refine Ev.step (fun k => by rw [laws_eqIntS.l0]) ?_
  exact evNeg (by simp) (Ev.now _)
 | cons x suf ih =>
  intro pre hb
  simp only [List.length_append, List.length_cons] at hb
  refine Ev.step (fun k => by rw [laws_eqIntS.l0]) ?_
  refine evPos (by simp only [List.length_append, List.length_cons]; omega) (evPos (by omega) (evPos (by simp only [List.length_append, List.length_cons]; omega) (evPos rfl ?_)))
  rw [wsucc (by omega)]
  have h := ih (pre ++ [x]) (by simp; omega)
  simpa using h
theorem eqIntS_ev (l : List Int) (hl : l.length ≤ 1048576) : Ev (fun k => laws_eqIntS.f k l l) true := by
 unfold laws_eqIntS.f
 refine evPos rfl ?_
 have h := eqIntS_l0 l [] (by simpa using hl)
 simpa using h
/-! ### seens -/
def leftL {α : Type} (l : List α) (a : Int) : Int := if a - (l.length : Int) < 0 then -1 else a - (l.length : Int)
theorem szSeenS_eq (l : List S142) (a : Int) (h0 : 0 ≤ a) (h1 : a ≤ 1048576) (hl : l.length ≤ 9223372036854775807) : laws_szSeenS.f l a = some (leftL l a) := by
 unfold laws_szSeenS.f leftL
 rw [w64 (by omega) (by omega)]
 split <;> rfl
theorem leftL_ok {α : Type} {l : List α} (h : 0 ≤ leftL l 1048576) : l.length ≤ 1048576 := by
 unfold leftL at h
 split at h <;> omega
def cvSeen (x : S142) : S62 := ⟨x.f0, x.f1, x.f2, x.f3, x.f4⟩
theorem toSeenS_l0 : ∀ (suf pre : List S142) (rest : List S62), (pre ++ suf).length ≤ 1048576 → rest.length = suf.length →
  Ev (fun k => laws_toSeenS.l0 k (pre ++ suf) (pre.map cvSeen ++ rest) (pre.length : Int)) ((pre ++ suf).map cvSeen) := by
 intro suf
 induction suf with
 | nil =>
  intro pre rest hb hr
  obtain rfl : rest = [] := by simpa using hr
  refine Ev.step (fun k => by rw [laws_toSeenS.l0]) ?_
  refine evNeg (by simp) (evEq ?_ (Ev.now _))
  simp
 | cons x suf ih =>
  intro pre rest hb hr
  obtain ⟨r, rest, rfl⟩ : ∃ r t, rest = r :: t := by
   cases rest with
   | nil => simp at hr
   | cons r t => exact ⟨r, t, rfl⟩
  simp only [List.length_append, List.length_cons] at hb hr
  refine Ev.step (fun k => by rw [laws_toSeenS.l0]) ?_
  refine evPos (by simp only [List.length_append, List.length_cons]; omega) (evPos (by omega) ?_)
  simp only [rd_T142, getD_mid]
  refine evSome rfl (evPos (by simp only [List.length_append, List.length_cons, List.length_map]; omega) ?_)
  rw [wsucc (by omega)]
  have h := ih (pre ++ [x]) rest (by simp; omega) (by omega)
  refine evEq ?_ (Ev.congr (fun k => ?_) h)
  ·simp
  ·have e : (pre.length : Int) = ((pre.map cvSeen).length : Int) := by simp
   rw [e, set_mid]
   simp [cvSeen]
theorem toSeenS_ev (l : List S142) (hl : l.length ≤ 1048576) : Ev (fun k => laws_toSeenS.f k l) (l.map cvSeen) := by
 unfold laws_toSeenS.f
 refine evPos (by omega) (evPos (by omega) ?_)
 have h := toSeenS_l0 l [] (List.replicate l.length z62) (by simpa using hl) (by simp)
 simpa using h
theorem eqSeen_eq (x : S62) : laws_eqSeen.f x.f0 x.f1 x.f2 x.f3 x.f4 x.f0 x.f1 x.f2 x.f3 x.f4 = some true := by
 simp [laws_eqSeen.f]
theorem eqSeenS_l0 : ∀ (suf pre : List S62), (pre ++ suf).length ≤ 1048576 →
  Ev (fun k => laws_eqSeenS.l0 k (pre ++ suf) (pre ++ suf) (pre.length : Int)) true := by
 intro suf
 induction suf with
 | nil =>
  intro pre hb
  refine Ev.step (fun k => by rw [laws_eqSeenS.l0]) ?_
  exact evNeg (by simp) (Ev.now _)
 | cons x suf ih =>
  intro pre hb
  simp only [List.length_append, List.length_cons] at hb
  refine Ev.step (fun k => by rw [laws_eqSeenS.l0]) ?_
  refine evPos (by simp only [List.length_append, List.length_cons]; omega) (evPos (by omega) (evPos (by simp only [List.length_append, List.length_cons]; omega) ?_))
  simp only [rd_T62, getD_mid]
  refine evSome (eqSeen_eq x) (evPos rfl ?_)
  rw [wsucc (by omega)]
  have h := ih (pre ++ [x]) (by simp; omega)
  simpa using h
theorem eqSeenS_ev (l : List S62) (hl : l.length ≤ 1048576) : Ev (fun k => laws_eqSeenS.f k l l) true := by
 unfold laws_eqSeenS.f
 refine evPos rfl ?_
 have h := eqSeenS_l0 l [] (by simpa using hl)
 simpa using h
/-! ### world -/
def okP (l : List S139) : Prop := l.length ≤ 1048576 ∧ ∀ p ∈ l, p.f2.length ≤ 1048576
def cvLink (x : S159) : S133 := ⟨x.f0, x.f1⟩
def cvProbe (x : S139) : S103 := ⟨x.f0, x.f1, x.f2⟩
theorem szLinkS_eq (l : List S159) (a : Int) (h0 : 0 ≤ a) (h1 : a ≤ 1048576) (hl : l.length ≤ 9223372036854775807) : laws_szLinkS.f l a = some (leftL l a) := by
 unfold laws_szLinkS.f leftL
 rw [w64 (by omega) (by omega)]
 split <;> rfl
theorem leftL_neg {α : Type} {l : List α} {a : Int} (h : leftL l a < 0) : leftL l a = -1 := by
 unfold leftL at h ⊢
 split <;> omega
theorem leftL_le {α : Type} (l : List α) {a : Int} (h0 : 0 ≤ a) : leftL l a ≤ a := by
 unfold leftL
 split <;> omega
theorem leftL_ok' {α : Type} {l : List α} {a : Int} (ha : a ≤ 1048576) (h : 0 ≤ leftL l a) : l.length ≤ 1048576 := by
 unfold leftL at h
 split at h <;> omega
theorem leftI_eq (l : List Int) (a : Int) : leftI l a = leftL l a := rfl
theorem szNet_eq (n : Int) (l : List S159) (a : Int) (h0 : 0 ≤ a) (h1 : a ≤ 1048576) (hl : l.length ≤ 9223372036854775807) : laws_szNet.f n l a = some (leftL l a) := by
 unfold laws_szNet.f
 rw [szLinkS_eq l a h0 h1 hl, Option.bind_some]
 split
 ·rename_i h
  rw [leftL_neg h]
 ·rfl
theorem szProbe_eq (x y : Int) (l : List Int) (a : Int) (h0 : 0 ≤ a) (h1 : a ≤ 1048576) (hl : l.length ≤ 9223372036854775807) : laws_szProbe.f x y l a = some (leftL l a) := by
 unfold laws_szProbe.f
 rw [szIntS_eq l a h0 h1 hl, Option.bind_some, leftI_eq]
 split
 ·rename_i h
  rw [leftL_neg h]
 ·rfl
theorem szProbeS_l0 : ∀ (suf pre : List S139) (a : Int), (pre ++ suf).length ≤ 1048576 → 0 ≤ a → a ≤ 1048576 → (∀ p ∈ suf, p.f2.length ≤ 9223372036854775807) →
  ∃ r, Ev (fun k => laws_szProbeS.l0 k (pre ++ suf) a (pre.length : Int)) r ∧ r ≤ 1048576 ∧ (0 ≤ r → ∀ p ∈ suf, p.f2.length ≤ 1048576) := by
 intro suf
 induction suf with
 | nil =>
  intro pre a hb h0 h1 hr
  refine ⟨a, Ev.step (fun k => by rw [laws_szProbeS.l0]) (evNeg (by simp) (Ev.now _)), h1, by simp⟩
 | cons x suf ih =>
  intro pre a hb h0 h1 hr
  simp only [List.length_append, List.length_cons] at hb
  have hx := szProbe_eq x.f0 x.f1 x.f2 a h0 h1 (hr x (by simp))
  have hle := leftL_le x.f2 h0
  by_cases hn : leftL x.f2 a < 0
  ·refine ⟨-1, Ev.step (fun k => by rw [laws_szProbeS.l0]) ?_, by omega, fun h => by omega⟩
   refine evPos (by simp only [List.length_append, List.length_cons]; omega) (evPos (by omega) ?_)
   simp only [rd_T139, getD_mid]
   exact evSome hx (evPos hn (Ev.now _))
  ·obtain ⟨r, he, hr1, hr2⟩ := ih (pre ++ [x]) (leftL x.f2 a) (by simp; omega) (by omega) (by omega) (fun p h => hr p (by simp [h]))
   refine ⟨r, Ev.step (fun k => by rw [laws_szProbeS.l0]) ?_, hr1, fun h p hp => ?_⟩
   ·refine evPos (by simp only [List.length_append, List.length_cons]; omega) (evPos (by omega) ?_)
    simp only [rd_T139, getD_mid]
    refine evSome hx (evNeg hn ?_)
    rw [wsucc (by omega)]
    simpa using he
   ·rcases List.mem_cons.1 hp with rfl | hp
    ·exact leftL_ok' h1 (by omega)
    ·exact hr2 h p hp
theorem szProbeS_ev (l : List S139) (a : Int) (h0 : 0 ≤ a) (h1 : a ≤ 1048576) (hl : l.length ≤ 9223372036854775807) (hr : ∀ p ∈ l, p.f2.length ≤ 9223372036854775807) :
  ∃ r, Ev (fun k => laws_szProbeS.f k l a) r ∧ r ≤ 1048576 ∧ (0 ≤ r → okP l) := by
 by_cases h : a - (l.length : Int) < 0
 ·refine ⟨-1, ?_, by omega, fun h => by omega⟩
  unfold laws_szProbeS.f
  rw [w64 (by omega) (by omega)]
  exact evPos h (Ev.now _)
 ·obtain ⟨r, he, hr1, hr2⟩ := szProbeS_l0 l [] (a - (l.length : Int)) (by simp; omega) (by omega) (by omega) hr
  refine ⟨r, ?_, hr1, fun h2 => ⟨by omega, hr2 h2⟩⟩
  unfold laws_szProbeS.f
  rw [w64 (by omega) (by omega)]
  exact evNeg h he
def okW (lk : List S159) (de dn : List Int) (pr : List S139) (ow li : List Int) (se : List S142) : Prop :=
 lk.length ≤ 1048576 ∧ de.length ≤ 1048576 ∧ dn.length ≤ 1048576 ∧ okP pr ∧ ow.length ≤ 1048576 ∧ li.length ≤ 1048576 ∧ se.length ≤ 1048576
theorem toLinkS_l0 : ∀ (suf pre : List S159) (rest : List S133), (pre ++ suf).length ≤ 1048576 → rest.length = suf.length → 
  Ev (fun k => laws_toLinkS.l0 k (pre ++ suf) (pre.map cvLink ++ rest) (pre.length : Int)) ((pre ++ suf).map cvLink) := by
 intro suf
 induction suf with
 | nil =>
  intro pre rest hb hr
  obtain rfl : rest = [] := by simpa using hr
  refine Ev.step (fun k => by rw [laws_toLinkS.l0]) ?_
  refine evNeg (by simp) (evEq ?_ (Ev.now _))
  simp
 | cons x suf ih =>
  intro pre rest hb hr
  obtain ⟨r, rest, rfl⟩ : ∃ r t, rest = r :: t := by
   cases rest with
   | nil => simp at hr
   | cons r t => exact ⟨r, t, rfl⟩
  simp only [List.length_append, List.length_cons] at hb hr
  refine Ev.step (fun k => by rw [laws_toLinkS.l0]) ?_
  refine evPos (by simp only [List.length_append, List.length_cons]; omega) (evPos (by omega) ?_)
  simp only [rd_T159, getD_mid]
  refine evSome rfl (evPos (by simp only [List.length_append, List.length_cons, List.length_map]; omega) ?_)
  rw [wsucc (by omega)]
  have h := ih (pre ++ [x]) rest (by simp; omega) (by omega)
  refine evEq ?_ (Ev.congr (fun k => ?_) h)
  ·simp
  ·have e : (pre.length : Int) = ((pre.map cvLink).length : Int) := by simp
   rw [e, set_mid]
   simp [cvLink]
theorem toLinkS_ev (l : List S159) (hl : l.length ≤ 1048576) : Ev (fun k => laws_toLinkS.f k l) (l.map cvLink) := by
 unfold laws_toLinkS.f
 refine evPos (by omega) (evPos (by omega) ?_)
 have h := toLinkS_l0 l [] (List.replicate l.length z133) (by simpa using hl) (by simp)
 simpa using h
theorem toProbe_ev (x : S139) (h : x.f2.length ≤ 1048576) : Ev (fun k => laws_toProbe.f k x.f0 x.f1 x.f2) (x.f0, x.f1, x.f2) := by
 unfold laws_toProbe.f
 exact Ev.bind (toIntS_ev x.f2 h) (Ev.now _)
theorem toProbeS_l0 : ∀ (suf pre : List S139) (rest : List S103), (pre ++ suf).length ≤ 1048576 → rest.length = suf.length → (∀ p ∈ suf, p.f2.length ≤ 1048576) →
  Ev (fun k => laws_toProbeS.l0 k (pre ++ suf) (pre.map cvProbe ++ rest) (pre.length : Int)) ((pre ++ suf).map cvProbe) := by
 intro suf
 induction suf with
 | nil =>
  intro pre rest hb hr hq
  obtain rfl : rest = [] := by simpa using hr
  refine Ev.step (fun k => by rw [laws_toProbeS.l0]) ?_
  refine evNeg (by simp) (evEq ?_ (Ev.now _))
  simp
 | cons x suf ih =>
  intro pre rest hb hr hq
  obtain ⟨r, rest, rfl⟩ : ∃ r t, rest = r :: t := by
   cases rest with
   | nil => simp at hr
   | cons r t => exact ⟨r, t, rfl⟩
  simp only [List.length_append, List.length_cons] at hb hr
  refine Ev.step (fun k => by rw [laws_toProbeS.l0]) ?_
  refine evPos (by simp only [List.length_append, List.length_cons]; omega) (evPos (by omega) ?_)
  simp only [rd_T139, getD_mid]
  refine Ev.bind (toProbe_ev x (hq x (by simp))) (evPos (by simp only [List.length_append, List.length_cons, List.length_map]; omega) ?_)
  rw [wsucc (by omega)]
  have h := ih (pre ++ [x]) rest (by simp; omega) (by omega) (fun p h => hq p (by simp [h]))
  refine evEq ?_ (Ev.congr (fun k => ?_) h)
  ·simp
  ·have e : (pre.length : Int) = ((pre.map cvProbe).length : Int) := by simp
   rw [e, set_mid]
   simp [cvProbe]
theorem toProbeS_ev (l : List S139) (hl : okP l) : Ev (fun k => laws_toProbeS.f k l) (l.map cvProbe) := by
 have hl1 := hl.1
 unfold laws_toProbeS.f
 refine evPos (by omega) (evPos (by omega) ?_)
 have h := toProbeS_l0 l [] (List.replicate l.length z103) (by simpa using hl.1) (by simp) hl.2
 simpa using h
theorem eqLink_eq (x : S133) : laws_eqLink.f x.f0 x.f1 x.f0 x.f1 = some true := by
 simp [laws_eqLink.f]
theorem eqLinkS_l0 : ∀ (suf pre : List S133), (pre ++ suf).length ≤ 1048576 → 
  Ev (fun k => laws_eqLinkS.l0 k (pre ++ suf) (pre ++ suf) (pre.length : Int)) true := by
 intro suf
 induction suf with
 | nil =>
  intro pre hb
  refine Ev.step (fun k => by rw [laws_eqLinkS.l0]) ?_
  exact evNeg (by simp) (Ev.now _)
 | cons x suf ih =>
  intro pre hb
  simp only [List.length_append, List.length_cons] at hb
  refine Ev.step (fun k => by rw [laws_eqLinkS.l0]) ?_
  refine evPos (by simp only [List.length_append, List.length_cons]; omega) (evPos (by omega) (evPos (by simp only [List.length_append, List.length_cons]; omega) ?_))
  simp only [rd_T133, getD_mid]
  refine evSome (eqLink_eq x) (evPos rfl ?_)
  rw [wsucc (by omega)]
  have h := ih (pre ++ [x]) (by simp; omega)
  simpa using h
theorem eqLinkS_ev (l : List S133) (hl : l.length ≤ 1048576) : Ev (fun k => laws_eqLinkS.f k l l) true := by
 unfold laws_eqLinkS.f
 refine evPos rfl ?_
 have h := eqLinkS_l0 l [] (by simpa using hl)
 simpa using h
def okP' (l : List S103) : Prop := l.length ≤ 1048576 ∧ ∀ p ∈ l, p.f2.length ≤ 1048576
theorem eqProbe_ev (x : S103) (h : x.f2.length ≤ 1048576) : Ev (fun k => laws_eqProbe.f k x.f0 x.f1 x.f2 x.f0 x.f1 x.f2) true := by
 unfold laws_eqProbe.f
 exact evPos rfl (evPos rfl (Ev.bind (eqIntS_ev x.f2 h) (evPos rfl (Ev.now _))))
theorem eqProbeS_l0 : ∀ (suf pre : List S103), (pre ++ suf).length ≤ 1048576 → (∀ p ∈ suf, p.f2.length ≤ 1048576) →
  Ev (fun k => laws_eqProbeS.l0 k (pre ++ suf) (pre ++ suf) (pre.length : Int)) true := by
 intro suf
 induction suf with
 | nil =>
  intro pre hb hq
  refine Ev.step (fun k => by rw [laws_eqProbeS.l0]) ?_
  exact evNeg (by simp) (Ev.now _)
 | cons x suf ih =>
  intro pre hb hq
  simp only [List.length_append, List.length_cons] at hb
  refine Ev.step (fun k => by rw [laws_eqProbeS.l0]) ?_
  refine evPos (by simp only [List.length_append, List.length_cons]; omega) (evPos (by omega) (evPos (by simp only [List.length_append, List.length_cons]; omega) ?_))
  simp only [rd_T103, getD_mid]
  refine Ev.bind (eqProbe_ev x (hq x (by simp))) (evPos rfl ?_)
  rw [wsucc (by omega)]
  have h := ih (pre ++ [x]) (by simp; omega) (fun p h => hq p (by simp [h]))
  simpa using h
theorem eqProbeS_ev (l : List S103) (hl : okP' l) : Ev (fun k => laws_eqProbeS.f k l l) true := by
 unfold laws_eqProbeS.f
 refine evPos rfl ?_
 have h := eqProbeS_l0 l [] (by simpa using hl.1) hl.2
 simpa using h
def okW' (lk : List S133) (de dn : List Int) (pr : List S103) (ow li : List Int) (se : List S62) : Prop :=
 lk.length ≤ 1048576 ∧ de.length ≤ 1048576 ∧ dn.length ≤ 1048576 ∧ okP' pr ∧ ow.length ≤ 1048576 ∧ li.length ≤ 1048576 ∧ se.length ≤ 1048576
theorem okW_cv {lk : List S159} {de dn : List Int} {pr : List S139} {ow li : List Int} {se : List S142} (h : okW lk de dn pr ow li se) :
  okW' (lk.map cvLink) de dn (pr.map cvProbe) ow li (se.map cvSeen) := by
 obtain ⟨h1, h2, h3, h4, h5, h6, h7⟩ := h
 refine ⟨by simpa using h1, h2, h3, ⟨by simpa using h4.1, fun p hp => ?_⟩, h5, h6, by simpa using h7⟩
 obtain ⟨q, hq, rfl⟩ := List.mem_map.1 hp
 exact h4.2 q hq
theorem eqBucket_eq (a b c d : Int) : laws_eqBucket.f a b c d a b c d = some true := by
 simp [laws_eqBucket.f]
theorem eqNet_ev (nd : Int) (lk : List S133) (h : lk.length ≤ 1048576) : Ev (fun k => laws_eqNet.f k nd lk nd lk) true := by
 unfold laws_eqNet.f
 exact evPos rfl (Ev.bind (eqLinkS_ev lk h) (evPos rfl (Ev.now _)))
/-! ### wkit -/
/-- A world's data (impl.World). -/
structure IW where
 d0 : Int
 l1 : List S133
 l2 : List Int
 l3 : List Int
 l4 : List S103
 l5 : List Int
 l6 : List Int
 d7 : Int
 d8 : Int
 d9 : Int
 d10 : Int
 l11 : List S62
 d12 : Int
/-- Where its rows lie. -/
structure IP where
 A1 : Option Addr
 c1 : Nat
 A2 : Option Addr
 c2 : Nat
 A3 : Option Addr
 c3 : Nat
 A4 : Option Addr
 c4 : Nat
 A5 : Option Addr
 c5 : Nat
 A6 : Option Addr
 c6 : Nat
 A11 : Option Addr
 c11 : Nat
abbrev IW.cells (x : IW) (p : IP) : Array Value := #[.int .i64 x.d0, .slice p.A1 x.l1.length p.c1, .slice p.A2 x.l2.length p.c2, .slice p.A3 x.l3.length p.c3, .slice p.A4 x.l4.length p.c4, .slice p.A5 x.l5.length p.c5, .slice p.A6 x.l6.length p.c6, .int .i64 x.d7, .int .i64 x.d8, .int .i64 x.d9, .int .i64 x.d10, .slice p.A11 x.l11.length p.c11, .int .i64 x.d12]
structure IW.Rd (x : IW) (p : IP) (w : World) : Prop where
 r1 : Kd.C k133 w p.A1 x.l1.length x.l1
 h1 : x.l1.length ≤ p.c1
 r2 : Kd.C (Kd.int .i64) w p.A2 x.l2.length x.l2
 h2 : x.l2.length ≤ p.c2
 r3 : Kd.C (Kd.int .i64) w p.A3 x.l3.length x.l3
 h3 : x.l3.length ≤ p.c3
 r4 : Kd.C k103 w p.A4 x.l4.length x.l4
 h4 : x.l4.length ≤ p.c4
 r5 : Kd.C (Kd.int .i64) w p.A5 x.l5.length x.l5
 h5 : x.l5.length ≤ p.c5
 r6 : Kd.C (Kd.int .i64) w p.A6 x.l6.length x.l6
 h6 : x.l6.length ≤ p.c6
 r11 : Kd.C k62 w p.A11 x.l11.length x.l11
 h11 : x.l11.length ≤ p.c11
theorem IW.Rd.below {x : IW} {p : IP} {w w1 : World} (h : x.Rd p w) (hb : Below w.heap.size w w1) : x.Rd p w1 := ⟨Kd.C_below h.r1 hb, h.h1, Kd.C_below h.r2 hb, h.h2, Kd.C_below h.r3 hb, h.h3, Kd.C_below h.r4 hb, h.h4, Kd.C_below h.r5 hb, h.h5, Kd.C_below h.r6 hb, h.h6, Kd.C_below h.r11 hb, h.h11⟩
theorem IW.at_ {x : IW} {p : IP} {w : World} {g t : Nat} (h : w.heap[g]? = some (.cells (x.cells p) t (0, 0))) : w.cell? ⟨g, 0, none⟩ = some (.int .i64 x.d0) ∧ w.cell? ⟨g, 1, none⟩ = some (.slice p.A1 x.l1.length p.c1) ∧ w.cell? ⟨g, 2, none⟩ = some (.slice p.A2 x.l2.length p.c2) ∧ w.cell? ⟨g, 3, none⟩ = some (.slice p.A3 x.l3.length p.c3) ∧ w.cell? ⟨g, 4, none⟩ = some (.slice p.A4 x.l4.length p.c4) ∧ w.cell? ⟨g, 5, none⟩ = some (.slice p.A5 x.l5.length p.c5) ∧ w.cell? ⟨g, 6, none⟩ = some (.slice p.A6 x.l6.length p.c6) ∧ w.cell? ⟨g, 7, none⟩ = some (.int .i64 x.d7) ∧ w.cell? ⟨g, 8, none⟩ = some (.int .i64 x.d8) ∧ w.cell? ⟨g, 9, none⟩ = some (.int .i64 x.d9) ∧ w.cell? ⟨g, 10, none⟩ = some (.int .i64 x.d10) ∧ w.cell? ⟨g, 11, none⟩ = some (.slice p.A11 x.l11.length p.c11) ∧ w.cell? ⟨g, 12, none⟩ = some (.int .i64 x.d12) := ⟨(blk_cell h 0).trans rfl, (blk_cell h 1).trans rfl, (blk_cell h 2).trans rfl, (blk_cell h 3).trans rfl, (blk_cell h 4).trans rfl, (blk_cell h 5).trans rfl, (blk_cell h 6).trans rfl, (blk_cell h 7).trans rfl, (blk_cell h 8).trans rfl, (blk_cell h 9).trans rfl, (blk_cell h 10).trans rfl, (blk_cell h 11).trans rfl, (blk_cell h 12).trans rfl⟩
structure IW.Md (x : IW) (p : IP) (w : World) (base : Nat) (ok : Nat → Prop) : Prop where
 m1 : Kd.R k133 133 w base (fun k_ => ok k_) (.slice p.A1 x.l1.length p.c1) x.l1
 m2 : Kd.R (Kd.int .i64) 3 w base (fun k_ => ok k_ ∧ some k_ ≠ (.slice p.A3 x.l3.length p.c3 : Value).ownBlock ∧ some k_ ≠ (.slice p.A5 x.l5.length p.c5 : Value).ownBlock ∧ some k_ ≠ (.slice p.A6 x.l6.length p.c6 : Value).ownBlock) (.slice p.A2 x.l2.length p.c2) x.l2
 m3 : Kd.R (Kd.int .i64) 3 w base (fun k_ => ok k_ ∧ some k_ ≠ (.slice p.A2 x.l2.length p.c2 : Value).ownBlock ∧ some k_ ≠ (.slice p.A5 x.l5.length p.c5 : Value).ownBlock ∧ some k_ ≠ (.slice p.A6 x.l6.length p.c6 : Value).ownBlock) (.slice p.A3 x.l3.length p.c3) x.l3
 m4 : Kd.S k103 103 w base (fun k_ => ok k_ ∧ some k_ ≠ (.slice p.A2 x.l2.length p.c2 : Value).ownBlock ∧ some k_ ≠ (.slice p.A3 x.l3.length p.c3 : Value).ownBlock ∧ some k_ ≠ (.slice p.A5 x.l5.length p.c5 : Value).ownBlock ∧ some k_ ≠ (.slice p.A6 x.l6.length p.c6 : Value).ownBlock) (.slice p.A4 x.l4.length p.c4) x.l4
 m5 : Kd.R (Kd.int .i64) 3 w base (fun k_ => ok k_ ∧ some k_ ≠ (.slice p.A2 x.l2.length p.c2 : Value).ownBlock ∧ some k_ ≠ (.slice p.A3 x.l3.length p.c3 : Value).ownBlock ∧ some k_ ≠ (.slice p.A6 x.l6.length p.c6 : Value).ownBlock) (.slice p.A5 x.l5.length p.c5) x.l5
 m6 : Kd.R (Kd.int .i64) 3 w base (fun k_ => ok k_ ∧ some k_ ≠ (.slice p.A2 x.l2.length p.c2 : Value).ownBlock ∧ some k_ ≠ (.slice p.A3 x.l3.length p.c3 : Value).ownBlock ∧ some k_ ≠ (.slice p.A5 x.l5.length p.c5 : Value).ownBlock) (.slice p.A6 x.l6.length p.c6) x.l6
 m11 : Kd.R k62 62 w base (fun k_ => ok k_) (.slice p.A11 x.l11.length p.c11) x.l11
theorem IW.Md.rd {x : IW} {p : IP} {w : World} {base : Nat} {ok : Nat → Prop} (h : x.Md p w base ok) : x.Rd p w := ⟨(Kd.R_reads' h.m1).2.2, (Kd.R_reads' h.m1).2.1, (Kd.R_reads' h.m2).2.2, (Kd.R_reads' h.m2).2.1, (Kd.R_reads' h.m3).2.2, (Kd.R_reads' h.m3).2.1, (Kd.S_reads' h.m4).2.2, (Kd.S_reads' h.m4).2.1, (Kd.R_reads' h.m5).2.2, (Kd.R_reads' h.m5).2.1, (Kd.R_reads' h.m6).2.2, (Kd.R_reads' h.m6).2.1, (Kd.R_reads' h.m11).2.2, (Kd.R_reads' h.m11).2.1⟩
theorem IW.Md.step {x : IW} {p : IP} {w w1 : World} {base : Nat} {ok : Nat → Prop} (h : x.Md p w base ok) (hm : ∀ k, ok k → k < w.heap.size → w1.heap[k]? = w.heap[k]?) : x.Md p w1 base ok := ⟨Kd.R_step h.m1 (fun k hk hl => hm k hk hl), Kd.R_step h.m2 (fun k hk hl => hm k hk.1 hl), Kd.R_step h.m3 (fun k hk hl => hm k hk.1 hl), Kd.S_step h.m4 (fun k hk hl => hm k hk.1 hl), Kd.R_step h.m5 (fun k hk hl => hm k hk.1 hl), Kd.R_step h.m6 (fun k hk hl => hm k hk.1 hl), Kd.R_step h.m11 (fun k hk hl => hm k hk hl)⟩
theorem IW.Md.below {x : IW} {p : IP} {w w1 : World} {base : Nat} {ok : Nat → Prop} (h : x.Md p w base ok) (hb : Below w.heap.size w w1) : x.Md p w1 base ok := h.step (fun k _ hl => hb.block k hl)
theorem IW.Md.kept {x : IW} {p : IP} {w w1 : World} {base : Nat} {ok S : Nat → Prop} (h : x.Md p w base ok) (hk : Kept w w1 S) (hne : ∀ k, ok k → ¬ S k) : x.Md p w1 base ok := h.step (fun k ho hl => hk.2 k hl (hne k ho))
theorem IW.Md.lower {x : IW} {p : IP} {w : World} {base base' : Nat} {ok : Nat → Prop} (h : x.Md p w base ok) (hb : base' ≤ base) : x.Md p w base' ok := ⟨Kd.R_lower h.m1 hb, Kd.R_lower h.m2 hb, Kd.R_lower h.m3 hb, Kd.S_lower h.m4 hb, Kd.R_lower h.m5 hb, Kd.R_lower h.m6 hb, Kd.R_lower h.m11 hb⟩
theorem IW.Md.mono {x : IW} {p : IP} {w : World} {base : Nat} {ok ok' : Nat → Prop} (h : x.Md p w base ok) (hok : ∀ k, ok k → ok' k) : x.Md p w base ok' := ⟨Kd.R_mono h.m1 (fun k hk => hok k hk), Kd.R_mono h.m2 (fun k hk => ⟨hok k hk.1, hk.2⟩), Kd.R_mono h.m3 (fun k hk => ⟨hok k hk.1, hk.2⟩), Kd.S_mono h.m4 (fun k hk => ⟨hok k hk.1, hk.2⟩), Kd.R_mono h.m5 (fun k hk => ⟨hok k hk.1, hk.2⟩), Kd.R_mono h.m6 (fun k hk => ⟨hok k hk.1, hk.2⟩), Kd.R_mono h.m11 (fun k hk => hok k hk)⟩
/-- A world's data (laws.World). -/
structure LW where
 d0 : Int
 l1 : List S159
 l2 : List Int
 l3 : List Int
 l4 : List S139
 l5 : List Int
 l6 : List Int
 d7 : Int
 d8 : Int
 d9 : Int
 d10 : Int
 l11 : List S142
 d12 : Int
/-- Where its rows lie. -/
structure LP where
 A1 : Option Addr
 c1 : Nat
 A2 : Option Addr
 c2 : Nat
 A3 : Option Addr
 c3 : Nat
 A4 : Option Addr
 c4 : Nat
 A5 : Option Addr
 c5 : Nat
 A6 : Option Addr
 c6 : Nat
 A11 : Option Addr
 c11 : Nat
abbrev LW.cells (x : LW) (p : LP) : Array Value := #[.int .i64 x.d0, .slice p.A1 x.l1.length p.c1, .slice p.A2 x.l2.length p.c2, .slice p.A3 x.l3.length p.c3, .slice p.A4 x.l4.length p.c4, .slice p.A5 x.l5.length p.c5, .slice p.A6 x.l6.length p.c6, .int .i64 x.d7, .int .i64 x.d8, .int .i64 x.d9, .int .i64 x.d10, .slice p.A11 x.l11.length p.c11, .int .i64 x.d12]
structure LW.Rd (x : LW) (p : LP) (w : World) : Prop where
 r1 : Kd.C k159 w p.A1 x.l1.length x.l1
 h1 : x.l1.length ≤ p.c1
 r2 : Kd.C (Kd.int .i64) w p.A2 x.l2.length x.l2
 h2 : x.l2.length ≤ p.c2
 r3 : Kd.C (Kd.int .i64) w p.A3 x.l3.length x.l3
 h3 : x.l3.length ≤ p.c3
 r4 : Kd.C k139 w p.A4 x.l4.length x.l4
 h4 : x.l4.length ≤ p.c4
 r5 : Kd.C (Kd.int .i64) w p.A5 x.l5.length x.l5
 h5 : x.l5.length ≤ p.c5
 r6 : Kd.C (Kd.int .i64) w p.A6 x.l6.length x.l6
 h6 : x.l6.length ≤ p.c6
 r11 : Kd.C k142 w p.A11 x.l11.length x.l11
 h11 : x.l11.length ≤ p.c11
theorem LW.Rd.below {x : LW} {p : LP} {w w1 : World} (h : x.Rd p w) (hb : Below w.heap.size w w1) : x.Rd p w1 := ⟨Kd.C_below h.r1 hb, h.h1, Kd.C_below h.r2 hb, h.h2, Kd.C_below h.r3 hb, h.h3, Kd.C_below h.r4 hb, h.h4, Kd.C_below h.r5 hb, h.h5, Kd.C_below h.r6 hb, h.h6, Kd.C_below h.r11 hb, h.h11⟩
theorem LW.at_ {x : LW} {p : LP} {w : World} {g t : Nat} (h : w.heap[g]? = some (.cells (x.cells p) t (0, 0))) : w.cell? ⟨g, 0, none⟩ = some (.int .i64 x.d0) ∧ w.cell? ⟨g, 1, none⟩ = some (.slice p.A1 x.l1.length p.c1) ∧ w.cell? ⟨g, 2, none⟩ = some (.slice p.A2 x.l2.length p.c2) ∧ w.cell? ⟨g, 3, none⟩ = some (.slice p.A3 x.l3.length p.c3) ∧ w.cell? ⟨g, 4, none⟩ = some (.slice p.A4 x.l4.length p.c4) ∧ w.cell? ⟨g, 5, none⟩ = some (.slice p.A5 x.l5.length p.c5) ∧ w.cell? ⟨g, 6, none⟩ = some (.slice p.A6 x.l6.length p.c6) ∧ w.cell? ⟨g, 7, none⟩ = some (.int .i64 x.d7) ∧ w.cell? ⟨g, 8, none⟩ = some (.int .i64 x.d8) ∧ w.cell? ⟨g, 9, none⟩ = some (.int .i64 x.d9) ∧ w.cell? ⟨g, 10, none⟩ = some (.int .i64 x.d10) ∧ w.cell? ⟨g, 11, none⟩ = some (.slice p.A11 x.l11.length p.c11) ∧ w.cell? ⟨g, 12, none⟩ = some (.int .i64 x.d12) := ⟨(blk_cell h 0).trans rfl, (blk_cell h 1).trans rfl, (blk_cell h 2).trans rfl, (blk_cell h 3).trans rfl, (blk_cell h 4).trans rfl, (blk_cell h 5).trans rfl, (blk_cell h 6).trans rfl, (blk_cell h 7).trans rfl, (blk_cell h 8).trans rfl, (blk_cell h 9).trans rfl, (blk_cell h 10).trans rfl, (blk_cell h 11).trans rfl, (blk_cell h 12).trans rfl⟩
def cvW (y : LW) : IW := ⟨y.d0, y.l1.map cvLink, y.l2, y.l3, y.l4.map cvProbe, y.l5, y.l6, y.d7, y.d8, y.d9, y.d10, y.l11.map cvSeen, y.d12⟩
def LW.Ok (y : LW) : Prop := okW y.l1 y.l2 y.l3 y.l4 y.l5 y.l6 y.l11
def IW.Ok (x : IW) : Prop := okW' x.l1 x.l2 x.l3 x.l4 x.l5 x.l6 x.l11
theorem cvW_ok {y : LW} (h : y.Ok) : (cvW y).Ok := okW_cv h
/-! ### weq -/
set_option maxHeartbeats 4000000 in
set_option maxRecDepth 100000 in
theorem eqWorld_c (x : IW) (p q : IP) (w : World) (hp : x.Rd p w) (hq : x.Rd q w) (ho : x.Ok) :
  Calls Try.prog 17 #[.agg (x.cells p), .agg (x.cells q)] w fun e w' => e = .returned (.bool true) ∧ Below w.heap.size w w' := by
 have hu := Try.underlying42
 have hu2 := Try.underlying37
 have hu3 := Try.underlying39
 obtain ⟨k1, hk⟩ := (eqNet_ev x.d0 x.l1 ho.1).rounds
 have K1 := Aside0.mk hk
 clear hk
 obtain ⟨k2, hk⟩ := (eqIntS_ev x.l2 ho.2.1).rounds
 have K2 := Aside0.mk hk
 clear hk
 obtain ⟨k3, hk⟩ := (eqIntS_ev x.l3 ho.2.2.1).rounds
 have K3 := Aside0.mk hk
 clear hk
 obtain ⟨k4, hk⟩ := (eqProbeS_ev x.l4 ho.2.2.2.1).rounds
 have K4 := Aside0.mk hk
 clear hk
 obtain ⟨k5, hk⟩ := (eqIntS_ev x.l5 ho.2.2.2.2.1).rounds
 have K5 := Aside0.mk hk
 clear hk
 obtain ⟨k6, hk⟩ := (eqIntS_ev x.l6 ho.2.2.2.2.2.1).rounds
 have K6 := Aside0.mk hk
 clear hk
 obtain ⟨k11, hk⟩ := (eqSeenS_ev x.l11 ho.2.2.2.2.2.2).rounds
 have K11 := Aside0.mk hk
 clear hk
 have HP := Aside0.mk hp
 have HQ := Aside0.mk hq
 clear hp hq ho
 go_enter Try.func17, Try.ntmps17
 go_wp2_with fail
 go_at_call 55; (with_reducible refine (laws_eqNet.calls k1 x.d0 p.A1 p.c1 x.l1 x.d0 q.A1 q.c1 x.l1 true _ ?s0 HP.out.h1 ?s1 HQ.out.h1 K1.out ⟨rfl⟩).mono ?_); (case s0 => exact (HP.out.below (by repeat (first | (with_reducible first | exact Below.refl _ _ | apply below_alloc | apply pw_below_drewN | apply below_drew1) | exact Below.refl _ _))).r1); (case s1 => exact (HQ.out.below (by repeat (first | (with_reducible first | exact Below.refl _ _ | apply below_alloc | apply pw_below_drewN | apply below_drew1) | exact Below.refl _ _))).r1); rintro e w1 ⟨rfl, hb⟩
 have HB := Aside0.mk (below_step (w := w) (by repeat (first | (with_reducible first | exact Below.refl _ _ | apply below_alloc | apply pw_below_drewN | apply below_drew1) | exact Below.refl _ _)) hb)
 have BP := Aside0.mk (show w1.heap[w.heap.size]? = some (.cells (x.cells p) 42 (0, 0)) from blk_below (by repeat (first | exact blk_new _ _ | refine blk_drewN ?_ _ | refine blk_alloc ?_ _)) hb)
 have BQ := Aside0.mk (show w1.heap[w.heap.size + 1]? = some (.cells (x.cells q) 42 (0, 0)) from blk_below (by have h_ := blk_new (w.alloc (.cells (x.cells p) 42)) (.cells (x.cells q) 42); simpa using h_) hb)
 clear hb
 obtain ⟨hp0, hp1, hp2, hp3, hp4, hp5, hp6, hp7, hp8, hp9, hp10, hp11, hp12⟩ := IW.at_ BP.out
 obtain ⟨hq0, hq1, hq2, hq3, hq4, hq5, hq6, hq7, hq8, hq9, hq10, hq11, hq12⟩ := IW.at_ BQ.out
 go_wp2_with fail
 go_at_call 23; (with_reducible refine (laws_eqIntS.calls k2 p.A2 p.c2 x.l2 q.A2 q.c2 x.l2 true _ ?s0 HP.out.h2 ?s1 HQ.out.h2 K2.out ⟨rfl⟩).mono ?_); (case s0 => exact (HP.out.below (below_step HB.out (by repeat (first | (with_reducible first | exact Below.refl _ _ | apply below_alloc | apply pw_below_drewN | apply below_drew1) | exact Below.refl _ _)))).r2); (case s1 => exact (HQ.out.below (below_step HB.out (by repeat (first | (with_reducible first | exact Below.refl _ _ | apply below_alloc | apply pw_below_drewN | apply below_drew1) | exact Below.refl _ _)))).r2); rintro e w' ⟨rfl, ⟨nd, rfl⟩⟩
 clear hp0 hp1 hp2 hp3 hp4 hp5 hp6 hp7 hp8 hp9 hp10 hp11 hp12 hq0 hq1 hq2 hq3 hq4 hq5 hq6 hq7 hq8 hq9 hq10 hq11 hq12
 obtain ⟨hp0, hp1, hp2, hp3, hp4, hp5, hp6, hp7, hp8, hp9, hp10, hp11, hp12⟩ := IW.at_ BP.out
 obtain ⟨hq0, hq1, hq2, hq3, hq4, hq5, hq6, hq7, hq8, hq9, hq10, hq11, hq12⟩ := IW.at_ BQ.out
 go_wp2_with fail
 go_at_call 23; (with_reducible refine (laws_eqIntS.calls k3 p.A3 p.c3 x.l3 q.A3 q.c3 x.l3 true _ ?s0 HP.out.h3 ?s1 HQ.out.h3 K3.out ⟨rfl⟩).mono ?_); (case s0 => exact (HP.out.below (below_step HB.out (by repeat (first | (with_reducible first | exact Below.refl _ _ | apply below_alloc | apply pw_below_drewN | apply below_drew1) | exact Below.refl _ _)))).r3); (case s1 => exact (HQ.out.below (below_step HB.out (by repeat (first | (with_reducible first | exact Below.refl _ _ | apply below_alloc | apply pw_below_drewN | apply below_drew1) | exact Below.refl _ _)))).r3); rintro e w' ⟨rfl, ⟨nd, rfl⟩⟩
 clear hp0 hp1 hp2 hp3 hp4 hp5 hp6 hp7 hp8 hp9 hp10 hp11 hp12 hq0 hq1 hq2 hq3 hq4 hq5 hq6 hq7 hq8 hq9 hq10 hq11 hq12
 obtain ⟨hp0, hp1, hp2, hp3, hp4, hp5, hp6, hp7, hp8, hp9, hp10, hp11, hp12⟩ := IW.at_ BP.out
 obtain ⟨hq0, hq1, hq2, hq3, hq4, hq5, hq6, hq7, hq8, hq9, hq10, hq11, hq12⟩ := IW.at_ BQ.out
 go_wp2_with fail
 go_at_call 72; (with_reducible refine (laws_eqProbeS.calls k4 p.A4 p.c4 x.l4 q.A4 q.c4 x.l4 true _ ?s0 HP.out.h4 ?s1 HQ.out.h4 K4.out ⟨rfl⟩).mono ?_); (case s0 => exact (HP.out.below (below_step HB.out (by repeat (first | (with_reducible first | exact Below.refl _ _ | apply below_alloc | apply pw_below_drewN | apply below_drew1) | exact Below.refl _ _)))).r4); (case s1 => exact (HQ.out.below (below_step HB.out (by repeat (first | (with_reducible first | exact Below.refl _ _ | apply below_alloc | apply pw_below_drewN | apply below_drew1) | exact Below.refl _ _)))).r4); rintro e w4 ⟨rfl, hb⟩
 have hs := below_step (w := w1) (by repeat (first | (with_reducible first | exact Below.refl _ _ | apply below_alloc | apply pw_below_drewN | apply below_drew1) | exact Below.refl _ _)) hb
 have HB2 := Aside0.mk (below_step HB.out hs)
 have BP2 := Aside0.mk (blk_below BP.out hs)
 have BQ2 := Aside0.mk (blk_below BQ.out hs)
 clear HB BP BQ hb hs hp0 hp1 hp2 hp3 hp4 hp5 hp6 hp7 hp8 hp9 hp10 hp11 hp12 hq0 hq1 hq2 hq3 hq4 hq5 hq6 hq7 hq8 hq9 hq10 hq11 hq12
 have HB := HB2
 have BP := BP2
 have BQ := BQ2
 clear HB2 BP2 BQ2
 obtain ⟨hp0, hp1, hp2, hp3, hp4, hp5, hp6, hp7, hp8, hp9, hp10, hp11, hp12⟩ := IW.at_ BP.out
 obtain ⟨hq0, hq1, hq2, hq3, hq4, hq5, hq6, hq7, hq8, hq9, hq10, hq11, hq12⟩ := IW.at_ BQ.out
 go_wp2_with fail
 go_at_call 23; (with_reducible refine (laws_eqIntS.calls k5 p.A5 p.c5 x.l5 q.A5 q.c5 x.l5 true _ ?s0 HP.out.h5 ?s1 HQ.out.h5 K5.out ⟨rfl⟩).mono ?_); (case s0 => exact (HP.out.below (below_step HB.out (by repeat (first | (with_reducible first | exact Below.refl _ _ | apply below_alloc | apply pw_below_drewN | apply below_drew1) | exact Below.refl _ _)))).r5); (case s1 => exact (HQ.out.below (below_step HB.out (by repeat (first | (with_reducible first | exact Below.refl _ _ | apply below_alloc | apply pw_below_drewN | apply below_drew1) | exact Below.refl _ _)))).r5); rintro e w' ⟨rfl, ⟨nd, rfl⟩⟩
 clear hp0 hp1 hp2 hp3 hp4 hp5 hp6 hp7 hp8 hp9 hp10 hp11 hp12 hq0 hq1 hq2 hq3 hq4 hq5 hq6 hq7 hq8 hq9 hq10 hq11 hq12
 obtain ⟨hp0, hp1, hp2, hp3, hp4, hp5, hp6, hp7, hp8, hp9, hp10, hp11, hp12⟩ := IW.at_ BP.out
 obtain ⟨hq0, hq1, hq2, hq3, hq4, hq5, hq6, hq7, hq8, hq9, hq10, hq11, hq12⟩ := IW.at_ BQ.out
 go_wp2_with fail
 go_at_call 23; (with_reducible refine (laws_eqIntS.calls k6 p.A6 p.c6 x.l6 q.A6 q.c6 x.l6 true _ ?s0 HP.out.h6 ?s1 HQ.out.h6 K6.out ⟨rfl⟩).mono ?_); (case s0 => exact (HP.out.below (below_step HB.out (by repeat (first | (with_reducible first | exact Below.refl _ _ | apply below_alloc | apply pw_below_drewN | apply below_drew1) | exact Below.refl _ _)))).r6); (case s1 => exact (HQ.out.below (below_step HB.out (by repeat (first | (with_reducible first | exact Below.refl _ _ | apply below_alloc | apply pw_below_drewN | apply below_drew1) | exact Below.refl _ _)))).r6); rintro e w' ⟨rfl, ⟨nd, rfl⟩⟩
 clear hp0 hp1 hp2 hp3 hp4 hp5 hp6 hp7 hp8 hp9 hp10 hp11 hp12 hq0 hq1 hq2 hq3 hq4 hq5 hq6 hq7 hq8 hq9 hq10 hq11 hq12
 obtain ⟨hp0, hp1, hp2, hp3, hp4, hp5, hp6, hp7, hp8, hp9, hp10, hp11, hp12⟩ := IW.at_ BP.out
 obtain ⟨hq0, hq1, hq2, hq3, hq4, hq5, hq6, hq7, hq8, hq9, hq10, hq11, hq12⟩ := IW.at_ BQ.out
 go_wp2_with fail
 go_at_call 73; (with_reducible refine (laws_eqBucket.calls x.d7 x.d8 x.d9 x.d10 x.d7 x.d8 x.d9 x.d10 true _ (eqBucket_eq _ _ _ _) ⟨rfl⟩).mono ?_); rintro e w7 ⟨rfl, hb⟩
 have hs := below_step (w := w4) (by repeat (first | (with_reducible first | exact Below.refl _ _ | apply below_alloc | apply pw_below_drewN | apply below_drew1) | exact Below.refl _ _)) hb
 have HB2 := Aside0.mk (below_step HB.out hs)
 have BP2 := Aside0.mk (blk_below BP.out hs)
 have BQ2 := Aside0.mk (blk_below BQ.out hs)
 clear HB BP BQ hb hs hp0 hp1 hp2 hp3 hp4 hp5 hp6 hp7 hp8 hp9 hp10 hp11 hp12 hq0 hq1 hq2 hq3 hq4 hq5 hq6 hq7 hq8 hq9 hq10 hq11 hq12
 have HB := HB2
 have BP := BP2
 have BQ := BQ2
 clear HB2 BP2 BQ2
 obtain ⟨hp0, hp1, hp2, hp3, hp4, hp5, hp6, hp7, hp8, hp9, hp10, hp11, hp12⟩ := IW.at_ BP.out
 obtain ⟨hq0, hq1, hq2, hq3, hq4, hq5, hq6, hq7, hq8, hq9, hq10, hq11, hq12⟩ := IW.at_ BQ.out
 go_wp2_with fail
 go_at_call 74; (with_reducible refine (laws_eqSeenS.calls k11 p.A11 p.c11 x.l11 q.A11 q.c11 x.l11 true _ ?s0 HP.out.h11 ?s1 HQ.out.h11 K11.out ⟨rfl⟩).mono ?_); (case s0 => exact (HP.out.below (below_step HB.out (by repeat (first | (with_reducible first | exact Below.refl _ _ | apply below_alloc | apply pw_below_drewN | apply below_drew1) | exact Below.refl _ _)))).r11); (case s1 => exact (HQ.out.below (below_step HB.out (by repeat (first | (with_reducible first | exact Below.refl _ _ | apply below_alloc | apply pw_below_drewN | apply below_drew1) | exact Below.refl _ _)))).r11); rintro e w8 ⟨rfl, hb⟩
 have hs := below_step (w := w7) (by repeat (first | (with_reducible first | exact Below.refl _ _ | apply below_alloc | apply pw_below_drewN | apply below_drew1) | exact Below.refl _ _)) hb
 have HB2 := Aside0.mk (below_step HB.out hs)
 have BP2 := Aside0.mk (blk_below BP.out hs)
 have BQ2 := Aside0.mk (blk_below BQ.out hs)
 clear HB BP BQ hb hs hp0 hp1 hp2 hp3 hp4 hp5 hp6 hp7 hp8 hp9 hp10 hp11 hp12 hq0 hq1 hq2 hq3 hq4 hq5 hq6 hq7 hq8 hq9 hq10 hq11 hq12
 have HB := HB2
 have BP := BP2
 have BQ := BQ2
 clear HB2 BP2 BQ2
 obtain ⟨hp0, hp1, hp2, hp3, hp4, hp5, hp6, hp7, hp8, hp9, hp10, hp11, hp12⟩ := IW.at_ BP.out
 obtain ⟨hq0, hq1, hq2, hq3, hq4, hq5, hq6, hq7, hq8, hq9, hq10, hq11, hq12⟩ := IW.at_ BQ.out
 go_wp2
 go_ret
 exact ⟨rfl, below_step HB.out (by repeat (first | (with_reducible first | exact Below.refl _ _ | apply below_alloc | apply pw_below_drewN | apply below_drew1) | exact Below.refl _ _))⟩
/-! ### cgen -/
/-! ### wto -/
theorem R_iv {α : Type} {d : Kd α} {e : Nat} {W w2 : World} {b : Nat} {ok : Nat → Prop} {v : Value} {xs : List α} (hb : b ≤ W.heap.size) (ho : Kd.R d e w2 W.heap.size ok v xs) : Kd.R d e w2 b (fun k => W.heap.size ≤ k ∧ k < w2.heap.size) v xs := Kd.R_lower (Kd.R_mono (Kd.R_bound ho) (fun k hk => ⟨hk.2.1, hk.2.2.1⟩)) hb
theorem S_iv {α : Type} {d : Kd α} {e : Nat} {W w2 : World} {b : Nat} {ok : Nat → Prop} {v : Value} {xs : List α} (hb : b ≤ W.heap.size) (ho : Kd.S d e w2 W.heap.size ok v xs) : Kd.S d e w2 b (fun k => W.heap.size ≤ k ∧ k < w2.heap.size) v xs := Kd.S_lower (Kd.S_mono (Kd.S_bound ho) (fun k hk => ⟨hk.2.1, hk.2.2.1⟩)) hb
set_option maxHeartbeats 8000000 in
set_option maxRecDepth 100000 in
theorem toWorld_c (y : LW) (q : LP) (w : World) (hq : y.Rd q w) (ho : y.Ok) :
  Calls Try.prog 14 #[.agg (y.cells q)] w fun e w' => ∃ p : IP, e = .returned (.agg ((cvW y).cells p)) ∧ (cvW y).Md p w' w.heap.size (fun k => w.heap.size ≤ k ∧ k < w'.heap.size) ∧ Below w.heap.size w w' := by
 have hu := Try.underlying42
 have hu2 := Try.underlying37
 have hu3 := Try.underlying39
 have hv := Try.underlying31
 have hv2 := Try.underlying24
 have hv3 := Try.underlying28
 obtain ⟨k1, hk⟩ := (show Ev (fun k => laws_toNet.f k y.d0 y.l1) (y.d0, y.l1.map cvLink) from by unfold laws_toNet.f; exact Ev.bind (toLinkS_ev y.l1 ho.1) (Ev.now _)).rounds
 obtain ⟨x1, hx1⟩ : ∃ x_, x_ = y.l1.map cvLink := ⟨_, rfl⟩
 rw [← hx1] at hk
 have HX1 := Aside0.mk hx1
 clear hx1
 have K1 := Aside0.mk hk
 clear hk
 obtain ⟨k2, hk⟩ := (toIntS_ev y.l2 ho.2.1).rounds
 have K2 := Aside0.mk hk
 clear hk
 obtain ⟨k3, hk⟩ := (toIntS_ev y.l3 ho.2.2.1).rounds
 have K3 := Aside0.mk hk
 clear hk
 obtain ⟨k4, hk⟩ := (toProbeS_ev y.l4 ho.2.2.2.1).rounds
 obtain ⟨x4, hx4⟩ : ∃ x_, x_ = y.l4.map cvProbe := ⟨_, rfl⟩
 rw [← hx4] at hk
 have HX4 := Aside0.mk hx4
 clear hx4
 have K4 := Aside0.mk hk
 clear hk
 obtain ⟨k5, hk⟩ := (toIntS_ev y.l5 ho.2.2.2.2.1).rounds
 have K5 := Aside0.mk hk
 clear hk
 obtain ⟨k6, hk⟩ := (toIntS_ev y.l6 ho.2.2.2.2.2.1).rounds
 have K6 := Aside0.mk hk
 clear hk
 obtain ⟨k11, hk⟩ := (toSeenS_ev y.l11 ho.2.2.2.2.2.2).rounds
 obtain ⟨x11, hx11⟩ : ∃ x_, x_ = y.l11.map cvSeen := ⟨_, rfl⟩
 rw [← hx11] at hk
 have HX11 := Aside0.mk hx11
 clear hx11
 have K11 := Aside0.mk hk
 clear hk
 have HQ := Aside0.mk hq
 clear hq ho
 go_enter Try.func14, Try.ntmps14
 go_wp2_with fail
 refine calls_gen (fun W' => W'.heap[w.heap.size]? = some (.cells (y.cells q) 31 (0, 0)) ∧ W'.heap[w.heap.size + 1]? = some (.cells #[.int .i64 0, .slice none 0 0, .slice none 0 0, .slice none 0 0, .slice none 0 0, .slice none 0 0, .slice none 0 0, .int .i64 0, .int .i64 0, .int .i64 0, .int .i64 0, .slice none 0 0, .int .i64 0] 42 (0, 0)) ∧ W'.heap[w.heap.size + 1 + 1]? = some (.cells #[.int .i64 0, .slice none 0 0, .slice none 0 0, .slice none 0 0, .slice none 0 0, .slice none 0 0, .slice none 0 0, .int .i64 0, .int .i64 0, .int .i64 0, .int .i64 0, .slice none 0 0, .int .i64 0] 42 (0, 0)) ∧ Below w.heap.size w W') ⟨?i0, ?i1, ?i2, (by repeat (first | (with_reducible first | exact Below.refl _ _ | apply below_alloc | apply pw_below_drewN | apply below_drew1) | exact Below.refl _ _))⟩ ?_
 case i0 => (repeat (refine blk_drewN ?_ _)); exact blk_alloc (blk_alloc (blk_new w _) _) _
 case i1 => (repeat (refine blk_drewN ?_ _)); have h_ := blk_alloc (blk_new (w.alloc (.cells (y.cells q) 31)) (.cells #[.int .i64 0, .slice none 0 0, .slice none 0 0, .slice none 0 0, .slice none 0 0, .slice none 0 0, .slice none 0 0, .int .i64 0, .int .i64 0, .int .i64 0, .int .i64 0, .slice none 0 0, .int .i64 0] 42)) (.cells #[.int .i64 0, .slice none 0 0, .slice none 0 0, .slice none 0 0, .slice none 0 0, .slice none 0 0, .slice none 0 0, .int .i64 0, .int .i64 0, .int .i64 0, .int .i64 0, .slice none 0 0, .int .i64 0] 42); simpa using h_
 case i2 => (repeat (refine blk_drewN ?_ _)); have h_ := blk_new ((w.alloc (.cells (y.cells q) 31)).alloc (.cells #[.int .i64 0, .slice none 0 0, .slice none 0 0, .slice none 0 0, .slice none 0 0, .slice none 0 0, .slice none 0 0, .int .i64 0, .int .i64 0, .int .i64 0, .int .i64 0, .slice none 0 0, .int .i64 0] 42)) (.cells #[.int .i64 0, .slice none 0 0, .slice none 0 0, .slice none 0 0, .slice none 0 0, .slice none 0 0, .slice none 0 0, .int .i64 0, .int .i64 0, .int .i64 0, .int .i64 0, .slice none 0 0, .int .i64 0] 42); simpa using h_
 rintro W0 ⟨hby, hbr, hbo, hbw⟩
 go_at_call 53; (with_reducible refine (laws_toNet.calls k1 y.d0 q.A1 q.c1 y.l1 y.d0 x1 _ ?s0 HQ.out.h1 K1.out).mono ?_); (case s0 => exact (HQ.out.below hbw).r1); rintro e w1 ⟨v, rfl, ho, hb⟩
 have NN1 := Aside0.mk (R_iv (b := w.heap.size) hbw.size ho)
 obtain ⟨A1, c1, rfl⟩ := Kd.R_slice ho
 have HS := Aside0.mk (And.intro (show w.heap.size + 2 < W0.heap.size from blk_lt hbo) (show W0.heap.size ≤ w1.heap.size from hb.size))
 have HB2 := Aside0.mk (below_step hbw hb)
 have BY2 := Aside0.mk (blk_below hby hb)
 have BR2 := Aside0.mk (blk_below hbr hb)
 have BO2 := Aside0.mk (blk_below hbo hb)
 clear hby hbr hbo hbw hb ho
 have HB := HB2; clear HB2
 have BY := BY2; clear BY2
 have BR := BR2; clear BR2
 have BO := BO2; clear BO2
 have M1 := NN1; clear NN1
 obtain ⟨hy0, hy1, hy2, hy3, hy4, hy5, hy6, hy7, hy8, hy9, hy10, hy11, hy12⟩ := LW.at_ BY.out
 have hf0 := blk_frozen BO.out 0; have hc0 := (blk_cell BO.out 0).trans rfl
 have hf1 := blk_frozen BO.out 1; have hc1 := (blk_cell BO.out 1).trans rfl
 go_wp2_with fail
 refine calls_gen (fun W' => Kept w1 W' (fun k => k = w.heap.size + 1 + 1) ∧ W'.heap[w.heap.size + 1 + 1]? = some (.cells #[.int .i64 y.d0, .slice A1 x1.length c1, .slice none 0 0, .slice none 0 0, .slice none 0 0, .slice none 0 0, .slice none 0 0, .int .i64 0, .int .i64 0, .int .i64 0, .int .i64 0, .slice none 0 0, .int .i64 0] 42 (0, 0)) ∧ Below w.heap.size w W') ⟨?i0, ?i1, ?i2⟩ ?_
 case i0 => repeat (first | exact Kept.refl _ _ | refine Kept.setCell ?_ (by exact Or.inl rfl) _ | apply Kept.drewN | apply Kept.alloc)
 case i1 => exact blk_set (blk_set (BO.out) 0 _) 1 _
 case i2 => repeat (first | exact HB.out | refine below_set ?_ (by omega) | apply below_alloc | apply pw_below_drewN)
 rintro W1 ⟨hk, hbo, hbw⟩
 have hby := blk_kept BY.out hk (by intro h; omega)
 have hbr := blk_kept BR.out hk (by intro h; omega)
 go_at_call 29; (with_reducible refine (laws_toIntS.calls k2 q.A2 q.c2 y.l2 y.l2 _ ?s0 HQ.out.h2 K2.out).mono ?_); (case s0 => exact (HQ.out.below hbw).r2); rintro e w2 ⟨v, rfl, ho, hb⟩
 have N1 := Aside0.mk (Kd.R_below (Kd.R_kept M1.out hk (fun k h h' => by have := HS.out; omega)) hb)
 have NN2 := Aside0.mk (R_iv (b := w.heap.size) hbw.size ho)
 obtain ⟨A2, c2, rfl⟩ := Kd.R_slice ho
 replace HS := Aside0.mk (And.intro HS.out (And.intro (show w1.heap.size ≤ W1.heap.size from hk.1) (show W1.heap.size ≤ w2.heap.size from hb.size)))
 have HB2 := Aside0.mk (below_step hbw hb)
 have BY2 := Aside0.mk (blk_below hby hb)
 have BR2 := Aside0.mk (blk_below hbr hb)
 have BO2 := Aside0.mk (blk_below hbo hb)
 clear HB BY BR BO hy0 hy1 hy2 hy3 hy4 hy5 hy6 hy7 hy8 hy9 hy10 hy11 hy12 hk hf0 hc0 hf1 hc1 M1 hby hbr hbo hbw hb ho
 have HB := HB2; clear HB2
 have BY := BY2; clear BY2
 have BR := BR2; clear BR2
 have BO := BO2; clear BO2
 have M1 := N1; clear N1
 have M2 := NN2; clear NN2
 obtain ⟨hy0, hy1, hy2, hy3, hy4, hy5, hy6, hy7, hy8, hy9, hy10, hy11, hy12⟩ := LW.at_ BY.out
 have hf2 := blk_frozen BO.out 2; have hc2 := (blk_cell BO.out 2).trans rfl
 go_wp2_with fail
 refine calls_gen (fun W' => Kept w2 W' (fun k => k = w.heap.size + 1 + 1) ∧ W'.heap[w.heap.size + 1 + 1]? = some (.cells #[.int .i64 y.d0, .slice A1 x1.length c1, .slice A2 y.l2.length c2, .slice none 0 0, .slice none 0 0, .slice none 0 0, .slice none 0 0, .int .i64 0, .int .i64 0, .int .i64 0, .int .i64 0, .slice none 0 0, .int .i64 0] 42 (0, 0)) ∧ Below w.heap.size w W') ⟨?i0, ?i1, ?i2⟩ ?_
 case i0 => repeat (first | exact Kept.refl _ _ | refine Kept.setCell ?_ (by exact Or.inl rfl) _ | apply Kept.drewN | apply Kept.alloc)
 case i1 => exact blk_set (BO.out) 2 _
 case i2 => repeat (first | exact HB.out | refine below_set ?_ (by omega) | apply below_alloc | apply pw_below_drewN)
 rintro W2 ⟨hk, hbo, hbw⟩
 have hby := blk_kept BY.out hk (by intro h; omega)
 have hbr := blk_kept BR.out hk (by intro h; omega)
 go_at_call 29; (with_reducible refine (laws_toIntS.calls k3 q.A3 q.c3 y.l3 y.l3 _ ?s0 HQ.out.h3 K3.out).mono ?_); (case s0 => exact (HQ.out.below hbw).r3); rintro e w3 ⟨v, rfl, ho, hb⟩
 have N1 := Aside0.mk (Kd.R_below (Kd.R_kept M1.out hk (fun k h h' => by have := HS.out; omega)) hb)
 have N2 := Aside0.mk (Kd.R_below (Kd.R_kept M2.out hk (fun k h h' => by have := HS.out; omega)) hb)
 have NN3 := Aside0.mk (R_iv (b := w.heap.size) hbw.size ho)
 obtain ⟨A3, c3, rfl⟩ := Kd.R_slice ho
 replace HS := Aside0.mk (And.intro HS.out (And.intro (show w2.heap.size ≤ W2.heap.size from hk.1) (show W2.heap.size ≤ w3.heap.size from hb.size)))
 have HB2 := Aside0.mk (below_step hbw hb)
 have BY2 := Aside0.mk (blk_below hby hb)
 have BR2 := Aside0.mk (blk_below hbr hb)
 have BO2 := Aside0.mk (blk_below hbo hb)
 clear HB BY BR BO hy0 hy1 hy2 hy3 hy4 hy5 hy6 hy7 hy8 hy9 hy10 hy11 hy12 hk hf2 hc2 M1 M2 hby hbr hbo hbw hb ho
 have HB := HB2; clear HB2
 have BY := BY2; clear BY2
 have BR := BR2; clear BR2
 have BO := BO2; clear BO2
 have M1 := N1; clear N1
 have M2 := N2; clear N2
 have M3 := NN3; clear NN3
 obtain ⟨hy0, hy1, hy2, hy3, hy4, hy5, hy6, hy7, hy8, hy9, hy10, hy11, hy12⟩ := LW.at_ BY.out
 have hf3 := blk_frozen BO.out 3; have hc3 := (blk_cell BO.out 3).trans rfl
 go_wp2_with fail
 refine calls_gen (fun W' => Kept w3 W' (fun k => k = w.heap.size + 1 + 1) ∧ W'.heap[w.heap.size + 1 + 1]? = some (.cells #[.int .i64 y.d0, .slice A1 x1.length c1, .slice A2 y.l2.length c2, .slice A3 y.l3.length c3, .slice none 0 0, .slice none 0 0, .slice none 0 0, .int .i64 0, .int .i64 0, .int .i64 0, .int .i64 0, .slice none 0 0, .int .i64 0] 42 (0, 0)) ∧ Below w.heap.size w W') ⟨?i0, ?i1, ?i2⟩ ?_
 case i0 => repeat (first | exact Kept.refl _ _ | refine Kept.setCell ?_ (by exact Or.inl rfl) _ | apply Kept.drewN | apply Kept.alloc)
 case i1 => exact blk_set (BO.out) 3 _
 case i2 => repeat (first | exact HB.out | refine below_set ?_ (by omega) | apply below_alloc | apply pw_below_drewN)
 rintro W3 ⟨hk, hbo, hbw⟩
 have hby := blk_kept BY.out hk (by intro h; omega)
 have hbr := blk_kept BR.out hk (by intro h; omega)
 go_at_call 68; (with_reducible refine (laws_toProbeS.calls k4 q.A4 q.c4 y.l4 (x4) _ ?s0 HQ.out.h4 K4.out).mono ?_); (case s0 => exact (HQ.out.below hbw).r4); rintro e w4 ⟨v, rfl, ho, hb⟩
 have N1 := Aside0.mk (Kd.R_below (Kd.R_kept M1.out hk (fun k h h' => by have := HS.out; omega)) hb)
 have N2 := Aside0.mk (Kd.R_below (Kd.R_kept M2.out hk (fun k h h' => by have := HS.out; omega)) hb)
 have N3 := Aside0.mk (Kd.R_below (Kd.R_kept M3.out hk (fun k h h' => by have := HS.out; omega)) hb)
 have NN4 := Aside0.mk (S_iv (b := w.heap.size) hbw.size ho)
 obtain ⟨A4, c4, rfl⟩ := Kd.S_slice ho
 replace HS := Aside0.mk (And.intro HS.out (And.intro (show w3.heap.size ≤ W3.heap.size from hk.1) (show W3.heap.size ≤ w4.heap.size from hb.size)))
 have HB2 := Aside0.mk (below_step hbw hb)
 have BY2 := Aside0.mk (blk_below hby hb)
 have BR2 := Aside0.mk (blk_below hbr hb)
 have BO2 := Aside0.mk (blk_below hbo hb)
 clear HB BY BR BO hy0 hy1 hy2 hy3 hy4 hy5 hy6 hy7 hy8 hy9 hy10 hy11 hy12 hk hf3 hc3 M1 M2 M3 hby hbr hbo hbw hb ho
 have HB := HB2; clear HB2
 have BY := BY2; clear BY2
 have BR := BR2; clear BR2
 have BO := BO2; clear BO2
 have M1 := N1; clear N1
 have M2 := N2; clear N2
 have M3 := N3; clear N3
 have M4 := NN4; clear NN4
 obtain ⟨hy0, hy1, hy2, hy3, hy4, hy5, hy6, hy7, hy8, hy9, hy10, hy11, hy12⟩ := LW.at_ BY.out
 have hf4 := blk_frozen BO.out 4; have hc4 := (blk_cell BO.out 4).trans rfl
 go_wp2_with fail
 refine calls_gen (fun W' => Kept w4 W' (fun k => k = w.heap.size + 1 + 1) ∧ W'.heap[w.heap.size + 1 + 1]? = some (.cells #[.int .i64 y.d0, .slice A1 x1.length c1, .slice A2 y.l2.length c2, .slice A3 y.l3.length c3, .slice A4 x4.length c4, .slice none 0 0, .slice none 0 0, .int .i64 0, .int .i64 0, .int .i64 0, .int .i64 0, .slice none 0 0, .int .i64 0] 42 (0, 0)) ∧ Below w.heap.size w W') ⟨?i0, ?i1, ?i2⟩ ?_
 case i0 => repeat (first | exact Kept.refl _ _ | refine Kept.setCell ?_ (by exact Or.inl rfl) _ | apply Kept.drewN | apply Kept.alloc)
 case i1 => exact blk_set (BO.out) 4 _
 case i2 => repeat (first | exact HB.out | refine below_set ?_ (by omega) | apply below_alloc | apply pw_below_drewN)
 rintro W4 ⟨hk, hbo, hbw⟩
 have hby := blk_kept BY.out hk (by intro h; omega)
 have hbr := blk_kept BR.out hk (by intro h; omega)
 go_at_call 29; (with_reducible refine (laws_toIntS.calls k5 q.A5 q.c5 y.l5 y.l5 _ ?s0 HQ.out.h5 K5.out).mono ?_); (case s0 => exact (HQ.out.below hbw).r5); rintro e w5 ⟨v, rfl, ho, hb⟩
 have N1 := Aside0.mk (Kd.R_below (Kd.R_kept M1.out hk (fun k h h' => by have := HS.out; omega)) hb)
 have N2 := Aside0.mk (Kd.R_below (Kd.R_kept M2.out hk (fun k h h' => by have := HS.out; omega)) hb)
 have N3 := Aside0.mk (Kd.R_below (Kd.R_kept M3.out hk (fun k h h' => by have := HS.out; omega)) hb)
 have N4 := Aside0.mk (Kd.S_below (Kd.S_kept M4.out hk (fun k h h' => by have := HS.out; omega)) hb)
 have NN5 := Aside0.mk (R_iv (b := w.heap.size) hbw.size ho)
 obtain ⟨A5, c5, rfl⟩ := Kd.R_slice ho
 replace HS := Aside0.mk (And.intro HS.out (And.intro (show w4.heap.size ≤ W4.heap.size from hk.1) (show W4.heap.size ≤ w5.heap.size from hb.size)))
 have HB2 := Aside0.mk (below_step hbw hb)
 have BY2 := Aside0.mk (blk_below hby hb)
 have BR2 := Aside0.mk (blk_below hbr hb)
 have BO2 := Aside0.mk (blk_below hbo hb)
 clear HB BY BR BO hy0 hy1 hy2 hy3 hy4 hy5 hy6 hy7 hy8 hy9 hy10 hy11 hy12 hk hf4 hc4 M1 M2 M3 M4 hby hbr hbo hbw hb ho
 have HB := HB2; clear HB2
 have BY := BY2; clear BY2
 have BR := BR2; clear BR2
 have BO := BO2; clear BO2
 have M1 := N1; clear N1
 have M2 := N2; clear N2
 have M3 := N3; clear N3
 have M4 := N4; clear N4
 have M5 := NN5; clear NN5
 obtain ⟨hy0, hy1, hy2, hy3, hy4, hy5, hy6, hy7, hy8, hy9, hy10, hy11, hy12⟩ := LW.at_ BY.out
 have hf5 := blk_frozen BO.out 5; have hc5 := (blk_cell BO.out 5).trans rfl
 go_wp2_with fail
 refine calls_gen (fun W' => Kept w5 W' (fun k => k = w.heap.size + 1 + 1) ∧ W'.heap[w.heap.size + 1 + 1]? = some (.cells #[.int .i64 y.d0, .slice A1 x1.length c1, .slice A2 y.l2.length c2, .slice A3 y.l3.length c3, .slice A4 x4.length c4, .slice A5 y.l5.length c5, .slice none 0 0, .int .i64 0, .int .i64 0, .int .i64 0, .int .i64 0, .slice none 0 0, .int .i64 0] 42 (0, 0)) ∧ Below w.heap.size w W') ⟨?i0, ?i1, ?i2⟩ ?_
 case i0 => repeat (first | exact Kept.refl _ _ | refine Kept.setCell ?_ (by exact Or.inl rfl) _ | apply Kept.drewN | apply Kept.alloc)
 case i1 => exact blk_set (BO.out) 5 _
 case i2 => repeat (first | exact HB.out | refine below_set ?_ (by omega) | apply below_alloc | apply pw_below_drewN)
 rintro W5 ⟨hk, hbo, hbw⟩
 have hby := blk_kept BY.out hk (by intro h; omega)
 have hbr := blk_kept BR.out hk (by intro h; omega)
 go_at_call 29; (with_reducible refine (laws_toIntS.calls k6 q.A6 q.c6 y.l6 y.l6 _ ?s0 HQ.out.h6 K6.out).mono ?_); (case s0 => exact (HQ.out.below hbw).r6); rintro e w6 ⟨v, rfl, ho, hb⟩
 have N1 := Aside0.mk (Kd.R_below (Kd.R_kept M1.out hk (fun k h h' => by have := HS.out; omega)) hb)
 have N2 := Aside0.mk (Kd.R_below (Kd.R_kept M2.out hk (fun k h h' => by have := HS.out; omega)) hb)
 have N3 := Aside0.mk (Kd.R_below (Kd.R_kept M3.out hk (fun k h h' => by have := HS.out; omega)) hb)
 have N4 := Aside0.mk (Kd.S_below (Kd.S_kept M4.out hk (fun k h h' => by have := HS.out; omega)) hb)
 have N5 := Aside0.mk (Kd.R_below (Kd.R_kept M5.out hk (fun k h h' => by have := HS.out; omega)) hb)
 have NN6 := Aside0.mk (R_iv (b := w.heap.size) hbw.size ho)
 obtain ⟨A6, c6, rfl⟩ := Kd.R_slice ho
 replace HS := Aside0.mk (And.intro HS.out (And.intro (show w5.heap.size ≤ W5.heap.size from hk.1) (show W5.heap.size ≤ w6.heap.size from hb.size)))
 have HB2 := Aside0.mk (below_step hbw hb)
 have BY2 := Aside0.mk (blk_below hby hb)
 have BR2 := Aside0.mk (blk_below hbr hb)
 have BO2 := Aside0.mk (blk_below hbo hb)
 clear HB BY BR BO hy0 hy1 hy2 hy3 hy4 hy5 hy6 hy7 hy8 hy9 hy10 hy11 hy12 hk hf5 hc5 M1 M2 M3 M4 M5 hby hbr hbo hbw hb ho
 have HB := HB2; clear HB2
 have BY := BY2; clear BY2
 have BR := BR2; clear BR2
 have BO := BO2; clear BO2
 have M1 := N1; clear N1
 have M2 := N2; clear N2
 have M3 := N3; clear N3
 have M4 := N4; clear N4
 have M5 := N5; clear N5
 have M6 := NN6; clear NN6
 obtain ⟨hy0, hy1, hy2, hy3, hy4, hy5, hy6, hy7, hy8, hy9, hy10, hy11, hy12⟩ := LW.at_ BY.out
 have hf6 := blk_frozen BO.out 6; have hc6 := (blk_cell BO.out 6).trans rfl
 go_wp2_with fail
 refine calls_gen (fun W' => Kept w6 W' (fun k => k = w.heap.size + 1 + 1) ∧ W'.heap[w.heap.size + 1 + 1]? = some (.cells #[.int .i64 y.d0, .slice A1 x1.length c1, .slice A2 y.l2.length c2, .slice A3 y.l3.length c3, .slice A4 x4.length c4, .slice A5 y.l5.length c5, .slice A6 y.l6.length c6, .int .i64 0, .int .i64 0, .int .i64 0, .int .i64 0, .slice none 0 0, .int .i64 0] 42 (0, 0)) ∧ Below w.heap.size w W') ⟨?i0, ?i1, ?i2⟩ ?_
 case i0 => repeat (first | exact Kept.refl _ _ | refine Kept.setCell ?_ (by exact Or.inl rfl) _ | apply Kept.drewN | apply Kept.alloc)
 case i1 => exact blk_set (BO.out) 6 _
 case i2 => repeat (first | exact HB.out | refine below_set ?_ (by omega) | apply below_alloc | apply pw_below_drewN)
 rintro W6 ⟨hk, hbo, hbw⟩
 have hby := blk_kept BY.out hk (by intro h; omega)
 have hbr := blk_kept BR.out hk (by intro h; omega)
 go_at_call 69; (with_reducible refine (laws_toBucket.calls y.d7 y.d8 y.d9 y.d10 y.d7 y.d8 y.d9 y.d10 _ rfl).mono ?_); rintro e w7 ⟨rfl, hb⟩
 have N1 := Aside0.mk (Kd.R_below (Kd.R_kept M1.out hk (fun k h h' => by have := HS.out; omega)) hb)
 have N2 := Aside0.mk (Kd.R_below (Kd.R_kept M2.out hk (fun k h h' => by have := HS.out; omega)) hb)
 have N3 := Aside0.mk (Kd.R_below (Kd.R_kept M3.out hk (fun k h h' => by have := HS.out; omega)) hb)
 have N4 := Aside0.mk (Kd.S_below (Kd.S_kept M4.out hk (fun k h h' => by have := HS.out; omega)) hb)
 have N5 := Aside0.mk (Kd.R_below (Kd.R_kept M5.out hk (fun k h h' => by have := HS.out; omega)) hb)
 have N6 := Aside0.mk (Kd.R_below (Kd.R_kept M6.out hk (fun k h h' => by have := HS.out; omega)) hb)
 replace HS := Aside0.mk (And.intro HS.out (And.intro (show w6.heap.size ≤ W6.heap.size from hk.1) (show W6.heap.size ≤ w7.heap.size from hb.size)))
 have HB2 := Aside0.mk (below_step hbw hb)
 have BY2 := Aside0.mk (blk_below hby hb)
 have BR2 := Aside0.mk (blk_below hbr hb)
 have BO2 := Aside0.mk (blk_below hbo hb)
 clear HB BY BR BO hy0 hy1 hy2 hy3 hy4 hy5 hy6 hy7 hy8 hy9 hy10 hy11 hy12 hk hf6 hc6 M1 M2 M3 M4 M5 M6 hby hbr hbo hbw hb
 have HB := HB2; clear HB2
 have BY := BY2; clear BY2
 have BR := BR2; clear BR2
 have BO := BO2; clear BO2
 have M1 := N1; clear N1
 have M2 := N2; clear N2
 have M3 := N3; clear N3
 have M4 := N4; clear N4
 have M5 := N5; clear N5
 have M6 := N6; clear N6
 obtain ⟨hy0, hy1, hy2, hy3, hy4, hy5, hy6, hy7, hy8, hy9, hy10, hy11, hy12⟩ := LW.at_ BY.out
 have hf7 := blk_frozen BO.out 7; have hc7 := (blk_cell BO.out 7).trans rfl
 have hf8 := blk_frozen BO.out 8; have hc8 := (blk_cell BO.out 8).trans rfl
 have hf9 := blk_frozen BO.out 9; have hc9 := (blk_cell BO.out 9).trans rfl
 have hf10 := blk_frozen BO.out 10; have hc10 := (blk_cell BO.out 10).trans rfl
 go_wp2_with fail
 refine calls_gen (fun W' => Kept w7 W' (fun k => k = w.heap.size + 1 + 1) ∧ W'.heap[w.heap.size + 1 + 1]? = some (.cells #[.int .i64 y.d0, .slice A1 x1.length c1, .slice A2 y.l2.length c2, .slice A3 y.l3.length c3, .slice A4 x4.length c4, .slice A5 y.l5.length c5, .slice A6 y.l6.length c6, .int .i64 y.d7, .int .i64 y.d8, .int .i64 y.d9, .int .i64 y.d10, .slice none 0 0, .int .i64 0] 42 (0, 0)) ∧ Below w.heap.size w W') ⟨?i0, ?i1, ?i2⟩ ?_
 case i0 => repeat (first | exact Kept.refl _ _ | refine Kept.setCell ?_ (by exact Or.inl rfl) _ | apply Kept.drewN | apply Kept.alloc)
 case i1 => exact blk_set (blk_set (blk_set (blk_set (BO.out) 7 _) 8 _) 9 _) 10 _
 case i2 => repeat (first | exact HB.out | refine below_set ?_ (by omega) | apply below_alloc | apply pw_below_drewN)
 rintro W7 ⟨hk, hbo, hbw⟩
 have hby := blk_kept BY.out hk (by intro h; omega)
 have hbr := blk_kept BR.out hk (by intro h; omega)
 go_at_call 70; (with_reducible refine (laws_toSeenS.calls k11 q.A11 q.c11 y.l11 (x11) _ ?s0 HQ.out.h11 K11.out).mono ?_); (case s0 => exact (HQ.out.below hbw).r11); rintro e w8 ⟨v, rfl, ho, hb⟩
 have N1 := Aside0.mk (Kd.R_below (Kd.R_kept M1.out hk (fun k h h' => by have := HS.out; omega)) hb)
 have N2 := Aside0.mk (Kd.R_below (Kd.R_kept M2.out hk (fun k h h' => by have := HS.out; omega)) hb)
 have N3 := Aside0.mk (Kd.R_below (Kd.R_kept M3.out hk (fun k h h' => by have := HS.out; omega)) hb)
 have N4 := Aside0.mk (Kd.S_below (Kd.S_kept M4.out hk (fun k h h' => by have := HS.out; omega)) hb)
 have N5 := Aside0.mk (Kd.R_below (Kd.R_kept M5.out hk (fun k h h' => by have := HS.out; omega)) hb)
 have N6 := Aside0.mk (Kd.R_below (Kd.R_kept M6.out hk (fun k h h' => by have := HS.out; omega)) hb)
 have NN11 := Aside0.mk (R_iv (b := w.heap.size) hbw.size ho)
 obtain ⟨A11, c11, rfl⟩ := Kd.R_slice ho
 replace HS := Aside0.mk (And.intro HS.out (And.intro (show w7.heap.size ≤ W7.heap.size from hk.1) (show W7.heap.size ≤ w8.heap.size from hb.size)))
 have HB2 := Aside0.mk (below_step hbw hb)
 have BY2 := Aside0.mk (blk_below hby hb)
 have BR2 := Aside0.mk (blk_below hbr hb)
 have BO2 := Aside0.mk (blk_below hbo hb)
 clear HB BY BR BO hy0 hy1 hy2 hy3 hy4 hy5 hy6 hy7 hy8 hy9 hy10 hy11 hy12 hk hf7 hc7 hf8 hc8 hf9 hc9 hf10 hc10 M1 M2 M3 M4 M5 M6 hby hbr hbo hbw hb ho
 have HB := HB2; clear HB2
 have BY := BY2; clear BY2
 have BR := BR2; clear BR2
 have BO := BO2; clear BO2
 have M1 := N1; clear N1
 have M2 := N2; clear N2
 have M3 := N3; clear N3
 have M4 := N4; clear N4
 have M5 := N5; clear N5
 have M6 := N6; clear N6
 have M11 := NN11; clear NN11
 obtain ⟨hy0, hy1, hy2, hy3, hy4, hy5, hy6, hy7, hy8, hy9, hy10, hy11, hy12⟩ := LW.at_ BY.out
 have hw0 := HB.out.size
 have hf0 := blk_frozen BO.out 0; have hc0 := (blk_cell BO.out 0).trans rfl; have hg0 := blk_frozen BR.out 0; have hd0 := (blk_cell BR.out 0).trans rfl
 have hf1 := blk_frozen BO.out 1; have hc1 := (blk_cell BO.out 1).trans rfl; have hg1 := blk_frozen BR.out 1; have hd1 := (blk_cell BR.out 1).trans rfl
 have hf2 := blk_frozen BO.out 2; have hc2 := (blk_cell BO.out 2).trans rfl; have hg2 := blk_frozen BR.out 2; have hd2 := (blk_cell BR.out 2).trans rfl
 have hf3 := blk_frozen BO.out 3; have hc3 := (blk_cell BO.out 3).trans rfl; have hg3 := blk_frozen BR.out 3; have hd3 := (blk_cell BR.out 3).trans rfl
 have hf4 := blk_frozen BO.out 4; have hc4 := (blk_cell BO.out 4).trans rfl; have hg4 := blk_frozen BR.out 4; have hd4 := (blk_cell BR.out 4).trans rfl
 have hf5 := blk_frozen BO.out 5; have hc5 := (blk_cell BO.out 5).trans rfl; have hg5 := blk_frozen BR.out 5; have hd5 := (blk_cell BR.out 5).trans rfl
 have hf6 := blk_frozen BO.out 6; have hc6 := (blk_cell BO.out 6).trans rfl; have hg6 := blk_frozen BR.out 6; have hd6 := (blk_cell BR.out 6).trans rfl
 have hf7 := blk_frozen BO.out 7; have hc7 := (blk_cell BO.out 7).trans rfl; have hg7 := blk_frozen BR.out 7; have hd7 := (blk_cell BR.out 7).trans rfl
 have hf8 := blk_frozen BO.out 8; have hc8 := (blk_cell BO.out 8).trans rfl; have hg8 := blk_frozen BR.out 8; have hd8 := (blk_cell BR.out 8).trans rfl
 have hf9 := blk_frozen BO.out 9; have hc9 := (blk_cell BO.out 9).trans rfl; have hg9 := blk_frozen BR.out 9; have hd9 := (blk_cell BR.out 9).trans rfl
 have hf10 := blk_frozen BO.out 10; have hc10 := (blk_cell BO.out 10).trans rfl; have hg10 := blk_frozen BR.out 10; have hd10 := (blk_cell BR.out 10).trans rfl
 have hf11 := blk_frozen BO.out 11; have hc11 := (blk_cell BO.out 11).trans rfl; have hg11 := blk_frozen BR.out 11; have hd11 := (blk_cell BR.out 11).trans rfl
 have hf12 := blk_frozen BO.out 12; have hc12 := (blk_cell BO.out 12).trans rfl; have hg12 := blk_frozen BR.out 12; have hd12 := (blk_cell BR.out 12).trans rfl
 go_wp2
 refine bodyPost_ret (results_cell_row rfl _ _ (w.heap.size + 1) 42 #[.int .i64 y.d0, .slice A1 x1.length c1, .slice A2 y.l2.length c2, .slice A3 y.l3.length c3, .slice A4 x4.length c4, .slice A5 y.l5.length c5, .slice A6 y.l6.length c6, .int .i64 y.d7, .int .i64 y.d8, .int .i64 y.d9, .int .i64 y.d10, .slice A11 x11.length c11, .int .i64 y.d12] (0, 0) _ rfl (blk_put (cs' := #[.int .i64 y.d0, .slice A1 x1.length c1, .slice A2 y.l2.length c2, .slice A3 y.l3.length c3, .slice A4 x4.length c4, .slice A5 y.l5.length c5, .slice A6 y.l6.length c6, .int .i64 y.d7, .int .i64 y.d8, .int .i64 y.d9, .int .i64 y.d10, .slice A11 x11.length c11, .int .i64 y.d12]) (blk_put (cs' := #[.int .i64 y.d0, .slice A1 x1.length c1, .slice A2 y.l2.length c2, .slice A3 y.l3.length c3, .slice A4 x4.length c4, .slice A5 y.l5.length c5, .slice A6 y.l6.length c6, .int .i64 y.d7, .int .i64 y.d8, .int .i64 y.d9, .int .i64 y.d10, .slice A11 x11.length c11, .int .i64 0]) (blk_put (cs' := #[.int .i64 y.d0, .slice A1 x1.length c1, .slice A2 y.l2.length c2, .slice A3 y.l3.length c3, .slice A4 x4.length c4, .slice A5 y.l5.length c5, .slice A6 y.l6.length c6, .int .i64 y.d7, .int .i64 y.d8, .int .i64 y.d9, .int .i64 y.d10, .slice none 0 0, .int .i64 0]) (blk_put (cs' := #[.int .i64 y.d0, .slice A1 x1.length c1, .slice A2 y.l2.length c2, .slice A3 y.l3.length c3, .slice A4 x4.length c4, .slice A5 y.l5.length c5, .slice A6 y.l6.length c6, .int .i64 y.d7, .int .i64 y.d8, .int .i64 y.d9, .int .i64 0, .slice none 0 0, .int .i64 0]) (blk_put (cs' := #[.int .i64 y.d0, .slice A1 x1.length c1, .slice A2 y.l2.length c2, .slice A3 y.l3.length c3, .slice A4 x4.length c4, .slice A5 y.l5.length c5, .slice A6 y.l6.length c6, .int .i64 y.d7, .int .i64 y.d8, .int .i64 0, .int .i64 0, .slice none 0 0, .int .i64 0]) (blk_put (cs' := #[.int .i64 y.d0, .slice A1 x1.length c1, .slice A2 y.l2.length c2, .slice A3 y.l3.length c3, .slice A4 x4.length c4, .slice A5 y.l5.length c5, .slice A6 y.l6.length c6, .int .i64 y.d7, .int .i64 0, .int .i64 0, .int .i64 0, .slice none 0 0, .int .i64 0]) (blk_put (cs' := #[.int .i64 y.d0, .slice A1 x1.length c1, .slice A2 y.l2.length c2, .slice A3 y.l3.length c3, .slice A4 x4.length c4, .slice A5 y.l5.length c5, .slice A6 y.l6.length c6, .int .i64 0, .int .i64 0, .int .i64 0, .int .i64 0, .slice none 0 0, .int .i64 0]) (blk_put (cs' := #[.int .i64 y.d0, .slice A1 x1.length c1, .slice A2 y.l2.length c2, .slice A3 y.l3.length c3, .slice A4 x4.length c4, .slice A5 y.l5.length c5, .slice none 0 0, .int .i64 0, .int .i64 0, .int .i64 0, .int .i64 0, .slice none 0 0, .int .i64 0]) (blk_put (cs' := #[.int .i64 y.d0, .slice A1 x1.length c1, .slice A2 y.l2.length c2, .slice A3 y.l3.length c3, .slice A4 x4.length c4, .slice none 0 0, .slice none 0 0, .int .i64 0, .int .i64 0, .int .i64 0, .int .i64 0, .slice none 0 0, .int .i64 0]) (blk_put (cs' := #[.int .i64 y.d0, .slice A1 x1.length c1, .slice A2 y.l2.length c2, .slice A3 y.l3.length c3, .slice none 0 0, .slice none 0 0, .slice none 0 0, .int .i64 0, .int .i64 0, .int .i64 0, .int .i64 0, .slice none 0 0, .int .i64 0]) (blk_put (cs' := #[.int .i64 y.d0, .slice A1 x1.length c1, .slice A2 y.l2.length c2, .slice none 0 0, .slice none 0 0, .slice none 0 0, .slice none 0 0, .int .i64 0, .int .i64 0, .int .i64 0, .int .i64 0, .slice none 0 0, .int .i64 0]) (blk_put (cs' := #[.int .i64 y.d0, .slice A1 x1.length c1, .slice none 0 0, .slice none 0 0, .slice none 0 0, .slice none 0 0, .slice none 0 0, .int .i64 0, .int .i64 0, .int .i64 0, .int .i64 0, .slice none 0 0, .int .i64 0]) (blk_put (cs' := #[.int .i64 y.d0, .slice none 0 0, .slice none 0 0, .slice none 0 0, .slice none 0 0, .slice none 0 0, .slice none 0 0, .int .i64 0, .int .i64 0, .int .i64 0, .int .i64 0, .slice none 0 0, .int .i64 0]) (blk_far (blk_far BR.out (p := ⟨w.heap.size + 1 + 1, 11, none⟩) (by simp) _) (p := ⟨w.heap.size + 1 + 1, 12, none⟩) (by simp) _) 0 (.int .i64 y.d0) rfl) 1 (.slice A1 x1.length c1) rfl) 2 (.slice A2 y.l2.length c2) rfl) 3 (.slice A3 y.l3.length c3) rfl) 4 (.slice A4 x4.length c4) rfl) 5 (.slice A5 y.l5.length c5) rfl) 6 (.slice A6 y.l6.length c6) rfl) 7 (.int .i64 y.d7) rfl) 8 (.int .i64 y.d8) rfl) 9 (.int .i64 y.d9) rfl) 10 (.int .i64 y.d10) rfl) 11 (.slice A11 x11.length c11) rfl) 12 (.int .i64 y.d12) rfl) Try.underlying42 rfl (by kernel_rfl)) rfl ?_
 have hk : Kept w8 (((((((((((((((w8.setCell ⟨w.heap.size + 1 + 1, 11, none⟩ (.slice A11 x11.length c11)).setCell ⟨w.heap.size + 1 + 1, 12, none⟩ (.int .i64 y.d12)).setCell ⟨w.heap.size + 1, 0, none⟩ (.int .i64 y.d0)).setCell ⟨w.heap.size + 1, 1, none⟩ (.slice A1 x1.length c1)).setCell ⟨w.heap.size + 1, 2, none⟩ (.slice A2 y.l2.length c2)).setCell ⟨w.heap.size + 1, 3, none⟩ (.slice A3 y.l3.length c3)).setCell ⟨w.heap.size + 1, 4, none⟩ (.slice A4 x4.length c4)).setCell ⟨w.heap.size + 1, 5, none⟩ (.slice A5 y.l5.length c5)).setCell ⟨w.heap.size + 1, 6, none⟩ (.slice A6 y.l6.length c6)).setCell ⟨w.heap.size + 1, 7, none⟩ (.int .i64 y.d7)).setCell ⟨w.heap.size + 1, 8, none⟩ (.int .i64 y.d8)).setCell ⟨w.heap.size + 1, 9, none⟩ (.int .i64 y.d9)).setCell ⟨w.heap.size + 1, 10, none⟩ (.int .i64 y.d10)).setCell ⟨w.heap.size + 1, 11, none⟩ (.slice A11 x11.length c11)).setCell ⟨w.heap.size + 1, 12, none⟩ (.int .i64 y.d12)) (fun k => k = w.heap.size + 1 + 1 ∨ k = w.heap.size + 1) := Kept.setCell (Kept.setCell (Kept.setCell (Kept.setCell (Kept.setCell (Kept.setCell (Kept.setCell (Kept.setCell (Kept.setCell (Kept.setCell (Kept.setCell (Kept.setCell (Kept.setCell (Kept.setCell (Kept.setCell (Kept.refl _ _) (p := ⟨w.heap.size + 1 + 1, 11, none⟩) (Or.inl (Or.inl rfl)) (.slice A11 x11.length c11)) (p := ⟨w.heap.size + 1 + 1, 12, none⟩) (Or.inl (Or.inl rfl)) (.int .i64 y.d12)) (p := ⟨w.heap.size + 1, 0, none⟩) (Or.inl (Or.inr rfl)) (.int .i64 y.d0)) (p := ⟨w.heap.size + 1, 1, none⟩) (Or.inl (Or.inr rfl)) (.slice A1 x1.length c1)) (p := ⟨w.heap.size + 1, 2, none⟩) (Or.inl (Or.inr rfl)) (.slice A2 y.l2.length c2)) (p := ⟨w.heap.size + 1, 3, none⟩) (Or.inl (Or.inr rfl)) (.slice A3 y.l3.length c3)) (p := ⟨w.heap.size + 1, 4, none⟩) (Or.inl (Or.inr rfl)) (.slice A4 x4.length c4)) (p := ⟨w.heap.size + 1, 5, none⟩) (Or.inl (Or.inr rfl)) (.slice A5 y.l5.length c5)) (p := ⟨w.heap.size + 1, 6, none⟩) (Or.inl (Or.inr rfl)) (.slice A6 y.l6.length c6)) (p := ⟨w.heap.size + 1, 7, none⟩) (Or.inl (Or.inr rfl)) (.int .i64 y.d7)) (p := ⟨w.heap.size + 1, 8, none⟩) (Or.inl (Or.inr rfl)) (.int .i64 y.d8)) (p := ⟨w.heap.size + 1, 9, none⟩) (Or.inl (Or.inr rfl)) (.int .i64 y.d9)) (p := ⟨w.heap.size + 1, 10, none⟩) (Or.inl (Or.inr rfl)) (.int .i64 y.d10)) (p := ⟨w.heap.size + 1, 11, none⟩) (Or.inl (Or.inr rfl)) (.slice A11 x11.length c11)) (p := ⟨w.heap.size + 1, 12, none⟩) (Or.inl (Or.inr rfl)) (.int .i64 y.d12)
 have Z1 := (Kd.R_kept M1.out hk (fun k h h' => by have := HS.out; omega))
 have Z2 := (Kd.R_kept M2.out hk (fun k h h' => by have := HS.out; omega))
 have Z3 := (Kd.R_kept M3.out hk (fun k h h' => by have := HS.out; omega))
 have Z4 := (Kd.S_kept M4.out hk (fun k h h' => by have := HS.out; omega))
 have Z5 := (Kd.R_kept M5.out hk (fun k h h' => by have := HS.out; omega))
 have Z6 := (Kd.R_kept M6.out hk (fun k h h' => by have := HS.out; omega))
 have Z11 := (Kd.R_kept M11.out hk (fun k h h' => by have := HS.out; omega))
 have hbf : Below w.heap.size w (((((((((((((((w8.setCell ⟨w.heap.size + 1 + 1, 11, none⟩ (.slice A11 x11.length c11)).setCell ⟨w.heap.size + 1 + 1, 12, none⟩ (.int .i64 y.d12)).setCell ⟨w.heap.size + 1, 0, none⟩ (.int .i64 y.d0)).setCell ⟨w.heap.size + 1, 1, none⟩ (.slice A1 x1.length c1)).setCell ⟨w.heap.size + 1, 2, none⟩ (.slice A2 y.l2.length c2)).setCell ⟨w.heap.size + 1, 3, none⟩ (.slice A3 y.l3.length c3)).setCell ⟨w.heap.size + 1, 4, none⟩ (.slice A4 x4.length c4)).setCell ⟨w.heap.size + 1, 5, none⟩ (.slice A5 y.l5.length c5)).setCell ⟨w.heap.size + 1, 6, none⟩ (.slice A6 y.l6.length c6)).setCell ⟨w.heap.size + 1, 7, none⟩ (.int .i64 y.d7)).setCell ⟨w.heap.size + 1, 8, none⟩ (.int .i64 y.d8)).setCell ⟨w.heap.size + 1, 9, none⟩ (.int .i64 y.d9)).setCell ⟨w.heap.size + 1, 10, none⟩ (.int .i64 y.d10)).setCell ⟨w.heap.size + 1, 11, none⟩ (.slice A11 x11.length c11)).setCell ⟨w.heap.size + 1, 12, none⟩ (.int .i64 y.d12)) := below_set (below_set (below_set (below_set (below_set (below_set (below_set (below_set (below_set (below_set (below_set (below_set (below_set (below_set (below_set (HB.out) (by omega)) (by omega)) (by omega)) (by omega)) (by omega)) (by omega)) (by omega)) (by omega)) (by omega)) (by omega)) (by omega)) (by omega)) (by omega)) (by omega)) (by omega)
 have hszf := hk.1
 obtain rfl := HX1.out
 obtain rfl := HX4.out
 obtain rfl := HX11.out
 refine ⟨⟨A1, c1, A2, c2, A3, c3, A4, c4, A5, c5, A6, c6, A11, c11⟩, rfl, ⟨?z1, ?z2, ?z3, ?z4, ?z5, ?z6, ?z11⟩, hbf⟩
 case z1 => exact Kd.R_mono Z1 (fun k h => ⟨by have := HS.out; omega, by have := HS.out; omega⟩)
 case z2 => exact Kd.R_mono Z2 (fun k h => ⟨⟨by have := HS.out; omega, by have := HS.out; omega⟩, fun e_ => by have h2_ := Z3.1 k e_.symm; have := HS.out; omega, fun e_ => by have h2_ := Z5.1 k e_.symm; have := HS.out; omega, fun e_ => by have h2_ := Z6.1 k e_.symm; have := HS.out; omega⟩)
 case z3 => exact Kd.R_mono Z3 (fun k h => ⟨⟨by have := HS.out; omega, by have := HS.out; omega⟩, fun e_ => by have h2_ := Z2.1 k e_.symm; have := HS.out; omega, fun e_ => by have h2_ := Z5.1 k e_.symm; have := HS.out; omega, fun e_ => by have h2_ := Z6.1 k e_.symm; have := HS.out; omega⟩)
 case z4 => exact Kd.S_mono Z4 (fun k h => ⟨⟨by have := HS.out; omega, by have := HS.out; omega⟩, fun e_ => by have h2_ := Z2.1 k e_.symm; have := HS.out; omega, fun e_ => by have h2_ := Z3.1 k e_.symm; have := HS.out; omega, fun e_ => by have h2_ := Z5.1 k e_.symm; have := HS.out; omega, fun e_ => by have h2_ := Z6.1 k e_.symm; have := HS.out; omega⟩)
 case z5 => exact Kd.R_mono Z5 (fun k h => ⟨⟨by have := HS.out; omega, by have := HS.out; omega⟩, fun e_ => by have h2_ := Z2.1 k e_.symm; have := HS.out; omega, fun e_ => by have h2_ := Z3.1 k e_.symm; have := HS.out; omega, fun e_ => by have h2_ := Z6.1 k e_.symm; have := HS.out; omega⟩)
 case z6 => exact Kd.R_mono Z6 (fun k h => ⟨⟨by have := HS.out; omega, by have := HS.out; omega⟩, fun e_ => by have h2_ := Z2.1 k e_.symm; have := HS.out; omega, fun e_ => by have h2_ := Z3.1 k e_.symm; have := HS.out; omega, fun e_ => by have h2_ := Z5.1 k e_.symm; have := HS.out; omega⟩)
 case z11 => exact Kd.R_mono Z11 (fun k h => ⟨by have := HS.out; omega, by have := HS.out; omega⟩)
/-! ### wsz -/
set_option maxHeartbeats 8000000 in
set_option maxRecDepth 100000 in
theorem szWorld_c (y : LW) (q : LP) (w : World) (hq : y.Rd q w) (g1 : y.l1.length ≤ 9223372036854775807) (g2 : y.l2.length ≤ 9223372036854775807) (g3 : y.l3.length ≤ 9223372036854775807) (g4 : y.l4.length ≤ 9223372036854775807 ∧ ∀ p ∈ y.l4, p.f2.length ≤ 9223372036854775807) (g5 : y.l5.length ≤ 9223372036854775807) (g6 : y.l6.length ≤ 9223372036854775807) (g11 : y.l11.length ≤ 9223372036854775807) :
  Calls Try.prog 12 #[.agg (y.cells q), .int .i64 1048576] w fun e w' => ∃ r : Int, e = .returned (.int .i64 r) ∧ (0 ≤ r → y.Ok) ∧ Below w.heap.size w w' := by
 have hv := Try.underlying31
 have hv2 := Try.underlying24
 have HQ := Aside0.mk hq
 clear hq
 go_enter Try.func12, Try.ntmps12
 have h0a : 0 ≤ (1048576 : Int) := by omega
 have h1a : (1048576 : Int) ≤ 1048576 := by omega
 obtain ⟨r1, hr1⟩ : ∃ r_, r_ = leftL y.l1 1048576 := ⟨_, rfl⟩
 have hle1 : r1 ≤ 1048576 := by rw [hr1]; exact Int.le_trans (leftL_le y.l1 h0a) h1a
 have E1 := Aside0.mk (show laws_szNet.f y.d0 y.l1 1048576 = some r1 from by rw [hr1]; exact szNet_eq y.d0 y.l1 1048576 h0a h1a g1)
 have O1 := Aside0.mk (fun h => leftL_ok' h1a (by rw [← hr1]; exact h) : 0 ≤ r1 → y.l1.length ≤ 1048576); clear hr1
 clear h0a h1a
 go_wp2_with fail
 go_at_call 51; (with_reducible refine (laws_szNet.calls y.d0 q.A1 q.c1 y.l1 1048576 r1 _ ?s0 HQ.out.h1 E1.out).mono ?_); (case s0 => exact (HQ.out.below (by repeat (first | (with_reducible first | exact Below.refl _ _ | apply below_alloc | apply pw_below_drewN | apply below_drew1) | exact Below.refl _ _))).r1); rintro e w1 ⟨rfl, hb⟩
 have HB := Aside0.mk (below_step (w := w) (by repeat (first | (with_reducible first | exact Below.refl _ _ | apply below_alloc | apply pw_below_drewN | apply below_drew1) | exact Below.refl _ _)) hb); have BY := Aside0.mk (show w1.heap[w.heap.size]? = some (.cells (y.cells q) 31 (0, 0)) from blk_below (by repeat (first | exact blk_new _ _ | refine blk_drewN ?_ _ | refine blk_alloc ?_ _)) hb); clear hb
 by_cases c1 : r1 < 0
 ·have d1 : decide (r1 < 0) = true := decide_eq_true c1
  go_wp2
  go_ret
  exact ⟨-1, rfl, fun h => by omega, (below_step HB.out (by repeat (first | (with_reducible first | exact Below.refl _ _ | apply below_alloc | apply pw_below_drewN | apply below_drew1) | exact Below.refl _ _)))⟩
 have d1 : decide (r1 < 0) = false := decide_eq_false c1
 obtain ⟨hy0, hy1, hy2, hy3, hy4, hy5, hy6, hy7, hy8, hy9, hy10, hy11, hy12⟩ := LW.at_ BY.out
 have h0a : 0 ≤ (r1 : Int) := by omega
 have h1a : (r1 : Int) ≤ 1048576 := by omega
 obtain ⟨r2, hr2⟩ : ∃ r_, r_ = leftL y.l2 r1 := ⟨_, rfl⟩
 have hle2 : r2 ≤ 1048576 := by rw [hr2]; exact Int.le_trans (leftL_le y.l2 h0a) h1a
 have E2 := Aside0.mk (show laws_szIntS.f y.l2 r1 = some r2 from by rw [hr2]; exact (szIntS_eq y.l2 r1 h0a h1a g2).trans (by rw [leftI_eq]))
 have O2 := Aside0.mk (fun h => leftL_ok' h1a (by rw [← hr2]; exact h) : 0 ≤ r2 → y.l2.length ≤ 1048576); clear hr2
 clear h0a h1a
 go_wp2_with fail
 go_at_call 64; (with_reducible refine (laws_szIntS.calls q.A2 q.c2 y.l2 r1 r2 _ ?s0 HQ.out.h2 E2.out).mono ?_); (case s0 => exact (HQ.out.below (below_step HB.out (by repeat (first | (with_reducible first | exact Below.refl _ _ | apply below_alloc | apply pw_below_drewN | apply below_drew1) | exact Below.refl _ _)))).r2); rintro e w' ⟨rfl, ⟨nd, rfl⟩⟩
 clear hy0 hy1 hy2 hy3 hy4 hy5 hy6 hy7 hy8 hy9 hy10 hy11 hy12
 by_cases c2 : r2 < 0
 ·have d2 : decide (r2 < 0) = true := decide_eq_true c2
  go_wp2
  go_ret
  exact ⟨-1, rfl, fun h => by omega, (below_step HB.out (by repeat (first | (with_reducible first | exact Below.refl _ _ | apply below_alloc | apply pw_below_drewN | apply below_drew1) | exact Below.refl _ _)))⟩
 have d2 : decide (r2 < 0) = false := decide_eq_false c2
 obtain ⟨hy0, hy1, hy2, hy3, hy4, hy5, hy6, hy7, hy8, hy9, hy10, hy11, hy12⟩ := LW.at_ BY.out
 have h0a : 0 ≤ (r2 : Int) := by omega
 have h1a : (r2 : Int) ≤ 1048576 := by omega
 obtain ⟨r3, hr3⟩ : ∃ r_, r_ = leftL y.l3 r2 := ⟨_, rfl⟩
 have hle3 : r3 ≤ 1048576 := by rw [hr3]; exact Int.le_trans (leftL_le y.l3 h0a) h1a
 have E3 := Aside0.mk (show laws_szIntS.f y.l3 r2 = some r3 from by rw [hr3]; exact (szIntS_eq y.l3 r2 h0a h1a g3).trans (by rw [leftI_eq]))
 have O3 := Aside0.mk (fun h => leftL_ok' h1a (by rw [← hr3]; exact h) : 0 ≤ r3 → y.l3.length ≤ 1048576); clear hr3
 clear h0a h1a
 go_wp2_with fail
 go_at_call 64; (with_reducible refine (laws_szIntS.calls q.A3 q.c3 y.l3 r2 r3 _ ?s0 HQ.out.h3 E3.out).mono ?_); (case s0 => exact (HQ.out.below (below_step HB.out (by repeat (first | (with_reducible first | exact Below.refl _ _ | apply below_alloc | apply pw_below_drewN | apply below_drew1) | exact Below.refl _ _)))).r3); rintro e w' ⟨rfl, ⟨nd, rfl⟩⟩
 clear hy0 hy1 hy2 hy3 hy4 hy5 hy6 hy7 hy8 hy9 hy10 hy11 hy12
 by_cases c3 : r3 < 0
 ·have d3 : decide (r3 < 0) = true := decide_eq_true c3
  go_wp2
  go_ret
  exact ⟨-1, rfl, fun h => by omega, (below_step HB.out (by repeat (first | (with_reducible first | exact Below.refl _ _ | apply below_alloc | apply pw_below_drewN | apply below_drew1) | exact Below.refl _ _)))⟩
 have d3 : decide (r3 < 0) = false := decide_eq_false c3
 obtain ⟨hy0, hy1, hy2, hy3, hy4, hy5, hy6, hy7, hy8, hy9, hy10, hy11, hy12⟩ := LW.at_ BY.out
 have h0a : 0 ≤ (r3 : Int) := by omega
 have h1a : (r3 : Int) ≤ 1048576 := by omega
 obtain ⟨r4, he4, hle4, hok4⟩ := szProbeS_ev y.l4 r3 h0a h1a g4.1 g4.2
 obtain ⟨k4, hk4⟩ := he4.rounds
 have E4 := Aside0.mk hk4; have O4 := Aside0.mk hok4; clear hk4 hok4 he4
 clear h0a h1a
 go_wp2_with fail
 go_at_call 65; (with_reducible refine (laws_szProbeS.calls k4 q.A4 q.c4 y.l4 r3 r4 _ ?s0 HQ.out.h4 E4.out).mono ?_); (case s0 => exact (HQ.out.below (below_step HB.out (by repeat (first | (with_reducible first | exact Below.refl _ _ | apply below_alloc | apply pw_below_drewN | apply below_drew1) | exact Below.refl _ _)))).r4); rintro e w4 ⟨rfl, hb⟩
 have hs := below_step (w := w1) (by repeat (first | (with_reducible first | exact Below.refl _ _ | apply below_alloc | apply pw_below_drewN | apply below_drew1) | exact Below.refl _ _)) hb; have HB2 := Aside0.mk (below_step HB.out hs); have BY2 := Aside0.mk (blk_below BY.out hs); clear HB BY hb hs hy0 hy1 hy2 hy3 hy4 hy5 hy6 hy7 hy8 hy9 hy10 hy11 hy12; have HB := HB2; have BY := BY2; clear HB2 BY2
 by_cases c4 : r4 < 0
 ·have d4 : decide (r4 < 0) = true := decide_eq_true c4
  go_wp2
  go_ret
  exact ⟨-1, rfl, fun h => by omega, (below_step HB.out (by repeat (first | (with_reducible first | exact Below.refl _ _ | apply below_alloc | apply pw_below_drewN | apply below_drew1) | exact Below.refl _ _)))⟩
 have d4 : decide (r4 < 0) = false := decide_eq_false c4
 obtain ⟨hy0, hy1, hy2, hy3, hy4, hy5, hy6, hy7, hy8, hy9, hy10, hy11, hy12⟩ := LW.at_ BY.out
 have h0a : 0 ≤ (r4 : Int) := by omega
 have h1a : (r4 : Int) ≤ 1048576 := by omega
 obtain ⟨r5, hr5⟩ : ∃ r_, r_ = leftL y.l5 r4 := ⟨_, rfl⟩
 have hle5 : r5 ≤ 1048576 := by rw [hr5]; exact Int.le_trans (leftL_le y.l5 h0a) h1a
 have E5 := Aside0.mk (show laws_szIntS.f y.l5 r4 = some r5 from by rw [hr5]; exact (szIntS_eq y.l5 r4 h0a h1a g5).trans (by rw [leftI_eq]))
 have O5 := Aside0.mk (fun h => leftL_ok' h1a (by rw [← hr5]; exact h) : 0 ≤ r5 → y.l5.length ≤ 1048576); clear hr5
 clear h0a h1a
 go_wp2_with fail
 go_at_call 64; (with_reducible refine (laws_szIntS.calls q.A5 q.c5 y.l5 r4 r5 _ ?s0 HQ.out.h5 E5.out).mono ?_); (case s0 => exact (HQ.out.below (below_step HB.out (by repeat (first | (with_reducible first | exact Below.refl _ _ | apply below_alloc | apply pw_below_drewN | apply below_drew1) | exact Below.refl _ _)))).r5); rintro e w' ⟨rfl, ⟨nd, rfl⟩⟩
 clear hy0 hy1 hy2 hy3 hy4 hy5 hy6 hy7 hy8 hy9 hy10 hy11 hy12
 by_cases c5 : r5 < 0
 ·have d5 : decide (r5 < 0) = true := decide_eq_true c5
  go_wp2
  go_ret
  exact ⟨-1, rfl, fun h => by omega, (below_step HB.out (by repeat (first | (with_reducible first | exact Below.refl _ _ | apply below_alloc | apply pw_below_drewN | apply below_drew1) | exact Below.refl _ _)))⟩
 have d5 : decide (r5 < 0) = false := decide_eq_false c5
 obtain ⟨hy0, hy1, hy2, hy3, hy4, hy5, hy6, hy7, hy8, hy9, hy10, hy11, hy12⟩ := LW.at_ BY.out
 have h0a : 0 ≤ (r5 : Int) := by omega
 have h1a : (r5 : Int) ≤ 1048576 := by omega
 obtain ⟨r6, hr6⟩ : ∃ r_, r_ = leftL y.l6 r5 := ⟨_, rfl⟩
 have hle6 : r6 ≤ 1048576 := by rw [hr6]; exact Int.le_trans (leftL_le y.l6 h0a) h1a
 have E6 := Aside0.mk (show laws_szIntS.f y.l6 r5 = some r6 from by rw [hr6]; exact (szIntS_eq y.l6 r5 h0a h1a g6).trans (by rw [leftI_eq]))
 have O6 := Aside0.mk (fun h => leftL_ok' h1a (by rw [← hr6]; exact h) : 0 ≤ r6 → y.l6.length ≤ 1048576); clear hr6
 clear h0a h1a
 go_wp2_with fail
 go_at_call 64; (with_reducible refine (laws_szIntS.calls q.A6 q.c6 y.l6 r5 r6 _ ?s0 HQ.out.h6 E6.out).mono ?_); (case s0 => exact (HQ.out.below (below_step HB.out (by repeat (first | (with_reducible first | exact Below.refl _ _ | apply below_alloc | apply pw_below_drewN | apply below_drew1) | exact Below.refl _ _)))).r6); rintro e w' ⟨rfl, ⟨nd, rfl⟩⟩
 clear hy0 hy1 hy2 hy3 hy4 hy5 hy6 hy7 hy8 hy9 hy10 hy11 hy12
 by_cases c6 : r6 < 0
 ·have d6 : decide (r6 < 0) = true := decide_eq_true c6
  go_wp2
  go_ret
  exact ⟨-1, rfl, fun h => by omega, (below_step HB.out (by repeat (first | (with_reducible first | exact Below.refl _ _ | apply below_alloc | apply pw_below_drewN | apply below_drew1) | exact Below.refl _ _)))⟩
 have d6 : decide (r6 < 0) = false := decide_eq_false c6
 obtain ⟨hy0, hy1, hy2, hy3, hy4, hy5, hy6, hy7, hy8, hy9, hy10, hy11, hy12⟩ := LW.at_ BY.out
 have h0a : 0 ≤ (r6 : Int) := by omega
 have h1a : (r6 : Int) ≤ 1048576 := by omega
 obtain ⟨r11, hr11⟩ : ∃ r_, r_ = leftL y.l11 r6 := ⟨_, rfl⟩
 have hle11 : r11 ≤ 1048576 := by rw [hr11]; exact Int.le_trans (leftL_le y.l11 h0a) h1a
 have E11 := Aside0.mk (show laws_szSeenS.f y.l11 r6 = some r11 from by rw [hr11]; exact szSeenS_eq y.l11 r6 h0a h1a g11)
 have O11 := Aside0.mk (fun h => leftL_ok' h1a (by rw [← hr11]; exact h) : 0 ≤ r11 → y.l11.length ≤ 1048576); clear hr11
 clear h0a h1a
 go_wp2_with fail
 go_at_call 66; (with_reducible refine (laws_szSeenS.calls q.A11 q.c11 y.l11 r6 r11 _ ?s0 HQ.out.h11 E11.out).mono ?_); (case s0 => exact (HQ.out.below (below_step HB.out (by repeat (first | (with_reducible first | exact Below.refl _ _ | apply below_alloc | apply pw_below_drewN | apply below_drew1) | exact Below.refl _ _)))).r11); rintro e w' ⟨rfl, ⟨nd, rfl⟩⟩
 clear hy0 hy1 hy2 hy3 hy4 hy5 hy6 hy7 hy8 hy9 hy10 hy11 hy12
 by_cases c11 : r11 < 0
 ·have d11 : decide (r11 < 0) = true := decide_eq_true c11
  go_wp2
  go_ret
  exact ⟨-1, rfl, fun h => by omega, (below_step HB.out (by repeat (first | (with_reducible first | exact Below.refl _ _ | apply below_alloc | apply pw_below_drewN | apply below_drew1) | exact Below.refl _ _)))⟩
 have d11 : decide (r11 < 0) = false := decide_eq_false c11
 go_wp2
 go_ret
 exact ⟨r11, rfl, fun _ => ⟨O1.out (by omega), O2.out (by omega), O3.out (by omega), O4.out (by omega), O5.out (by omega), O6.out (by omega), O11.out (by omega)⟩, (below_step HB.out (by repeat (first | (with_reducible first | exact Below.refl _ _ | apply below_alloc | apply pw_below_drewN | apply below_drew1) | exact Below.refl _ _)))⟩
/-! ### has -/
def hasB (l : List Int) (v : Int) : Bool := l.any fun x => decide (x = v)
theorem spec_l7Has_l0 (v : Int) : ∀ (suf pre : List Int), (pre ++ suf).length ≤ 1048576 → Ev (fun k => spec_l7Has.l0 k (pre ++ suf) v (pre.length : Int)) (hasB suf v) := by
 intro suf
 induction suf with
 | nil =>
  intro pre hb
  refine Ev.step (fun k => by rw [spec_l7Has.l0]) ?_
  exact evNeg (by simp) (Ev.now _)
 | cons x suf ih =>
  intro pre hb
  simp only [List.length_append, List.length_cons] at hb
  refine Ev.step (fun k => by rw [spec_l7Has.l0]) ?_
  refine evPos (by simp only [List.length_append, List.length_cons]; omega) (evPos (by omega) ?_)
  rw [rd_mid, wsucc (by omega)]
  by_cases hx : x = v
  ·refine evPos hx (evEq ?_ (Ev.now _))
   simp [hasB, hx]
  ·have h := ih (pre ++ [x]) (by simp; omega)
   refine evNeg hx (evEq ?_ (Ev.congr (fun k => ?_) h))
   ·simp [hasB, hx]
   ·simp
theorem spec_l7Has_ev (l : List Int) (v : Int) (hl : l.length ≤ 1048576) : Ev (fun k => spec_l7Has.f k l v) (hasB l v) := by
 unfold spec_l7Has.f
 exact spec_l7Has_l0 v l [] (by simpa using hl)
theorem slices_Index_l0 (v : Int) : ∀ (suf pre : List Int), (pre ++ suf).length ≤ 1048576 →
  ∃ r, Ev (fun k => slices_Index_int_int.l0 k (pre ++ suf) v ((pre ++ suf).length : Int) (pre.length : Int)) r ∧ decide (r ≥ 0) = hasB suf v := by
 intro suf
 induction suf with
 | nil =>
  intro pre hb
  exact ⟨-1, Ev.step (fun k => by rw [slices_Index_int_int.l0]) (evNeg (by simp) (Ev.now _)), rfl⟩
 | cons x suf ih =>
  intro pre hb
  simp only [List.length_append, List.length_cons] at hb
  by_cases hx : v = x
  ·refine ⟨(pre.length : Int), Ev.step (fun k => by rw [slices_Index_int_int.l0]) ?_, ?_⟩
   ·refine evPos (by simp only [List.length_append, List.length_cons]; omega) (evPos (by omega) (evPos (by simp only [List.length_append, List.length_cons]; omega) ?_))
    rw [rd_mid]
    exact evPos hx (Ev.now _)
   ·simp [hasB, hx]
  ·obtain ⟨r, h, e⟩ := ih (pre ++ [x]) (by simp; omega)
   refine ⟨r, Ev.step (fun k => by rw [slices_Index_int_int.l0]) ?_, ?_⟩
   ·refine evPos (by simp only [List.length_append, List.length_cons]; omega) (evPos (by omega) (evPos (by simp only [List.length_append, List.length_cons]; omega) ?_))
    rw [rd_mid, wsucc (by omega)]
    exact evNeg hx (Ev.congr (fun k => by simp) h)
   ·rw [e]
    have : ¬ x = v := fun c => hx c.symm
    simp [hasB, this]
theorem slices_Contains_ev (l : List Int) (v : Int) (hl : l.length ≤ 1048576) : Ev (fun k => slices_Contains_int_int.f k l v) (hasB l v) := by
 unfold slices_Contains_int_int.f slices_Index_int_int.f
 obtain ⟨r, h, e⟩ := slices_Index_l0 v l [] (by simpa using hl)
 exact Ev.bind h (evEq e (Ev.now _))
/-! ### at -/
theorem impl_at_eq (a n : Int) : impl_at.f a n = some (decide (0 ≤ a ∧ a < n)) := by
 unfold impl_at.f
 by_cases h : a ≥ 0
 ·rw [if_pos h]
  simp [show 0 ≤ a from h]
 ·rw [if_neg h]
  have : ¬ 0 ≤ a := h
  simp [this]
/-! ### inrange -/
theorem impl_InRange_eq (a b c : Int) : impl_InRange.f a b c = some (decide (b ≤ a ∧ a ≤ c)) := by
 unfold impl_InRange.f
 by_cases h : b ≤ a
 ·rw [if_pos h]
  simp [h]
 ·rw [if_neg h]
  simp [h]
/-! ### small -/
theorem spec_l1In_eq (a b c : Int) : spec_l1In.f a b c = some (decide (b ≤ a ∧ a ≤ c)) := by
 unfold spec_l1In.f
 by_cases h : a ≥ b
 ·rw [if_pos h]
  simp [show b ≤ a from h]
 ·rw [if_neg h]
  have : ¬ b ≤ a := h
  simp [this]
/-! ### paths -/
def endF (lk : List S133) : List Int → Int → Int
 | [], a => a
 | x :: xs, a => if 0 ≤ x ∧ x < (lk.length : Int) then (if a = (rd_T133 lk x).f0 then endF lk xs (rd_T133 lk x).f1 else if a = (rd_T133 lk x).f1 then endF lk xs (rd_T133 lk x).f0 else -1) else -1
theorem impl_EndOf_l0 (nd : Int) (lk : List S133) : ∀ (suf pre : List Int) (a : Int), (pre ++ suf).length ≤ 1048576 →
  Ev (fun k => impl_EndOf.l0 k a (pre ++ suf) ((pre ++ suf).length : Int) (pre.length : Int) nd lk) (endF lk suf a) := by
 intro suf
 induction suf with
 | nil =>
  intro pre a hb
  refine Ev.step (fun k => by rw [impl_EndOf.l0]) ?_
  exact evNeg (by simp) (evEq (by simp [endF]) (Ev.now _))
 | cons x suf ih =>
  intro pre a hb
  simp only [List.length_append, List.length_cons] at hb
  have h := fun b => ih (pre ++ [x]) b (by simp; omega)
  refine Ev.step (fun k => by rw [impl_EndOf.l0]) ?_
  refine evPos (by simp only [List.length_append, List.length_cons]; omega) (evPos (by omega) (evPos (by simp only [List.length_append, List.length_cons]; omega) ?_))
  rw [rd_mid, wsucc (by omega)]
  refine evSome (impl_at_eq _ _) ?_
  by_cases hx : 0 ≤ x ∧ x < (lk.length : Int)
  ·refine evPos (by simpa using hx) (evPos hx.1 (evPos hx.2 ?_))
   by_cases h1 : a = (rd_T133 lk x).f0
   ·refine evPos h1 (evSome (a := (rd_T133 lk x).f1) (by unfold impl_Link_across.f; rw [if_pos h1]) (evEq ?_ (Ev.congr (fun k => ?_) (h (rd_T133 lk x).f1))))
    ·rw [endF, if_pos hx, if_pos h1]
    ·simp
   ·refine evNeg h1 ?_
    by_cases h2 : a = (rd_T133 lk x).f1
    ·refine evPos h2 (evSome (a := (rd_T133 lk x).f0) (by unfold impl_Link_across.f; rw [if_neg h1, if_pos h2]) (evEq ?_ (Ev.congr (fun k => ?_) (h (rd_T133 lk x).f0))))
     ·rw [endF, if_pos hx, if_neg h1, if_pos h2]
     ·simp
    ·exact evNeg h2 (evEq (by rw [endF, if_pos hx, if_neg h1, if_neg h2]) (Ev.now _))
  ·exact evNeg (by simpa using hx) (evEq (by rw [endF, if_neg hx]) (Ev.now _))
theorem impl_EndOf_ev (nd : Int) (lk : List S133) (path : List Int) (a : Int) (hl : path.length ≤ 1048576) : Ev (fun k => impl_EndOf.f k nd lk path a) (endF lk path a) := by
 have h := impl_EndOf_l0 nd lk path [] a (by simpa using hl)
 simpa [impl_EndOf.f] using h
theorem spec_EndOf_l0 (nd : Int) (lk : List S133) (hlk : lk.length ≤ 1048576) : ∀ (suf pre : List Int) (a : Int), (pre ++ suf).length ≤ 1048576 →
  Ev (fun k => spec_EndOf.l0 k (pre ++ suf) a (pre.length : Int) nd lk) (endF lk suf a) := by
 intro suf
 induction suf with
 | nil =>
  intro pre a hb
  refine Ev.step (fun k => by rw [spec_EndOf.l0]) ?_
  exact evNeg (by simp) (evEq (by simp [endF]) (Ev.now _))
 | cons x suf ih =>
  intro pre a hb
  simp only [List.length_append, List.length_cons] at hb
  have h := fun b => ih (pre ++ [x]) b (by simp; omega)
  refine Ev.step (fun k => by rw [spec_EndOf.l0]) ?_
  refine evPos (by simp only [List.length_append, List.length_cons]; omega) (evPos (by omega) ?_)
  rw [rd_mid, wsucc (by omega), w64 (n := (lk.length : Int) - 1) (by omega) (by omega)]
  refine evSome (spec_l1In_eq _ _ _) ?_
  by_cases hx : 0 ≤ x ∧ x < (lk.length : Int)
  ·refine evPos (by rw [decide_eq_true_eq]; omega) (evPos hx.1 (evPos hx.2 ?_))
   by_cases h1 : a = (rd_T133 lk x).f0
   ·refine evPos h1 (evEq ?_ (Ev.congr (fun k => ?_) (h (rd_T133 lk x).f1)))
    ·rw [endF, if_pos hx, if_pos h1]
    ·simp
   ·refine evNeg h1 ?_
    by_cases h2 : a = (rd_T133 lk x).f1
    ·refine evPos h2 (evEq ?_ (Ev.congr (fun k => ?_) (h (rd_T133 lk x).f0)))
     ·rw [endF, if_pos hx, if_neg h1, if_pos h2]
     ·simp
    ·exact evNeg h2 (evEq (by rw [endF, if_pos hx, if_neg h1, if_neg h2]) (Ev.now _))
  ·exact evNeg (by rw [decide_eq_true_eq]; omega) (evEq (by rw [endF, if_neg hx]) (Ev.now _))
theorem spec_EndOf_ev (nd : Int) (lk : List S133) (hlk : lk.length ≤ 1048576) (path : List Int) (a : Int) (hl : path.length ≤ 1048576) : Ev (fun k => spec_EndOf.f k nd lk path a) (endF lk path a) := by
 have h := spec_EndOf_l0 nd lk hlk path [] a (by simpa using hl)
 simpa [spec_EndOf.f] using h
def noRep : List Int → List Int → Bool
 | _, [] => true
 | pre, x :: suf => !hasB pre x && noRep (pre ++ [x]) suf
def pathB (lk : List S133) (path : List Int) (a b : Int) : Bool := noRep [] path && (decide (endF lk path a = b) && (decide (path.length = 0) || decide (0 ≤ b)))
theorem impl_IsPath_l0 (nd : Int) (lk : List S133) (path : List Int) (a b : Int) (hl : path.length ≤ 1048576) : ∀ (suf pre : List Int), path = pre ++ suf →
  Ev (fun k => impl_IsPath.l0 k path a b path (path.length : Int) (pre.length : Int) nd lk) (noRep pre suf && (decide (endF lk path a = b) && (decide (path.length = 0) || decide (0 ≤ b)))) := by
 intro suf
 induction suf with
 | nil =>
  intro pre e
  have el : path.length = pre.length := by rw [e]; simp
  refine Ev.step (fun k => by rw [impl_IsPath.l0]) ?_
  refine evNeg (by omega) (Ev.bind (impl_EndOf_ev nd lk path a hl) ?_)
  by_cases h1 : endF lk path a = b
  ·refine evPos h1 ?_
   by_cases h2 : path.length = 0
   ·exact evPos (by omega) (evEq (by simp [noRep, h1, h2]) (Ev.now _))
   ·exact evNeg (by omega) (evEq (by simp [noRep, h1, h2]) (Ev.now _))
  ·exact evNeg h1 (evEq (by simp [noRep, h1]) (Ev.now _))
 | cons x suf ih =>
  intro pre e
  have el : path.length = pre.length + (suf.length + 1) := by rw [e]; simp
  have h := ih (pre ++ [x]) (by rw [e]; simp)
  have hr : rd path (pre.length : Int) = x := by rw [e]; exact rd_mid pre suf x
  have ht : path.take ((pre.length : Int)).toNat = pre := by rw [e]; simp
  refine Ev.step (fun k => by rw [impl_IsPath.l0]) ?_
  refine evPos (by omega) (evPos (by omega) (evPos (by omega) (evPos (by omega) ?_)))
  rw [hr, ht, wsucc (by omega)]
  refine Ev.bind (slices_Contains_ev pre x (by omega)) ?_
  by_cases hb : hasB pre x = true
  ·exact evPos hb (evEq (by simp [noRep, hb]) (Ev.now _))
  ·refine evNeg hb (evEq ?_ (Ev.congr (fun k => ?_) h))
   ·simp [noRep, hb]
   ·simp
theorem impl_IsPath_ev (nd : Int) (lk : List S133) (path : List Int) (a b : Int) (hl : path.length ≤ 1048576) : Ev (fun k => impl_IsPath.f k nd lk path a b) (pathB lk path a b) := by
 have h := impl_IsPath_l0 nd lk path a b hl path [] rfl
 simpa [impl_IsPath.f, pathB] using h
theorem spec_IsPath_l0 (nd : Int) (lk : List S133) (hlk : lk.length ≤ 1048576) (path : List Int) (a b : Int) (hl : path.length ≤ 1048576) : ∀ (suf pre : List Int), path = pre ++ suf →
  Ev (fun k => spec_IsPath.l0 k path a b (pre.length : Int) nd lk) (noRep pre suf && (decide (endF lk path a = b) && (decide (path.length = 0) || decide (0 ≤ b)))) := by
 intro suf
 induction suf with
 | nil =>
  intro pre e
  have el : path.length = pre.length := by rw [e]; simp
  refine Ev.step (fun k => by rw [spec_IsPath.l0]) ?_
  refine evNeg (by omega) (Ev.bind (spec_EndOf_ev nd lk hlk path a hl) ?_)
  by_cases h1 : endF lk path a = b
  ·refine evPos h1 ?_
   by_cases h2 : 0 ≤ b
   ·exact evPos h2 (evEq (by simp [noRep, h1, h2]) (Ev.now _))
   ·refine evNeg h2 (evEq ?_ (Ev.now _))
    by_cases h3 : path.length = 0
    ·simp [noRep, h1, h2, h3]
    ·have h4 : ((path.length : Int) == 0) = false := by rw [beq_eq_false_iff_ne]; omega
     rw [h4, noRep, decide_eq_true h1, decide_eq_false h3, decide_eq_false h2]
     rfl
  ·exact evNeg h1 (evEq (by simp [noRep, h1]) (Ev.now _))
 | cons x suf ih =>
  intro pre e
  have el : path.length = pre.length + (suf.length + 1) := by rw [e]; simp
  have h := ih (pre ++ [x]) (by rw [e]; simp)
  have hr : rd path (pre.length : Int) = x := by rw [e]; exact rd_mid pre suf x
  have ht : path.take ((pre.length : Int)).toNat = pre := by rw [e]; simp
  refine Ev.step (fun k => by rw [spec_IsPath.l0]) ?_
  refine evPos (by omega) (evPos (by omega) (evPos (by omega) ?_))
  rw [hr, ht, wsucc (by omega)]
  refine Ev.bind (spec_l7Has_ev pre x (by omega)) ?_
  by_cases hb : hasB pre x = true
  ·exact evPos hb (evEq (by simp [noRep, hb]) (Ev.now _))
  ·refine evNeg hb (evEq ?_ (Ev.congr (fun k => ?_) h))
   ·simp [noRep, hb]
   ·simp
theorem spec_IsPath_ev (nd : Int) (lk : List S133) (hlk : lk.length ≤ 1048576) (path : List Int) (a b : Int) (hl : path.length ≤ 1048576) : Ev (fun k => spec_IsPath.f k nd lk path a b) (pathB lk path a b) := by
 have h := spec_IsPath_l0 nd lk hlk path a b hl path [] rfl
 simpa [spec_IsPath.f, pathB] using h
/-! ### sortlaw -/
def insI (x : Int) (S : List Int) : List Int := S.takeWhile (fun y => decide (y ≤ x)) ++ x :: S.dropWhile (fun y => decide (y ≤ x))
def sortI (l : List Int) : List Int := l.foldl (fun S x => insI x S) []
theorem insI_perm (x : Int) (S : List Int) : (insI x S).Perm (x :: S) := by
 unfold insI
 refine (List.perm_middle).trans (List.Perm.cons x ?_)
 rw [List.takeWhile_append_dropWhile]
theorem sortI_perm_go : ∀ (l S : List Int), (l.foldl (fun S x => insI x S) S).Perm (S ++ l)
 | [], S => by simp
 | x :: l, S => by
  simp only [List.foldl_cons]
  refine (sortI_perm_go l (insI x S)).trans ?_
  refine ((insI_perm x S).append_right l).trans ?_
  exact (List.perm_middle (a := x) (l₁ := S) (l₂ := l)).symm
theorem sortI_perm (l : List Int) : (sortI l).Perm l := by simpa [sortI] using sortI_perm_go l []
theorem insI_sorted (x : Int) : ∀ (S : List Int), S.Pairwise (· ≤ ·) → (insI x S).Pairwise (· ≤ ·)
 | [], _ => by simp [insI]
 | y :: S, h => by
  rw [List.pairwise_cons] at h
  by_cases hy : y ≤ x
  ·have ih := insI_sorted x S h.2
   have e : insI x (y :: S) = y :: insI x S := by simp [insI, hy]
   rw [e, List.pairwise_cons]
   refine ⟨fun z hz => ?_, ih⟩
   have hz' := (insI_perm x S).mem_iff.1 hz
   rcases List.mem_cons.1 hz' with rfl | hz'
   ·exact hy
   ·exact h.1 z hz'
  ·have e : insI x (y :: S) = x :: y :: S := by simp [insI, hy]
   rw [e, List.pairwise_cons]
   refine ⟨fun z hz => ?_, List.pairwise_cons.2 h⟩
   rcases List.mem_cons.1 hz with rfl | hz'
   ·omega
   ·have := h.1 z hz'; omega
theorem sortI_sorted_go : ∀ (l S : List Int), S.Pairwise (· ≤ ·) → (l.foldl (fun S x => insI x S) S).Pairwise (· ≤ ·)
 | [], _, h => h
 | x :: l, S, h => sortI_sorted_go l _ (insI_sorted x S h)
theorem sortI_sorted (l : List Int) : (sortI l).Pairwise (· ≤ ·) := sortI_sorted_go l [] List.Pairwise.nil
theorem sorted_unique : ∀ {l m : List Int}, l.Perm m → l.Pairwise (· ≤ ·) → m.Pairwise (· ≤ ·) → l = m
 | [], m, hp, _, _ => by simpa using hp.symm.eq_nil.symm
 | x :: l, [], hp, _, _ => by simpa using hp.eq_nil
 | x :: l, y :: m, hp, hl, hm => by
  rw [List.pairwise_cons] at hl hm
  have hx : x ≤ y := by
   rcases List.mem_cons.1 (hp.mem_iff.2 (List.mem_cons_self (a := y) (l := m))) with h | h
   ·omega
   ·exact hl.1 y h
  have hy : y ≤ x := by
   rcases List.mem_cons.1 (hp.mem_iff.1 (List.mem_cons_self (a := x) (l := l))) with h | h
   ·omega
   ·exact hm.1 x h
  obtain rfl : x = y := by omega
  rw [sorted_unique ((List.perm_cons x).1 hp) hl.2 hm.2]
theorem sortI_eq (l : List Int) : sortI l = l.mergeSort fun x y => decide (x ≤ y) := by
 refine sorted_unique ((sortI_perm l).trans (List.mergeSort_perm l _).symm) (sortI_sorted l) ?_
 have h := List.pairwise_mergeSort (le := fun x y : Int => decide (x ≤ y)) (by intro a b c h1 h2; simp at h1 h2 ⊢; omega) (by intro a b; simp; omega) l
 simpa using h
/-! ### eqworlds -/
def eqLst {α : Type} (e : α → α → Bool) : List α → List α → Bool
 | [], [] => true
 | x :: xs, y :: ys => e x y && eqLst e xs ys
 | _, _ => false
theorem eqLst_len {α : Type} (e : α → α → Bool) : ∀ (xs ys : List α), ¬ (xs.length : Int) = (ys.length : Int) → eqLst e xs ys = false
 | [], [], h => by simp at h
 | [], _ :: _, _ => rfl
 | _ :: _, [], _ => rfl
 | x :: xs, y :: ys, h => by
  rw [eqLst, eqLst_len e xs ys (by simpa using h)]
  simp
theorem ev_eqdrop {α : Type} (e : α → α → Bool) (L : Nat → Int → Option Bool) (xs ys : List α) (R : Bool) (hl : (xs.length : Int) = (ys.length : Int)) (hend : Ev (fun k => L k (xs.length : Int)) R)
  (hstep : ∀ (i : Nat) (hi : i < xs.length) (hy : i < ys.length) (r : Bool), Ev (fun k => L k ((i + 1 : Nat) : Int)) r → Ev (fun k => L k (i : Int)) (e xs[i] ys[i] && r)) :
  ∀ (n i : Nat), xs.length - i = n → i ≤ xs.length → Ev (fun k => L k (i : Int)) (eqLst e (xs.drop i) (ys.drop i) && R) := by
 intro n
 induction n with
 | zero =>
  intro i hn hi
  have : i = xs.length := by omega
  subst this
  rw [List.drop_length, List.drop_eq_nil_of_le (by omega), eqLst]
  simpa using hend
 | succ n ih =>
  intro i hn hi
  have h := hstep i (by omega) (by omega) _ (ih (i + 1) (by omega) (by omega))
  rw [List.drop_eq_getElem_cons (show i < xs.length by omega), List.drop_eq_getElem_cons (show i < ys.length by omega), eqLst, Bool.and_assoc]
  exact h
theorem ev_eqloop {α : Type} (e : α → α → Bool) (L : Nat → Int → Option Bool) (xs ys : List α) (R : Bool) (hl : (xs.length : Int) = (ys.length : Int)) (hend : Ev (fun k => L k (xs.length : Int)) R)
  (hstep : ∀ (i : Nat) (hi : i < xs.length) (hy : i < ys.length) (r : Bool), Ev (fun k => L k ((i + 1 : Nat) : Int)) r → Ev (fun k => L k (i : Int)) (e xs[i] ys[i] && r)) :
  Ev (fun k => L k 0) (eqLst e xs ys && R) := ev_eqdrop e L xs ys R hl hend hstep _ 0 rfl (Nat.zero_le _)
def eI (x y : Int) : Bool := decide (x = y)
def eL (x y : S133) : Bool := !((!(x.f0 == y.f0)) || (!(x.f1 == y.f1)))
def eP (x y : S103) : Bool := decide (x.f0 = y.f0) && (decide (x.f1 = y.f1) && eqLst eI x.f2 y.f2)
def eS (x y : S62) : Bool := !(!(x.f0 == y.f0) || (!(x.f1 == y.f1) || (!(x.f2 == y.f2) || (!(x.f3 == y.f3) || (!(x.f4 == y.f4))))))
theorem slices_Equal_ev (l m : List Int) (hl : l.length ≤ 1048576) : Ev (fun k => slices_Equal_int_int.f k l m) (eqLst eI l m) := by
 unfold slices_Equal_int_int.f
 by_cases h : (l.length : Int) = (m.length : Int)
 ·refine evPos h ?_
  rw [← Bool.and_true (eqLst eI l m)]
  refine ev_eqloop eI (fun k i => slices_Equal_int_int.l0 k l m (l.length : Int) i) l m true h (Ev.step (fun k => by rw [slices_Equal_int_int.l0]) (evNeg (by omega) (Ev.now _))) ?_
  intro i hi hy r hr
  refine Ev.step (fun k => by rw [slices_Equal_int_int.l0]) (evPos (by omega) (evPos (by omega) (evPos (by omega) (evPos (by omega) ?_))))
  rw [rd_at l i hi, rd_at m i hy, wsucc (by omega)]
  by_cases hc : l[i] = m[i]
  ·exact evPos hc (evEq (by rw [eI, decide_eq_true hc]; rfl) hr)
  ·exact evNeg hc (evEq (by rw [eI, decide_eq_false hc]; rfl) (Ev.now _))
 ·exact evNeg h (evEq (eqLst_len _ _ _ h).symm (Ev.now _))
theorem rdP_at (l : List S103) (i : Nat) (h : i < l.length) : rd_T103 l (i : Int) = l[i] := getD_at l _ i h
theorem rdS_at (l : List S62) (i : Nat) (h : i < l.length) : rd_T62 l (i : Int) = l[i] := getD_at l _ i h
theorem rdL_at (l : List S133) (i : Nat) (h : i < l.length) : rd_T133 l (i : Int) = l[i] := getD_at l _ i h
/-! ### srt -/
/-! ### ascv -/
def ascB : List Int → Bool
 | x :: y :: r => decide (x < y) && ascB (y :: r)
 | _ => true
theorem ascB_iff : ∀ (l : List Int), ascB l = true ↔ l.Pairwise (· < ·)
 | [] => by simp [ascB]
 | [x] => by simp [ascB]
 | x :: y :: r => by
  have ih := ascB_iff (y :: r)
  rw [ascB, Bool.and_eq_true, ih, decide_eq_true_eq, List.pairwise_cons (a := x)]
  constructor
  ·rintro ⟨h1, h2⟩
   refine ⟨fun z hz => ?_, h2⟩
   rcases List.mem_cons.1 hz with rfl | hz
   ·exact h1
   ·exact Int.lt_trans h1 ((List.pairwise_cons.1 h2).1 z hz)
  ·rintro ⟨h1, h2⟩
   exact ⟨h1 y (by simp), h2⟩
theorem srtL_sorted (l : List Int) : (srtL l).Pairwise (· ≤ ·) := by
 have h := List.pairwise_mergeSort (le := fun x y : Int => decide (x ≤ y)) (by intro a b c h1 h2; simp at h1 h2 ⊢; omega) (by intro a b; simp; omega) l
 exact h.imp (fun h => by simpa using h)
theorem compact_asc (zs : List Int) (h : zs.Pairwise (· ≤ ·)) : (Lib.compact zs).Pairwise (· < ·) := by
 unfold Lib.compact Lib.compactUpTo
 rw [List.pairwise_map]
 have hp : ((List.range zs.length).filter (Lib.keeps zs.toArray)).Pairwise (· < ·) := (List.pairwise_lt_range).filter _
 refine List.Pairwise.imp_of_mem ?_ hp
 intro i j hi hj hij
 have hj2 := List.mem_filter.1 hj
 have hjn := List.mem_range.1 hj2.1
 have hk : j = 0 ∨ zs.toArray[j]! ≠ zs.toArray[j - 1]! := by simpa [Lib.keeps] using hj2.2
 have hne : zs.toArray[j]! ≠ zs.toArray[j - 1]! := by
  rcases hk with hk | hk
  ·omega
  ·exact hk
 have hg := List.pairwise_iff_getElem.1 h
 have e1 : ∀ k (hk : k < zs.length), zs.toArray[k]! = zs[k] := fun k hk => by rw [getElem!_pos zs.toArray k (by simpa using hk)]; simp
 rw [e1 i (by omega), e1 j hjn]
 rw [e1 j hjn, e1 (j - 1) (by omega)] at hne
 have h2 := hg (j - 1) j (by omega) hjn (by omega)
 have h3 : zs[i] ≤ zs[j - 1] := by
  by_cases e : i = j - 1
  ·subst e; exact Int.le_refl _
  ·exact hg i (j - 1) (by omega) (by omega) (by omega)
 omega
theorem compact_same (zs : List Int) (h : zs.Pairwise (· < ·)) : Lib.compact zs = zs := by
 refine Lib.compact_all zs fun j hj => ?_
 by_cases h0 : j = 0
 ·simp [Lib.keeps, h0]
 ·refine Lib.keeps_pos ?_
  have e1 : ∀ k (hk : k < zs.length), zs.toArray[k]! = zs[k] := fun k hk => by rw [getElem!_pos zs.toArray k (by simpa using hk)]; simp
  rw [e1 j hj, e1 (j - 1) (by omega)]
  have := List.pairwise_iff_getElem.1 h (j - 1) j (by omega) hj (by omega)
  omega
theorem eqLst_eI : ∀ (xs ys : List Int), eqLst eI xs ys = true ↔ xs = ys
 | [], [] => by simp [eqLst]
 | [], _ :: _ => by simp [eqLst]
 | _ :: _, [] => by simp [eqLst]
 | x :: xs, y :: ys => by
  rw [eqLst, Bool.and_eq_true, eqLst_eI xs ys, eI, decide_eq_true_eq, List.cons.injEq]
theorem set_asc (l : List Int) : eqLst eI (Lib.compact (srtL l)) l = ascB l := by
 rw [Bool.eq_iff_iff, eqLst_eI, ascB_iff]
 constructor
 ·intro h
  rw [← h]
  exact compact_asc _ (srtL_sorted l)
 ·intro h
  have e : srtL l = l := sorted_unique (List.mergeSort_perm l _) (srtL_sorted l) (h.imp (fun h => Int.le_of_lt h))
  rw [e, compact_same l h]
def setB (l : List Int) (n : Int) : Bool := (l.all fun x => decide (0 ≤ x ∧ x ≤ n - 1)) && ascB l
/-! ### allin -/
theorem impl_allIn_l0 (lo hi : Int) : ∀ (suf pre : List Int), (pre ++ suf).length ≤ 1048576 →
  Ev (fun k => impl_allIn.l0 k lo hi (pre ++ suf) ((pre ++ suf).length : Int) (pre.length : Int)) (suf.all fun x => decide (lo ≤ x ∧ x ≤ hi)) := by
 intro suf
 induction suf with
 | nil =>
  intro pre hb
  refine Ev.step (fun k => by rw [impl_allIn.l0]) ?_
  exact evNeg (by simp) (Ev.now _)
 | cons x suf ih =>
  intro pre hb
  simp only [List.length_append, List.length_cons] at hb
  refine Ev.step (fun k => by rw [impl_allIn.l0]) ?_
  refine evPos (by simp only [List.length_append, List.length_cons]; omega) (evPos (by omega) (evPos (by simp only [List.length_append, List.length_cons]; omega) ?_))
  rw [rd_mid, wsucc (by omega)]
  refine evSome (impl_InRange_eq _ _ _) ?_
  by_cases hx : lo ≤ x ∧ x ≤ hi
  ·refine evPos (by simp [hx]) ?_
   have h := ih (pre ++ [x]) (by simp; omega)
   refine evEq ?_ (Ev.congr (fun k => ?_) h)
   ·simp [hx]
   ·simp
  ·refine evNeg (by simpa using hx) (evEq ?_ (Ev.now _))
   simp [hx]
theorem impl_allIn_ev (l : List Int) (lo hi : Int) (hl : l.length ≤ 1048576) : Ev (fun k => impl_allIn.f k l lo hi) (l.all fun x => decide (lo ≤ x ∧ x ≤ hi)) := by
 have h := impl_allIn_l0 lo hi l [] (by simpa using hl)
 simpa [impl_allIn.f] using h
/-! ### areseen -/
def snOk (p n : Int) (x : S62) : Bool := decide ((0 ≤ x.f0 ∧ x.f0 < p) ∧ (0 ≤ x.f1 ∧ x.f1 ≤ 5) ∧ (0 ≤ x.f2 ∧ x.f2 ≤ n) ∧ (0 ≤ x.f3 ∧ x.f3 ≤ 1000))
def snBad (x : S62) : Bool := !x.f4 || decide (x.f3 = 0)
def seenF (p n : Int) : Int → List S62 → Bool
 | _, [] => true
 | last, x :: xs => snOk p n x && (snBad x && (decide (last ≤ x.f2) && seenF p n x.f2 xs))
def areSeenB (l : List S62) (p n : Int) : Bool := seenF p n 0 l && decide (l.length ≤ 60)
theorem spec_AreSeen_j1t (l : List S62) (p n i a b c d : Int) (e : Bool) : Ev (fun k => spec_AreSeen.j1 k l p n i true a b c d e) false :=
 Ev.step (fun k => by rw [spec_AreSeen.j1]) (evPos rfl (Ev.now _))
def lastOf (l : List S62) : Int := match l.getLast? with | some q => q.f2 | none => 0
theorem spec_AreSeen_j1f (p n : Int) (pre suf : List S62) (x : S62) (R : Bool) (hb : (pre ++ x :: suf).length ≤ 1048576) (h0 : 0 ≤ x.f2)
  (hk : Ev (fun k => spec_AreSeen.l0 k (pre ++ x :: suf) p n ((pre.length + 1 : Nat) : Int)) R) :
  Ev (fun k => spec_AreSeen.j1 k (pre ++ x :: suf) p n (pre.length : Int) false x.f0 x.f1 x.f2 x.f3 x.f4) (snBad x && (decide (lastOf pre ≤ x.f2) && R)) := by
 simp only [List.length_append, List.length_cons] at hb
 refine Ev.step (fun k => by rw [spec_AreSeen.j1]) ?_
 refine evNeg (by simp) ?_
 have key : Ev (fun k => if (pre.length : Int) > 0 then (if 0 ≤ (wrap64 ((pre.length : Int) - 1)) then (if (wrap64 ((pre.length : Int) - 1)) < ((pre ++ x :: suf).length : Int) then (if ((rd_T62 (pre ++ x :: suf) (wrap64 ((pre.length : Int) - 1))).f2) > x.f2 then (some false) else (spec_AreSeen.l0 k (pre ++ x :: suf) p n (wrap64 ((pre.length : Int) + 1)))) else (none)) else (none)) else (spec_AreSeen.l0 k (pre ++ x :: suf) p n (wrap64 ((pre.length : Int) + 1)))) (decide (lastOf pre ≤ x.f2) && R) := by
  rw [wsucc (by omega), w64 (by omega) (by omega)]
  rcases List.eq_nil_or_concat pre with rfl | ⟨q, y, rfl⟩
  ·refine evNeg (by simp) (evEq ?_ hk)
   simp [lastOf, h0]
  ·have e1 : ((q ++ [y]).length : Int) - 1 = (q.length : Int) := by simp
   have e2 : (q ++ [y]) ++ x :: suf = q ++ y :: x :: suf := by simp
   have e3 : rd_T62 ((q ++ [y]) ++ x :: suf) (q.length : Int) = y := by rw [rd_T62, e2, getD_mid]
   have e4 : lastOf (q ++ [y]) = y.f2 := by simp [lastOf]
   rw [List.concat_eq_append] at *
   rw [e1, e3, e4]
   refine evPos (by simp <;> omega) (evPos (by omega) (evPos (by simp only [List.length_append, List.length_cons, List.length_nil]; omega) ?_))
   by_cases hc : y.f2 > x.f2
   ·refine evPos hc (evEq ?_ (Ev.now _))
    have : decide (y.f2 ≤ x.f2) = false := by simp; omega
    simp [this]
   ·refine evNeg hc (evEq ?_ hk)
    have : decide (y.f2 ≤ x.f2) = true := by simp; omega
    simp [this]
 by_cases h4 : x.f4 = true
 ·refine evPos h4 ?_
  by_cases h3 : x.f3 = 0
  ·refine evPos h3 (evEq ?_ key)
   simp [snBad, h3]
  ·refine evNeg h3 (evEq ?_ (Ev.now _))
   simp [snBad, h3, h4]
 ·refine evNeg h4 (evEq ?_ key)
  have : x.f4 = false := by simpa using h4
  simp [snBad, this]
theorem spec_AreSeen_l0 (p n : Int) : ∀ (suf pre : List S62), (pre ++ suf).length ≤ 1048576 →
  Ev (fun k => spec_AreSeen.l0 k (pre ++ suf) p n (pre.length : Int)) (seenF p n (lastOf pre) suf && decide ((pre ++ suf).length ≤ 60)) := by
 intro suf
 induction suf with
 | nil =>
  intro pre hb
  refine Ev.step (fun k => by rw [spec_AreSeen.l0]) ?_
  refine evNeg (by simp) (evEq ?_ (Ev.now _))
  simp only [seenF, Bool.true_and, decide_eq_decide] <;> omega
 | cons x suf ih =>
  intro pre hb
  have hb' := hb
  simp only [List.length_append, List.length_cons] at hb'
  refine Ev.step (fun k => by rw [spec_AreSeen.l0]) ?_
  refine evPos (by simp only [List.length_append, List.length_cons]; omega) (evPos (by omega) ?_)
  simp only [rd_T62, getD_mid]
  have h := ih (pre ++ [x]) (by simpa using hb)
  have e1 : lastOf (pre ++ [x]) = x.f2 := by simp [lastOf]
  rw [e1] at h
  have h' : Ev (fun k => spec_AreSeen.l0 k (pre ++ x :: suf) p n ((pre.length + 1 : Nat) : Int)) (seenF p n x.f2 suf && decide ((pre ++ x :: suf).length ≤ 60)) := by simpa using h
  have bad : snOk p n x = false → false = (seenF p n (lastOf pre) (x :: suf) && decide ((pre ++ x :: suf).length ≤ 60)) := by
   intro hx
   simp [seenF, hx]
  by_cases c1 : x.f0 < 0
  ·refine evPos c1 (evEq (bad ?_) (spec_AreSeen_j1t _ _ _ _ _ _ _ _ _))
   simp [snOk]
   omega
  refine evNeg c1 ?_
  by_cases c2 : x.f0 ≥ p
  ·refine evPos c2 (evEq (bad ?_) (spec_AreSeen_j1t _ _ _ _ _ _ _ _ _))
   simp [snOk]
   omega
  refine evNeg c2 (evSome (spec_l1In_eq _ _ _) ?_)
  by_cases c3 : 0 ≤ x.f1 ∧ x.f1 ≤ 5
  ·refine evPos (by simpa using c3) (evSome (spec_l1In_eq _ _ _) ?_)
   by_cases c4 : 0 ≤ x.f2 ∧ x.f2 ≤ n
   ·refine evPos (by simpa using c4) (evSome (spec_l1In_eq _ _ _) ?_)
    by_cases c5 : 0 ≤ x.f3 ∧ x.f3 ≤ 1000
    ·have e : (!decide (0 ≤ x.f3 ∧ x.f3 ≤ 1000)) = false := by simp [c5]
     rw [e]
     refine evEq ?_ (spec_AreSeen_j1f p n pre suf x _ hb c4.1 h')
     have hx : snOk p n x = true := by
      simp [snOk]
      omega
     simp only [seenF, hx, Bool.true_and, Bool.and_assoc]
    ·have e : (!decide (0 ≤ x.f3 ∧ x.f3 ≤ 1000)) = true := by simp [c5]
     rw [e]
     refine evEq (bad ?_) (spec_AreSeen_j1t _ _ _ _ _ _ _ _ _)
     simp [snOk]
     omega
   ·refine evNeg (by simpa using c4) (evEq (bad ?_) (spec_AreSeen_j1t _ _ _ _ _ _ _ _ _))
    simp [snOk]
    omega
  ·refine evNeg (by simpa using c3) (evEq (bad ?_) (spec_AreSeen_j1t _ _ _ _ _ _ _ _ _))
   simp [snOk]
   omega
theorem spec_AreSeen_ev (l : List S62) (p n : Int) (hl : l.length ≤ 1048576) : Ev (fun k => spec_AreSeen.f k l p n) (areSeenB l p n) := by
 unfold spec_AreSeen.f
 exact spec_AreSeen_l0 p n l [] (by simpa using hl)
theorem impl_AreSeen_l0 (p n : Int) : ∀ (suf pre : List S62) (last : Int), (pre ++ suf).length ≤ 60 → 0 ≤ last →
  Ev (fun k => impl_AreSeen.l0 k p n last (pre ++ suf) ((pre ++ suf).length : Int) (pre.length : Int)) (seenF p n last suf) := by
 intro suf
 induction suf with
 | nil =>
  intro pre last hb h0
  refine Ev.step (fun k => by rw [impl_AreSeen.l0]) ?_
  exact evNeg (by simp) (Ev.now _)
 | cons x suf ih =>
  intro pre last hb h0
  simp only [List.length_append, List.length_cons] at hb
  refine Ev.step (fun k => by rw [impl_AreSeen.l0]) ?_
  refine evPos (by simp only [List.length_append, List.length_cons]; omega) (evPos (by omega) (evPos (by simp only [List.length_append, List.length_cons]; omega) ?_))
  simp only [rd_T62, getD_mid]
  rw [wsucc (by omega)]
  have bad : (snOk p n x && decide (last ≤ x.f2)) = false → false = seenF p n last (x :: suf) := by
   intro hx
   rw [seenF]
   cases h1 : snOk p n x <;> cases h2 : decide (last ≤ x.f2) <;> simp_all
  refine evSome (impl_at_eq _ _) ?_
  by_cases c1 : 0 ≤ x.f0 ∧ x.f0 < p
  ·refine evPos (by simpa using c1) (evSome (impl_at_eq _ _) ?_)
   by_cases c2 : 0 ≤ x.f1 ∧ x.f1 < 6
   ·refine evPos (by simpa using c2) (evSome (impl_InRange_eq _ _ _) ?_)
    by_cases c3 : last ≤ x.f2 ∧ x.f2 ≤ n
    ·refine evPos (by simpa using c3) (evSome (impl_InRange_eq _ _ _) ?_)
     by_cases c4 : 0 ≤ x.f3 ∧ x.f3 ≤ 1000
     ·refine evPos (by simpa using c4) ?_
      have h := ih (pre ++ [x]) x.f2 (by simp; omega) (by omega)
      have h' : Ev (fun k => impl_AreSeen.l0 k p n x.f2 (pre ++ x :: suf) ((pre ++ x :: suf).length : Int) ((pre.length + 1 : Nat) : Int)) (seenF p n x.f2 suf) := by simpa using h
      have hx : snOk p n x = true := by
       simp [snOk]
       omega
      have hd : decide (last ≤ x.f2) = true := by simp [c3.1]
      by_cases h4 : x.f4 = true
      ·refine evPos h4 ?_
       by_cases h3 : x.f3 = 0
       ·refine evPos h3 (evEq ?_ h')
        simp only [seenF, hx, hd, snBad, h3, decide_true, Bool.or_true, Bool.true_and]
       ·refine evNeg h3 (evEq ?_ (Ev.now _))
        simp [seenF, hx, snBad, h3, h4]
      ·refine evNeg h4 (evEq ?_ h')
       have : x.f4 = false := by simpa using h4
       simp only [seenF, hx, hd, snBad, this, Bool.not_false, Bool.true_or, Bool.true_and]
     ·refine evNeg (by simpa using c4) (evEq (bad ?_) (Ev.now _))
      simp [snOk]
      omega
    ·refine evNeg (by simpa using c3) (evEq (bad ?_) (Ev.now _))
     simp [snOk]
     omega
   ·refine evNeg (by simpa using c2) (evEq (bad ?_) (Ev.now _))
    simp [snOk]
    omega
  ·refine evNeg (by simpa using c1) (evEq (bad ?_) (Ev.now _))
   simp [snOk]
   omega
theorem impl_AreSeen_ev (l : List S62) (p n : Int) (hl : l.length ≤ 1048576) : Ev (fun k => impl_AreSeen.f k l p n) (areSeenB l p n) := by
 unfold impl_AreSeen.f
 by_cases h : (l.length : Int) > 60
 ·refine evPos h (evEq ?_ (Ev.now _))
  have : decide (l.length ≤ 60) = false := by simp; omega
  simp [areSeenB, this]
 ·refine evNeg h (evEq ?_ (impl_AreSeen_l0 p n l [] 0 (by simp; omega) (by omega)))
  have : decide (l.length ≤ 60) = true := by simp; omega
  simp [areSeenB, this]
/-! ### isworld -/
theorem evAndW {g : Nat → Option Bool} {b r : Bool} (h : Ev g r) : Ev (fun k => if b = true then g k else some false) (b && r) := by
 cases b with
 | true => exact evPos rfl h
 | false => exact evNeg (by decide) (Ev.now _)
theorem evAndP {g : Nat → Option Bool} {c : Prop} [Decidable c] {r : Bool} (h : Ev g r) : Ev (fun k => if c then g k else some false) (decide c && r) := by
 by_cases hc : c
 ·exact evPos hc (evEq (by simp [hc]) h)
 ·exact evNeg hc (evEq (by simp [hc]) (Ev.now _))
theorem evAndE {g f : Nat → Option Bool} {b r : Bool} (h : Ev g r) (hf : Ev f false) : Ev (fun k => if b = true then g k else f k) (b && r) := by
 cases b with
 | true => exact evPos rfl h
 | false => exact evNeg (by decide) hf
theorem evAndQ {g f : Nat → Option Bool} {c : Prop} [Decidable c] {r : Bool} (h : Ev g r) (hf : Ev f false) : Ev (fun k => if c then g k else f k) (decide c && r) := by
 by_cases hc : c
 ·exact evPos hc (evEq (by simp [hc]) h)
 ·exact evNeg hc (evEq (by simp [hc]) hf)
def netF (nd : Int) (lk : List S133) : Int → List S133 → Bool
 | _, [] => true
 | i, x :: xs => decide ((0 ≤ x.f0 ∧ x.f0 < nd) ∧ (0 ≤ x.f1 ∧ x.f1 < nd) ∧ x.f0 ≠ x.f1 ∧ linkV lk x.f0 x.f1 = i) && netF nd lk (i + 1) xs
def netB (nd : Int) (lk : List S133) : Bool := decide (1 ≤ nd ∧ nd ≤ 8) && (decide (1 ≤ (lk.length : Int) ∧ (lk.length : Int) ≤ 6) && netF nd lk 0 lk)
theorem firstP_le {α : Type} (p : α → Bool) (suf : List α) (x : α) (hx : p x = true) : ∀ (pre : List α) (n : Nat), firstP p (pre ++ x :: suf) n ≤ (n + pre.length : Nat)
 | [], n => by simp [firstP, hx]
 | y :: pre, n => by
  rw [List.cons_append, firstP]
  split
  ·simp only [List.length_cons]; omega
  ·have := firstP_le p suf x hx pre (n + 1)
   simp only [List.length_cons]; omega
theorem lnk_self (x : S133) : lnk x.f0 x.f1 x = true := by simp [lnk]
theorem spec_LinkOf_l0 (nd a b : Int) : ∀ (suf pre : List S133), (pre ++ suf).length ≤ 1048576 →
  Ev (fun k => spec_LinkOf.l0 k a b (pre.length : Int) nd (pre ++ suf)) (firstP (lnk a b) suf pre.length) := by
 intro suf
 induction suf with
 | nil =>
  intro pre hb
  refine Ev.step (fun k => by rw [spec_LinkOf.l0]) ?_
  exact evNeg (by simp) (evEq (by simp [firstP]) (Ev.now _))
 | cons x suf ih =>
  intro pre hb
  simp only [List.length_append, List.length_cons] at hb
  have h := ih (pre ++ [x]) (by simp; omega)
  refine Ev.step (fun k => by rw [spec_LinkOf.l0]) ?_
  refine evPos (by simp only [List.length_append, List.length_cons]; omega) (evPos (by omega) ?_)
  simp only [rd_T133, getD_mid]
  rw [wsucc (by omega)]
  by_cases h1 : (x.f0 == a && (x.f1 == b)) = true
  ·exact evPos h1 (evEq (by rw [firstP, if_pos (by rw [lnk, h1]; rfl)]) (Ev.now _))
  ·refine evNeg h1 ?_
   by_cases h2 : (x.f0 == b && (x.f1 == a)) = true
   ·exact evPos h2 (evEq (by rw [firstP, if_pos (by rw [lnk, h2, Bool.or_true])]) (Ev.now _))
   ·refine evNeg h2 (evEq ?_ (Ev.congr (fun k => ?_) h))
    ·rw [firstP, if_neg (by rw [lnk, Bool.not_eq_true _ |>.mp h1, Bool.not_eq_true _ |>.mp h2]; decide)]
     simp
    ·simp
theorem spec_LinkOf_ev (nd : Int) (lk : List S133) (a b : Int) (hl : lk.length ≤ 1048576) : Ev (fun k => spec_LinkOf.f k nd lk a b) (linkV lk a b) := by
 have h := spec_LinkOf_l0 nd a b lk [] (by simpa using hl)
 simpa [spec_LinkOf.f, linkV] using h
theorem impl_LinkOf_eq (nd : Int) (lk : List S133) (a b : Int) (hl : lk.length ≤ 1048576) : impl_LinkOf.f nd lk a b = some (linkV lk a b) := by
 unfold impl_LinkOf.f
 rw [if_pos hl]
theorem impl_IsNet_l0 (nd : Int) (lk : List S133) (hl : lk.length ≤ 1048576) : ∀ (suf pre : List S133), lk = pre ++ suf →
  Ev (fun k => impl_IsNet.l0 k lk (lk.length : Int) (pre.length : Int) nd lk) (netF nd lk (pre.length : Int) suf) := by
 intro suf
 induction suf with
 | nil =>
  intro pre e
  have el : lk.length = pre.length := by rw [e]; simp
  refine Ev.step (fun k => by rw [impl_IsNet.l0]) ?_
  exact evNeg (by omega) (evEq (by simp [netF]) (Ev.now _))
 | cons x suf ih =>
  intro pre e
  have el : lk.length = pre.length + (suf.length + 1) := by rw [e]; simp
  have h := ih (pre ++ [x]) (by rw [e]; simp)
  have hr : rd_T133 lk (pre.length : Int) = x := by rw [rd_T133, e, getD_mid]
  refine Ev.step (fun k => by rw [impl_IsNet.l0]) ?_
  refine evPos (by omega) (evPos (by omega) (evPos (by omega) ?_))
  rw [hr, wsucc (by omega)]
  have ebad : ¬ ((0 ≤ x.f0 ∧ x.f0 < nd) ∧ (0 ≤ x.f1 ∧ x.f1 < nd) ∧ x.f0 ≠ x.f1 ∧ linkV lk x.f0 x.f1 = (pre.length : Int)) → false = netF nd lk (pre.length : Int) (x :: suf) := fun hc => by rw [netF, decide_eq_false hc]; rfl
  by_cases c0 : x.f0 = x.f1
  ·exact evPos c0 (evEq (ebad (fun hc => hc.2.2.1 c0)) (Ev.now _))
  refine evNeg c0 (evSome (impl_at_eq _ _) ?_)
  by_cases c1 : 0 ≤ x.f0 ∧ x.f0 < nd
  ·refine evPos (by simpa using c1) (evSome (impl_at_eq _ _) ?_)
   by_cases c2 : 0 ≤ x.f1 ∧ x.f1 < nd
   ·refine evPos (by simpa using c2) (evSome (impl_LinkOf_eq nd lk _ _ hl) ?_)
    by_cases c3 : linkV lk x.f0 x.f1 = (pre.length : Int)
    ·refine evPos c3 (evEq ?_ (Ev.congr (fun k => ?_) h))
     ·rw [netF, decide_eq_true ⟨c1, c2, c0, c3⟩]; simp
     ·simp
    ·exact evNeg c3 (evEq (ebad (fun hc => c3 hc.2.2.2)) (Ev.now _))
   ·exact evNeg (by simpa using c2) (evEq (ebad (fun hc => c2 hc.2.1)) (Ev.now _))
  ·exact evNeg (by simpa using c1) (evEq (ebad (fun hc => c1 hc.1)) (Ev.now _))
theorem spec_IsNet_l0 (nd : Int) (lk : List S133) (hl : lk.length ≤ 1048576) (hn : 1 ≤ nd ∧ nd ≤ 8) : ∀ (suf pre : List S133), lk = pre ++ suf →
  Ev (fun k => spec_IsNet.l0 k (pre.length : Int) nd lk) (netF nd lk (pre.length : Int) suf) := by
 intro suf
 induction suf with
 | nil =>
  intro pre e
  have el : lk.length = pre.length := by rw [e]; simp
  refine Ev.step (fun k => by rw [spec_IsNet.l0]) ?_
  exact evNeg (by omega) (evEq (by simp [netF]) (Ev.now _))
 | cons x suf ih =>
  intro pre e
  have el : lk.length = pre.length + (suf.length + 1) := by rw [e]; simp
  have h := ih (pre ++ [x]) (by rw [e]; simp)
  have hr : rd_T133 lk (pre.length : Int) = x := by rw [rd_T133, e, getD_mid]
  have hle : linkV lk x.f0 x.f1 ≤ (pre.length : Int) := by
   have := firstP_le (lnk x.f0 x.f1) suf x (lnk_self x) pre 0
   rw [← e] at this
   simpa [linkV] using this
  refine Ev.step (fun k => by rw [spec_IsNet.l0]) ?_
  refine evPos (by omega) (evPos (by omega) ?_)
  rw [hr, wsucc (by omega), w64 (n := nd - 1) (by omega) (by omega)]
  have ebad : ¬ ((0 ≤ x.f0 ∧ x.f0 < nd) ∧ (0 ≤ x.f1 ∧ x.f1 < nd) ∧ x.f0 ≠ x.f1 ∧ linkV lk x.f0 x.f1 = (pre.length : Int)) → false = netF nd lk (pre.length : Int) (x :: suf) := fun hc => by rw [netF, decide_eq_false hc]; rfl
  refine evSome (spec_l1In_eq _ _ _) ?_
  by_cases c1 : 0 ≤ x.f0 ∧ x.f0 ≤ nd - 1
  ·refine evPos (by simpa using c1) (evSome (spec_l1In_eq _ _ _) ?_)
   by_cases c2 : 0 ≤ x.f1 ∧ x.f1 ≤ nd - 1
   ·refine evPos (by simpa using c2) ?_
    by_cases c0 : x.f0 = x.f1
    ·exact evPos c0 (evEq (ebad (fun hc => hc.2.2.1 c0)) (Ev.now _))
    refine evNeg c0 (Ev.bind (spec_LinkOf_ev nd lk _ _ hl) ?_)
    by_cases c3 : linkV lk x.f0 x.f1 = (pre.length : Int)
    ·refine evNeg (by omega) (evEq ?_ (Ev.congr (fun k => ?_) h))
     ·rw [netF, decide_eq_true ⟨⟨c1.1, by omega⟩, ⟨c2.1, by omega⟩, c0, c3⟩]; simp
     ·simp
    ·exact evPos (by omega) (evEq (ebad (fun hc => c3 hc.2.2.2)) (Ev.now _))
   ·exact evNeg (by simpa using c2) (evEq (ebad (fun hc => c2 ⟨hc.2.1.1, by omega⟩)) (Ev.now _))
  ·exact evNeg (by simpa using c1) (evEq (ebad (fun hc => c1 ⟨hc.1.1, by omega⟩)) (Ev.now _))
theorem impl_IsNet_ev (nd : Int) (lk : List S133) (hl : lk.length ≤ 1048576) : Ev (fun k => impl_IsNet.f k nd lk) (netB nd lk) := by
 unfold impl_IsNet.f
 have jt : Ev (fun k => impl_IsNet.j0 k true nd lk) false := Ev.step (fun k => by rw [impl_IsNet.j0]) (evPos rfl (Ev.now _))
 refine evSome (impl_InRange_eq _ _ _) (evAndE (evSome (impl_InRange_eq _ _ _) ?_) jt)
 cases h : decide (1 ≤ (lk.length : Int) ∧ (lk.length : Int) ≤ 6) with
 | false => exact jt
 | true =>
  refine Ev.step (fun k => by rw [impl_IsNet.j0]) ?_
  refine evNeg (by decide) (evEq ?_ (impl_IsNet_l0 nd lk hl lk [] rfl))
  simp
theorem spec_IsNet_ev (nd : Int) (lk : List S133) (hl : lk.length ≤ 1048576) : Ev (fun k => spec_IsNet.f k nd lk) (netB nd lk) := by
 unfold spec_IsNet.f
 have jt : Ev (fun k => spec_IsNet.j0 k true nd lk) false := Ev.step (fun k => by rw [spec_IsNet.j0]) (evPos rfl (Ev.now _))
 refine evSome (spec_l1In_eq _ _ _) ?_
 by_cases hn : 1 ≤ nd ∧ nd ≤ 8
 ·refine evPos (by simpa using hn) (evSome (spec_l1In_eq _ _ _) ?_)
  rw [netB, decide_eq_true hn, Bool.true_and]
  cases h : decide (1 ≤ (lk.length : Int) ∧ (lk.length : Int) ≤ 6) with
  | false => exact jt
  | true =>
   refine Ev.step (fun k => by rw [spec_IsNet.j0]) ?_
   refine evNeg (by decide) (evEq ?_ (spec_IsNet_l0 nd lk hl hn lk [] rfl))
   simp
 ·refine evNeg (by simpa using hn) (evEq ?_ jt)
  rw [netB, decide_eq_false hn]
  rfl
def setG (n : Int) : Option Int → List Int → Bool
 | _, [] => true
 | none, x :: xs => decide (0 ≤ x ∧ x ≤ n - 1) && setG n (some x) xs
 | some q, x :: xs => decide (0 ≤ x ∧ x ≤ n - 1) && (decide (q < x) && setG n (some x) xs)
theorem setG_some (n : Int) : ∀ (l : List Int) (q : Int), setG n (some q) l = ((l.all fun x => decide (0 ≤ x ∧ x ≤ n - 1)) && ascB (q :: l))
 | [], q => by simp [setG, ascB]
 | x :: xs, q => by
  rw [setG, setG_some n xs x, List.all_cons, ascB]
  generalize decide (0 ≤ x ∧ x ≤ n - 1) = b1; generalize decide (q < x) = b2; generalize (xs.all fun x => decide (0 ≤ x ∧ x ≤ n - 1)) = b3; generalize ascB (x :: xs) = b4
  cases b1 <;> cases b2 <;> cases b3 <;> cases b4 <;> rfl
theorem setG_none (n : Int) (l : List Int) : setG n none l = setB l n := by
 cases l with
 | nil => simp [setG, setB, ascB]
 | cons x xs =>
  rw [setG, setG_some, setB, List.all_cons, Bool.and_assoc]
theorem spec_l29Set_l0 (n : Int) (hn : 0 ≤ n ∧ n ≤ 1048576) : ∀ (suf pre : List Int), (pre ++ suf).length ≤ 1048576 →
  Ev (fun k => spec_l29Set.l0 k (pre ++ suf) n (pre.length : Int)) (setG n pre.getLast? suf) := by
 intro suf
 induction suf with
 | nil =>
  intro pre hb
  refine Ev.step (fun k => by rw [spec_l29Set.l0]) ?_
  exact evNeg (by simp) (evEq (by simp [setG]) (Ev.now _))
 | cons x suf ih =>
  intro pre hb
  simp only [List.length_append, List.length_cons] at hb
  have h := ih (pre ++ [x]) (by simp; omega)
  rw [show (pre ++ [x]).getLast? = some x by simp] at h
  have h' : Ev (fun k => spec_l29Set.l0 k (pre ++ x :: suf) n ((pre.length + 1 : Nat) : Int)) (setG n (some x) suf) := by simpa using h
  refine Ev.step (fun k => by rw [spec_l29Set.l0]) ?_
  refine evPos (by simp only [List.length_append, List.length_cons]; omega) (evPos (by omega) ?_)
  rw [rd_mid, w64 (n := n - 1) (by omega) (by omega)]
  refine evSome (spec_l1In_eq _ _ _) ?_
  rw [wsucc (by omega)]
  by_cases c1 : 0 ≤ x ∧ x ≤ n - 1
  ·refine evPos (by simpa using c1) ?_
   rcases List.eq_nil_or_concat pre with rfl | ⟨q, y, rfl⟩
   ·refine evNeg (by simp) (evEq ?_ h')
    simp [setG, c1]
   ·rw [List.concat_eq_append] at *
    have e1 : wrap64 (((q ++ [y]).length : Int) - 1) = (q.length : Int) := by rw [w64 (by omega) (by omega)]; simp
    have e3 : rd (q ++ [y] ++ x :: suf) (q.length : Int) = y := by rw [show q ++ [y] ++ x :: suf = q ++ y :: x :: suf by simp, rd_mid]
    rw [e1, e3]
    refine evPos (by simp <;> omega) (evPos (by omega) (evPos (by simp only [List.length_append, List.length_cons, List.length_nil]; omega) ?_))
    rw [show (q ++ [y]).getLast? = some y by simp, setG, decide_eq_true c1, Bool.true_and]
    by_cases hc : y ≥ x
    ·exact evPos hc (evEq (by rw [decide_eq_false (by omega)]; rfl) (Ev.now _))
    ·exact evNeg hc (evEq (by rw [decide_eq_true (by omega)]; rfl) h')
  ·refine evNeg (by simpa using c1) (evEq ?_ (Ev.now _))
   cases pre.getLast? <;> simp [setG, c1]
theorem spec_l29Set_ev (l : List Int) (n : Int) (hl : l.length ≤ 1048576) (hn : 0 ≤ n ∧ n ≤ 1048576) : Ev (fun k => spec_l29Set.f k l n) (setB l n) := by
 have h := spec_l29Set_l0 n hn l [] (by simpa using hl)
 rw [← setG_none]
 simpa [spec_l29Set.f] using h
theorem impl_isSet_ev (l : List Int) (n : Int) (hl : l.length ≤ 1048576) (hn : 0 ≤ n ∧ n ≤ 1048576) : Ev (fun k => impl_isSet.f k l n) (setB l n) := by
 have hc : l.length ≤ 1048576 ∧ 0 ≤ n ∧ n ≤ 9223372036854775807 := ⟨hl, hn.1, by omega⟩
 have hYl : (Lib.compact (srtL l)).length ≤ 1048576 := by
  have h1 : (srtL l).length = l.length := List.length_mergeSort l
  have h2 := compact_le (srtL l)
  omega
 have h2 := slices_Equal_ev (Lib.compact (srtL l)) l hYl
 rw [set_asc] at h2
 unfold impl_isSet.f isSetF
 refine evPos hc (Ev.bind (impl_allIn_ev l 0 (n - 1) hl) (evAndW h2))
def bucketB (a b c d : Int) : Bool := decide (0 ≤ b ∧ b ≤ 1000) && (decide (0 ≤ c ∧ c ≤ 1000) && (decide (0 ≤ a ∧ a ≤ b) && decide (0 ≤ d ∧ d ≤ 100000)))
theorem ite_and_ {b : Bool} {r : Bool} : (if b = true then some r else some false) = some (b && r) := by cases b <;> rfl
theorem spec_IsBucket_eq (a b c d : Int) : spec_IsBucket.f a b c d = some (bucketB a b c d) := by
 unfold spec_IsBucket.f bucketB
 simp only [spec_l1In_eq, Option.bind_some, ite_and_]
theorem impl_IsBucket_eq (a b c d : Int) : impl_IsBucket.f a b c d = some (bucketB a b c d) := by
 unfold impl_IsBucket.f bucketB
 simp only [impl_InRange_eq, Option.bind_some, ite_and_]
def okProbe (lk : List S133) (x : S103) : Bool := !decide ((x.f2.length : Int) = 0) && pathB lk x.f2 x.f0 x.f1
def probesB (nd : Int) (lk : List S133) (l : List S103) : Bool := l.all (okProbe lk) && (netB nd lk && decide ((l.length : Int) ≤ 12))
theorem arePF_ev (nd : Int) (lk : List S133) : ∀ (l : List S103), (∀ p ∈ l, p.f2.length ≤ 1048576) → Ev (fun k => arePF k nd lk l) (l.all (okProbe lk))
 | [], _ => Ev.now _
 | x :: xs, h => by
  refine Ev.bind (impl_IsPath_ev nd lk x.f2 x.f0 x.f1 (h x (by simp))) (Ev.bind (arePF_ev nd lk xs (fun p hp => h p (by simp [hp]))) (evEq ?_ (Ev.now _)))
  rw [List.all_cons, okProbe, Bool.and_assoc]
theorem impl_AreProbes_ev (nd : Int) (lk : List S133) (l : List S103) (hl : lk.length ≤ 1048576) (h : ∀ p ∈ l, p.f2.length ≤ 1048576) : Ev (fun k => impl_AreProbes.f k nd lk l) (probesB nd lk l) := by
 unfold impl_AreProbes.f areProbesF probesB
 refine evEq ?_ (Ev.bind (impl_IsNet_ev nd lk hl) (evAndW (evAndP (arePF_ev nd lk l h))))
 ac_rfl
theorem spec_AreProbes_l0 (nd : Int) (lk : List S133) (hlk : lk.length ≤ 1048576) : ∀ (suf pre : List S103), (pre ++ suf).length ≤ 1048576 → (∀ p ∈ suf, p.f2.length ≤ 1048576) →
  Ev (fun k => spec_AreProbes.l0 k (pre ++ suf) (pre.length : Int) nd lk) (suf.all (okProbe lk) && (netB nd lk && decide (((pre ++ suf).length : Int) ≤ 12))) := by
 intro suf
 induction suf with
 | nil =>
  intro pre hb hp
  refine Ev.step (fun k => by rw [spec_AreProbes.l0]) ?_
  refine evNeg (by simp) (evEq (by simp) (Ev.bind (spec_IsNet_ev nd lk hlk) (evAndW (Ev.now _))))
 | cons x suf ih =>
  intro pre hb hp
  simp only [List.length_append, List.length_cons] at hb
  have h := ih (pre ++ [x]) (by simp; omega) (fun p h => hp p (by simp [h]))
  refine Ev.step (fun k => by rw [spec_AreProbes.l0]) ?_
  refine evPos (by simp only [List.length_append, List.length_cons]; omega) (evPos (by omega) ?_)
  have hr : rd_T103 (pre ++ x :: suf) (pre.length : Int) = x := by rw [rd_T103, getD_mid]
  rw [hr, wsucc (by omega), List.all_cons, okProbe]
  by_cases c0 : (x.f2.length : Int) = 0
  ·exact evPos c0 (evEq (by rw [decide_eq_true c0]; rfl) (Ev.now _))
  ·refine evNeg c0 (Ev.bind (spec_IsPath_ev nd lk hlk x.f2 x.f0 x.f1 (hp x (by simp))) ?_)
   rw [decide_eq_false c0, Bool.not_false, Bool.true_and, Bool.and_assoc]
   refine evAndW ?_
   simpa using h
theorem spec_AreProbes_ev (nd : Int) (lk : List S133) (l : List S103) (hl : lk.length ≤ 1048576) (hn : l.length ≤ 1048576) (h : ∀ p ∈ l, p.f2.length ≤ 1048576) : Ev (fun k => spec_AreProbes.f k nd lk l) (probesB nd lk l) := by
 have h := spec_AreProbes_l0 nd lk hl l [] (by simpa using hn) h
 simpa [spec_AreProbes.f, probesB] using h
def worldT (l4 : List S103) (l5 l6 : List Int) (a7 a8 a9 a10 : Int) (l11 : List S62) (a12 : Int) : Bool := decide ((l5.length : Int) = (l4.length : Int)) && (setB l6 6 && (bucketB a7 a8 a9 a10 && (decide (a10 ≤ a12) && (areSeenB l11 (l4.length : Int) a12 && decide (0 ≤ a12 ∧ a12 ≤ 100000)))))
def worldB (a0_0 : Int) (l0_1 : (List S133)) (l0_2 : (List Int)) (l0_3 : (List Int)) (l0_4 : (List S103)) (l0_5 : (List Int)) (l0_6 : (List Int)) (a0_7 : Int) (a0_8 : Int) (a0_9 : Int) (a0_10 : Int) (l0_11 : (List S62)) (a0_12 : Int) : Bool := (l0_2.all fun x => decide (0 ≤ x ∧ x ≤ 100)) && ((l0_5.all fun x => decide (0 ≤ x ∧ x ≤ 5)) && (netB a0_0 l0_1 && (decide ((l0_2.length : Int) = (l0_1.length : Int)) && (setB l0_3 (l0_1.length : Int) && (!decide ((l0_4.length : Int) = 0) && (probesB a0_0 l0_1 l0_4 && worldT l0_4 l0_5 l0_6 a0_7 a0_8 a0_9 a0_10 l0_11 a0_12))))))
theorem impl_IsWorld_ev (a0_0 : Int) (l0_1 : (List S133)) (l0_2 : (List Int)) (l0_3 : (List Int)) (l0_4 : (List S103)) (l0_5 : (List Int)) (l0_6 : (List Int)) (a0_7 : Int) (a0_8 : Int) (a0_9 : Int) (a0_10 : Int) (l0_11 : (List S62)) (a0_12 : Int) (h : okW' l0_1 l0_2 l0_3 l0_4 l0_5 l0_6 l0_11) : Ev (fun k => impl_IsWorld.f k a0_0 l0_1 l0_2 l0_3 l0_4 l0_5 l0_6 a0_7 a0_8 a0_9 a0_10 l0_11 a0_12) (worldB a0_0 l0_1 l0_2 l0_3 l0_4 l0_5 l0_6 a0_7 a0_8 a0_9 a0_10 l0_11 a0_12) := by
 obtain ⟨o1, o2, o3, ⟨o4, o4p⟩, o5, o6, o11⟩ := h
 unfold impl_IsWorld.f isWorldF
 refine evEq ?_ (Ev.bind (impl_IsNet_ev a0_0 l0_1 o1) (evAndW (evAndP (Ev.bind (impl_allIn_ev l0_2 0 100 o2) (evAndW (Ev.bind (impl_isSet_ev l0_3 (l0_1.length : Int) o3 ⟨by omega, by omega⟩) (evAndW (evAndP (Ev.bind (impl_AreProbes_ev a0_0 l0_1 l0_4 o1 o4p) (evAndW (evAndP (Ev.bind (impl_allIn_ev l0_5 0 5 o5) (evAndW (Ev.bind (impl_isSet_ev l0_6 6 o6 (by decide)) (evAndW (evSome (impl_IsBucket_eq _ _ _ _) (evAndW (evAndP (Ev.bind (impl_AreSeen_ev l0_11 _ _ o11) (evAndW (evSome (impl_InRange_eq _ _ _) (Ev.now _))))))))))))))))))))))
 have e : decide ((l0_4.length : Int) > 0) = !decide ((l0_4.length : Int) = 0) := by
  by_cases h : (l0_4.length : Int) = 0
  ·simp [h]
  ·rw [decide_eq_false h, decide_eq_true (by omega)]; rfl
 rw [worldB, worldT, e]
 ac_rfl
theorem spec_IsWorld_j2t (a0_0 : Int) (l0_1 : (List S133)) (l0_2 : (List Int)) (l0_3 : (List Int)) (l0_4 : (List S103)) (l0_5 : (List Int)) (l0_6 : (List Int)) (a0_7 : Int) (a0_8 : Int) (a0_9 : Int) (a0_10 : Int) (l0_11 : (List S62)) (a0_12 : Int) : Ev (fun k => spec_IsWorld.j2 k true a0_0 l0_1 l0_2 l0_3 l0_4 l0_5 l0_6 a0_7 a0_8 a0_9 a0_10 l0_11 a0_12) false := Ev.step (fun k => by rw [spec_IsWorld.j2]) (evPos rfl (Ev.now _))
theorem spec_IsWorld_j2f (a0_0 : Int) (l0_1 : (List S133)) (l0_2 : (List Int)) (l0_3 : (List Int)) (l0_4 : (List S103)) (l0_5 : (List Int)) (l0_6 : (List Int)) (a0_7 : Int) (a0_8 : Int) (a0_9 : Int) (a0_10 : Int) (l0_11 : (List S62)) (a0_12 : Int) (h : okW' l0_1 l0_2 l0_3 l0_4 l0_5 l0_6 l0_11) : Ev (fun k => spec_IsWorld.j2 k false a0_0 l0_1 l0_2 l0_3 l0_4 l0_5 l0_6 a0_7 a0_8 a0_9 a0_10 l0_11 a0_12) (worldT l0_4 l0_5 l0_6 a0_7 a0_8 a0_9 a0_10 l0_11 a0_12) := by
 obtain ⟨o1, o2, o3, ⟨o4, o4p⟩, o5, o6, o11⟩ := h
 refine Ev.step (fun k => by rw [spec_IsWorld.j2]) (evNeg (by decide) ?_)
 exact evAndP (Ev.bind (spec_l29Set_ev l0_6 6 o6 (by decide)) (evAndW (evSome (spec_IsBucket_eq _ _ _ _) (evAndW (evAndP (Ev.bind (spec_AreSeen_ev l0_11 _ _ o11) (evAndW (evSome (spec_l1In_eq _ _ _) (Ev.now _)))))))))
theorem spec_IsWorld_l1 (a0_0 : Int) (l0_1 : (List S133)) (l0_2 : (List Int)) (l0_3 : (List Int)) (l0_4 : (List S103)) (l0_5 : (List Int)) (l0_6 : (List Int)) (a0_7 : Int) (a0_8 : Int) (a0_9 : Int) (a0_10 : Int) (l0_11 : (List S62)) (a0_12 : Int) (h : okW' l0_1 l0_2 l0_3 l0_4 l0_5 l0_6 l0_11) : ∀ (suf pre : List Int), l0_5 = pre ++ suf →
  Ev (fun k => spec_IsWorld.l1 k (pre.length : Int) a0_0 l0_1 l0_2 l0_3 l0_4 l0_5 l0_6 a0_7 a0_8 a0_9 a0_10 l0_11 a0_12) ((suf.all fun x => decide (0 ≤ x ∧ x ≤ 5)) && (netB a0_0 l0_1 && (decide ((l0_2.length : Int) = (l0_1.length : Int)) && (setB l0_3 (l0_1.length : Int) && (!decide ((l0_4.length : Int) = 0) && (probesB a0_0 l0_1 l0_4 && worldT l0_4 l0_5 l0_6 a0_7 a0_8 a0_9 a0_10 l0_11 a0_12)))))) := by
 have jt := spec_IsWorld_j2t a0_0 l0_1 l0_2 l0_3 l0_4 l0_5 l0_6 a0_7 a0_8 a0_9 a0_10 l0_11 a0_12
 have jf := spec_IsWorld_j2f a0_0 l0_1 l0_2 l0_3 l0_4 l0_5 l0_6 a0_7 a0_8 a0_9 a0_10 l0_11 a0_12 h
 obtain ⟨o1, o2, o3, ⟨o4, o4p⟩, o5, o6, o11⟩ := h
 intro suf
 induction suf with
 | nil =>
  intro pre e
  have el : l0_5.length = pre.length := by rw [e]; simp
  refine Ev.step (fun k => by rw [spec_IsWorld.l1]) ?_
  rw [List.all_nil, Bool.true_and]
  refine evNeg (by omega) (Ev.bind (spec_IsNet_ev a0_0 l0_1 o1) (evAndE (evAndQ (Ev.bind (spec_l29Set_ev l0_3 _ o3 ⟨by omega, by omega⟩) (evAndE ?_ jt)) jt) jt))
  by_cases h0 : (l0_4.length : Int) = 0
  ·exact evPos h0 (evEq (by rw [decide_eq_true h0]; rfl) jt)
  ·refine evNeg h0 (Ev.bind (spec_AreProbes_ev a0_0 l0_1 l0_4 o1 o4 o4p) ?_)
   rw [decide_eq_false h0, Bool.not_false, Bool.true_and]
   cases probesB a0_0 l0_1 l0_4 with
   | true => exact jf
   | false => exact jt
 | cons x suf ih =>
  intro pre e
  have el : l0_5.length = pre.length + (suf.length + 1) := by rw [e]; simp
  have h := ih (pre ++ [x]) (by rw [e]; simp)
  have hr : rd l0_5 (pre.length : Int) = x := by rw [e]; exact rd_mid pre suf x
  refine Ev.step (fun k => by rw [spec_IsWorld.l1]) ?_
  refine evPos (by omega) (evPos (by omega) ?_)
  rw [hr, wsucc (by omega), List.all_cons, Bool.and_assoc]
  refine evSome (spec_l1In_eq _ _ _) (evAndW (Ev.congr (fun k => ?_) h))
  simp
theorem spec_IsWorld_l0 (a0_0 : Int) (l0_1 : (List S133)) (l0_2 : (List Int)) (l0_3 : (List Int)) (l0_4 : (List S103)) (l0_5 : (List Int)) (l0_6 : (List Int)) (a0_7 : Int) (a0_8 : Int) (a0_9 : Int) (a0_10 : Int) (l0_11 : (List S62)) (a0_12 : Int) (h : okW' l0_1 l0_2 l0_3 l0_4 l0_5 l0_6 l0_11) : ∀ (suf pre : List Int), l0_2 = pre ++ suf →
  Ev (fun k => spec_IsWorld.l0 k (pre.length : Int) a0_0 l0_1 l0_2 l0_3 l0_4 l0_5 l0_6 a0_7 a0_8 a0_9 a0_10 l0_11 a0_12) ((suf.all fun x => decide (0 ≤ x ∧ x ≤ 100)) && ((l0_5.all fun x => decide (0 ≤ x ∧ x ≤ 5)) && (netB a0_0 l0_1 && (decide ((l0_2.length : Int) = (l0_1.length : Int)) && (setB l0_3 (l0_1.length : Int) && (!decide ((l0_4.length : Int) = 0) && (probesB a0_0 l0_1 l0_4 && worldT l0_4 l0_5 l0_6 a0_7 a0_8 a0_9 a0_10 l0_11 a0_12))))))) := by
 have h1 := spec_IsWorld_l1 a0_0 l0_1 l0_2 l0_3 l0_4 l0_5 l0_6 a0_7 a0_8 a0_9 a0_10 l0_11 a0_12 h l0_5 [] rfl
 obtain ⟨o1, o2, o3, ⟨o4, o4p⟩, o5, o6, o11⟩ := h
 intro suf
 induction suf with
 | nil =>
  intro pre e
  have el : l0_2.length = pre.length := by rw [e]; simp
  refine Ev.step (fun k => by rw [spec_IsWorld.l0]) ?_
  rw [List.all_nil, Bool.true_and]
  exact evNeg (by omega) (by simpa using h1)
 | cons x suf ih =>
  intro pre e
  have el : l0_2.length = pre.length + (suf.length + 1) := by rw [e]; simp
  have h := ih (pre ++ [x]) (by rw [e]; simp)
  have hr : rd l0_2 (pre.length : Int) = x := by rw [e]; exact rd_mid pre suf x
  refine Ev.step (fun k => by rw [spec_IsWorld.l0]) ?_
  refine evPos (by omega) (evPos (by omega) ?_)
  rw [hr, wsucc (by omega), List.all_cons, Bool.and_assoc]
  refine evSome (spec_l1In_eq _ _ _) (evAndW (Ev.congr (fun k => ?_) h))
  simp
theorem spec_IsWorld_ev (a0_0 : Int) (l0_1 : (List S133)) (l0_2 : (List Int)) (l0_3 : (List Int)) (l0_4 : (List S103)) (l0_5 : (List Int)) (l0_6 : (List Int)) (a0_7 : Int) (a0_8 : Int) (a0_9 : Int) (a0_10 : Int) (l0_11 : (List S62)) (a0_12 : Int) (h : okW' l0_1 l0_2 l0_3 l0_4 l0_5 l0_6 l0_11) : Ev (fun k => spec_IsWorld.f k a0_0 l0_1 l0_2 l0_3 l0_4 l0_5 l0_6 a0_7 a0_8 a0_9 a0_10 l0_11 a0_12) (worldB a0_0 l0_1 l0_2 l0_3 l0_4 l0_5 l0_6 a0_7 a0_8 a0_9 a0_10 l0_11 a0_12) := by
 have h0 := spec_IsWorld_l0 a0_0 l0_1 l0_2 l0_3 l0_4 l0_5 l0_6 a0_7 a0_8 a0_9 a0_10 l0_11 a0_12 h l0_2 [] rfl
 unfold spec_IsWorld.f
 simpa [worldB] using h0
/-! ### zw_FnExactIsWorld -/
set_option maxHeartbeats 8000000 in
set_option maxRecDepth 100000 in
theorem FnExactIsWorld_calls' (y : LW) (q : LP)  (w : World) (hq : y.Rd q w) (g1 : y.l1.length ≤ 9223372036854775807) (g2 : y.l2.length ≤ 9223372036854775807) (g3 : y.l3.length ≤ 9223372036854775807) (g4 : y.l4.length ≤ 9223372036854775807 ∧ ∀ p ∈ y.l4, p.f2.length ≤ 9223372036854775807) (g5 : y.l5.length ≤ 9223372036854775807) (g6 : y.l6.length ≤ 9223372036854775807) (g11 : y.l11.length ≤ 9223372036854775807) :
  Calls Try.prog 9 #[.agg (y.cells q)] w fun e w' => e = .returned (.bool true) ∧ Below w.heap.size w w' := by
 have hv := Try.underlying31
 have hu := Try.underlying42
 have HQ := Aside0.mk hq; clear hq
 go_enter Try.func9, Try.ntmps9
 have HBW0 := Aside0.mk (Below.refl w.heap.size w)
 go_wp2_with fail
 refine calls_gen (fun W' => Below w.heap.size w W' ∧ W'.heap[w.heap.size]? = some (.cells (y.cells q) 31 (0, 0))) ⟨?gb, ?gn⟩ ?_
 case gb => repeat (first | (with_reducible exact Below.refl _ _) | refine below_set ?_ (Nat.le_refl _) | apply below_alloc | apply pw_below_drewN)
 case gn => (repeat (refine blk_drewN ?_ _)); exact blk_new _ _
 rintro W1 ⟨hbw, hbn⟩
 have hrd := HQ.out.below (below_step HBW0.out hbw)
 go_at_call 12; (refine (szWorld_c y q W1 hrd g1 g2 g3 g4 g5 g6 g11).mono ?_); rintro e w3 ⟨r, rfl, hok, hb⟩
 clear hrd
 have hs := below_step hbw hb
 have HB4 := Aside0.mk (below_step HBW0.out hs)
 clear HBW0
 have BX5 := Aside0.mk (blk_below hbn hb)
 clear hbn
 have HS := Aside0.mk (hs.size : w.heap.size ≤ w3.heap.size)
 replace HS := Aside0.mk (And.intro HS.out (blk_lt BX5.out))
 by_cases hc : r < 0
 ·have hcd : decide (r < 0) = true := decide_eq_true hc
  go_wp2
  go_ret
  exact ⟨rfl, below_step HB4.out (by repeat (first | (with_reducible first | exact Below.refl _ _ | apply below_alloc | apply pw_below_drewN | apply below_drew1) | exact Below.refl _ _))⟩
 have hcd : decide (r < 0) = false := decide_eq_false hc
 have OK := Aside0.mk (hok (by omega)); clear hok hb hs hbw
 obtain ⟨x, hxe⟩ : ∃ x, x = cvW y := ⟨_, rfl⟩
 have HXE := Aside0.mk hxe
 have OKX := Aside0.mk (show x.Ok from by rw [hxe]; exact cvW_ok OK.out)
 obtain ⟨b, hbv⟩ : ∃ b, b = worldB x.d0 x.l1 x.l2 x.l3 x.l4 x.l5 x.l6 x.d7 x.d8 x.d9 x.d10 x.l11 x.d12 := ⟨_, rfl⟩
 obtain ⟨ks, hks⟩ := (spec_IsWorld_ev x.d0 x.l1 x.l2 x.l3 x.l4 x.l5 x.l6 x.d7 x.d8 x.d9 x.d10 x.l11 x.d12 OKX.out).rounds
 obtain ⟨ki, hki⟩ := (impl_IsWorld_ev x.d0 x.l1 x.l2 x.l3 x.l4 x.l5 x.l6 x.d7 x.d8 x.d9 x.d10 x.l11 x.d12 OKX.out).rounds
 rw [← hbv] at hks hki
 have KS := Aside0.mk hks
 have KI := Aside0.mk hki
 clear hks hki hbv hxe
 obtain ⟨z6, z7, z8, z9, z10, z11, z12, z13, z14, z15, z16, z17, z18⟩ := LW.at_ BX5.out
 go_wp2_with fail
 refine calls_gen (fun W' => Below w3.heap.size w3 W') ?gb ?_
 case gb => repeat (first | (with_reducible exact Below.refl _ _) | refine below_set ?_ (Nat.le_refl _) | apply below_alloc | apply pw_below_drewN)
 rintro W19 hbw
 clear z6 z7 z8 z9 z10 z11 z12 z13 z14 z15 z16 z17 z18
 have hrd := HQ.out.below (below_step HB4.out hbw)
 go_at_call 14; (refine (toWorld_c y q W19 hrd OK.out).mono ?_); rintro e w21 ⟨p22, rfl, hm, hb⟩
 rw [← HXE.out] at hm ⊢
 have HO23 := Aside0.mk ((hm.lower (Nat.le_trans HB4.out.size hbw.size)).mono (ok' := fun k => w3.heap.size ≤ k ∧ k < w21.heap.size) (fun k h => ⟨Nat.le_trans hbw.size h.1, h.2⟩))
 have hs := below_step hbw hb
 have HB24 := Aside0.mk (below_step HB4.out hs)
 clear HB4
 have BX25 := Aside0.mk (blk_below BX5.out hs); clear BX5
 replace HS := Aside0.mk (And.intro HS.out (hs.size : w3.heap.size ≤ w21.heap.size))
 clear hm hb hs hbw hrd
 obtain ⟨z26, z27, z28, z29, z30, z31, z32, z33, z34, z35, z36, z37, z38⟩ := LW.at_ BX25.out
 go_wp2_with fail
 refine calls_gen (fun W' => Below w21.heap.size w21 W') ?gb ?_
 case gb => repeat (first | (with_reducible exact Below.refl _ _) | refine below_set ?_ (Nat.le_refl _) | apply below_alloc | apply pw_below_drewN)
 rintro W39 hbw
 clear z26 z27 z28 z29 z30 z31 z32 z33 z34 z35 z36 z37 z38
 have h42 := (HO23.out.rd).below hbw
 go_at_call 49; (refine (spec_IsWorld.calls ks x.d0 p22.A1 p22.c1 x.l1 p22.A2 p22.c2 x.l2 p22.A3 p22.c3 x.l3 p22.A4 p22.c4 x.l4 p22.A5 p22.c5 x.l5 p22.A6 p22.c6 x.l6 x.d7 x.d8 x.d9 x.d10 p22.A11 p22.c11 x.l11 x.d12 (b) W39 h42.r1 h42.h1 h42.r2 h42.h2 h42.r3 h42.h3 h42.r4 h42.h4 h42.r5 h42.h5 h42.r6 h42.h6 h42.r11 h42.h11 KS.out).mono ?_); rintro e w41 ⟨rfl, hb⟩
 have hs := below_step hbw hb
 have HB43 := Aside0.mk (below_step HB24.out hs)
 clear HB24
 have HO44 := Aside0.mk (HO23.out.below hs); clear HO23
 have BX45 := Aside0.mk (blk_below BX25.out hs); clear BX25
 replace HS := Aside0.mk (And.intro HS.out (hs.size : w21.heap.size ≤ w41.heap.size))
 clear hb hs hbw h42
 obtain ⟨z46, z47, z48, z49, z50, z51, z52, z53, z54, z55, z56, z57, z58⟩ := LW.at_ BX45.out
 go_wp2_with fail
 refine calls_gen (fun W' => Below w41.heap.size w41 W') ?gb ?_
 case gb => repeat (first | (with_reducible exact Below.refl _ _) | refine below_set ?_ (Nat.le_refl _) | apply below_alloc | apply pw_below_drewN)
 rintro W59 hbw
 clear z46 z47 z48 z49 z50 z51 z52 z53 z54 z55 z56 z57 z58
 have hrd := HQ.out.below (below_step HB43.out hbw)
 go_at_call 14; (refine (toWorld_c y q W59 hrd OK.out).mono ?_); rintro e w61 ⟨p62, rfl, hm, hb⟩
 rw [← HXE.out] at hm ⊢
 have HO63 := Aside0.mk ((hm.lower (Nat.le_trans HB43.out.size hbw.size)).mono (ok' := fun k => w41.heap.size ≤ k ∧ k < w61.heap.size) (fun k h => ⟨Nat.le_trans hbw.size h.1, h.2⟩))
 have hs := below_step hbw hb
 have HB64 := Aside0.mk (below_step HB43.out hs)
 clear HB43
 have HO65 := Aside0.mk (HO44.out.below hs); clear HO44
 have BX66 := Aside0.mk (blk_below BX45.out hs); clear BX45
 replace HS := Aside0.mk (And.intro HS.out (hs.size : w41.heap.size ≤ w61.heap.size))
 clear hm hb hs hbw hrd
 obtain ⟨z67, z68, z69, z70, z71, z72, z73, z74, z75, z76, z77, z78, z79⟩ := LW.at_ BX66.out
 go_wp2_with fail
 refine calls_gen (fun W' => Below w61.heap.size w61 W' ∧ W'.heap[w61.heap.size]? = some (.cells (x.cells p62) 42 (0, 0))) ⟨?gb, ?gn⟩ ?_
 case gb => repeat (first | (with_reducible exact Below.refl _ _) | refine below_set ?_ (Nat.le_refl _) | apply below_alloc | apply pw_below_drewN)
 case gn => (repeat (refine blk_drewN ?_ _)); exact blk_new _ _
 rintro W80 ⟨hbw, hbn⟩
 clear z67 z68 z69 z70 z71 z72 z73 z74 z75 z76 z77 z78 z79
 have h83 := (HO63.out.rd).below hbw
 go_at_call 50; (refine (impl_IsWorld.calls ki x.d0 p62.A1 p62.c1 x.l1 p62.A2 p62.c2 x.l2 p62.A3 p62.c3 x.l3 p62.A4 p62.c4 x.l4 p62.A5 p62.c5 x.l5 p62.A6 p62.c6 x.l6 x.d7 x.d8 x.d9 x.d10 p62.A11 p62.c11 x.l11 x.d12 (b) W80 h83.r1 h83.h1 h83.r2 h83.h2 h83.r3 h83.h3 h83.r4 h83.h4 h83.r5 h83.h5 h83.r6 h83.h6 h83.r11 h83.h11 KI.out).mono ?_); rintro e w82 ⟨rfl, hb⟩
 have hs := below_step hbw hb
 have HB84 := Aside0.mk (below_step HB64.out hs)
 clear HB64
 have HO85 := Aside0.mk (HO65.out.below hs); clear HO65
 have HO86 := Aside0.mk (HO63.out.below hs); clear HO63
 have BX87 := Aside0.mk (blk_below BX66.out hs); clear BX66
 have BX88 := Aside0.mk (blk_below hbn hb)
 clear hbn
 replace HS := Aside0.mk (And.intro HS.out (hs.size : w61.heap.size ≤ w82.heap.size))
 replace HS := Aside0.mk (And.intro HS.out (blk_lt BX88.out))
 clear hb hs hbw h83
 go_upto_region 10 with fail
 skip
 go_region_held3 (fun w' => Below w82.heap.size w82 w' ∧ (w'.cell? ⟨w61.heap.size, 0, none⟩ = some (.int .i64 x.d0) ∧ w'.cell? ⟨w61.heap.size, 1, none⟩ = some (.slice p62.A1 x.l1.length p62.c1) ∧ w'.cell? ⟨w61.heap.size, 2, none⟩ = some (.slice p62.A2 x.l2.length p62.c2) ∧ w'.cell? ⟨w61.heap.size, 3, none⟩ = some (.slice p62.A3 x.l3.length p62.c3) ∧ w'.cell? ⟨w61.heap.size, 4, none⟩ = some (.slice p62.A4 x.l4.length p62.c4) ∧ w'.cell? ⟨w61.heap.size, 5, none⟩ = some (.slice p62.A5 x.l5.length p62.c5) ∧ w'.cell? ⟨w61.heap.size, 6, none⟩ = some (.slice p62.A6 x.l6.length p62.c6) ∧ w'.cell? ⟨w61.heap.size, 7, none⟩ = some (.int .i64 x.d7) ∧ w'.cell? ⟨w61.heap.size, 8, none⟩ = some (.int .i64 x.d8) ∧ w'.cell? ⟨w61.heap.size, 9, none⟩ = some (.int .i64 x.d9) ∧ w'.cell? ⟨w61.heap.size, 10, none⟩ = some (.int .i64 x.d10) ∧ w'.cell? ⟨w61.heap.size, 11, none⟩ = some (.slice p62.A11 x.l11.length p62.c11) ∧ w'.cell? ⟨w61.heap.size, 12, none⟩ = some (.int .i64 x.d12)) ∧ w'.cell? ⟨w.heap.size, 0, none⟩ = some (.int .i64 y.d0) ∧ w'.cell? ⟨w.heap.size, 1, none⟩ = some (.slice q.A1 y.l1.length q.c1) ∧ w'.cell? ⟨w.heap.size, 2, none⟩ = some (.slice q.A2 y.l2.length q.c2) ∧ w'.cell? ⟨w.heap.size, 3, none⟩ = some (.slice q.A3 y.l3.length q.c3) ∧ w'.cell? ⟨w.heap.size, 4, none⟩ = some (.slice q.A4 y.l4.length q.c4) ∧ w'.cell? ⟨w.heap.size, 5, none⟩ = some (.slice q.A5 y.l5.length q.c5) ∧ w'.cell? ⟨w.heap.size, 6, none⟩ = some (.slice q.A6 y.l6.length q.c6) ∧ w'.cell? ⟨w.heap.size, 7, none⟩ = some (.int .i64 y.d7) ∧ w'.cell? ⟨w.heap.size, 8, none⟩ = some (.int .i64 y.d8) ∧ w'.cell? ⟨w.heap.size, 9, none⟩ = some (.int .i64 y.d9) ∧ w'.cell? ⟨w.heap.size, 10, none⟩ = some (.int .i64 y.d10) ∧ w'.cell? ⟨w.heap.size, 11, none⟩ = some (.slice q.A11 y.l11.length q.c11) ∧ w'.cell? ⟨w.heap.size, 12, none⟩ = some (.int .i64 y.d12)) (first | exact ⟨(below_step (below_step (w := w82) (by repeat (first | (with_reducible first | exact Below.refl _ _ | apply below_alloc | apply pw_below_drewN | apply below_drew1) | exact Below.refl _ _)) hb1) (below_step (by repeat (first | (with_reducible first | exact Below.refl _ _ | apply below_alloc | apply pw_below_drewN | apply below_drew1) | exact Below.refl _ _)) hb2)), IW.at_ (blk_below BX88.out (below_step (below_step (w := w82) (by repeat (first | (with_reducible first | exact Below.refl _ _ | apply below_alloc | apply pw_below_drewN | apply below_drew1) | exact Below.refl _ _)) hb1) (below_step (by repeat (first | (with_reducible first | exact Below.refl _ _ | apply below_alloc | apply pw_below_drewN | apply below_drew1) | exact Below.refl _ _)) hb2))), LW.at_ (blk_below BX87.out (below_step (below_step (w := w82) (by repeat (first | (with_reducible first | exact Below.refl _ _ | apply below_alloc | apply pw_below_drewN | apply below_drew1) | exact Below.refl _ _)) hb1) (below_step (by repeat (first | (with_reducible first | exact Below.refl _ _ | apply below_alloc | apply pw_below_drewN | apply below_drew1) | exact Below.refl _ _)) hb2)))⟩ | exact ⟨(below_step (w := w82) (by repeat (first | (with_reducible first | exact Below.refl _ _ | apply below_alloc | apply pw_below_drewN | apply below_drew1) | exact Below.refl _ _)) hb1), IW.at_ (blk_below BX88.out (below_step (w := w82) (by repeat (first | (with_reducible first | exact Below.refl _ _ | apply below_alloc | apply pw_below_drewN | apply below_drew1) | exact Below.refl _ _)) hb1)), LW.at_ (blk_below BX87.out (below_step (w := w82) (by repeat (first | (with_reducible first | exact Below.refl _ _ | apply below_alloc | apply pw_below_drewN | apply below_drew1) | exact Below.refl _ _)) hb1))⟩ | exact ⟨(by repeat (first | (with_reducible first | exact Below.refl _ _ | apply below_alloc | apply pw_below_drewN | apply below_drew1) | exact Below.refl _ _)), IW.at_ (blk_below BX88.out (by repeat (first | (with_reducible first | exact Below.refl _ _ | apply below_alloc | apply pw_below_drewN | apply below_drew1) | exact Below.refl _ _))), LW.at_ (blk_below BX87.out (by repeat (first | (with_reducible first | exact Below.refl _ _ | apply below_alloc | apply pw_below_drewN | apply below_drew1) | exact Below.refl _ _)))⟩)
  (first | (go_at_call 14; (refine (toWorld_c y q _ (HQ.out.below (below_step HB84.out (by repeat (first | (with_reducible first | exact Below.refl _ _ | apply below_alloc | apply pw_below_drewN | apply below_drew1) | exact Below.refl _ _)))) OK.out).mono ?_); rintro e w1_ ⟨p_, rfl, hm, hb1⟩; rw [← HXE.out] at hm ⊢) | (go_at_call 17; (refine (eqWorld_c x p62 p_ _ ((HO86.out.rd).below (below_step (w := w82) (by repeat (first | (with_reducible first | exact Below.refl _ _ | apply below_alloc | apply pw_below_drewN | apply below_drew1) | exact Below.refl _ _)) hb1)) (hm.rd.below (by repeat (first | (with_reducible first | exact Below.refl _ _ | apply below_alloc | apply pw_below_drewN | apply below_drew1) | exact Below.refl _ _))) OKX.out).mono ?_); rintro e w2_ ⟨rfl, hb2⟩) | fail)
 all_goals go_wp2
 all_goals go_ret
 all_goals exact ⟨rfl, below_step HB84.out (below_step (below_step (below_step (w := w82) (by repeat (first | (with_reducible first | exact Below.refl _ _ | apply below_alloc | apply pw_below_drewN | apply below_drew1) | exact Below.refl _ _)) hb1) (below_step (by repeat (first | (with_reducible first | exact Below.refl _ _ | apply below_alloc | apply pw_below_drewN | apply below_drew1) | exact Below.refl _ _)) hb2)) (by repeat (first | (with_reducible first | exact Below.refl _ _ | apply below_alloc | apply pw_below_drewN | apply below_drew1) | exact Below.refl _ _)))⟩
theorem FnExactIsWorld_calls (a0_0 : Int) (A0_1 : Option Addr) (c0_1 : Nat) (l0_1 : (List S159)) (A0_2 : Option Addr) (c0_2 : Nat) (l0_2 : (List Int)) (A0_3 : Option Addr) (c0_3 : Nat) (l0_3 : (List Int)) (A0_4 : Option Addr) (c0_4 : Nat) (l0_4 : (List S139)) (A0_5 : Option Addr) (c0_5 : Nat) (l0_5 : (List Int)) (A0_6 : Option Addr) (c0_6 : Nat) (l0_6 : (List Int)) (a0_7 : Int) (a0_8 : Int) (a0_9 : Int) (a0_10 : Int) (A0_11 : Option Addr) (c0_11 : Nat) (l0_11 : (List S142)) (a0_12 : Int)  (w : World) (hr0_1 : Kd.C k159 w A0_1 l0_1.length l0_1) (hc0_1 : l0_1.length ≤ c0_1) (hr0_2 : Kd.C (Kd.int .i64) w A0_2 l0_2.length l0_2) (hc0_2 : l0_2.length ≤ c0_2) (hr0_3 : Kd.C (Kd.int .i64) w A0_3 l0_3.length l0_3) (hc0_3 : l0_3.length ≤ c0_3) (hr0_4 : Kd.C k139 w A0_4 l0_4.length l0_4) (hc0_4 : l0_4.length ≤ c0_4) (hr0_5 : Kd.C (Kd.int .i64) w A0_5 l0_5.length l0_5) (hc0_5 : l0_5.length ≤ c0_5) (hr0_6 : Kd.C (Kd.int .i64) w A0_6 l0_6.length l0_6) (hc0_6 : l0_6.length ≤ c0_6) (hr0_11 : Kd.C k142 w A0_11 l0_11.length l0_11) (hc0_11 : l0_11.length ≤ c0_11) (g0_0 : (Lit.int .i64 a0_0).wf = true) (g0_1 : (l0_1.length ≤ 9223372036854775807 ∧ ∀ y0_ ∈ l0_1, Wf159 y0_)) (g0_2 : (l0_2.length ≤ 9223372036854775807 ∧ ∀ y0_ ∈ l0_2, (Lit.int .i64 y0_).wf = true)) (g0_3 : (l0_3.length ≤ 9223372036854775807 ∧ ∀ y0_ ∈ l0_3, (Lit.int .i64 y0_).wf = true)) (g0_4 : (l0_4.length ≤ 9223372036854775807 ∧ ∀ y0_ ∈ l0_4, Wf139 y0_)) (g0_5 : (l0_5.length ≤ 9223372036854775807 ∧ ∀ y0_ ∈ l0_5, (Lit.int .i64 y0_).wf = true)) (g0_6 : (l0_6.length ≤ 9223372036854775807 ∧ ∀ y0_ ∈ l0_6, (Lit.int .i64 y0_).wf = true)) (g0_7 : (Lit.int .i64 a0_7).wf = true) (g0_8 : (Lit.int .i64 a0_8).wf = true) (g0_9 : (Lit.int .i64 a0_9).wf = true) (g0_10 : (Lit.int .i64 a0_10).wf = true) (g0_11 : (l0_11.length ≤ 9223372036854775807 ∧ ∀ y0_ ∈ l0_11, Wf142 y0_)) (g0_12 : (Lit.int .i64 a0_12).wf = true)  :
  Calls Try.prog 9 #[.agg #[.int .i64 a0_0, .slice A0_1 l0_1.length c0_1, .slice A0_2 l0_2.length c0_2, .slice A0_3 l0_3.length c0_3, .slice A0_4 l0_4.length c0_4, .slice A0_5 l0_5.length c0_5, .slice A0_6 l0_6.length c0_6, .int .i64 a0_7, .int .i64 a0_8, .int .i64 a0_9, .int .i64 a0_10, .slice A0_11 l0_11.length c0_11, .int .i64 a0_12]] w fun e w' => e = .returned (.bool true) ∧ Below w.heap.size w w' :=
 FnExactIsWorld_calls' ⟨a0_0, l0_1, l0_2, l0_3, l0_4, l0_5, l0_6, a0_7, a0_8, a0_9, a0_10, l0_11, a0_12⟩ ⟨A0_1, c0_1, A0_2, c0_2, A0_3, c0_3, A0_4, c0_4, A0_5, c0_5, A0_6, c0_6, A0_11, c0_11⟩  w ⟨hr0_1, hc0_1, hr0_2, hc0_2, hr0_3, hc0_3, hr0_4, hc0_4, hr0_5, hc0_5, hr0_6, hc0_6, hr0_11, hc0_11⟩ g0_1.1 g0_2.1 g0_3.1 ⟨g0_4.1, fun p hp => (g0_4.2 p hp).2.2.1⟩ g0_5.1 g0_6.1 g0_11.1
end Go.Proofs.Ytiipcophnnfnoaa.Pure
