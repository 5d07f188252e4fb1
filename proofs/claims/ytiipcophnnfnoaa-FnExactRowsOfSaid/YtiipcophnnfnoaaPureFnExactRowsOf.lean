/- Lemmas: zw_FnExactRowsOf -/
import Derived.Test.YtiipcophnnfnoaaPFnExactRowsOfx0
import Derived.Test.YtiipcophnnfnoaaPFnExactRowsOfx1
import Derived.Test.YtiipcophnnfnoaaPFnExactRowsOfx2
import Derived.Test.YtiipcophnnfnoaaPFnExactRowsOfx3
import Derived.Test.YtiipcophnnfnoaaPFnExactRowsOfx4
import Derived.Test.YtiipcophnnfnoaaPFnExactRowsOfx5
import Derived.Test.YtiipcophnnfnoaaPFnExactRowsOfx6
import Derived.Test.YtiipcophnnfnoaaPFnExactRowsOfx7
import Derived.Test.YtiipcophnnfnoaaPFnExactRowsOfx8
import Derived.Test.YtiipcophnnfnoaaPFnExactRowsOfx9
import Derived.Test.YtiipcophnnfnoaaRFnExactRowsOf
import Derived.Test.YtiipcophnnfnoaaBase
namespace Go.Proofs.Ytiipcophnnfnoaa.Pure
open Go.RowKit Go.Proofs.Ytiipcophnnfnoaa.Base Go.Proofs.Ytiipcophnnfnoaa.PFnExactRowsOf Go.Proofs.YtiipcophnnfnoaaW.PrintWords Go.Proofs.YtiipcophnnfnoaaW.PrintLast Go.Proofs.YtiipcophnnfnoaaW.PrintMore
set_option linter.unusedVariables false
set_option linter.unusedSimpArgs false
/-! ### own -/
/-- A row that a call made: its blocks are those between the two worlds. -/
theorem S_fresh {α : Type} {d : Kd α} {e : Nat} {w w2 W w3 : World} {v : Value} {xs : List α} (h0 : Below w.heap.size w w2) (h1 : Below w2.heap.size w2 W) (ho : Kd.S d e w3 W.heap.size (fun _ => True) v xs) (hb : Below W.heap.size W w3) : Kd.S d e w3 w.heap.size (fun k => w2.heap.size ≤ k ∧ k < w3.heap.size) v xs :=
  Kd.S_lower (Kd.S_mono (Kd.S_bound ho) (fun k hk => ⟨Nat.le_trans h1.size hk.2.1, hk.2.2.1⟩)) (Nat.le_trans h0.size h1.size)
theorem R_fresh {α : Type} {d : Kd α} {e : Nat} {w w2 W w3 : World} {v : Value} {xs : List α} (h0 : Below w.heap.size w w2) (h1 : Below w2.heap.size w2 W) (ho : Kd.R d e w3 W.heap.size (fun _ => True) v xs) (hb : Below W.heap.size W w3) : Kd.R d e w3 w.heap.size (fun k => w2.heap.size ≤ k ∧ k < w3.heap.size) v xs :=
  Kd.R_lower (Kd.R_mono (Kd.R_bound ho) (fun k hk => ⟨Nat.le_trans h1.size hk.2.1, hk.2.2.1⟩)) (Nat.le_trans h0.size h1.size)
/-- A flat row that was written and comes back: its blocks are the same. -/
theorem R_tight' {α β : Type} {d : Kd α} {d' : Kd β} {e e' : Nat} {w w' : World} {b b' : Nat} {ok ok' : Nat → Prop} {v : Value} {xs : List α} {ys : List β} (hE : d.E = []) (h : Kd.R d e w b ok v xs) (h' : Kd.R d' e' w' b' ok' v ys) : Kd.R d e w b ok' v xs :=
  Kd.R_mono (Kd.R_tight hE h) (fun k hk => h'.1 k hk.symm)
theorem calls_cast {P : Program} {f : Nat} {args args' : Array Value} {w : World} {Q : Ending → World → Prop} (h : args = args') (hc : Calls P f args w Q) : Calls P f args' w Q := h ▸ hc
/-! ### szints -/
def leftI (l : List Int) (a : Int) : Int := if a - (l.length : Int) < 0 then -1 else a - (l.length : Int)
theorem szIntS_eq (l : List Int) (a : Int) (h0 : 0 ≤ a) (h1 : a ≤ 1048576) (hl : l.length ≤ 9223372036854775807) : laws_szIntS.f l a = some (leftI l a) := by
  unfold laws_szIntS.f leftI
  rw [w64 (by omega) (by omega)]
  split <;> rfl
/-! ### ints -/
theorem toIntS_l0 : ∀ (suf pre rest : List Int), (pre ++ suf).length ≤ 1048576 → rest.length = suf.length →
    Ev (fun k => laws_toIntS.l0 k (pre ++ suf) (pre ++ rest) (pre.length : Int)) (pre ++ suf) := by
  intro suf
  induction suf with
  | nil =>
    intro pre rest hb hr
    obtain rfl : rest = [] := by simpa using hr
    refine Ev.step (fun k => by rw [laws_toIntS.l0]) ?_
    exact evNeg (by simp) (Ev.now _)
  | cons x suf ih =>
    intro pre rest hb hr
    obtain ⟨r, rest, rfl⟩ : ∃ r t, rest = r :: t := by
      cases rest with
      | nil => simp at hr
      | cons r t => exact ⟨r, t, rfl⟩
    simp only [List.length_append, List.length_cons] at hb hr
    refine Ev.step (fun k => by rw [laws_toIntS.l0]) ?_
    refine evPos (by simp only [List.length_append, List.length_cons]; omega) (evPos (by omega) (evPos (by simp only [List.length_append, List.length_cons]; omega) ?_))
    rw [rd_mid, set_mid, wsucc (by omega)]
    have h := ih (pre ++ [x]) rest (by simp; omega) (by omega)
    simpa using h
theorem toIntS_ev (l : List Int) (hl : l.length ≤ 1048576) : Ev (fun k => laws_toIntS.f k l) l := by
  unfold laws_toIntS.f
  refine evPos (by omega) (evPos (by omega) ?_)
  have h := toIntS_l0 l [] (List.replicate l.length 0) (by simpa using hl) (by simp)
  simpa using h
theorem eqIntS_l0 : ∀ (suf pre : List Int), (pre ++ suf).length ≤ 1048576 →
    Ev (fun k => laws_eqIntS.l0 k (pre ++ suf) (pre ++ suf) (pre.length : Int)) true := by
  intro suf
  induction suf with
  | nil =>
    intro pre hb
    refine Ev.step (fun k => by rw [laws_eqIntS.l0]) ?_
    exact evNeg (by simp) (Ev.now _)
  | cons x suf ih =>
    intro pre hb
    simp only [List.length_append, List.length_cons] at hb
    refine Ev.step (fun k => by rw [laws_eqIntS.l0]) ?_
    refine evPos (by simp only [List.length_append, List.length_cons]; omega) (evPos (by omega) (evPos (by simp only [List.length_append, List.length_cons]; omega) (evPos rfl ?_)))
    rw [wsucc (by omega)]
    have h := ih (pre ++ [x]) (by simp; omega)
    simpa using h
theorem eqIntS_ev (l : List Int) (hl : l.length ≤ 1048576) : Ev (fun k => laws_eqIntS.f k l l) true := by
  unfold laws_eqIntS.f
  refine evPos rfl ?_
  have h := eqIntS_l0 l [] (by simpa using hl)
  simpa using h
/-! ### seens -/
def leftL {α : Type} (l : List α) (a : Int) : Int := if a - (l.length : Int) < 0 then -1 else a - (l.length : Int)
theorem szSeenS_eq (l : List S142) (a : Int) (h0 : 0 ≤ a) (h1 : a ≤ 1048576) (hl : l.length ≤ 9223372036854775807) : laws_szSeenS.f l a = some (leftL l a) := by
  unfold laws_szSeenS.f leftL
  rw [w64 (by omega) (by omega)]
  split <;> rfl
theorem leftL_ok {α : Type} {l : List α} (h : 0 ≤ leftL l 1048576) : l.length ≤ 1048576 := by
  unfold leftL at h
  split at h <;> omega
def cvSeen (x : S142) : S62 := ⟨x.f0, x.f1, x.f2, x.f3, x.f4⟩
theorem toSeenS_l0 : ∀ (suf pre : List S142) (rest : List S62), (pre ++ suf).length ≤ 1048576 → rest.length = suf.length →
    Ev (fun k => laws_toSeenS.l0 k (pre ++ suf) (pre.map cvSeen ++ rest) (pre.length : Int)) ((pre ++ suf).map cvSeen) := by
  intro suf
  induction suf with
  | nil =>
    intro pre rest hb hr
    obtain rfl : rest = [] := by simpa using hr
    refine Ev.step (fun k => by rw [laws_toSeenS.l0]) ?_
    refine evNeg (by simp) (evEq ?_ (Ev.now _))
    simp
  | cons x suf ih =>
    intro pre rest hb hr
    obtain ⟨r, rest, rfl⟩ : ∃ r t, rest = r :: t := by
      cases rest with
      | nil => simp at hr
      | cons r t => exact ⟨r, t, rfl⟩
    simp only [List.length_append, List.length_cons] at hb hr
    refine Ev.step (fun k => by rw [laws_toSeenS.l0]) ?_
    refine evPos (by simp only [List.length_append, List.length_cons]; omega) (evPos (by omega) ?_)
    simp only [rd_T142, getD_mid]
    refine evSome rfl (evPos (by simp only [List.length_append, List.length_cons, List.length_map]; omega) ?_)
    rw [wsucc (by omega)]
    have h := ih (pre ++ [x]) rest (by simp; omega) (by omega)
    refine evEq ?_ (Ev.congr (fun k => ?_) h)
    · simp
    · have e : (pre.length : Int) = ((pre.map cvSeen).length : Int) := by simp
      rw [e, set_mid]
      simp [cvSeen]
theorem toSeenS_ev (l : List S142) (hl : l.length ≤ 1048576) : Ev (fun k => laws_toSeenS.f k l) (l.map cvSeen) := by
  unfold laws_toSeenS.f
  refine evPos (by omega) (evPos (by omega) ?_)
  have h := toSeenS_l0 l [] (List.replicate l.length z62) (by simpa using hl) (by simp)
  simpa using h
theorem eqSeen_eq (x : S62) : laws_eqSeen.f x.f0 x.f1 x.f2 x.f3 x.f4 x.f0 x.f1 x.f2 x.f3 x.f4 = some true := by
  simp [laws_eqSeen.f]
theorem eqSeenS_l0 : ∀ (suf pre : List S62), (pre ++ suf).length ≤ 1048576 →
    Ev (fun k => laws_eqSeenS.l0 k (pre ++ suf) (pre ++ suf) (pre.length : Int)) true := by
  intro suf
  induction suf with
  | nil =>
    intro pre hb
    refine Ev.step (fun k => by rw [laws_eqSeenS.l0]) ?_
    exact evNeg (by simp) (Ev.now _)
  | cons x suf ih =>
    intro pre hb
    simp only [List.length_append, List.length_cons] at hb
    refine Ev.step (fun k => by rw [laws_eqSeenS.l0]) ?_
    refine evPos (by simp only [List.length_append, List.length_cons]; omega) (evPos (by omega) (evPos (by simp only [List.length_append, List.length_cons]; omega) ?_))
    simp only [rd_T62, getD_mid]
    refine evSome (eqSeen_eq x) (evPos rfl ?_)
    rw [wsucc (by omega)]
    have h := ih (pre ++ [x]) (by simp; omega)
    simpa using h
theorem eqSeenS_ev (l : List S62) (hl : l.length ≤ 1048576) : Ev (fun k => laws_eqSeenS.f k l l) true := by
  unfold laws_eqSeenS.f
  refine evPos rfl ?_
  have h := eqSeenS_l0 l [] (by simpa using hl)
  simpa using h
/-! ### world -/
def okP (l : List S139) : Prop := l.length ≤ 1048576 ∧ ∀ p ∈ l, p.f2.length ≤ 1048576
def cvLink (x : S159) : S133 := ⟨x.f0, x.f1⟩
def cvProbe (x : S139) : S103 := ⟨x.f0, x.f1, x.f2⟩
theorem szLinkS_eq (l : List S159) (a : Int) (h0 : 0 ≤ a) (h1 : a ≤ 1048576) (hl : l.length ≤ 9223372036854775807) : laws_szLinkS.f l a = some (leftL l a) := by
  unfold laws_szLinkS.f leftL
  rw [w64 (by omega) (by omega)]
  split <;> rfl
theorem leftL_neg {α : Type} {l : List α} {a : Int} (h : leftL l a < 0) : leftL l a = -1 := by
  unfold leftL at h ⊢
  split <;> omega
theorem leftL_le {α : Type} (l : List α) {a : Int} (h0 : 0 ≤ a) : leftL l a ≤ a := by
  unfold leftL
  split <;> omega
theorem leftL_ok' {α : Type} {l : List α} {a : Int} (ha : a ≤ 1048576) (h : 0 ≤ leftL l a) : l.length ≤ 1048576 := by
  unfold leftL at h
  split at h <;> omega
theorem leftI_eq (l : List Int) (a : Int) : leftI l a = leftL l a := rfl
theorem szNet_eq (n : Int) (l : List S159) (a : Int) (h0 : 0 ≤ a) (h1 : a ≤ 1048576) (hl : l.length ≤ 9223372036854775807) : laws_szNet.f n l a = some (leftL l a) := by
  unfold laws_szNet.f
  rw [szLinkS_eq l a h0 h1 hl, Option.bind_some]
  split
  · rename_i h
    rw [leftL_neg h]
  · rfl
theorem szProbe_eq (x y : Int) (l : List Int) (a : Int) (h0 : 0 ≤ a) (h1 : a ≤ 1048576) (hl : l.length ≤ 9223372036854775807) : laws_szProbe.f x y l a = some (leftL l a) := by
  unfold laws_szProbe.f
  rw [szIntS_eq l a h0 h1 hl, Option.bind_some, leftI_eq]
  split
  · rename_i h
    rw [leftL_neg h]
  · rfl
theorem szProbeS_l0 : ∀ (suf pre : List S139) (a : Int), (pre ++ suf).length ≤ 1048576 → 0 ≤ a → a ≤ 1048576 → (∀ p ∈ suf, p.f2.length ≤ 9223372036854775807) →
    ∃ r, Ev (fun k => laws_szProbeS.l0 k (pre ++ suf) a (pre.length : Int)) r ∧ r ≤ 1048576 ∧ (0 ≤ r → ∀ p ∈ suf, p.f2.length ≤ 1048576) := by
  intro suf
  induction suf with
  | nil =>
    intro pre a hb h0 h1 hr
    refine ⟨a, Ev.step (fun k => by rw [laws_szProbeS.l0]) (evNeg (by simp) (Ev.now _)), h1, by simp⟩
  | cons x suf ih =>
    intro pre a hb h0 h1 hr
    simp only [List.length_append, List.length_cons] at hb
    have hx := szProbe_eq x.f0 x.f1 x.f2 a h0 h1 (hr x (by simp))
    have hle := leftL_le x.f2 h0
    by_cases hn : leftL x.f2 a < 0
    · refine ⟨-1, Ev.step (fun k => by rw [laws_szProbeS.l0]) ?_, by omega, fun h => by omega⟩
      refine evPos (by simp only [List.length_append, List.length_cons]; omega) (evPos (by omega) ?_)
      simp only [rd_T139, getD_mid]
      exact evSome hx (evPos hn (Ev.now _))
    · obtain ⟨r, he, hr1, hr2⟩ := ih (pre ++ [x]) (leftL x.f2 a) (by simp; omega) (by omega) (by omega) (fun p h => hr p (by simp [h]))
      refine ⟨r, Ev.step (fun k => by rw [laws_szProbeS.l0]) ?_, hr1, fun h p hp => ?_⟩
      · refine evPos (by simp only [List.length_append, List.length_cons]; omega) (evPos (by omega) ?_)
        simp only [rd_T139, getD_mid]
        refine evSome hx (evNeg hn ?_)
        rw [wsucc (by omega)]
        simpa using he
      · rcases List.mem_cons.1 hp with rfl | hp
        · exact leftL_ok' h1 (by omega)
        · exact hr2 h p hp
theorem szProbeS_ev (l : List S139) (a : Int) (h0 : 0 ≤ a) (h1 : a ≤ 1048576) (hl : l.length ≤ 9223372036854775807) (hr : ∀ p ∈ l, p.f2.length ≤ 9223372036854775807) :
    ∃ r, Ev (fun k => laws_szProbeS.f k l a) r ∧ r ≤ 1048576 ∧ (0 ≤ r → okP l) := by
  by_cases h : a - (l.length : Int) < 0
  · refine ⟨-1, ?_, by omega, fun h => by omega⟩
    unfold laws_szProbeS.f
    rw [w64 (by omega) (by omega)]
    exact evPos h (Ev.now _)
  · obtain ⟨r, he, hr1, hr2⟩ := szProbeS_l0 l [] (a - (l.length : Int)) (by simp; omega) (by omega) (by omega) hr
    refine ⟨r, ?_, hr1, fun h2 => ⟨by omega, hr2 h2⟩⟩
    unfold laws_szProbeS.f
    rw [w64 (by omega) (by omega)]
    exact evNeg h he
def okW (lk : List S159) (de dn : List Int) (pr : List S139) (ow li : List Int) (se : List S142) : Prop :=
  lk.length ≤ 1048576 ∧ de.length ≤ 1048576 ∧ dn.length ≤ 1048576 ∧ okP pr ∧ ow.length ≤ 1048576 ∧ li.length ≤ 1048576 ∧ se.length ≤ 1048576
theorem toLinkS_l0 : ∀ (suf pre : List S159) (rest : List S133), (pre ++ suf).length ≤ 1048576 → rest.length = suf.length → 
    Ev (fun k => laws_toLinkS.l0 k (pre ++ suf) (pre.map cvLink ++ rest) (pre.length : Int)) ((pre ++ suf).map cvLink) := by
  intro suf
  induction suf with
  | nil =>
    intro pre rest hb hr
    obtain rfl : rest = [] := by simpa using hr
    refine Ev.step (fun k => by rw [laws_toLinkS.l0]) ?_
    refine evNeg (by simp) (evEq ?_ (Ev.now _))
    simp
  | cons x suf ih =>
    intro pre rest hb hr
    obtain ⟨r, rest, rfl⟩ : ∃ r t, rest = r :: t := by
      cases rest with
      | nil => simp at hr
      | cons r t => exact ⟨r, t, rfl⟩
    simp only [List.length_append, List.length_cons] at hb hr
    refine Ev.step (fun k => by rw [laws_toLinkS.l0]) ?_
    refine evPos (by simp only [List.length_append, List.length_cons]; omega) (evPos (by omega) ?_)
    simp only [rd_T159, getD_mid]
    refine evSome rfl (evPos (by simp only [List.length_append, List.length_cons, List.length_map]; omega) ?_)
    rw [wsucc (by omega)]
    have h := ih (pre ++ [x]) rest (by simp; omega) (by omega)
    refine evEq ?_ (Ev.congr (fun k => ?_) h)
    · simp
    · have e : (pre.length : Int) = ((pre.map cvLink).length : Int) := by simp
      rw [e, set_mid]
      simp [cvLink]
theorem toLinkS_ev (l : List S159) (hl : l.length ≤ 1048576) : Ev (fun k => laws_toLinkS.f k l) (l.map cvLink) := by
  unfold laws_toLinkS.f
  refine evPos (by omega) (evPos (by omega) ?_)
  have h := toLinkS_l0 l [] (List.replicate l.length z133) (by simpa using hl) (by simp)
  simpa using h
theorem toProbe_ev (x : S139) (h : x.f2.length ≤ 1048576) : Ev (fun k => laws_toProbe.f k x.f0 x.f1 x.f2) (x.f0, x.f1, x.f2) := by
  unfold laws_toProbe.f
  exact Ev.bind (toIntS_ev x.f2 h) (Ev.now _)
theorem toProbeS_l0 : ∀ (suf pre : List S139) (rest : List S103), (pre ++ suf).length ≤ 1048576 → rest.length = suf.length → (∀ p ∈ suf, p.f2.length ≤ 1048576) →
    Ev (fun k => laws_toProbeS.l0 k (pre ++ suf) (pre.map cvProbe ++ rest) (pre.length : Int)) ((pre ++ suf).map cvProbe) := by
  intro suf
  induction suf with
  | nil =>
    intro pre rest hb hr hq
    obtain rfl : rest = [] := by simpa using hr
    refine Ev.step (fun k => by rw [laws_toProbeS.l0]) ?_
    refine evNeg (by simp) (evEq ?_ (Ev.now _))
    simp
  | cons x suf ih =>
    intro pre rest hb hr hq
    obtain ⟨r, rest, rfl⟩ : ∃ r t, rest = r :: t := by
      cases rest with
      | nil => simp at hr
      | cons r t => exact ⟨r, t, rfl⟩
    simp only [List.length_append, List.length_cons] at hb hr
    refine Ev.step (fun k => by rw [laws_toProbeS.l0]) ?_
    refine evPos (by simp only [List.length_append, List.length_cons]; omega) (evPos (by omega) ?_)
    simp only [rd_T139, getD_mid]
    refine Ev.bind (toProbe_ev x (hq x (by simp))) (evPos (by simp only [List.length_append, List.length_cons, List.length_map]; omega) ?_)
    rw [wsucc (by omega)]
    have h := ih (pre ++ [x]) rest (by simp; omega) (by omega) (fun p h => hq p (by simp [h]))
    refine evEq ?_ (Ev.congr (fun k => ?_) h)
    · simp
    · have e : (pre.length : Int) = ((pre.map cvProbe).length : Int) := by simp
      rw [e, set_mid]
      simp [cvProbe]
theorem toProbeS_ev (l : List S139) (hl : okP l) : Ev (fun k => laws_toProbeS.f k l) (l.map cvProbe) := by
  have hl1 := hl.1
  unfold laws_toProbeS.f
  refine evPos (by omega) (evPos (by omega) ?_)
  have h := toProbeS_l0 l [] (List.replicate l.length z103) (by simpa using hl.1) (by simp) hl.2
  simpa using h
theorem eqLink_eq (x : S133) : laws_eqLink.f x.f0 x.f1 x.f0 x.f1 = some true := by
  simp [laws_eqLink.f]
theorem eqLinkS_l0 : ∀ (suf pre : List S133), (pre ++ suf).length ≤ 1048576 → 
    Ev (fun k => laws_eqLinkS.l0 k (pre ++ suf) (pre ++ suf) (pre.length : Int)) true := by
  intro suf
  induction suf with
  | nil =>
    intro pre hb
    refine Ev.step (fun k => by rw [laws_eqLinkS.l0]) ?_
    exact evNeg (by simp) (Ev.now _)
  | cons x suf ih =>
    intro pre hb
    simp only [List.length_append, List.length_cons] at hb
    refine Ev.step (fun k => by rw [laws_eqLinkS.l0]) ?_
    refine evPos (by simp only [List.length_append, List.length_cons]; omega) (evPos (by omega) (evPos (by simp only [List.length_append, List.length_cons]; omega) ?_))
    simp only [rd_T133, getD_mid]
    refine evSome (eqLink_eq x) (evPos rfl ?_)
    rw [wsucc (by omega)]
    have h := ih (pre ++ [x]) (by simp; omega)
    simpa using h
theorem eqLinkS_ev (l : List S133) (hl : l.length ≤ 1048576) : Ev (fun k => laws_eqLinkS.f k l l) true := by
  unfold laws_eqLinkS.f
  refine evPos rfl ?_
  have h := eqLinkS_l0 l [] (by simpa using hl)
  simpa using h
def okP' (l : List S103) : Prop := l.length ≤ 1048576 ∧ ∀ p ∈ l, p.f2.length ≤ 1048576
theorem eqProbe_ev (x : S103) (h : x.f2.length ≤ 1048576) : Ev (fun k => laws_eqProbe.f k x.f0 x.f1 x.f2 x.f0 x.f1 x.f2) true := by
  unfold laws_eqProbe.f
  exact evPos rfl (evPos rfl (Ev.bind (eqIntS_ev x.f2 h) (evPos rfl (Ev.now _))))
theorem eqProbeS_l0 : ∀ (suf pre : List S103), (pre ++ suf).length ≤ 1048576 → (∀ p ∈ suf, p.f2.length ≤ 1048576) →
    Ev (fun k => laws_eqProbeS.l0 k (pre ++ suf) (pre ++ suf) (pre.length : Int)) true := by
  intro suf
  induction suf with
  | nil =>
    intro pre hb hq
    refine Ev.step (fun k => by rw [laws_eqProbeS.l0]) ?_
    exact evNeg (by simp) (Ev.now _)
  | cons x suf ih =>
    intro pre hb hq
    simp only [List.length_append, List.length_cons] at hb
    refine Ev.step (fun k => by rw [laws_eqProbeS.l0]) ?_
    refine evPos (by simp only [List.length_append, List.length_cons]; omega) (evPos (by omega) (evPos (by simp only [List.length_append, List.length_cons]; omega) ?_))
    simp only [rd_T103, getD_mid]
    refine Ev.bind (eqProbe_ev x (hq x (by simp))) (evPos rfl ?_)
    rw [wsucc (by omega)]
    have h := ih (pre ++ [x]) (by simp; omega) (fun p h => hq p (by simp [h]))
    simpa using h
theorem eqProbeS_ev (l : List S103) (hl : okP' l) : Ev (fun k => laws_eqProbeS.f k l l) true := by
  unfold laws_eqProbeS.f
  refine evPos rfl ?_
  have h := eqProbeS_l0 l [] (by simpa using hl.1) hl.2
  simpa using h
def okW' (lk : List S133) (de dn : List Int) (pr : List S103) (ow li : List Int) (se : List S62) : Prop :=
  lk.length ≤ 1048576 ∧ de.length ≤ 1048576 ∧ dn.length ≤ 1048576 ∧ okP' pr ∧ ow.length ≤ 1048576 ∧ li.length ≤ 1048576 ∧ se.length ≤ 1048576
theorem okW_cv {lk : List S159} {de dn : List Int} {pr : List S139} {ow li : List Int} {se : List S142} (h : okW lk de dn pr ow li se) :
    okW' (lk.map cvLink) de dn (pr.map cvProbe) ow li (se.map cvSeen) := by
  obtain ⟨h1, h2, h3, h4, h5, h6, h7⟩ := h
  refine ⟨by simpa using h1, h2, h3, ⟨by simpa using h4.1, fun p hp => ?_⟩, h5, h6, by simpa using h7⟩
  obtain ⟨q, hq, rfl⟩ := List.mem_map.1 hp
  exact h4.2 q hq
theorem eqBucket_eq (a b c d : Int) : laws_eqBucket.f a b c d a b c d = some true := by
  simp [laws_eqBucket.f]
theorem eqNet_ev (nd : Int) (lk : List S133) (h : lk.length ≤ 1048576) : Ev (fun k => laws_eqNet.f k nd lk nd lk) true := by
  unfold laws_eqNet.f
  exact evPos rfl (Ev.bind (eqLinkS_ev lk h) (evPos rfl (Ev.now _)))
/-! ### wkit -/
/-- A world's data (impl.World). -/
structure IW where
  d0 : Int
  l1 : List S133
  l2 : List Int
  l3 : List Int
  l4 : List S103
  l5 : List Int
  l6 : List Int
  d7 : Int
  d8 : Int
  d9 : Int
  d10 : Int
  l11 : List S62
  d12 : Int
/-- Where its rows lie. -/
structure IP where
  A1 : Option Addr
  c1 : Nat
  A2 : Option Addr
  c2 : Nat
  A3 : Option Addr
  c3 : Nat
  A4 : Option Addr
  c4 : Nat
  A5 : Option Addr
  c5 : Nat
  A6 : Option Addr
  c6 : Nat
  A11 : Option Addr
  c11 : Nat
abbrev IW.cells (x : IW) (p : IP) : Array Value := #[.int .i64 x.d0, .slice p.A1 x.l1.length p.c1, .slice p.A2 x.l2.length p.c2, .slice p.A3 x.l3.length p.c3, .slice p.A4 x.l4.length p.c4, .slice p.A5 x.l5.length p.c5, .slice p.A6 x.l6.length p.c6, .int .i64 x.d7, .int .i64 x.d8, .int .i64 x.d9, .int .i64 x.d10, .slice p.A11 x.l11.length p.c11, .int .i64 x.d12]
structure IW.Rd (x : IW) (p : IP) (w : World) : Prop where
  r1 : Kd.C k133 w p.A1 x.l1.length x.l1
  h1 : x.l1.length ≤ p.c1
  r2 : Kd.C (Kd.int .i64) w p.A2 x.l2.length x.l2
  h2 : x.l2.length ≤ p.c2
  r3 : Kd.C (Kd.int .i64) w p.A3 x.l3.length x.l3
  h3 : x.l3.length ≤ p.c3
  r4 : Kd.C k103 w p.A4 x.l4.length x.l4
  h4 : x.l4.length ≤ p.c4
  r5 : Kd.C (Kd.int .i64) w p.A5 x.l5.length x.l5
  h5 : x.l5.length ≤ p.c5
  r6 : Kd.C (Kd.int .i64) w p.A6 x.l6.length x.l6
  h6 : x.l6.length ≤ p.c6
  r11 : Kd.C k62 w p.A11 x.l11.length x.l11
  h11 : x.l11.length ≤ p.c11
theorem IW.Rd.below {x : IW} {p : IP} {w w1 : World} (h : x.Rd p w) (hb : Below w.heap.size w w1) : x.Rd p w1 := ⟨Kd.C_below h.r1 hb, h.h1, Kd.C_below h.r2 hb, h.h2, Kd.C_below h.r3 hb, h.h3, Kd.C_below h.r4 hb, h.h4, Kd.C_below h.r5 hb, h.h5, Kd.C_below h.r6 hb, h.h6, Kd.C_below h.r11 hb, h.h11⟩
theorem IW.at_ {x : IW} {p : IP} {w : World} {g t : Nat} (h : w.heap[g]? = some (.cells (x.cells p) t (0, 0))) : w.cell? ⟨g, 0, none⟩ = some (.int .i64 x.d0) ∧ w.cell? ⟨g, 1, none⟩ = some (.slice p.A1 x.l1.length p.c1) ∧ w.cell? ⟨g, 2, none⟩ = some (.slice p.A2 x.l2.length p.c2) ∧ w.cell? ⟨g, 3, none⟩ = some (.slice p.A3 x.l3.length p.c3) ∧ w.cell? ⟨g, 4, none⟩ = some (.slice p.A4 x.l4.length p.c4) ∧ w.cell? ⟨g, 5, none⟩ = some (.slice p.A5 x.l5.length p.c5) ∧ w.cell? ⟨g, 6, none⟩ = some (.slice p.A6 x.l6.length p.c6) ∧ w.cell? ⟨g, 7, none⟩ = some (.int .i64 x.d7) ∧ w.cell? ⟨g, 8, none⟩ = some (.int .i64 x.d8) ∧ w.cell? ⟨g, 9, none⟩ = some (.int .i64 x.d9) ∧ w.cell? ⟨g, 10, none⟩ = some (.int .i64 x.d10) ∧ w.cell? ⟨g, 11, none⟩ = some (.slice p.A11 x.l11.length p.c11) ∧ w.cell? ⟨g, 12, none⟩ = some (.int .i64 x.d12) := ⟨(blk_cell h 0).trans rfl, (blk_cell h 1).trans rfl, (blk_cell h 2).trans rfl, (blk_cell h 3).trans rfl, (blk_cell h 4).trans rfl, (blk_cell h 5).trans rfl, (blk_cell h 6).trans rfl, (blk_cell h 7).trans rfl, (blk_cell h 8).trans rfl, (blk_cell h 9).trans rfl, (blk_cell h 10).trans rfl, (blk_cell h 11).trans rfl, (blk_cell h 12).trans rfl⟩
structure IW.Md (x : IW) (p : IP) (w : World) (base : Nat) (ok : Nat → Prop) : Prop where
  m1 : Kd.R k133 133 w base (fun k_ => ok k_) (.slice p.A1 x.l1.length p.c1) x.l1
  m2 : Kd.R (Kd.int .i64) 3 w base (fun k_ => ok k_ ∧ some k_ ≠ (.slice p.A3 x.l3.length p.c3 : Value).ownBlock ∧ some k_ ≠ (.slice p.A5 x.l5.length p.c5 : Value).ownBlock ∧ some k_ ≠ (.slice p.A6 x.l6.length p.c6 : Value).ownBlock) (.slice p.A2 x.l2.length p.c2) x.l2
  m3 : Kd.R (Kd.int .i64) 3 w base (fun k_ => ok k_ ∧ some k_ ≠ (.slice p.A2 x.l2.length p.c2 : Value).ownBlock ∧ some k_ ≠ (.slice p.A5 x.l5.length p.c5 : Value).ownBlock ∧ some k_ ≠ (.slice p.A6 x.l6.length p.c6 : Value).ownBlock) (.slice p.A3 x.l3.length p.c3) x.l3
  m4 : Kd.S k103 103 w base (fun k_ => ok k_ ∧ some k_ ≠ (.slice p.A2 x.l2.length p.c2 : Value).ownBlock ∧ some k_ ≠ (.slice p.A3 x.l3.length p.c3 : Value).ownBlock ∧ some k_ ≠ (.slice p.A5 x.l5.length p.c5 : Value).ownBlock ∧ some k_ ≠ (.slice p.A6 x.l6.length p.c6 : Value).ownBlock) (.slice p.A4 x.l4.length p.c4) x.l4
  m5 : Kd.R (Kd.int .i64) 3 w base (fun k_ => ok k_ ∧ some k_ ≠ (.slice p.A2 x.l2.length p.c2 : Value).ownBlock ∧ some k_ ≠ (.slice p.A3 x.l3.length p.c3 : Value).ownBlock ∧ some k_ ≠ (.slice p.A6 x.l6.length p.c6 : Value).ownBlock) (.slice p.A5 x.l5.length p.c5) x.l5
  m6 : Kd.R (Kd.int .i64) 3 w base (fun k_ => ok k_ ∧ some k_ ≠ (.slice p.A2 x.l2.length p.c2 : Value).ownBlock ∧ some k_ ≠ (.slice p.A3 x.l3.length p.c3 : Value).ownBlock ∧ some k_ ≠ (.slice p.A5 x.l5.length p.c5 : Value).ownBlock) (.slice p.A6 x.l6.length p.c6) x.l6
  m11 : Kd.R k62 62 w base (fun k_ => ok k_) (.slice p.A11 x.l11.length p.c11) x.l11
theorem IW.Md.rd {x : IW} {p : IP} {w : World} {base : Nat} {ok : Nat → Prop} (h : x.Md p w base ok) : x.Rd p w := ⟨(Kd.R_reads' h.m1).2.2, (Kd.R_reads' h.m1).2.1, (Kd.R_reads' h.m2).2.2, (Kd.R_reads' h.m2).2.1, (Kd.R_reads' h.m3).2.2, (Kd.R_reads' h.m3).2.1, (Kd.S_reads' h.m4).2.2, (Kd.S_reads' h.m4).2.1, (Kd.R_reads' h.m5).2.2, (Kd.R_reads' h.m5).2.1, (Kd.R_reads' h.m6).2.2, (Kd.R_reads' h.m6).2.1, (Kd.R_reads' h.m11).2.2, (Kd.R_reads' h.m11).2.1⟩
theorem IW.Md.step {x : IW} {p : IP} {w w1 : World} {base : Nat} {ok : Nat → Prop} (h : x.Md p w base ok) (hm : ∀ k, ok k → k < w.heap.size → w1.heap[k]? = w.heap[k]?) : x.Md p w1 base ok := ⟨Kd.R_step h.m1 (fun k hk hl => hm k hk hl), Kd.R_step h.m2 (fun k hk hl => hm k hk.1 hl), Kd.R_step h.m3 (fun k hk hl => hm k hk.1 hl), Kd.S_step h.m4 (fun k hk hl => hm k hk.1 hl), Kd.R_step h.m5 (fun k hk hl => hm k hk.1 hl), Kd.R_step h.m6 (fun k hk hl => hm k hk.1 hl), Kd.R_step h.m11 (fun k hk hl => hm k hk hl)⟩
theorem IW.Md.below {x : IW} {p : IP} {w w1 : World} {base : Nat} {ok : Nat → Prop} (h : x.Md p w base ok) (hb : Below w.heap.size w w1) : x.Md p w1 base ok := h.step (fun k _ hl => hb.block k hl)
theorem IW.Md.kept {x : IW} {p : IP} {w w1 : World} {base : Nat} {ok S : Nat → Prop} (h : x.Md p w base ok) (hk : Kept w w1 S) (hne : ∀ k, ok k → ¬ S k) : x.Md p w1 base ok := h.step (fun k ho hl => hk.2 k hl (hne k ho))
theorem IW.Md.lower {x : IW} {p : IP} {w : World} {base base' : Nat} {ok : Nat → Prop} (h : x.Md p w base ok) (hb : base' ≤ base) : x.Md p w base' ok := ⟨Kd.R_lower h.m1 hb, Kd.R_lower h.m2 hb, Kd.R_lower h.m3 hb, Kd.S_lower h.m4 hb, Kd.R_lower h.m5 hb, Kd.R_lower h.m6 hb, Kd.R_lower h.m11 hb⟩
theorem IW.Md.mono {x : IW} {p : IP} {w : World} {base : Nat} {ok ok' : Nat → Prop} (h : x.Md p w base ok) (hok : ∀ k, ok k → ok' k) : x.Md p w base ok' := ⟨Kd.R_mono h.m1 (fun k hk => hok k hk), Kd.R_mono h.m2 (fun k hk => ⟨hok k hk.1, hk.2⟩), Kd.R_mono h.m3 (fun k hk => ⟨hok k hk.1, hk.2⟩), Kd.S_mono h.m4 (fun k hk => ⟨hok k hk.1, hk.2⟩), Kd.R_mono h.m5 (fun k hk => ⟨hok k hk.1, hk.2⟩), Kd.R_mono h.m6 (fun k hk => ⟨hok k hk.1, hk.2⟩), Kd.R_mono h.m11 (fun k hk => hok k hk)⟩
/-- A world's data (laws.World). -/
structure LW where
  d0 : Int
  l1 : List S159
  l2 : List Int
  l3 : List Int
  l4 : List S139
  l5 : List Int
  l6 : List Int
  d7 : Int
  d8 : Int
  d9 : Int
  d10 : Int
  l11 : List S142
  d12 : Int
/-- Where its rows lie. -/
structure LP where
  A1 : Option Addr
  c1 : Nat
  A2 : Option Addr
  c2 : Nat
  A3 : Option Addr
  c3 : Nat
  A4 : Option Addr
  c4 : Nat
  A5 : Option Addr
  c5 : Nat
  A6 : Option Addr
  c6 : Nat
  A11 : Option Addr
  c11 : Nat
abbrev LW.cells (x : LW) (p : LP) : Array Value := #[.int .i64 x.d0, .slice p.A1 x.l1.length p.c1, .slice p.A2 x.l2.length p.c2, .slice p.A3 x.l3.length p.c3, .slice p.A4 x.l4.length p.c4, .slice p.A5 x.l5.length p.c5, .slice p.A6 x.l6.length p.c6, .int .i64 x.d7, .int .i64 x.d8, .int .i64 x.d9, .int .i64 x.d10, .slice p.A11 x.l11.length p.c11, .int .i64 x.d12]
structure LW.Rd (x : LW) (p : LP) (w : World) : Prop where
  r1 : Kd.C k159 w p.A1 x.l1.length x.l1
  h1 : x.l1.length ≤ p.c1
  r2 : Kd.C (Kd.int .i64) w p.A2 x.l2.length x.l2
  h2 : x.l2.length ≤ p.c2
  r3 : Kd.C (Kd.int .i64) w p.A3 x.l3.length x.l3
  h3 : x.l3.length ≤ p.c3
  r4 : Kd.C k139 w p.A4 x.l4.length x.l4
  h4 : x.l4.length ≤ p.c4
  r5 : Kd.C (Kd.int .i64) w p.A5 x.l5.length x.l5
  h5 : x.l5.length ≤ p.c5
  r6 : Kd.C (Kd.int .i64) w p.A6 x.l6.length x.l6
  h6 : x.l6.length ≤ p.c6
  r11 : Kd.C k142 w p.A11 x.l11.length x.l11
  h11 : x.l11.length ≤ p.c11
theorem LW.Rd.below {x : LW} {p : LP} {w w1 : World} (h : x.Rd p w) (hb : Below w.heap.size w w1) : x.Rd p w1 := ⟨Kd.C_below h.r1 hb, h.h1, Kd.C_below h.r2 hb, h.h2, Kd.C_below h.r3 hb, h.h3, Kd.C_below h.r4 hb, h.h4, Kd.C_below h.r5 hb, h.h5, Kd.C_below h.r6 hb, h.h6, Kd.C_below h.r11 hb, h.h11⟩
theorem LW.at_ {x : LW} {p : LP} {w : World} {g t : Nat} (h : w.heap[g]? = some (.cells (x.cells p) t (0, 0))) : w.cell? ⟨g, 0, none⟩ = some (.int .i64 x.d0) ∧ w.cell? ⟨g, 1, none⟩ = some (.slice p.A1 x.l1.length p.c1) ∧ w.cell? ⟨g, 2, none⟩ = some (.slice p.A2 x.l2.length p.c2) ∧ w.cell? ⟨g, 3, none⟩ = some (.slice p.A3 x.l3.length p.c3) ∧ w.cell? ⟨g, 4, none⟩ = some (.slice p.A4 x.l4.length p.c4) ∧ w.cell? ⟨g, 5, none⟩ = some (.slice p.A5 x.l5.length p.c5) ∧ w.cell? ⟨g, 6, none⟩ = some (.slice p.A6 x.l6.length p.c6) ∧ w.cell? ⟨g, 7, none⟩ = some (.int .i64 x.d7) ∧ w.cell? ⟨g, 8, none⟩ = some (.int .i64 x.d8) ∧ w.cell? ⟨g, 9, none⟩ = some (.int .i64 x.d9) ∧ w.cell? ⟨g, 10, none⟩ = some (.int .i64 x.d10) ∧ w.cell? ⟨g, 11, none⟩ = some (.slice p.A11 x.l11.length p.c11) ∧ w.cell? ⟨g, 12, none⟩ = some (.int .i64 x.d12) := ⟨(blk_cell h 0).trans rfl, (blk_cell h 1).trans rfl, (blk_cell h 2).trans rfl, (blk_cell h 3).trans rfl, (blk_cell h 4).trans rfl, (blk_cell h 5).trans rfl, (blk_cell h 6).trans rfl, (blk_cell h 7).trans rfl, (blk_cell h 8).trans rfl, (blk_cell h 9).trans rfl, (blk_cell h 10).trans rfl, (blk_cell h 11).trans rfl, (blk_cell h 12).trans rfl⟩
def cvW (y : LW) : IW := ⟨y.d0, y.l1.map cvLink, y.l2, y.l3, y.l4.map cvProbe, y.l5, y.l6, y.d7, y.d8, y.d9, y.d10, y.l11.map cvSeen, y.d12⟩
def LW.Ok (y : LW) : Prop := okW y.l1 y.l2 y.l3 y.l4 y.l5 y.l6 y.l11
def IW.Ok (x : IW) : Prop := okW' x.l1 x.l2 x.l3 x.l4 x.l5 x.l6 x.l11
theorem cvW_ok {y : LW} (h : y.Ok) : (cvW y).Ok := okW_cv h
/-! ### weq -/
set_option maxHeartbeats 4000000 in
set_option maxRecDepth 100000 in
theorem eqWorld_c (x : IW) (p q : IP) (w : World) (hp : x.Rd p w) (hq : x.Rd q w) (ho : x.Ok) :
    Calls Try.prog 17 #[.agg (x.cells p), .agg (x.cells q)] w fun e w' => e = .returned (.bool true) ∧ Below w.heap.size w w' := by
  have hu := Try.underlying42
  have hu2 := Try.underlying37
  have hu3 := Try.underlying39
  obtain ⟨k1, hk⟩ := (eqNet_ev x.d0 x.l1 ho.1).rounds
  have K1 := Aside0.mk hk
  clear hk
  obtain ⟨k2, hk⟩ := (eqIntS_ev x.l2 ho.2.1).rounds
  have K2 := Aside0.mk hk
  clear hk
  obtain ⟨k3, hk⟩ := (eqIntS_ev x.l3 ho.2.2.1).rounds
  have K3 := Aside0.mk hk
  clear hk
  obtain ⟨k4, hk⟩ := (eqProbeS_ev x.l4 ho.2.2.2.1).rounds
  have K4 := Aside0.mk hk
  clear hk
  obtain ⟨k5, hk⟩ := (eqIntS_ev x.l5 ho.2.2.2.2.1).rounds
  have K5 := Aside0.mk hk
  clear hk
  obtain ⟨k6, hk⟩ := (eqIntS_ev x.l6 ho.2.2.2.2.2.1).rounds
  have K6 := Aside0.mk hk
  clear hk
  obtain ⟨k11, hk⟩ := (eqSeenS_ev x.l11 ho.2.2.2.2.2.2).rounds
  have K11 := Aside0.mk hk
  clear hk
  have HP := Aside0.mk hp
  have HQ := Aside0.mk hq
  clear hp hq ho
  go_enter Try.func17, Try.ntmps17
  go_wp2_with fail
  go_at_call 55; (with_reducible refine (laws_eqNet.calls k1 x.d0 p.A1 p.c1 x.l1 x.d0 q.A1 q.c1 x.l1 true _ ?s0 HP.out.h1 ?s1 HQ.out.h1 K1.out ⟨rfl⟩).mono ?_); (case s0 => exact (HP.out.below (by repeat (first | (with_reducible first | exact Below.refl _ _ | apply below_alloc | apply pw_below_drewN | apply below_drew1) | exact Below.refl _ _))).r1); (case s1 => exact (HQ.out.below (by repeat (first | (with_reducible first | exact Below.refl _ _ | apply below_alloc | apply pw_below_drewN | apply below_drew1) | exact Below.refl _ _))).r1); rintro e w1 ⟨rfl, hb⟩
  have HB := Aside0.mk (below_step (w := w) (by repeat (first | (with_reducible first | exact Below.refl _ _ | apply below_alloc | apply pw_below_drewN | apply below_drew1) | exact Below.refl _ _)) hb)
  have BP := Aside0.mk (show w1.heap[w.heap.size]? = some (.cells (x.cells p) 42 (0, 0)) from blk_below (by repeat (first | exact blk_new _ _ | refine blk_drewN ?_ _ | refine blk_alloc ?_ _)) hb)
  have BQ := Aside0.mk (show w1.heap[w.heap.size + 1]? = some (.cells (x.cells q) 42 (0, 0)) from blk_below (by have h_ := blk_new (w.alloc (.cells (x.cells p) 42)) (.cells (x.cells q) 42); simpa using h_) hb)
  clear hb
  obtain ⟨hp0, hp1, hp2, hp3, hp4, hp5, hp6, hp7, hp8, hp9, hp10, hp11, hp12⟩ := IW.at_ BP.out
  obtain ⟨hq0, hq1, hq2, hq3, hq4, hq5, hq6, hq7, hq8, hq9, hq10, hq11, hq12⟩ := IW.at_ BQ.out
  go_wp2_with fail
  go_at_call 23; (with_reducible refine (laws_eqIntS.calls k2 p.A2 p.c2 x.l2 q.A2 q.c2 x.l2 true _ ?s0 HP.out.h2 ?s1 HQ.out.h2 K2.out ⟨rfl⟩).mono ?_); (case s0 => exact (HP.out.below (below_step HB.out (by repeat (first | (with_reducible first | exact Below.refl _ _ | apply below_alloc | apply pw_below_drewN | apply below_drew1) | exact Below.refl _ _)))).r2); (case s1 => exact (HQ.out.below (below_step HB.out (by repeat (first | (with_reducible first | exact Below.refl _ _ | apply below_alloc | apply pw_below_drewN | apply below_drew1) | exact Below.refl _ _)))).r2); rintro e w' ⟨rfl, ⟨nd, rfl⟩⟩
  clear hp0 hp1 hp2 hp3 hp4 hp5 hp6 hp7 hp8 hp9 hp10 hp11 hp12 hq0 hq1 hq2 hq3 hq4 hq5 hq6 hq7 hq8 hq9 hq10 hq11 hq12
  obtain ⟨hp0, hp1, hp2, hp3, hp4, hp5, hp6, hp7, hp8, hp9, hp10, hp11, hp12⟩ := IW.at_ BP.out
  obtain ⟨hq0, hq1, hq2, hq3, hq4, hq5, hq6, hq7, hq8, hq9, hq10, hq11, hq12⟩ := IW.at_ BQ.out
  go_wp2_with fail
  go_at_call 23; (with_reducible refine (laws_eqIntS.calls k3 p.A3 p.c3 x.l3 q.A3 q.c3 x.l3 true _ ?s0 HP.out.h3 ?s1 HQ.out.h3 K3.out ⟨rfl⟩).mono ?_); (case s0 => exact (HP.out.below (below_step HB.out (by repeat (first | (with_reducible first | exact Below.refl _ _ | apply below_alloc | apply pw_below_drewN | apply below_drew1) | exact Below.refl _ _)))).r3); (case s1 => exact (HQ.out.below (below_step HB.out (by repeat (first | (with_reducible first | exact Below.refl _ _ | apply below_alloc | apply pw_below_drewN | apply below_drew1) | exact Below.refl _ _)))).r3); rintro e w' ⟨rfl, ⟨nd, rfl⟩⟩
  clear hp0 hp1 hp2 hp3 hp4 hp5 hp6 hp7 hp8 hp9 hp10 hp11 hp12 hq0 hq1 hq2 hq3 hq4 hq5 hq6 hq7 hq8 hq9 hq10 hq11 hq12
  obtain ⟨hp0, hp1, hp2, hp3, hp4, hp5, hp6, hp7, hp8, hp9, hp10, hp11, hp12⟩ := IW.at_ BP.out
  obtain ⟨hq0, hq1, hq2, hq3, hq4, hq5, hq6, hq7, hq8, hq9, hq10, hq11, hq12⟩ := IW.at_ BQ.out
  go_wp2_with fail
  go_at_call 72; (with_reducible refine (laws_eqProbeS.calls k4 p.A4 p.c4 x.l4 q.A4 q.c4 x.l4 true _ ?s0 HP.out.h4 ?s1 HQ.out.h4 K4.out ⟨rfl⟩).mono ?_); (case s0 => exact (HP.out.below (below_step HB.out (by repeat (first | (with_reducible first | exact Below.refl _ _ | apply below_alloc | apply pw_below_drewN | apply below_drew1) | exact Below.refl _ _)))).r4); (case s1 => exact (HQ.out.below (below_step HB.out (by repeat (first | (with_reducible first | exact Below.refl _ _ | apply below_alloc | apply pw_below_drewN | apply below_drew1) | exact Below.refl _ _)))).r4); rintro e w4 ⟨rfl, hb⟩
  have hs := below_step (w := w1) (by repeat (first | (with_reducible first | exact Below.refl _ _ | apply below_alloc | apply pw_below_drewN | apply below_drew1) | exact Below.refl _ _)) hb
  have HB2 := Aside0.mk (below_step HB.out hs)
  have BP2 := Aside0.mk (blk_below BP.out hs)
  have BQ2 := Aside0.mk (blk_below BQ.out hs)
  clear HB BP BQ hb hs hp0 hp1 hp2 hp3 hp4 hp5 hp6 hp7 hp8 hp9 hp10 hp11 hp12 hq0 hq1 hq2 hq3 hq4 hq5 hq6 hq7 hq8 hq9 hq10 hq11 hq12
  have HB := HB2
  have BP := BP2
  have BQ := BQ2
  clear HB2 BP2 BQ2
  obtain ⟨hp0, hp1, hp2, hp3, hp4, hp5, hp6, hp7, hp8, hp9, hp10, hp11, hp12⟩ := IW.at_ BP.out
  obtain ⟨hq0, hq1, hq2, hq3, hq4, hq5, hq6, hq7, hq8, hq9, hq10, hq11, hq12⟩ := IW.at_ BQ.out
  go_wp2_with fail
  go_at_call 23; (with_reducible refine (laws_eqIntS.calls k5 p.A5 p.c5 x.l5 q.A5 q.c5 x.l5 true _ ?s0 HP.out.h5 ?s1 HQ.out.h5 K5.out ⟨rfl⟩).mono ?_); (case s0 => exact (HP.out.below (below_step HB.out (by repeat (first | (with_reducible first | exact Below.refl _ _ | apply below_alloc | apply pw_below_drewN | apply below_drew1) | exact Below.refl _ _)))).r5); (case s1 => exact (HQ.out.below (below_step HB.out (by repeat (first | (with_reducible first | exact Below.refl _ _ | apply below_alloc | apply pw_below_drewN | apply below_drew1) | exact Below.refl _ _)))).r5); rintro e w' ⟨rfl, ⟨nd, rfl⟩⟩
  clear hp0 hp1 hp2 hp3 hp4 hp5 hp6 hp7 hp8 hp9 hp10 hp11 hp12 hq0 hq1 hq2 hq3 hq4 hq5 hq6 hq7 hq8 hq9 hq10 hq11 hq12
  obtain ⟨hp0, hp1, hp2, hp3, hp4, hp5, hp6, hp7, hp8, hp9, hp10, hp11, hp12⟩ := IW.at_ BP.out
  obtain ⟨hq0, hq1, hq2, hq3, hq4, hq5, hq6, hq7, hq8, hq9, hq10, hq11, hq12⟩ := IW.at_ BQ.out
  go_wp2_with fail
  go_at_call 23; (with_reducible refine (laws_eqIntS.calls k6 p.A6 p.c6 x.l6 q.A6 q.c6 x.l6 true _ ?s0 HP.out.h6 ?s1 HQ.out.h6 K6.out ⟨rfl⟩).mono ?_); (case s0 => exact (HP.out.below (below_step HB.out (by repeat (first | (with_reducible first | exact Below.refl _ _ | apply below_alloc | apply pw_below_drewN | apply below_drew1) | exact Below.refl _ _)))).r6); (case s1 => exact (HQ.out.below (below_step HB.out (by repeat (first | (with_reducible first | exact Below.refl _ _ | apply below_alloc | apply pw_below_drewN | apply below_drew1) | exact Below.refl _ _)))).r6); rintro e w' ⟨rfl, ⟨nd, rfl⟩⟩
  clear hp0 hp1 hp2 hp3 hp4 hp5 hp6 hp7 hp8 hp9 hp10 hp11 hp12 hq0 hq1 hq2 hq3 hq4 hq5 hq6 hq7 hq8 hq9 hq10 hq11 hq12
  obtain ⟨hp0, hp1, hp2, hp3, hp4, hp5, hp6, hp7, hp8, hp9, hp10, hp11, hp12⟩ := IW.at_ BP.out
  obtain ⟨hq0, hq1, hq2, hq3, hq4, hq5, hq6, hq7, hq8, hq9, hq10, hq11, hq12⟩ := IW.at_ BQ.out
  go_wp2_with fail
  go_at_call 73; (with_reducible refine (laws_eqBucket.calls x.d7 x.d8 x.d9 x.d10 x.d7 x.d8 x.d9 x.d10 true _ (eqBucket_eq _ _ _ _) ⟨rfl⟩).mono ?_); rintro e w7 ⟨rfl, hb⟩
  have hs := below_step (w := w4) (by repeat (first | (with_reducible first | exact Below.refl _ _ | apply below_alloc | apply pw_below_drewN | apply below_drew1) | exact Below.refl _ _)) hb
  have HB2 := Aside0.mk (below_step HB.out hs)
  have BP2 := Aside0.mk (blk_below BP.out hs)
  have BQ2 := Aside0.mk (blk_below BQ.out hs)
  clear HB BP BQ hb hs hp0 hp1 hp2 hp3 hp4 hp5 hp6 hp7 hp8 hp9 hp10 hp11 hp12 hq0 hq1 hq2 hq3 hq4 hq5 hq6 hq7 hq8 hq9 hq10 hq11 hq12
  have HB := HB2
  have BP := BP2
  have BQ := BQ2
  clear HB2 BP2 BQ2
  obtain ⟨hp0, hp1, hp2, hp3, hp4, hp5, hp6, hp7, hp8, hp9, hp10, hp11, hp12⟩ := IW.at_ BP.out
  obtain ⟨hq0, hq1, hq2, hq3, hq4, hq5, hq6, hq7, hq8, hq9, hq10, hq11, hq12⟩ := IW.at_ BQ.out
  go_wp2_with fail
  go_at_call 74; (with_reducible refine (laws_eqSeenS.calls k11 p.A11 p.c11 x.l11 q.A11 q.c11 x.l11 true _ ?s0 HP.out.h11 ?s1 HQ.out.h11 K11.out ⟨rfl⟩).mono ?_); (case s0 => exact (HP.out.below (below_step HB.out (by repeat (first | (with_reducible first | exact Below.refl _ _ | apply below_alloc | apply pw_below_drewN | apply below_drew1) | exact Below.refl _ _)))).r11); (case s1 => exact (HQ.out.below (below_step HB.out (by repeat (first | (with_reducible first | exact Below.refl _ _ | apply below_alloc | apply pw_below_drewN | apply below_drew1) | exact Below.refl _ _)))).r11); rintro e w8 ⟨rfl, hb⟩
  have hs := below_step (w := w7) (by repeat (first | (with_reducible first | exact Below.refl _ _ | apply below_alloc | apply pw_below_drewN | apply below_drew1) | exact Below.refl _ _)) hb
  have HB2 := Aside0.mk (below_step HB.out hs)
  have BP2 := Aside0.mk (blk_below BP.out hs)
  have BQ2 := Aside0.mk (blk_below BQ.out hs)
  clear HB BP BQ hb hs hp0 hp1 hp2 hp3 hp4 hp5 hp6 hp7 hp8 hp9 hp10 hp11 hp12 hq0 hq1 hq2 hq3 hq4 hq5 hq6 hq7 hq8 hq9 hq10 hq11 hq12
  have HB := HB2
  have BP := BP2
  have BQ := BQ2
  clear HB2 BP2 BQ2
  obtain ⟨hp0, hp1, hp2, hp3, hp4, hp5, hp6, hp7, hp8, hp9, hp10, hp11, hp12⟩ := IW.at_ BP.out
  obtain ⟨hq0, hq1, hq2, hq3, hq4, hq5, hq6, hq7, hq8, hq9, hq10, hq11, hq12⟩ := IW.at_ BQ.out
  go_wp2
  go_ret
  exact ⟨rfl, below_step HB.out (by repeat (first | (with_reducible first | exact Below.refl _ _ | apply below_alloc | apply pw_below_drewN | apply below_drew1) | exact Below.refl _ _))⟩
/-! ### cgen -/
theorem calls_gen {P : Program} {f : Nat} {args : Array Value} {w : World} {Q : Ending → World → Prop} (R : World → Prop) (hR : R w) (h : ∀ w', R w' → Calls P f args w' Q) : Calls P f args w Q := h w hR
/-! ### wto -/
theorem R_iv {α : Type} {d : Kd α} {e : Nat} {W w2 : World} {b : Nat} {ok : Nat → Prop} {v : Value} {xs : List α} (hb : b ≤ W.heap.size) (ho : Kd.R d e w2 W.heap.size ok v xs) : Kd.R d e w2 b (fun k => W.heap.size ≤ k ∧ k < w2.heap.size) v xs := Kd.R_lower (Kd.R_mono (Kd.R_bound ho) (fun k hk => ⟨hk.2.1, hk.2.2.1⟩)) hb
theorem S_iv {α : Type} {d : Kd α} {e : Nat} {W w2 : World} {b : Nat} {ok : Nat → Prop} {v : Value} {xs : List α} (hb : b ≤ W.heap.size) (ho : Kd.S d e w2 W.heap.size ok v xs) : Kd.S d e w2 b (fun k => W.heap.size ≤ k ∧ k < w2.heap.size) v xs := Kd.S_lower (Kd.S_mono (Kd.S_bound ho) (fun k hk => ⟨hk.2.1, hk.2.2.1⟩)) hb
set_option maxHeartbeats 8000000 in
set_option maxRecDepth 100000 in
theorem toWorld_c (y : LW) (q : LP) (w : World) (hq : y.Rd q w) (ho : y.Ok) :
    Calls Try.prog 14 #[.agg (y.cells q)] w fun e w' => ∃ p : IP, e = .returned (.agg ((cvW y).cells p)) ∧ (cvW y).Md p w' w.heap.size (fun k => w.heap.size ≤ k ∧ k < w'.heap.size) ∧ Below w.heap.size w w' := by
  have hu := Try.underlying42
  have hu2 := Try.underlying37
  have hu3 := Try.underlying39
  have hv := Try.underlying31
  have hv2 := Try.underlying24
  have hv3 := Try.underlying28
  obtain ⟨k1, hk⟩ := (show Ev (fun k => laws_toNet.f k y.d0 y.l1) (y.d0, y.l1.map cvLink) from by unfold laws_toNet.f; exact Ev.bind (toLinkS_ev y.l1 ho.1) (Ev.now _)).rounds
  obtain ⟨x1, hx1⟩ : ∃ x_, x_ = y.l1.map cvLink := ⟨_, rfl⟩
  rw [← hx1] at hk
  have HX1 := Aside0.mk hx1
  clear hx1
  have K1 := Aside0.mk hk
  clear hk
  obtain ⟨k2, hk⟩ := (toIntS_ev y.l2 ho.2.1).rounds
  have K2 := Aside0.mk hk
  clear hk
  obtain ⟨k3, hk⟩ := (toIntS_ev y.l3 ho.2.2.1).rounds
  have K3 := Aside0.mk hk
  clear hk
  obtain ⟨k4, hk⟩ := (toProbeS_ev y.l4 ho.2.2.2.1).rounds
  obtain ⟨x4, hx4⟩ : ∃ x_, x_ = y.l4.map cvProbe := ⟨_, rfl⟩
  rw [← hx4] at hk
  have HX4 := Aside0.mk hx4
  clear hx4
  have K4 := Aside0.mk hk
  clear hk
  obtain ⟨k5, hk⟩ := (toIntS_ev y.l5 ho.2.2.2.2.1).rounds
  have K5 := Aside0.mk hk
  clear hk
  obtain ⟨k6, hk⟩ := (toIntS_ev y.l6 ho.2.2.2.2.2.1).rounds
  have K6 := Aside0.mk hk
  clear hk
  obtain ⟨k11, hk⟩ := (toSeenS_ev y.l11 ho.2.2.2.2.2.2).rounds
  obtain ⟨x11, hx11⟩ : ∃ x_, x_ = y.l11.map cvSeen := ⟨_, rfl⟩
  rw [← hx11] at hk
  have HX11 := Aside0.mk hx11
  clear hx11
  have K11 := Aside0.mk hk
  clear hk
  have HQ := Aside0.mk hq
  clear hq ho
  go_enter Try.func14, Try.ntmps14
  go_wp2_with fail
  refine calls_gen (fun W' => W'.heap[w.heap.size]? = some (.cells (y.cells q) 31 (0, 0)) ∧ W'.heap[w.heap.size + 1]? = some (.cells #[.int .i64 0, .slice none 0 0, .slice none 0 0, .slice none 0 0, .slice none 0 0, .slice none 0 0, .slice none 0 0, .int .i64 0, .int .i64 0, .int .i64 0, .int .i64 0, .slice none 0 0, .int .i64 0] 42 (0, 0)) ∧ W'.heap[w.heap.size + 1 + 1]? = some (.cells #[.int .i64 0, .slice none 0 0, .slice none 0 0, .slice none 0 0, .slice none 0 0, .slice none 0 0, .slice none 0 0, .int .i64 0, .int .i64 0, .int .i64 0, .int .i64 0, .slice none 0 0, .int .i64 0] 42 (0, 0)) ∧ Below w.heap.size w W') ⟨?i0, ?i1, ?i2, (by repeat (first | (with_reducible first | exact Below.refl _ _ | apply below_alloc | apply pw_below_drewN | apply below_drew1) | exact Below.refl _ _))⟩ ?_
  case i0 => (repeat (refine blk_drewN ?_ _)); exact blk_alloc (blk_alloc (blk_new w _) _) _
  case i1 => (repeat (refine blk_drewN ?_ _)); have h_ := blk_alloc (blk_new (w.alloc (.cells (y.cells q) 31)) (.cells #[.int .i64 0, .slice none 0 0, .slice none 0 0, .slice none 0 0, .slice none 0 0, .slice none 0 0, .slice none 0 0, .int .i64 0, .int .i64 0, .int .i64 0, .int .i64 0, .slice none 0 0, .int .i64 0] 42)) (.cells #[.int .i64 0, .slice none 0 0, .slice none 0 0, .slice none 0 0, .slice none 0 0, .slice none 0 0, .slice none 0 0, .int .i64 0, .int .i64 0, .int .i64 0, .int .i64 0, .slice none 0 0, .int .i64 0] 42); simpa using h_
  case i2 => (repeat (refine blk_drewN ?_ _)); have h_ := blk_new ((w.alloc (.cells (y.cells q) 31)).alloc (.cells #[.int .i64 0, .slice none 0 0, .slice none 0 0, .slice none 0 0, .slice none 0 0, .slice none 0 0, .slice none 0 0, .int .i64 0, .int .i64 0, .int .i64 0, .int .i64 0, .slice none 0 0, .int .i64 0] 42)) (.cells #[.int .i64 0, .slice none 0 0, .slice none 0 0, .slice none 0 0, .slice none 0 0, .slice none 0 0, .slice none 0 0, .int .i64 0, .int .i64 0, .int .i64 0, .int .i64 0, .slice none 0 0, .int .i64 0] 42); simpa using h_
  rintro W0 ⟨hby, hbr, hbo, hbw⟩
  go_at_call 53; (with_reducible refine (laws_toNet.calls k1 y.d0 q.A1 q.c1 y.l1 y.d0 x1 _ ?s0 HQ.out.h1 K1.out).mono ?_); (case s0 => exact (HQ.out.below hbw).r1); rintro e w1 ⟨v, rfl, ho, hb⟩
  have NN1 := Aside0.mk (R_iv (b := w.heap.size) hbw.size ho)
  obtain ⟨A1, c1, rfl⟩ := Kd.R_slice ho
  have HS := Aside0.mk (And.intro (show w.heap.size + 2 < W0.heap.size from blk_lt hbo) (show W0.heap.size ≤ w1.heap.size from hb.size))
  have HB2 := Aside0.mk (below_step hbw hb)
  have BY2 := Aside0.mk (blk_below hby hb)
  have BR2 := Aside0.mk (blk_below hbr hb)
  have BO2 := Aside0.mk (blk_below hbo hb)
  clear hby hbr hbo hbw hb ho
  have HB := HB2; clear HB2
  have BY := BY2; clear BY2
  have BR := BR2; clear BR2
  have BO := BO2; clear BO2
  have M1 := NN1; clear NN1
  obtain ⟨hy0, hy1, hy2, hy3, hy4, hy5, hy6, hy7, hy8, hy9, hy10, hy11, hy12⟩ := LW.at_ BY.out
  have hf0 := blk_frozen BO.out 0; have hc0 := (blk_cell BO.out 0).trans rfl
  have hf1 := blk_frozen BO.out 1; have hc1 := (blk_cell BO.out 1).trans rfl
  go_wp2_with fail
  refine calls_gen (fun W' => Kept w1 W' (fun k => k = w.heap.size + 1 + 1) ∧ W'.heap[w.heap.size + 1 + 1]? = some (.cells #[.int .i64 y.d0, .slice A1 x1.length c1, .slice none 0 0, .slice none 0 0, .slice none 0 0, .slice none 0 0, .slice none 0 0, .int .i64 0, .int .i64 0, .int .i64 0, .int .i64 0, .slice none 0 0, .int .i64 0] 42 (0, 0)) ∧ Below w.heap.size w W') ⟨?i0, ?i1, ?i2⟩ ?_
  case i0 => repeat (first | exact Kept.refl _ _ | refine Kept.setCell ?_ (by exact Or.inl rfl) _ | apply Kept.drewN | apply Kept.alloc)
  case i1 => exact blk_set (blk_set (BO.out) 0 _) 1 _
  case i2 => repeat (first | exact HB.out | refine below_set ?_ (by omega) | apply below_alloc | apply pw_below_drewN)
  rintro W1 ⟨hk, hbo, hbw⟩
  have hby := blk_kept BY.out hk (by intro h; omega)
  have hbr := blk_kept BR.out hk (by intro h; omega)
  go_at_call 29; (with_reducible refine (laws_toIntS.calls k2 q.A2 q.c2 y.l2 y.l2 _ ?s0 HQ.out.h2 K2.out).mono ?_); (case s0 => exact (HQ.out.below hbw).r2); rintro e w2 ⟨v, rfl, ho, hb⟩
  have N1 := Aside0.mk (Kd.R_below (Kd.R_kept M1.out hk (fun k h h' => by have := HS.out; omega)) hb)
  have NN2 := Aside0.mk (R_iv (b := w.heap.size) hbw.size ho)
  obtain ⟨A2, c2, rfl⟩ := Kd.R_slice ho
  replace HS := Aside0.mk (And.intro HS.out (And.intro (show w1.heap.size ≤ W1.heap.size from hk.1) (show W1.heap.size ≤ w2.heap.size from hb.size)))
  have HB2 := Aside0.mk (below_step hbw hb)
  have BY2 := Aside0.mk (blk_below hby hb)
  have BR2 := Aside0.mk (blk_below hbr hb)
  have BO2 := Aside0.mk (blk_below hbo hb)
  clear HB BY BR BO hy0 hy1 hy2 hy3 hy4 hy5 hy6 hy7 hy8 hy9 hy10 hy11 hy12 hk hf0 hc0 hf1 hc1 M1 hby hbr hbo hbw hb ho
  have HB := HB2; clear HB2
  have BY := BY2; clear BY2
  have BR := BR2; clear BR2
  have BO := BO2; clear BO2
  have M1 := N1; clear N1
  have M2 := NN2; clear NN2
  obtain ⟨hy0, hy1, hy2, hy3, hy4, hy5, hy6, hy7, hy8, hy9, hy10, hy11, hy12⟩ := LW.at_ BY.out
  have hf2 := blk_frozen BO.out 2; have hc2 := (blk_cell BO.out 2).trans rfl
  go_wp2_with fail
  refine calls_gen (fun W' => Kept w2 W' (fun k => k = w.heap.size + 1 + 1) ∧ W'.heap[w.heap.size + 1 + 1]? = some (.cells #[.int .i64 y.d0, .slice A1 x1.length c1, .slice A2 y.l2.length c2, .slice none 0 0, .slice none 0 0, .slice none 0 0, .slice none 0 0, .int .i64 0, .int .i64 0, .int .i64 0, .int .i64 0, .slice none 0 0, .int .i64 0] 42 (0, 0)) ∧ Below w.heap.size w W') ⟨?i0, ?i1, ?i2⟩ ?_
  case i0 => repeat (first | exact Kept.refl _ _ | refine Kept.setCell ?_ (by exact Or.inl rfl) _ | apply Kept.drewN | apply Kept.alloc)
  case i1 => exact blk_set (BO.out) 2 _
  case i2 => repeat (first | exact HB.out | refine below_set ?_ (by omega) | apply below_alloc | apply pw_below_drewN)
  rintro W2 ⟨hk, hbo, hbw⟩
  have hby := blk_kept BY.out hk (by intro h; omega)
  have hbr := blk_kept BR.out hk (by intro h; omega)
  go_at_call 29; (with_reducible refine (laws_toIntS.calls k3 q.A3 q.c3 y.l3 y.l3 _ ?s0 HQ.out.h3 K3.out).mono ?_); (case s0 => exact (HQ.out.below hbw).r3); rintro e w3 ⟨v, rfl, ho, hb⟩
  have N1 := Aside0.mk (Kd.R_below (Kd.R_kept M1.out hk (fun k h h' => by have := HS.out; omega)) hb)
  have N2 := Aside0.mk (Kd.R_below (Kd.R_kept M2.out hk (fun k h h' => by have := HS.out; omega)) hb)
  have NN3 := Aside0.mk (R_iv (b := w.heap.size) hbw.size ho)
  obtain ⟨A3, c3, rfl⟩ := Kd.R_slice ho
  replace HS := Aside0.mk (And.intro HS.out (And.intro (show w2.heap.size ≤ W2.heap.size from hk.1) (show W2.heap.size ≤ w3.heap.size from hb.size)))
  have HB2 := Aside0.mk (below_step hbw hb)
  have BY2 := Aside0.mk (blk_below hby hb)
  have BR2 := Aside0.mk (blk_below hbr hb)
  have BO2 := Aside0.mk (blk_below hbo hb)
  clear HB BY BR BO hy0 hy1 hy2 hy3 hy4 hy5 hy6 hy7 hy8 hy9 hy10 hy11 hy12 hk hf2 hc2 M1 M2 hby hbr hbo hbw hb ho
  have HB := HB2; clear HB2
  have BY := BY2; clear BY2
  have BR := BR2; clear BR2
  have BO := BO2; clear BO2
  have M1 := N1; clear N1
  have M2 := N2; clear N2
  have M3 := NN3; clear NN3
  obtain ⟨hy0, hy1, hy2, hy3, hy4, hy5, hy6, hy7, hy8, hy9, hy10, hy11, hy12⟩ := LW.at_ BY.out
  have hf3 := blk_frozen BO.out 3; have hc3 := (blk_cell BO.out 3).trans rfl
  go_wp2_with fail
  refine calls_gen (fun W' => Kept w3 W' (fun k => k = w.heap.size + 1 + 1) ∧ W'.heap[w.heap.size + 1 + 1]? = some (.cells #[.int .i64 y.d0, .slice A1 x1.length c1, .slice A2 y.l2.length c2, .slice A3 y.l3.length c3, .slice none 0 0, .slice none 0 0, .slice none 0 0, .int .i64 0, .int .i64 0, .int .i64 0, .int .i64 0, .slice none 0 0, .int .i64 0] 42 (0, 0)) ∧ Below w.heap.size w W') ⟨?i0, ?i1, ?i2⟩ ?_
  case i0 => repeat (first | exact Kept.refl _ _ | refine Kept.setCell ?_ (by exact Or.inl rfl) _ | apply Kept.drewN | apply Kept.alloc)
  case i1 => exact blk_set (BO.out) 3 _
  case i2 => repeat (first | exact HB.out | refine below_set ?_ (by omega) | apply below_alloc | apply pw_below_drewN)
  rintro W3 ⟨hk, hbo, hbw⟩
  have hby := blk_kept BY.out hk (by intro h; omega)
  have hbr := blk_kept BR.out hk (by intro h; omega)
  go_at_call 68; (with_reducible refine (laws_toProbeS.calls k4 q.A4 q.c4 y.l4 (x4) _ ?s0 HQ.out.h4 K4.out).mono ?_); (case s0 => exact (HQ.out.below hbw).r4); rintro e w4 ⟨v, rfl, ho, hb⟩
  have N1 := Aside0.mk (Kd.R_below (Kd.R_kept M1.out hk (fun k h h' => by have := HS.out; omega)) hb)
  have N2 := Aside0.mk (Kd.R_below (Kd.R_kept M2.out hk (fun k h h' => by have := HS.out; omega)) hb)
  have N3 := Aside0.mk (Kd.R_below (Kd.R_kept M3.out hk (fun k h h' => by have := HS.out; omega)) hb)
  have NN4 := Aside0.mk (S_iv (b := w.heap.size) hbw.size ho)
  obtain ⟨A4, c4, rfl⟩ := Kd.S_slice ho
  replace HS := Aside0.mk (And.intro HS.out (And.intro (show w3.heap.size ≤ W3.heap.size from hk.1) (show W3.heap.size ≤ w4.heap.size from hb.size)))
  have HB2 := Aside0.mk (below_step hbw hb)
  have BY2 := Aside0.mk (blk_below hby hb)
  have BR2 := Aside0.mk (blk_below hbr hb)
  have BO2 := Aside0.mk (blk_below hbo hb)
  clear HB BY BR BO hy0 hy1 hy2 hy3 hy4 hy5 hy6 hy7 hy8 hy9 hy10 hy11 hy12 hk hf3 hc3 M1 M2 M3 hby hbr hbo hbw hb ho
  have HB := HB2; clear HB2
  have BY := BY2; clear BY2
  have BR := BR2; clear BR2
  have BO := BO2; clear BO2
  have M1 := N1; clear N1
  have M2 := N2; clear N2
  have M3 := N3; clear N3
  have M4 := NN4; clear NN4
  obtain ⟨hy0, hy1, hy2, hy3, hy4, hy5, hy6, hy7, hy8, hy9, hy10, hy11, hy12⟩ := LW.at_ BY.out
  have hf4 := blk_frozen BO.out 4; have hc4 := (blk_cell BO.out 4).trans rfl
  go_wp2_with fail
  refine calls_gen (fun W' => Kept w4 W' (fun k => k = w.heap.size + 1 + 1) ∧ W'.heap[w.heap.size + 1 + 1]? = some (.cells #[.int .i64 y.d0, .slice A1 x1.length c1, .slice A2 y.l2.length c2, .slice A3 y.l3.length c3, .slice A4 x4.length c4, .slice none 0 0, .slice none 0 0, .int .i64 0, .int .i64 0, .int .i64 0, .int .i64 0, .slice none 0 0, .int .i64 0] 42 (0, 0)) ∧ Below w.heap.size w W') ⟨?i0, ?i1, ?i2⟩ ?_
  case i0 => repeat (first | exact Kept.refl _ _ | refine Kept.setCell ?_ (by exact Or.inl rfl) _ | apply Kept.drewN | apply Kept.alloc)
  case i1 => exact blk_set (BO.out) 4 _
  case i2 => repeat (first | exact HB.out | refine below_set ?_ (by omega) | apply below_alloc | apply pw_below_drewN)
  rintro W4 ⟨hk, hbo, hbw⟩
  have hby := blk_kept BY.out hk (by intro h; omega)
  have hbr := blk_kept BR.out hk (by intro h; omega)
  go_at_call 29; (with_reducible refine (laws_toIntS.calls k5 q.A5 q.c5 y.l5 y.l5 _ ?s0 HQ.out.h5 K5.out).mono ?_); (case s0 => exact (HQ.out.below hbw).r5); rintro e w5 ⟨v, rfl, ho, hb⟩
  have N1 := Aside0.mk (Kd.R_below (Kd.R_kept M1.out hk (fun k h h' => by have := HS.out; omega)) hb)
  have N2 := Aside0.mk (Kd.R_below (Kd.R_kept M2.out hk (fun k h h' => by have := HS.out; omega)) hb)
  have N3 := Aside0.mk (Kd.R_below (Kd.R_kept M3.out hk (fun k h h' => by have := HS.out; omega)) hb)
  have N4 := Aside0.mk (Kd.S_below (Kd.S_kept M4.out hk (fun k h h' => by have := HS.out; omega)) hb)
  have NN5 := Aside0.mk (R_iv (b := w.heap.size) hbw.size ho)
  obtain ⟨A5, c5, rfl⟩ := Kd.R_slice ho
  replace HS := Aside0.mk (And.intro HS.out (And.intro (show w4.heap.size ≤ W4.heap.size from hk.1) (show W4.heap.size ≤ w5.heap.size from hb.size)))
  have HB2 := Aside0.mk (below_step hbw hb)
  have BY2 := Aside0.mk (blk_below hby hb)
  have BR2 := Aside0.mk (blk_below hbr hb)
  have BO2 := Aside0.mk (blk_below hbo hb)
  clear HB BY BR BO hy0 hy1 hy2 hy3 hy4 hy5 hy6 hy7 hy8 hy9 hy10 hy11 hy12 hk hf4 hc4 M1 M2 M3 M4 hby hbr hbo hbw hb ho
  have HB := HB2; clear HB2
  have BY := BY2; clear BY2
  have BR := BR2; clear BR2
  have BO := BO2; clear BO2
  have M1 := N1; clear N1
  have M2 := N2; clear N2
  have M3 := N3; clear N3
  have M4 := N4; clear N4
  have M5 := NN5; clear NN5
  obtain ⟨hy0, hy1, hy2, hy3, hy4, hy5, hy6, hy7, hy8, hy9, hy10, hy11, hy12⟩ := LW.at_ BY.out
  have hf5 := blk_frozen BO.out 5; have hc5 := (blk_cell BO.out 5).trans rfl
  go_wp2_with fail
  refine calls_gen (fun W' => Kept w5 W' (fun k => k = w.heap.size + 1 + 1) ∧ W'.heap[w.heap.size + 1 + 1]? = some (.cells #[.int .i64 y.d0, .slice A1 x1.length c1, .slice A2 y.l2.length c2, .slice A3 y.l3.length c3, .slice A4 x4.length c4, .slice A5 y.l5.length c5, .slice none 0 0, .int .i64 0, .int .i64 0, .int .i64 0, .int .i64 0, .slice none 0 0, .int .i64 0] 42 (0, 0)) ∧ Below w.heap.size w W') ⟨?i0, ?i1, ?i2⟩ ?_
  case i0 => repeat (first | exact Kept.refl _ _ | refine Kept.setCell ?_ (by exact Or.inl rfl) _ | apply Kept.drewN | apply Kept.alloc)
  case i1 => exact blk_set (BO.out) 5 _
  case i2 => repeat (first | exact HB.out | refine below_set ?_ (by omega) | apply below_alloc | apply pw_below_drewN)
  rintro W5 ⟨hk, hbo, hbw⟩
  have hby := blk_kept BY.out hk (by intro h; omega)
  have hbr := blk_kept BR.out hk (by intro h; omega)
  go_at_call 29; (with_reducible refine (laws_toIntS.calls k6 q.A6 q.c6 y.l6 y.l6 _ ?s0 HQ.out.h6 K6.out).mono ?_); (case s0 => exact (HQ.out.below hbw).r6); rintro e w6 ⟨v, rfl, ho, hb⟩
  have N1 := Aside0.mk (Kd.R_below (Kd.R_kept M1.out hk (fun k h h' => by have := HS.out; omega)) hb)
  have N2 := Aside0.mk (Kd.R_below (Kd.R_kept M2.out hk (fun k h h' => by have := HS.out; omega)) hb)
  have N3 := Aside0.mk (Kd.R_below (Kd.R_kept M3.out hk (fun k h h' => by have := HS.out; omega)) hb)
  have N4 := Aside0.mk (Kd.S_below (Kd.S_kept M4.out hk (fun k h h' => by have := HS.out; omega)) hb)
  have N5 := Aside0.mk (Kd.R_below (Kd.R_kept M5.out hk (fun k h h' => by have := HS.out; omega)) hb)
  have NN6 := Aside0.mk (R_iv (b := w.heap.size) hbw.size ho)
  obtain ⟨A6, c6, rfl⟩ := Kd.R_slice ho
  replace HS := Aside0.mk (And.intro HS.out (And.intro (show w5.heap.size ≤ W5.heap.size from hk.1) (show W5.heap.size ≤ w6.heap.size from hb.size)))
  have HB2 := Aside0.mk (below_step hbw hb)
  have BY2 := Aside0.mk (blk_below hby hb)
  have BR2 := Aside0.mk (blk_below hbr hb)
  have BO2 := Aside0.mk (blk_below hbo hb)
  clear HB BY BR BO hy0 hy1 hy2 hy3 hy4 hy5 hy6 hy7 hy8 hy9 hy10 hy11 hy12 hk hf5 hc5 M1 M2 M3 M4 M5 hby hbr hbo hbw hb ho
  have HB := HB2; clear HB2
  have BY := BY2; clear BY2
  have BR := BR2; clear BR2
  have BO := BO2; clear BO2
  have M1 := N1; clear N1
  have M2 := N2; clear N2
  have M3 := N3; clear N3
  have M4 := N4; clear N4
  have M5 := N5; clear N5
  have M6 := NN6; clear NN6
  obtain ⟨hy0, hy1, hy2, hy3, hy4, hy5, hy6, hy7, hy8, hy9, hy10, hy11, hy12⟩ := LW.at_ BY.out
  have hf6 := blk_frozen BO.out 6; have hc6 := (blk_cell BO.out 6).trans rfl
  go_wp2_with fail
  refine calls_gen (fun W' => Kept w6 W' (fun k => k = w.heap.size + 1 + 1) ∧ W'.heap[w.heap.size + 1 + 1]? = some (.cells #[.int .i64 y.d0, .slice A1 x1.length c1, .slice A2 y.l2.length c2, .slice A3 y.l3.length c3, .slice A4 x4.length c4, .slice A5 y.l5.length c5, .slice A6 y.l6.length c6, .int .i64 0, .int .i64 0, .int .i64 0, .int .i64 0, .slice none 0 0, .int .i64 0] 42 (0, 0)) ∧ Below w.heap.size w W') ⟨?i0, ?i1, ?i2⟩ ?_
  case i0 => repeat (first | exact Kept.refl _ _ | refine Kept.setCell ?_ (by exact Or.inl rfl) _ | apply Kept.drewN | apply Kept.alloc)
  case i1 => exact blk_set (BO.out) 6 _
  case i2 => repeat (first | exact HB.out | refine below_set ?_ (by omega) | apply below_alloc | apply pw_below_drewN)
  rintro W6 ⟨hk, hbo, hbw⟩
  have hby := blk_kept BY.out hk (by intro h; omega)
  have hbr := blk_kept BR.out hk (by intro h; omega)
  go_at_call 69; (with_reducible refine (laws_toBucket.calls y.d7 y.d8 y.d9 y.d10 y.d7 y.d8 y.d9 y.d10 _ rfl).mono ?_); rintro e w7 ⟨rfl, hb⟩
  have N1 := Aside0.mk (Kd.R_below (Kd.R_kept M1.out hk (fun k h h' => by have := HS.out; omega)) hb)
  have N2 := Aside0.mk (Kd.R_below (Kd.R_kept M2.out hk (fun k h h' => by have := HS.out; omega)) hb)
  have N3 := Aside0.mk (Kd.R_below (Kd.R_kept M3.out hk (fun k h h' => by have := HS.out; omega)) hb)
  have N4 := Aside0.mk (Kd.S_below (Kd.S_kept M4.out hk (fun k h h' => by have := HS.out; omega)) hb)
  have N5 := Aside0.mk (Kd.R_below (Kd.R_kept M5.out hk (fun k h h' => by have := HS.out; omega)) hb)
  have N6 := Aside0.mk (Kd.R_below (Kd.R_kept M6.out hk (fun k h h' => by have := HS.out; omega)) hb)
  replace HS := Aside0.mk (And.intro HS.out (And.intro (show w6.heap.size ≤ W6.heap.size from hk.1) (show W6.heap.size ≤ w7.heap.size from hb.size)))
  have HB2 := Aside0.mk (below_step hbw hb)
  have BY2 := Aside0.mk (blk_below hby hb)
  have BR2 := Aside0.mk (blk_below hbr hb)
  have BO2 := Aside0.mk (blk_below hbo hb)
  clear HB BY BR BO hy0 hy1 hy2 hy3 hy4 hy5 hy6 hy7 hy8 hy9 hy10 hy11 hy12 hk hf6 hc6 M1 M2 M3 M4 M5 M6 hby hbr hbo hbw hb
  have HB := HB2; clear HB2
  have BY := BY2; clear BY2
  have BR := BR2; clear BR2
  have BO := BO2; clear BO2
  have M1 := N1; clear N1
  have M2 := N2; clear N2
  have M3 := N3; clear N3
  have M4 := N4; clear N4
  have M5 := N5; clear N5
  have M6 := N6; clear N6
  obtain ⟨hy0, hy1, hy2, hy3, hy4, hy5, hy6, hy7, hy8, hy9, hy10, hy11, hy12⟩ := LW.at_ BY.out
  have hf7 := blk_frozen BO.out 7; have hc7 := (blk_cell BO.out 7).trans rfl
  have hf8 := blk_frozen BO.out 8; have hc8 := (blk_cell BO.out 8).trans rfl
  have hf9 := blk_frozen BO.out 9; have hc9 := (blk_cell BO.out 9).trans rfl
  have hf10 := blk_frozen BO.out 10; have hc10 := (blk_cell BO.out 10).trans rfl
  go_wp2_with fail
  refine calls_gen (fun W' => Kept w7 W' (fun k => k = w.heap.size + 1 + 1) ∧ W'.heap[w.heap.size + 1 + 1]? = some (.cells #[.int .i64 y.d0, .slice A1 x1.length c1, .slice A2 y.l2.length c2, .slice A3 y.l3.length c3, .slice A4 x4.length c4, .slice A5 y.l5.length c5, .slice A6 y.l6.length c6, .int .i64 y.d7, .int .i64 y.d8, .int .i64 y.d9, .int .i64 y.d10, .slice none 0 0, .int .i64 0] 42 (0, 0)) ∧ Below w.heap.size w W') ⟨?i0, ?i1, ?i2⟩ ?_
  case i0 => repeat (first | exact Kept.refl _ _ | refine Kept.setCell ?_ (by exact Or.inl rfl) _ | apply Kept.drewN | apply Kept.alloc)
  case i1 => exact blk_set (blk_set (blk_set (blk_set (BO.out) 7 _) 8 _) 9 _) 10 _
  case i2 => repeat (first | exact HB.out | refine below_set ?_ (by omega) | apply below_alloc | apply pw_below_drewN)
  rintro W7 ⟨hk, hbo, hbw⟩
  have hby := blk_kept BY.out hk (by intro h; omega)
  have hbr := blk_kept BR.out hk (by intro h; omega)
  go_at_call 70; (with_reducible refine (laws_toSeenS.calls k11 q.A11 q.c11 y.l11 (x11) _ ?s0 HQ.out.h11 K11.out).mono ?_); (case s0 => exact (HQ.out.below hbw).r11); rintro e w8 ⟨v, rfl, ho, hb⟩
  have N1 := Aside0.mk (Kd.R_below (Kd.R_kept M1.out hk (fun k h h' => by have := HS.out; omega)) hb)
  have N2 := Aside0.mk (Kd.R_below (Kd.R_kept M2.out hk (fun k h h' => by have := HS.out; omega)) hb)
  have N3 := Aside0.mk (Kd.R_below (Kd.R_kept M3.out hk (fun k h h' => by have := HS.out; omega)) hb)
  have N4 := Aside0.mk (Kd.S_below (Kd.S_kept M4.out hk (fun k h h' => by have := HS.out; omega)) hb)
  have N5 := Aside0.mk (Kd.R_below (Kd.R_kept M5.out hk (fun k h h' => by have := HS.out; omega)) hb)
  have N6 := Aside0.mk (Kd.R_below (Kd.R_kept M6.out hk (fun k h h' => by have := HS.out; omega)) hb)
  have NN11 := Aside0.mk (R_iv (b := w.heap.size) hbw.size ho)
  obtain ⟨A11, c11, rfl⟩ := Kd.R_slice ho
  replace HS := Aside0.mk (And.intro HS.out (And.intro (show w7.heap.size ≤ W7.heap.size from hk.1) (show W7.heap.size ≤ w8.heap.size from hb.size)))
  have HB2 := Aside0.mk (below_step hbw hb)
  have BY2 := Aside0.mk (blk_below hby hb)
  have BR2 := Aside0.mk (blk_below hbr hb)
  have BO2 := Aside0.mk (blk_below hbo hb)
  clear HB BY BR BO hy0 hy1 hy2 hy3 hy4 hy5 hy6 hy7 hy8 hy9 hy10 hy11 hy12 hk hf7 hc7 hf8 hc8 hf9 hc9 hf10 hc10 M1 M2 M3 M4 M5 M6 hby hbr hbo hbw hb ho
  have HB := HB2; clear HB2
  have BY := BY2; clear BY2
  have BR := BR2; clear BR2
  have BO := BO2; clear BO2
  have M1 := N1; clear N1
  have M2 := N2; clear N2
  have M3 := N3; clear N3
  have M4 := N4; clear N4
  have M5 := N5; clear N5
  have M6 := N6; clear N6
  have M11 := NN11; clear NN11
  obtain ⟨hy0, hy1, hy2, hy3, hy4, hy5, hy6, hy7, hy8, hy9, hy10, hy11, hy12⟩ := LW.at_ BY.out
  have hw0 := HB.out.size
  have hf0 := blk_frozen BO.out 0; have hc0 := (blk_cell BO.out 0).trans rfl; have hg0 := blk_frozen BR.out 0; have hd0 := (blk_cell BR.out 0).trans rfl
  have hf1 := blk_frozen BO.out 1; have hc1 := (blk_cell BO.out 1).trans rfl; have hg1 := blk_frozen BR.out 1; have hd1 := (blk_cell BR.out 1).trans rfl
  have hf2 := blk_frozen BO.out 2; have hc2 := (blk_cell BO.out 2).trans rfl; have hg2 := blk_frozen BR.out 2; have hd2 := (blk_cell BR.out 2).trans rfl
  have hf3 := blk_frozen BO.out 3; have hc3 := (blk_cell BO.out 3).trans rfl; have hg3 := blk_frozen BR.out 3; have hd3 := (blk_cell BR.out 3).trans rfl
  have hf4 := blk_frozen BO.out 4; have hc4 := (blk_cell BO.out 4).trans rfl; have hg4 := blk_frozen BR.out 4; have hd4 := (blk_cell BR.out 4).trans rfl
  have hf5 := blk_frozen BO.out 5; have hc5 := (blk_cell BO.out 5).trans rfl; have hg5 := blk_frozen BR.out 5; have hd5 := (blk_cell BR.out 5).trans rfl
  have hf6 := blk_frozen BO.out 6; have hc6 := (blk_cell BO.out 6).trans rfl; have hg6 := blk_frozen BR.out 6; have hd6 := (blk_cell BR.out 6).trans rfl
  have hf7 := blk_frozen BO.out 7; have hc7 := (blk_cell BO.out 7).trans rfl; have hg7 := blk_frozen BR.out 7; have hd7 := (blk_cell BR.out 7).trans rfl
  have hf8 := blk_frozen BO.out 8; have hc8 := (blk_cell BO.out 8).trans rfl; have hg8 := blk_frozen BR.out 8; have hd8 := (blk_cell BR.out 8).trans rfl
  have hf9 := blk_frozen BO.out 9; have hc9 := (blk_cell BO.out 9).trans rfl; have hg9 := blk_frozen BR.out 9; have hd9 := (blk_cell BR.out 9).trans rfl
  have hf10 := blk_frozen BO.out 10; have hc10 := (blk_cell BO.out 10).trans rfl; have hg10 := blk_frozen BR.out 10; have hd10 := (blk_cell BR.out 10).trans rfl
  have hf11 := blk_frozen BO.out 11; have hc11 := (blk_cell BO.out 11).trans rfl; have hg11 := blk_frozen BR.out 11; have hd11 := (blk_cell BR.out 11).trans rfl
  have hf12 := blk_frozen BO.out 12; have hc12 := (blk_cell BO.out 12).trans rfl; have hg12 := blk_frozen BR.out 12; have hd12 := (blk_cell BR.out 12).trans rfl
  go_wp2
  refine bodyPost_ret (results_cell_row rfl _ _ (w.heap.size + 1) 42 #[.int .i64 y.d0, .slice A1 x1.length c1, .slice A2 y.l2.length c2, .slice A3 y.l3.length c3, .slice A4 x4.length c4, .slice A5 y.l5.length c5, .slice A6 y.l6.length c6, .int .i64 y.d7, .int .i64 y.d8, .int .i64 y.d9, .int .i64 y.d10, .slice A11 x11.length c11, .int .i64 y.d12] (0, 0) _ rfl (blk_put (cs' := #[.int .i64 y.d0, .slice A1 x1.length c1, .slice A2 y.l2.length c2, .slice A3 y.l3.length c3, .slice A4 x4.length c4, .slice A5 y.l5.length c5, .slice A6 y.l6.length c6, .int .i64 y.d7, .int .i64 y.d8, .int .i64 y.d9, .int .i64 y.d10, .slice A11 x11.length c11, .int .i64 y.d12]) (blk_put (cs' := #[.int .i64 y.d0, .slice A1 x1.length c1, .slice A2 y.l2.length c2, .slice A3 y.l3.length c3, .slice A4 x4.length c4, .slice A5 y.l5.length c5, .slice A6 y.l6.length c6, .int .i64 y.d7, .int .i64 y.d8, .int .i64 y.d9, .int .i64 y.d10, .slice A11 x11.length c11, .int .i64 0]) (blk_put (cs' := #[.int .i64 y.d0, .slice A1 x1.length c1, .slice A2 y.l2.length c2, .slice A3 y.l3.length c3, .slice A4 x4.length c4, .slice A5 y.l5.length c5, .slice A6 y.l6.length c6, .int .i64 y.d7, .int .i64 y.d8, .int .i64 y.d9, .int .i64 y.d10, .slice none 0 0, .int .i64 0]) (blk_put (cs' := #[.int .i64 y.d0, .slice A1 x1.length c1, .slice A2 y.l2.length c2, .slice A3 y.l3.length c3, .slice A4 x4.length c4, .slice A5 y.l5.length c5, .slice A6 y.l6.length c6, .int .i64 y.d7, .int .i64 y.d8, .int .i64 y.d9, .int .i64 0, .slice none 0 0, .int .i64 0]) (blk_put (cs' := #[.int .i64 y.d0, .slice A1 x1.length c1, .slice A2 y.l2.length c2, .slice A3 y.l3.length c3, .slice A4 x4.length c4, .slice A5 y.l5.length c5, .slice A6 y.l6.length c6, .int .i64 y.d7, .int .i64 y.d8, .int .i64 0, .int .i64 0, .slice none 0 0, .int .i64 0]) (blk_put (cs' := #[.int .i64 y.d0, .slice A1 x1.length c1, .slice A2 y.l2.length c2, .slice A3 y.l3.length c3, .slice A4 x4.length c4, .slice A5 y.l5.length c5, .slice A6 y.l6.length c6, .int .i64 y.d7, .int .i64 0, .int .i64 0, .int .i64 0, .slice none 0 0, .int .i64 0]) (blk_put (cs' := #[.int .i64 y.d0, .slice A1 x1.length c1, .slice A2 y.l2.length c2, .slice A3 y.l3.length c3, .slice A4 x4.length c4, .slice A5 y.l5.length c5, .slice A6 y.l6.length c6, .int .i64 0, .int .i64 0, .int .i64 0, .int .i64 0, .slice none 0 0, .int .i64 0]) (blk_put (cs' := #[.int .i64 y.d0, .slice A1 x1.length c1, .slice A2 y.l2.length c2, .slice A3 y.l3.length c3, .slice A4 x4.length c4, .slice A5 y.l5.length c5, .slice none 0 0, .int .i64 0, .int .i64 0, .int .i64 0, .int .i64 0, .slice none 0 0, .int .i64 0]) (blk_put (cs' := #[.int .i64 y.d0, .slice A1 x1.length c1, .slice A2 y.l2.length c2, .slice A3 y.l3.length c3, .slice A4 x4.length c4, .slice none 0 0, .slice none 0 0, .int .i64 0, .int .i64 0, .int .i64 0, .int .i64 0, .slice none 0 0, .int .i64 0]) (blk_put (cs' := #[.int .i64 y.d0, .slice A1 x1.length c1, .slice A2 y.l2.length c2, .slice A3 y.l3.length c3, .slice none 0 0, .slice none 0 0, .slice none 0 0, .int .i64 0, .int .i64 0, .int .i64 0, .int .i64 0, .slice none 0 0, .int .i64 0]) (blk_put (cs' := #[.int .i64 y.d0, .slice A1 x1.length c1, .slice A2 y.l2.length c2, .slice none 0 0, .slice none 0 0, .slice none 0 0, .slice none 0 0, .int .i64 0, .int .i64 0, .int .i64 0, .int .i64 0, .slice none 0 0, .int .i64 0]) (blk_put (cs' := #[.int .i64 y.d0, .slice A1 x1.length c1, .slice none 0 0, .slice none 0 0, .slice none 0 0, .slice none 0 0, .slice none 0 0, .int .i64 0, .int .i64 0, .int .i64 0, .int .i64 0, .slice none 0 0, .int .i64 0]) (blk_put (cs' := #[.int .i64 y.d0, .slice none 0 0, .slice none 0 0, .slice none 0 0, .slice none 0 0, .slice none 0 0, .slice none 0 0, .int .i64 0, .int .i64 0, .int .i64 0, .int .i64 0, .slice none 0 0, .int .i64 0]) (blk_far (blk_far BR.out (p := ⟨w.heap.size + 1 + 1, 11, none⟩) (by simp) _) (p := ⟨w.heap.size + 1 + 1, 12, none⟩) (by simp) _) 0 (.int .i64 y.d0) rfl) 1 (.slice A1 x1.length c1) rfl) 2 (.slice A2 y.l2.length c2) rfl) 3 (.slice A3 y.l3.length c3) rfl) 4 (.slice A4 x4.length c4) rfl) 5 (.slice A5 y.l5.length c5) rfl) 6 (.slice A6 y.l6.length c6) rfl) 7 (.int .i64 y.d7) rfl) 8 (.int .i64 y.d8) rfl) 9 (.int .i64 y.d9) rfl) 10 (.int .i64 y.d10) rfl) 11 (.slice A11 x11.length c11) rfl) 12 (.int .i64 y.d12) rfl) Try.underlying42 rfl (by kernel_rfl)) rfl ?_
  have hk : Kept w8 (((((((((((((((w8.setCell ⟨w.heap.size + 1 + 1, 11, none⟩ (.slice A11 x11.length c11)).setCell ⟨w.heap.size + 1 + 1, 12, none⟩ (.int .i64 y.d12)).setCell ⟨w.heap.size + 1, 0, none⟩ (.int .i64 y.d0)).setCell ⟨w.heap.size + 1, 1, none⟩ (.slice A1 x1.length c1)).setCell ⟨w.heap.size + 1, 2, none⟩ (.slice A2 y.l2.length c2)).setCell ⟨w.heap.size + 1, 3, none⟩ (.slice A3 y.l3.length c3)).setCell ⟨w.heap.size + 1, 4, none⟩ (.slice A4 x4.length c4)).setCell ⟨w.heap.size + 1, 5, none⟩ (.slice A5 y.l5.length c5)).setCell ⟨w.heap.size + 1, 6, none⟩ (.slice A6 y.l6.length c6)).setCell ⟨w.heap.size + 1, 7, none⟩ (.int .i64 y.d7)).setCell ⟨w.heap.size + 1, 8, none⟩ (.int .i64 y.d8)).setCell ⟨w.heap.size + 1, 9, none⟩ (.int .i64 y.d9)).setCell ⟨w.heap.size + 1, 10, none⟩ (.int .i64 y.d10)).setCell ⟨w.heap.size + 1, 11, none⟩ (.slice A11 x11.length c11)).setCell ⟨w.heap.size + 1, 12, none⟩ (.int .i64 y.d12)) (fun k => k = w.heap.size + 1 + 1 ∨ k = w.heap.size + 1) := Kept.setCell (Kept.setCell (Kept.setCell (Kept.setCell (Kept.setCell (Kept.setCell (Kept.setCell (Kept.setCell (Kept.setCell (Kept.setCell (Kept.setCell (Kept.setCell (Kept.setCell (Kept.setCell (Kept.setCell (Kept.refl _ _) (p := ⟨w.heap.size + 1 + 1, 11, none⟩) (Or.inl (Or.inl rfl)) (.slice A11 x11.length c11)) (p := ⟨w.heap.size + 1 + 1, 12, none⟩) (Or.inl (Or.inl rfl)) (.int .i64 y.d12)) (p := ⟨w.heap.size + 1, 0, none⟩) (Or.inl (Or.inr rfl)) (.int .i64 y.d0)) (p := ⟨w.heap.size + 1, 1, none⟩) (Or.inl (Or.inr rfl)) (.slice A1 x1.length c1)) (p := ⟨w.heap.size + 1, 2, none⟩) (Or.inl (Or.inr rfl)) (.slice A2 y.l2.length c2)) (p := ⟨w.heap.size + 1, 3, none⟩) (Or.inl (Or.inr rfl)) (.slice A3 y.l3.length c3)) (p := ⟨w.heap.size + 1, 4, none⟩) (Or.inl (Or.inr rfl)) (.slice A4 x4.length c4)) (p := ⟨w.heap.size + 1, 5, none⟩) (Or.inl (Or.inr rfl)) (.slice A5 y.l5.length c5)) (p := ⟨w.heap.size + 1, 6, none⟩) (Or.inl (Or.inr rfl)) (.slice A6 y.l6.length c6)) (p := ⟨w.heap.size + 1, 7, none⟩) (Or.inl (Or.inr rfl)) (.int .i64 y.d7)) (p := ⟨w.heap.size + 1, 8, none⟩) (Or.inl (Or.inr rfl)) (.int .i64 y.d8)) (p := ⟨w.heap.size + 1, 9, none⟩) (Or.inl (Or.inr rfl)) (.int .i64 y.d9)) (p := ⟨w.heap.size + 1, 10, none⟩) (Or.inl (Or.inr rfl)) (.int .i64 y.d10)) (p := ⟨w.heap.size + 1, 11, none⟩) (Or.inl (Or.inr rfl)) (.slice A11 x11.length c11)) (p := ⟨w.heap.size + 1, 12, none⟩) (Or.inl (Or.inr rfl)) (.int .i64 y.d12)
  have Z1 := (Kd.R_kept M1.out hk (fun k h h' => by have := HS.out; omega))
  have Z2 := (Kd.R_kept M2.out hk (fun k h h' => by have := HS.out; omega))
  have Z3 := (Kd.R_kept M3.out hk (fun k h h' => by have := HS.out; omega))
  have Z4 := (Kd.S_kept M4.out hk (fun k h h' => by have := HS.out; omega))
  have Z5 := (Kd.R_kept M5.out hk (fun k h h' => by have := HS.out; omega))
  have Z6 := (Kd.R_kept M6.out hk (fun k h h' => by have := HS.out; omega))
  have Z11 := (Kd.R_kept M11.out hk (fun k h h' => by have := HS.out; omega))
  have hbf : Below w.heap.size w (((((((((((((((w8.setCell ⟨w.heap.size + 1 + 1, 11, none⟩ (.slice A11 x11.length c11)).setCell ⟨w.heap.size + 1 + 1, 12, none⟩ (.int .i64 y.d12)).setCell ⟨w.heap.size + 1, 0, none⟩ (.int .i64 y.d0)).setCell ⟨w.heap.size + 1, 1, none⟩ (.slice A1 x1.length c1)).setCell ⟨w.heap.size + 1, 2, none⟩ (.slice A2 y.l2.length c2)).setCell ⟨w.heap.size + 1, 3, none⟩ (.slice A3 y.l3.length c3)).setCell ⟨w.heap.size + 1, 4, none⟩ (.slice A4 x4.length c4)).setCell ⟨w.heap.size + 1, 5, none⟩ (.slice A5 y.l5.length c5)).setCell ⟨w.heap.size + 1, 6, none⟩ (.slice A6 y.l6.length c6)).setCell ⟨w.heap.size + 1, 7, none⟩ (.int .i64 y.d7)).setCell ⟨w.heap.size + 1, 8, none⟩ (.int .i64 y.d8)).setCell ⟨w.heap.size + 1, 9, none⟩ (.int .i64 y.d9)).setCell ⟨w.heap.size + 1, 10, none⟩ (.int .i64 y.d10)).setCell ⟨w.heap.size + 1, 11, none⟩ (.slice A11 x11.length c11)).setCell ⟨w.heap.size + 1, 12, none⟩ (.int .i64 y.d12)) := below_set (below_set (below_set (below_set (below_set (below_set (below_set (below_set (below_set (below_set (below_set (below_set (below_set (below_set (below_set (HB.out) (by omega)) (by omega)) (by omega)) (by omega)) (by omega)) (by omega)) (by omega)) (by omega)) (by omega)) (by omega)) (by omega)) (by omega)) (by omega)) (by omega)) (by omega)
  have hszf := hk.1
  obtain rfl := HX1.out
  obtain rfl := HX4.out
  obtain rfl := HX11.out
  refine ⟨⟨A1, c1, A2, c2, A3, c3, A4, c4, A5, c5, A6, c6, A11, c11⟩, rfl, ⟨?z1, ?z2, ?z3, ?z4, ?z5, ?z6, ?z11⟩, hbf⟩
  case z1 => exact Kd.R_mono Z1 (fun k h => ⟨by have := HS.out; omega, by have := HS.out; omega⟩)
  case z2 => exact Kd.R_mono Z2 (fun k h => ⟨⟨by have := HS.out; omega, by have := HS.out; omega⟩, fun e_ => by have h2_ := Z3.1 k e_.symm; have := HS.out; omega, fun e_ => by have h2_ := Z5.1 k e_.symm; have := HS.out; omega, fun e_ => by have h2_ := Z6.1 k e_.symm; have := HS.out; omega⟩)
  case z3 => exact Kd.R_mono Z3 (fun k h => ⟨⟨by have := HS.out; omega, by have := HS.out; omega⟩, fun e_ => by have h2_ := Z2.1 k e_.symm; have := HS.out; omega, fun e_ => by have h2_ := Z5.1 k e_.symm; have := HS.out; omega, fun e_ => by have h2_ := Z6.1 k e_.symm; have := HS.out; omega⟩)
  case z4 => exact Kd.S_mono Z4 (fun k h => ⟨⟨by have := HS.out; omega, by have := HS.out; omega⟩, fun e_ => by have h2_ := Z2.1 k e_.symm; have := HS.out; omega, fun e_ => by have h2_ := Z3.1 k e_.symm; have := HS.out; omega, fun e_ => by have h2_ := Z5.1 k e_.symm; have := HS.out; omega, fun e_ => by have h2_ := Z6.1 k e_.symm; have := HS.out; omega⟩)
  case z5 => exact Kd.R_mono Z5 (fun k h => ⟨⟨by have := HS.out; omega, by have := HS.out; omega⟩, fun e_ => by have h2_ := Z2.1 k e_.symm; have := HS.out; omega, fun e_ => by have h2_ := Z3.1 k e_.symm; have := HS.out; omega, fun e_ => by have h2_ := Z6.1 k e_.symm; have := HS.out; omega⟩)
  case z6 => exact Kd.R_mono Z6 (fun k h => ⟨⟨by have := HS.out; omega, by have := HS.out; omega⟩, fun e_ => by have h2_ := Z2.1 k e_.symm; have := HS.out; omega, fun e_ => by have h2_ := Z3.1 k e_.symm; have := HS.out; omega, fun e_ => by have h2_ := Z5.1 k e_.symm; have := HS.out; omega⟩)
  case z11 => exact Kd.R_mono Z11 (fun k h => ⟨by have := HS.out; omega, by have := HS.out; omega⟩)
/-! ### wsz -/
set_option maxHeartbeats 8000000 in
set_option maxRecDepth 100000 in
theorem szWorld_c (y : LW) (q : LP) (w : World) (hq : y.Rd q w) (g1 : y.l1.length ≤ 9223372036854775807) (g2 : y.l2.length ≤ 9223372036854775807) (g3 : y.l3.length ≤ 9223372036854775807) (g4 : y.l4.length ≤ 9223372036854775807 ∧ ∀ p ∈ y.l4, p.f2.length ≤ 9223372036854775807) (g5 : y.l5.length ≤ 9223372036854775807) (g6 : y.l6.length ≤ 9223372036854775807) (g11 : y.l11.length ≤ 9223372036854775807) :
    Calls Try.prog 12 #[.agg (y.cells q), .int .i64 1048576] w fun e w' => ∃ r : Int, e = .returned (.int .i64 r) ∧ (0 ≤ r → y.Ok) ∧ Below w.heap.size w w' := by
  have hv := Try.underlying31
  have hv2 := Try.underlying24
  have HQ := Aside0.mk hq
  clear hq
  go_enter Try.func12, Try.ntmps12
  have h0a : 0 ≤ (1048576 : Int) := by omega
  have h1a : (1048576 : Int) ≤ 1048576 := by omega
  obtain ⟨r1, hr1⟩ : ∃ r_, r_ = leftL y.l1 1048576 := ⟨_, rfl⟩
  have hle1 : r1 ≤ 1048576 := by rw [hr1]; exact Int.le_trans (leftL_le y.l1 h0a) h1a
  have E1 := Aside0.mk (show laws_szNet.f y.d0 y.l1 1048576 = some r1 from by rw [hr1]; exact szNet_eq y.d0 y.l1 1048576 h0a h1a g1)
  have O1 := Aside0.mk (fun h => leftL_ok' h1a (by rw [← hr1]; exact h) : 0 ≤ r1 → y.l1.length ≤ 1048576); clear hr1
  clear h0a h1a
  go_wp2_with fail
  go_at_call 51; (with_reducible refine (laws_szNet.calls y.d0 q.A1 q.c1 y.l1 1048576 r1 _ ?s0 HQ.out.h1 E1.out).mono ?_); (case s0 => exact (HQ.out.below (by repeat (first | (with_reducible first | exact Below.refl _ _ | apply below_alloc | apply pw_below_drewN | apply below_drew1) | exact Below.refl _ _))).r1); rintro e w1 ⟨rfl, hb⟩
  have HB := Aside0.mk (below_step (w := w) (by repeat (first | (with_reducible first | exact Below.refl _ _ | apply below_alloc | apply pw_below_drewN | apply below_drew1) | exact Below.refl _ _)) hb); have BY := Aside0.mk (show w1.heap[w.heap.size]? = some (.cells (y.cells q) 31 (0, 0)) from blk_below (by repeat (first | exact blk_new _ _ | refine blk_drewN ?_ _ | refine blk_alloc ?_ _)) hb); clear hb
  by_cases c1 : r1 < 0
  · have d1 : decide (r1 < 0) = true := decide_eq_true c1
    go_wp2
    go_ret
    exact ⟨-1, rfl, fun h => by omega, (below_step HB.out (by repeat (first | (with_reducible first | exact Below.refl _ _ | apply below_alloc | apply pw_below_drewN | apply below_drew1) | exact Below.refl _ _)))⟩
  have d1 : decide (r1 < 0) = false := decide_eq_false c1
  obtain ⟨hy0, hy1, hy2, hy3, hy4, hy5, hy6, hy7, hy8, hy9, hy10, hy11, hy12⟩ := LW.at_ BY.out
  have h0a : 0 ≤ (r1 : Int) := by omega
  have h1a : (r1 : Int) ≤ 1048576 := by omega
  obtain ⟨r2, hr2⟩ : ∃ r_, r_ = leftL y.l2 r1 := ⟨_, rfl⟩
  have hle2 : r2 ≤ 1048576 := by rw [hr2]; exact Int.le_trans (leftL_le y.l2 h0a) h1a
  have E2 := Aside0.mk (show laws_szIntS.f y.l2 r1 = some r2 from by rw [hr2]; exact (szIntS_eq y.l2 r1 h0a h1a g2).trans (by rw [leftI_eq]))
  have O2 := Aside0.mk (fun h => leftL_ok' h1a (by rw [← hr2]; exact h) : 0 ≤ r2 → y.l2.length ≤ 1048576); clear hr2
  clear h0a h1a
  go_wp2_with fail
  go_at_call 64; (with_reducible refine (laws_szIntS.calls q.A2 q.c2 y.l2 r1 r2 _ ?s0 HQ.out.h2 E2.out).mono ?_); (case s0 => exact (HQ.out.below (below_step HB.out (by repeat (first | (with_reducible first | exact Below.refl _ _ | apply below_alloc | apply pw_below_drewN | apply below_drew1) | exact Below.refl _ _)))).r2); rintro e w' ⟨rfl, ⟨nd, rfl⟩⟩
  clear hy0 hy1 hy2 hy3 hy4 hy5 hy6 hy7 hy8 hy9 hy10 hy11 hy12
  by_cases c2 : r2 < 0
  · have d2 : decide (r2 < 0) = true := decide_eq_true c2
    go_wp2
    go_ret
    exact ⟨-1, rfl, fun h => by omega, (below_step HB.out (by repeat (first | (with_reducible first | exact Below.refl _ _ | apply below_alloc | apply pw_below_drewN | apply below_drew1) | exact Below.refl _ _)))⟩
  have d2 : decide (r2 < 0) = false := decide_eq_false c2
  obtain ⟨hy0, hy1, hy2, hy3, hy4, hy5, hy6, hy7, hy8, hy9, hy10, hy11, hy12⟩ := LW.at_ BY.out
  have h0a : 0 ≤ (r2 : Int) := by omega
  have h1a : (r2 : Int) ≤ 1048576 := by omega
  obtain ⟨r3, hr3⟩ : ∃ r_, r_ = leftL y.l3 r2 := ⟨_, rfl⟩
  have hle3 : r3 ≤ 1048576 := by rw [hr3]; exact Int.le_trans (leftL_le y.l3 h0a) h1a
  have E3 := Aside0.mk (show laws_szIntS.f y.l3 r2 = some r3 from by rw [hr3]; exact (szIntS_eq y.l3 r2 h0a h1a g3).trans (by rw [leftI_eq]))
  have O3 := Aside0.mk (fun h => leftL_ok' h1a (by rw [← hr3]; exact h) : 0 ≤ r3 → y.l3.length ≤ 1048576); clear hr3
  clear h0a h1a
  go_wp2_with fail
  go_at_call 64; (with_reducible refine (laws_szIntS.calls q.A3 q.c3 y.l3 r2 r3 _ ?s0 HQ.out.h3 E3.out).mono ?_); (case s0 => exact (HQ.out.below (below_step HB.out (by repeat (first | (with_reducible first | exact Below.refl _ _ | apply below_alloc | apply pw_below_drewN | apply below_drew1) | exact Below.refl _ _)))).r3); rintro e w' ⟨rfl, ⟨nd, rfl⟩⟩
  clear hy0 hy1 hy2 hy3 hy4 hy5 hy6 hy7 hy8 hy9 hy10 hy11 hy12
  by_cases c3 : r3 < 0
  · have d3 : decide (r3 < 0) = true := decide_eq_true c3
    go_wp2
    go_ret
    exact ⟨-1, rfl, fun h => by omega, (below_step HB.out (by repeat (first | (with_reducible first | exact Below.refl _ _ | apply below_alloc | apply pw_below_drewN | apply below_drew1) | exact Below.refl _ _)))⟩
  have d3 : decide (r3 < 0) = false := decide_eq_false c3
  obtain ⟨hy0, hy1, hy2, hy3, hy4, hy5, hy6, hy7, hy8, hy9, hy10, hy11, hy12⟩ := LW.at_ BY.out
  have h0a : 0 ≤ (r3 : Int) := by omega
  have h1a : (r3 : Int) ≤ 1048576 := by omega
  obtain ⟨r4, he4, hle4, hok4⟩ := szProbeS_ev y.l4 r3 h0a h1a g4.1 g4.2
  obtain ⟨k4, hk4⟩ := he4.rounds
  have E4 := Aside0.mk hk4; have O4 := Aside0.mk hok4; clear hk4 hok4 he4
  clear h0a h1a
  go_wp2_with fail
  go_at_call 65; (with_reducible refine (laws_szProbeS.calls k4 q.A4 q.c4 y.l4 r3 r4 _ ?s0 HQ.out.h4 E4.out).mono ?_); (case s0 => exact (HQ.out.below (below_step HB.out (by repeat (first | (with_reducible first | exact Below.refl _ _ | apply below_alloc | apply pw_below_drewN | apply below_drew1) | exact Below.refl _ _)))).r4); rintro e w4 ⟨rfl, hb⟩
  have hs := below_step (w := w1) (by repeat (first | (with_reducible first | exact Below.refl _ _ | apply below_alloc | apply pw_below_drewN | apply below_drew1) | exact Below.refl _ _)) hb; have HB2 := Aside0.mk (below_step HB.out hs); have BY2 := Aside0.mk (blk_below BY.out hs); clear HB BY hb hs hy0 hy1 hy2 hy3 hy4 hy5 hy6 hy7 hy8 hy9 hy10 hy11 hy12; have HB := HB2; have BY := BY2; clear HB2 BY2
  by_cases c4 : r4 < 0
  · have d4 : decide (r4 < 0) = true := decide_eq_true c4
    go_wp2
    go_ret
    exact ⟨-1, rfl, fun h => by omega, (below_step HB.out (by repeat (first | (with_reducible first | exact Below.refl _ _ | apply below_alloc | apply pw_below_drewN | apply below_drew1) | exact Below.refl _ _)))⟩
  have d4 : decide (r4 < 0) = false := decide_eq_false c4
  obtain ⟨hy0, hy1, hy2, hy3, hy4, hy5, hy6, hy7, hy8, hy9, hy10, hy11, hy12⟩ := LW.at_ BY.out
  have h0a : 0 ≤ (r4 : Int) := by omega
  have h1a : (r4 : Int) ≤ 1048576 := by omega
  obtain ⟨r5, hr5⟩ : ∃ r_, r_ = leftL y.l5 r4 := ⟨_, rfl⟩
  have hle5 : r5 ≤ 1048576 := by rw [hr5]; exact Int.le_trans (leftL_le y.l5 h0a) h1a
  have E5 := Aside0.mk (show laws_szIntS.f y.l5 r4 = some r5 from by rw [hr5]; exact (szIntS_eq y.l5 r4 h0a h1a g5).trans (by rw [leftI_eq]))
  have O5 := Aside0.mk (fun h => leftL_ok' h1a (by rw [← hr5]; exact h) : 0 ≤ r5 → y.l5.length ≤ 1048576); clear hr5
  clear h0a h1a
  go_wp2_with fail
  go_at_call 64; (with_reducible refine (laws_szIntS.calls q.A5 q.c5 y.l5 r4 r5 _ ?s0 HQ.out.h5 E5.out).mono ?_); (case s0 => exact (HQ.out.below (below_step HB.out (by repeat (first | (with_reducible first | exact Below.refl _ _ | apply below_alloc | apply pw_below_drewN | apply below_drew1) | exact Below.refl _ _)))).r5); rintro e w' ⟨rfl, ⟨nd, rfl⟩⟩
  clear hy0 hy1 hy2 hy3 hy4 hy5 hy6 hy7 hy8 hy9 hy10 hy11 hy12
  by_cases c5 : r5 < 0
  · have d5 : decide (r5 < 0) = true := decide_eq_true c5
    go_wp2
    go_ret
    exact ⟨-1, rfl, fun h => by omega, (below_step HB.out (by repeat (first | (with_reducible first | exact Below.refl _ _ | apply below_alloc | apply pw_below_drewN | apply below_drew1) | exact Below.refl _ _)))⟩
  have d5 : decide (r5 < 0) = false := decide_eq_false c5
  obtain ⟨hy0, hy1, hy2, hy3, hy4, hy5, hy6, hy7, hy8, hy9, hy10, hy11, hy12⟩ := LW.at_ BY.out
  have h0a : 0 ≤ (r5 : Int) := by omega
  have h1a : (r5 : Int) ≤ 1048576 := by omega
  obtain ⟨r6, hr6⟩ : ∃ r_, r_ = leftL y.l6 r5 := ⟨_, rfl⟩
  have hle6 : r6 ≤ 1048576 := by rw [hr6]; exact Int.le_trans (leftL_le y.l6 h0a) h1a
  have E6 := Aside0.mk (show laws_szIntS.f y.l6 r5 = some r6 from by rw [hr6]; exact (szIntS_eq y.l6 r5 h0a h1a g6).trans (by rw [leftI_eq]))
  have O6 := Aside0.mk (fun h => leftL_ok' h1a (by rw [← hr6]; exact h) : 0 ≤ r6 → y.l6.length ≤ 1048576); clear hr6
  clear h0a h1a
  go_wp2_with fail
  go_at_call 64; (with_reducible refine (laws_szIntS.calls q.A6 q.c6 y.l6 r5 r6 _ ?s0 HQ.out.h6 E6.out).mono ?_); (case s0 => exact (HQ.out.below (below_step HB.out (by repeat (first | (with_reducible first | exact Below.refl _ _ | apply below_alloc | apply pw_below_drewN | apply below_drew1) | exact Below.refl _ _)))).r6); rintro e w' ⟨rfl, ⟨nd, rfl⟩⟩
  clear hy0 hy1 hy2 hy3 hy4 hy5 hy6 hy7 hy8 hy9 hy10 hy11 hy12
  by_cases c6 : r6 < 0
  · have d6 : decide (r6 < 0) = true := decide_eq_true c6
    go_wp2
    go_ret
    exact ⟨-1, rfl, fun h => by omega, (below_step HB.out (by repeat (first | (with_reducible first | exact Below.refl _ _ | apply below_alloc | apply pw_below_drewN | apply below_drew1) | exact Below.refl _ _)))⟩
  have d6 : decide (r6 < 0) = false := decide_eq_false c6
  obtain ⟨hy0, hy1, hy2, hy3, hy4, hy5, hy6, hy7, hy8, hy9, hy10, hy11, hy12⟩ := LW.at_ BY.out
  have h0a : 0 ≤ (r6 : Int) := by omega
  have h1a : (r6 : Int) ≤ 1048576 := by omega
  obtain ⟨r11, hr11⟩ : ∃ r_, r_ = leftL y.l11 r6 := ⟨_, rfl⟩
  have hle11 : r11 ≤ 1048576 := by rw [hr11]; exact Int.le_trans (leftL_le y.l11 h0a) h1a
  have E11 := Aside0.mk (show laws_szSeenS.f y.l11 r6 = some r11 from by rw [hr11]; exact szSeenS_eq y.l11 r6 h0a h1a g11)
  have O11 := Aside0.mk (fun h => leftL_ok' h1a (by rw [← hr11]; exact h) : 0 ≤ r11 → y.l11.length ≤ 1048576); clear hr11
  clear h0a h1a
  go_wp2_with fail
  go_at_call 66; (with_reducible refine (laws_szSeenS.calls q.A11 q.c11 y.l11 r6 r11 _ ?s0 HQ.out.h11 E11.out).mono ?_); (case s0 => exact (HQ.out.below (below_step HB.out (by repeat (first | (with_reducible first | exact Below.refl _ _ | apply below_alloc | apply pw_below_drewN | apply below_drew1) | exact Below.refl _ _)))).r11); rintro e w' ⟨rfl, ⟨nd, rfl⟩⟩
  clear hy0 hy1 hy2 hy3 hy4 hy5 hy6 hy7 hy8 hy9 hy10 hy11 hy12
  by_cases c11 : r11 < 0
  · have d11 : decide (r11 < 0) = true := decide_eq_true c11
    go_wp2
    go_ret
    exact ⟨-1, rfl, fun h => by omega, (below_step HB.out (by repeat (first | (with_reducible first | exact Below.refl _ _ | apply below_alloc | apply pw_below_drewN | apply below_drew1) | exact Below.refl _ _)))⟩
  have d11 : decide (r11 < 0) = false := decide_eq_false c11
  go_wp2
  go_ret
  exact ⟨r11, rfl, fun _ => ⟨O1.out (by omega), O2.out (by omega), O3.out (by omega), O4.out (by omega), O5.out (by omega), O6.out (by omega), O11.out (by omega)⟩, (below_step HB.out (by repeat (first | (with_reducible first | exact Below.refl _ _ | apply below_alloc | apply pw_below_drewN | apply below_drew1) | exact Below.refl _ _)))⟩
/-! ### mints -/
def mkI : Int → Nat → List Int
  | _, 0 => []
  | k, n + 1 => k :: mkI (k + 1) n
theorem mkI_length : ∀ (n : Nat) (k : Int), (mkI k n).length = n
  | 0, _ => rfl
  | n + 1, k => by simp [mkI, mkI_length n]
theorem markIntS_l0 : ∀ (suf pre : List Int) (m : Int), (pre ++ suf).length ≤ 1048576 → 0 ≤ m → m + suf.length ≤ 4611686018427387904 →
    Ev (fun k => laws_markIntS.l0 k (pre ++ suf) m (pre.length : Int)) (m + suf.length, pre ++ mkI m suf.length) := by
  intro suf
  induction suf with
  | nil =>
    intro pre m hb h0 hm
    refine Ev.step (fun k => by rw [laws_markIntS.l0]) ?_
    refine evNeg (by simp) (evEq ?_ (Ev.now _))
    simp [mkI]
  | cons x suf ih =>
    intro pre m hb h0 hm
    simp only [List.length_append, List.length_cons] at hb hm
    refine Ev.step (fun k => by rw [laws_markIntS.l0]) ?_
    refine evPos (by simp only [List.length_append, List.length_cons]; omega) (evPos (by omega) ?_)
    rw [set_mid, wsucc (by omega), w64 (by omega) (by omega)]
    have h := ih (pre ++ [m]) (m + 1) (by simp; omega) (by omega) (by omega)
    refine evEq ?_ (Ev.congr (fun k => ?_) h)
    · simp [mkI]
      omega
    · simp
theorem markIntS_ev (l : List Int) (m : Int) (hl : l.length ≤ 1048576) (h0 : 0 ≤ m) (hm : m ≤ 1099511627776) : Ev (fun k => laws_markIntS.f k l m) (m + l.length, mkI m l.length) := by
  have h := markIntS_l0 l [] m (by simpa using hl) h0 (by omega)
  simpa [laws_markIntS.f] using h
theorem heldIntS_l0 : ∀ (n : Nat) (pre : List Int) (m : Int), pre.length + n ≤ 1048576 → 0 ≤ m → m + n ≤ 4611686018427387904 →
    Ev (fun k => laws_heldIntS.l0 k (pre ++ mkI m n) m (pre.length : Int)) (m + n) := by
  intro n
  induction n with
  | zero =>
    intro pre m hb h0 hm
    refine Ev.step (fun k => by rw [laws_heldIntS.l0]) ?_
    refine evNeg (by simp [mkI]) (evEq ?_ (Ev.now _))
    simp
  | succ n ih =>
    intro pre m hb h0 hm
    refine Ev.step (fun k => by rw [laws_heldIntS.l0]) ?_
    refine evPos (by simp only [List.length_append, mkI_length]; omega) (evPos (by omega) ?_)
    rw [mkI, rd_mid, wsucc (by omega), w64 (by omega) (by omega)]
    refine evPos rfl ?_
    have h := ih (pre ++ [m]) (m + 1) (by simp; omega) (by omega) (by omega)
    refine evEq ?_ (Ev.congr (fun k => ?_) h)
    · omega
    · simp
theorem heldIntS_ev (n : Nat) (m : Int) (hl : n ≤ 1048576) (h0 : 0 ≤ m) (hm : m ≤ 1099511627776) : Ev (fun k => laws_heldIntS.f k (mkI m n) m) (m + n) := by
  have h := heldIntS_l0 n [] m (by simpa using hl) h0 (by omega)
  simpa [laws_heldIntS.f] using h
/-! ### markprobes -/
theorem markIntS_ev2 (l : List Int) (m : Int) (hl : l.length ≤ 1048576) (h0 : 0 ≤ m) (hm : m ≤ 1125899906842624) : Ev (fun k => laws_markIntS.f k l m) (m + l.length, mkI m l.length) := by
  have h := markIntS_l0 l [] m (by simpa using hl) h0 (by omega)
  simpa [laws_markIntS.f] using h
theorem seg1_ {W : World} {base g n c : Nat} {ok oki : Nat → Prop} {l : List S103} {i : Nat} {u0 u1 v2 : Value} (h : Kd.H k103 103 W base ok (.slice (some ⟨g, 0, none⟩) n c) l (i : Int) oki [u0, u1, v2]) (hi : (i : Int) < n) (a : Int) :
    Kd.H k103 103 (W.setCell ⟨g, i * 3 + 1, none⟩ (.int .i64 a)) base ok (.slice (some ⟨g, 0, none⟩) n c) l (i : Int) oki [u0, .int .i64 a, v2] := by
  have h2 := (Kd.H_seg h (by omega) hi (seg := [.int .i64 a]) (j := 1) (by show 1 + 1 ≤ 3; decide) (by simp [Value.oneCell'])).1
  have eo : ((i : Int)).toNat * (k103).sz + 1 = i * 3 + 1 := by simp [show (k103).sz = 3 from rfl]
  rw [eo] at h2
  exact h2
theorem cell1_ {W : World} {base g n c : Nat} {ok oki : Nat → Prop} {l : List S103} {i : Nat} {u0 u1 v2 : Value} (h : Kd.H k103 103 W base ok (.slice (some ⟨g, 0, none⟩) n c) l (i : Int) oki [u0, u1, v2]) (hi : (i : Int) < n) : W.cell? ⟨g, i * 3 + 1, none⟩ = some u1 := by
  obtain ⟨_, _, _, _, _, hcc, _⟩ := Kd.H_raw h (by omega) hi
  have h_ := hcc 1 _ rfl
  simpa [show (k103).sz = 3 from rfl] using h_
theorem cell2_ {W : World} {base g n c : Nat} {ok oki : Nat → Prop} {l : List S103} {i : Nat} {u0 u1 v2 : Value} (h : Kd.H k103 103 W base ok (.slice (some ⟨g, 0, none⟩) n c) l (i : Int) oki [u0, u1, v2]) (hi : (i : Int) < n) : W.cell? ⟨g, i * 3 + 2, none⟩ = some v2 := by
  obtain ⟨_, _, _, _, _, hcc, _⟩ := Kd.H_raw h (by omega) hi
  have h_ := hcc 2 _ rfl
  simpa [show (k103).sz = 3 from rfl] using h_
set_option maxHeartbeats 4000000 in
set_option maxRecDepth 100000 in
theorem markProbeS_c (P0 : Nat → Prop) (u : Value) (l0 : List S103) (a1 : Int) (w0 w : World) (hB : Below w0.heap.size w0 w) (ho0 : Kd.S k103 103 w w0.heap.size P0 u l0) (hl : l0.length ≤ 1048576) (hp : ∀ p ∈ l0, p.f2.length ≤ 1048576) (h0 : 0 ≤ a1) (h1 : a1 ≤ 1099511627776) :
    Calls Try.prog 75 #[u, .int .i64 a1] w fun e w' => ∃ n : Int, e = .returned (.int .i64 n) ∧ 0 ≤ n ∧ n ≤ a1 + 1048578 * l0.length ∧ Below w0.heap.size w0 w' ∧ Kept w w' P0 := by
  have hu := Try.underlying103
  obtain ⟨A, c, rfl⟩ := Kd.S_slice ho0
  have HB0 := Aside0.mk hB
  have HO0 := Aside0.mk ho0
  have HL := Aside0.mk hl
  have HP := Aside0.mk hp
  clear hB ho0 hl hp
  have h0' := Aside0.mk h0
  have h1' := Aside0.mk h1
  clear h0 h1
  go_enter Try.func75, Try.ntmps75
  go_wp2
  go_loopg [1, 5] l0.length (fun gg v1 v5 wr => ∃ (pre0 pre suf : List S103) (m : Int), gg = suf.length ∧ Aside0 (l0 = pre0 ++ suf) ∧ Aside0 (pre.length = pre0.length) ∧ v1 = .int .i64 m ∧ Aside0 (0 ≤ m) ∧ Aside0 (m ≤ a1 + 1048578 * pre.length) ∧ v5 = .int .i64 (pre.length : Int) ∧ Aside0 (Kd.S k103 103 wr w0.heap.size P0 (.slice A l0.length c) (pre ++ suf)) ∧ Aside0 (Below w0.heap.size w0 wr) ∧ Aside0 (Kept w wr P0))
  case atStart => exact ⟨[], [], l0, a1, rfl, ⟨rfl⟩, ⟨rfl⟩, rfl, h0', ⟨by simp⟩, rfl, ⟨(by (with_reducible repeat (first | apply Kd.S_alloc | apply Kd.S_drewN | apply Kd.S_drew)); exact HO0.out)⟩, ⟨by repeat (first | (with_reducible first | exact HB0.out | apply below_alloc | apply pw_below_drewN | apply below_drew1) | exact HB0.out)⟩, ⟨by repeat (first | (with_reducible first | exact Kept.refl _ _ | apply Kept.alloc | apply Kept.drewN | apply Kept.drew) | exact Kept.refl _ _)⟩⟩
  case round =>
    clear HO0 HB0
    obtain ⟨pre0, pre, suf, m, hgg, HE, HPL, rfl, HM0, HM1, rfl, HO, HB, HK⟩ := hrel
    cases suf with
    | nil =>
      have hlt : ¬ (pre.length : Int) < (l0.length : Int) := by rw [HE.out]; simp [HPL.out]
      have hb2 := HM1.out
      have hlen : l0.length = pre.length := by rw [HE.out]; simp [HPL.out]
      rw [← hlen] at hb2
      have HM2 := Aside0.mk hb2
      clear hb2 hlen
      go_wp2
      go_ret
      exact ⟨m, rfl, HM0.out, HM2.out, HB.out, HK.out⟩
    | cons x suf =>
      have hlen : l0.length = pre.length + (suf.length + 1) := by rw [HE.out]; simp [HPL.out]
      have hx : x.f2.length ≤ 1048576 := HP.out x (by rw [HE.out]; simp)
      have hlt : (pre.length : Int) < (l0.length : Int) := by omega
      obtain ⟨g, cap, e1, gb, gl, cl⟩ := Kd.S_form HO.out (by simp [hlen]; omega)
      injection e1 with e1 e2 e3
      subst e1
      subst e3
      obtain ⟨cells, hblk⟩ := Kd.S_typed HO.out g (by simp [Value.ownBlock])
      have HO1 := HO.out
      obtain ⟨oki, cs, hcl, hM, hcc, hoki, hH⟩ := Kd.S_lend HO1 z103 (pre.length : Int) (by omega) (by omega)
      have hxe : (pre ++ x :: suf).getD ((pre.length : Int)).toNat z103 = x := getD_mid _ _ _ _
      rw [hxe] at hM
      obtain ⟨v2, rfl, hR⟩ := k103_openM hM
      have hg0 : wr.cell? ⟨g, pre.length * 3, none⟩ = some (.int .i64 x.f0) := by have := hcc 0 _ rfl; simpa [show (k103).sz = 3 from rfl] using this
      have hf0 : wr.frozen? ⟨g, pre.length * 3, none⟩ = false := blk_frozen hblk _
      have hP8 := Kd.H_seg hH (by omega) (by omega) (seg := [.int .i64 m]) (j := 0) (by show 0 + 1 ≤ 3; decide) (by simp [Value.oneCell'])
      have eo : ((pre.length : Int)).toNat * (k103).sz + 0 = pre.length * 3 := by simp [show (k103).sz = 3 from rfl]
      rw [eo] at hP8
      have HP8 := Aside0.mk (show Kd.H k103 103 (wr.setCell ⟨g, pre.length * 3, none⟩ (.int .i64 m)) w0.heap.size P0 (.slice (some ⟨g, 0, none⟩) l0.length c) (pre ++ x :: suf) (pre.length : Int) oki [.int .i64 m, .int .i64 x.f1, v2] ∧ wr.grownBy (wr.setCell ⟨g, pre.length * 3, none⟩ (.int .i64 m)) (some g) from hP8)
      clear hP8 eo
      have HBK := Aside0.mk hblk
      have HOK := Aside0.mk hoki
      have HR := Aside0.mk hR
      have HLEN := Aside0.mk hlen
      have HX := Aside0.mk hx
      have HLT := Aside0.mk hlt
      have HGB := Aside0.mk gb
      have HPG := Aside0.mk ((Kd.S_R HO.out).1 g rfl)
      have hm0 := HM0.out
      have hm1 := HM1.out
      have ha1 := h1'.out
      have hll := HL.out
      have f1 : wrap64 (m + 1) = m + 1 := w64 (by omega) (by omega)
      have f2 : wrap64 (wrap64 (m + 1) + 1) = m + 2 := by rw [f1, w64 (by omega) (by omega)]; omega
      obtain ⟨k1, hk1⟩ := (markIntS_ev2 x.f2 (m + 2) hx (by omega) (by omega)).rounds
      rw [← f2] at hk1
      have HK1 := Aside0.mk hk1
      have E1 := Aside0.mk f1
      have E2 := Aside0.mk f2
      clear hblk hoki hR hlen hx hH hcc hM hxe HO1 gl cl hcl e2 gb hk1 hm0 hm1 ha1 hll f1 f2
      have hH9 : Kd.H k103 103 (wr.setCell ⟨g, pre.length * 3, none⟩ (.int .i64 m)) w0.heap.size P0 (.slice (some ⟨g, 0, none⟩) l0.length c) (pre ++ x :: suf) (pre.length : Int) oki [.int .i64 m, .int .i64 x.f1, v2] := HP8.out.1
      have hg1 : (wr.setCell ⟨g, pre.length * 3, none⟩ (.int .i64 m)).cell? ⟨g, pre.length * 3 + 1, none⟩ = some (.int .i64 x.f1) := cell1_ hH9 (by have := HLT.out; omega)
      have hf1 : (wr.setCell ⟨g, pre.length * 3, none⟩ (.int .i64 m)).frozen? ⟨g, pre.length * 3 + 1, none⟩ = false := blk_frozen (blk_set HBK.out _ _) _
      have hH10 : Kd.H k103 103 ((wr.setCell ⟨g, pre.length * 3, none⟩ (.int .i64 m)).setCell ⟨g, pre.length * 3 + 1, none⟩ (.int .i64 (wrap64 (m + 1)))) w0.heap.size P0 (.slice (some ⟨g, 0, none⟩) l0.length c) (pre ++ x :: suf) (pre.length : Int) oki [.int .i64 m, .int .i64 (wrap64 (m + 1)), v2] := seg1_ hH9 (by have := HLT.out; omega) _
      have hg2 : ((wr.setCell ⟨g, pre.length * 3, none⟩ (.int .i64 m)).setCell ⟨g, pre.length * 3 + 1, none⟩ (.int .i64 (wrap64 (m + 1)))).cell? ⟨g, pre.length * 3 + 2, none⟩ = some v2 := cell2_ hH10 (by have := HLT.out; omega)
      have HH10 := Aside0.mk hH10
      have HB10 := Aside0.mk (show Below w0.heap.size w0 ((wr.setCell ⟨g, pre.length * 3, none⟩ (.int .i64 m)).setCell ⟨g, pre.length * 3 + 1, none⟩ (.int .i64 (wrap64 (m + 1)))) from below_set (below_set HB.out HGB.out) HGB.out)
      have HR10 := Aside0.mk (show Kd.R (Kd.int .i64) 3 ((wr.setCell ⟨g, pre.length * 3, none⟩ (.int .i64 m)).setCell ⟨g, pre.length * 3 + 1, none⟩ (.int .i64 (wrap64 (m + 1)))) w0.heap.size oki v2 x.f2 from Kd.R_far (p := ⟨g, _, none⟩) (Kd.R_far (p := ⟨g, _, none⟩) HR.out (fun k hk => (HOK.out k hk).2) _) (fun k hk => (HOK.out k hk).2) _)
      have HK10 := Aside0.mk (show Kept w ((wr.setCell ⟨g, pre.length * 3, none⟩ (.int .i64 m)).setCell ⟨g, pre.length * 3 + 1, none⟩ (.int .i64 (wrap64 (m + 1)))) P0 from Kept.setCell (Kept.setCell HK.out (p := ⟨g, _, none⟩) (.inl HPG.out) _) (p := ⟨g, _, none⟩) (.inl HPG.out) _)
      clear hH9 hH10
      go_wp2_with (go_at_call 24; (with_reducible refine (laws_markIntS.calls k1 oki v2 x.f2 _ _ _ w0 _ ?s1 ?s2 HK1.out).mono ?_); (case s1 => exact HB10.out); (case s2 => exact HR10.out); rintro e w' ⟨rfl, hR', hB', hK'⟩)
      go_roundg suf.length
      case measure => rw [hgg]; simp
      case rel =>
        have hx2 := HX.out
        have e2_ := E2.out
        refine ⟨pre0 ++ [x], pre ++ [⟨m, wrap64 (m + 1), mkI (wrap64 (wrap64 (m + 1) + 1)) x.f2.length⟩], suf, _, rfl, ⟨by rw [HE.out]; simp⟩, ⟨by simp [HPL.out]⟩, rfl, ⟨by have := HM0.out; omega⟩, ⟨by have := HM1.out; rw [List.length_append]; simp only [List.length_cons, List.length_nil]; omega⟩, ?_, ⟨?_⟩, ⟨hB'⟩, ⟨Kept.then_ HK10.out hK' (fun k hk => .inl (HOK.out k hk).1)⟩⟩
        · rw [List.length_append, wsucc (by have := HLEN.out; have := HL.out; omega)]; rfl
        · have h2 := Kd.H_back (Kd.H_kept HH10.out hK' (fun k _ hn => hn)) (x' := ⟨m, wrap64 (m + 1), mkI (wrap64 (wrap64 (m + 1) + 1)) x.f2.length⟩) (k103_mkM _ _ _ _ (Kd.R_tight rfl hR')) (fun k hk => HR10.out.1 k hk.symm)
          rw [set_mid] at h2
          rw [List.append_assoc]
          exact h2
/-! ### markworld -/
theorem S_apart_ {α β : Type} {d : Kd α} {d' : Kd β} {e e' : Nat} {w : World} {b b' : Nat} {ok ok' : Nat → Prop} {v v' : Value} {xs : List α} {ys : List β} (h : Kd.R d e w b ok v xs) (h' : Kd.S d' e' w b' ok' v' ys) (ht : ∀ q, q ∈ e' :: d'.E → q ≠ e) : Kd.S d' e' w b' (fun k => ok' k ∧ some k ≠ v.ownBlock) v' ys := by
  cases hv : v.ownBlock with
  | none => exact Kd.S_mono h' (fun k hk => ⟨hk, by simp⟩)
  | some g =>
    obtain ⟨cells, hb⟩ := Kd.R_typed h g hv
    exact Kd.S_mono (Kd.S_types h' hb ht) (fun k hk => ⟨hk.1, fun he => hk.2 (by injection he)⟩)
theorem R_apart_ {α β : Type} {d : Kd α} {d' : Kd β} {e e' : Nat} {w : World} {b b' : Nat} {ok ok' : Nat → Prop} {v v' : Value} {xs : List α} {ys : List β} (h : Kd.R d e w b ok v xs) (h' : Kd.R d' e' w b' ok' v' ys) (hn : e ≠ e') : ∀ k, some k = v.ownBlock → some k = v'.ownBlock → False := by
  intro k h1 h2
  obtain ⟨c1, hb1⟩ := Kd.R_typed h k h1.symm
  obtain ⟨c2, hb2⟩ := Kd.R_typed h' k h2.symm
  rw [hb1] at hb2
  simp only [Option.some.injEq, Obj.cells.injEq] at hb2
  exact hn hb2.2.1
/-! ### mlinks -/
def mkL : Int → Nat → List S133
  | _, 0 => []
  | k, n + 1 => ⟨k, k + 1⟩ :: mkL (k + 2) n
theorem mkL_length : ∀ (n : Nat) (k : Int), (mkL k n).length = n
  | 0, _ => rfl
  | n + 1, k => by simp [mkL, mkL_length n]
theorem markLinkS_l0 : ∀ (suf pre : List S133) (m : Int), (pre ++ suf).length ≤ 1048576 → 0 ≤ m → m + 2 * suf.length ≤ 4611686018427387904 →
    Ev (fun k => laws_markLinkS.l0 k (pre ++ suf) m (pre.length : Int)) (m + 2 * suf.length, pre ++ mkL m suf.length) := by
  intro suf
  induction suf with
  | nil =>
    intro pre m hb h0 hm
    refine Ev.step (fun k => by rw [laws_markLinkS.l0]) ?_
    refine evNeg (by simp) (evEq ?_ (Ev.now _))
    simp [mkL]
  | cons x suf ih =>
    intro pre m hb h0 hm
    simp only [List.length_append, List.length_cons] at hb hm
    refine Ev.step (fun k => by rw [laws_markLinkS.l0]) ?_
    refine evPos (by simp only [List.length_append, List.length_cons]; omega) (evPos (by omega) ?_)
    simp only [Option.bind_some, rd_T133, set_mid, getD_mid]
    rw [wsucc (by omega), w64 (n := m + 1) (by omega) (by omega), w64 (n := m + 1 + 1) (by omega) (by omega)]
    have h := ih (pre ++ [⟨m, m + 1⟩]) (m + 2) (by simp; omega) (by omega) (by omega)
    refine evEq ?_ (Ev.congr (fun k => ?_) h)
    · simp [mkL]
      omega
    · simp [Int.add_assoc]
theorem markNet_ev (n : Int) (l : List S133) (m : Int) (hl : l.length ≤ 1048576) (h0 : 0 ≤ m) (hm : m ≤ 1099511627776) : Ev (fun k => laws_markNet.f k n l m) (m + 2 * l.length, mkL m l.length) := by
  have h := markLinkS_l0 l [] m (by simpa using hl) h0 (by omega)
  unfold laws_markNet.f
  have h2 : Ev (fun k => laws_markLinkS.f k l m) (m + 2 * l.length, mkL m l.length) := by simpa [laws_markLinkS.f] using h
  exact Ev.bind h2 (Ev.now _)
/-! ### mseens -/
def mkS : Int → Nat → List S62
  | _, 0 => []
  | k, n + 1 => ⟨k, k + 1, k + 2, k + 3, Int.tmod (k + 4) 3 == 0⟩ :: mkS (k + 5) n
theorem mkS_length : ∀ (n : Nat) (k : Int), (mkS k n).length = n
  | 0, _ => rfl
  | n + 1, k => by simp [mkS, mkS_length n]
theorem markSeenS_l0 : ∀ (suf pre : List S62) (m : Int), (pre ++ suf).length ≤ 1048576 → 0 ≤ m → m + 5 * suf.length ≤ 4611686018427387904 →
    Ev (fun k => laws_markSeenS.l0 k (pre ++ suf) m (pre.length : Int)) (m + 5 * suf.length, pre ++ mkS m suf.length) := by
  intro suf
  induction suf with
  | nil =>
    intro pre m hb h0 hm
    refine Ev.step (fun k => by rw [laws_markSeenS.l0]) ?_
    refine evNeg (by simp) (evEq ?_ (Ev.now _))
    simp [mkS]
  | cons x suf ih =>
    intro pre m hb h0 hm
    simp only [List.length_append, List.length_cons] at hb hm
    refine Ev.step (fun k => by rw [laws_markSeenS.l0]) ?_
    refine evPos (by simp only [List.length_append, List.length_cons]; omega) (evPos (by omega) ?_)
    simp only [Option.bind_some, rd_T62, set_mid, getD_mid]
    rw [wsucc (by omega), w64 (n := m + 1) (by omega) (by omega), w64 (n := m + 1 + 1) (by omega) (by omega), w64 (n := m + 1 + 1 + 1) (by omega) (by omega), w64 (n := m + 1 + 1 + 1 + 1) (by omega) (by omega), w64 (n := m + 1 + 1 + 1 + 1 + 1) (by omega) (by omega)]
    have h := ih (pre ++ [⟨m, m + 1, m + 2, m + 3, Int.tmod (m + 4) 3 == 0⟩]) (m + 5) (by simp; omega) (by omega) (by omega)
    refine evEq ?_ (Ev.congr (fun k => ?_) h)
    · simp [mkS]
      omega
    · simp [Int.add_assoc]
theorem markSeenS_ev (l : List S62) (m : Int) (hl : l.length ≤ 1048576) (h0 : 0 ≤ m) (hm : m ≤ 1099511627776) : Ev (fun k => laws_markSeenS.f k l m) (m + 5 * l.length, mkS m l.length) := by
  have h := markSeenS_l0 l [] m (by simpa using hl) h0 (by omega)
  simpa [laws_markSeenS.f] using h
/-! ### markworld2 -/
theorem markSeenS_ev2 (l : List S62) (m : Int) (hl : l.length ≤ 1048576) (h0 : 0 ≤ m) (hm : m ≤ 1125899906842624) : Ev (fun k => laws_markSeenS.f k l m) (m + 5 * l.length, mkS m l.length) := by
  have h := markSeenS_l0 l [] m (by simpa using hl) h0 (by omega)
  simpa [laws_markSeenS.f] using h
set_option maxHeartbeats 8000000 in
set_option maxRecDepth 100000 in
theorem markWorld_c (x : IW) (p : IP) (ok : Nat → Prop) (w0 w : World) (hB : Below w0.heap.size w0 w) (hm : x.Md p w w0.heap.size ok) (hx : x.Ok) (a1 : Int) (h0 : 0 ≤ a1) (h1 : a1 ≤ 1048576) :
    Calls Try.prog 18 #[.agg (x.cells p), .int .i64 a1] w fun e w' => ∃ n : Int, e = .returned (.int .i64 n) ∧ 0 ≤ n ∧ Below w0.heap.size w0 w' ∧ Kept w w' ok := by
  have hu := Try.underlying42
  have hun := Try.underlying37
  obtain ⟨o1, o2, o3, ⟨o4, o4p⟩, o5, o6, o11⟩ := hx
  have T1 := Aside0.mk (show Kd.R k133 133 w w0.heap.size (fun k => some k = (.slice p.A1 x.l1.length p.c1 : Value).ownBlock) (.slice p.A1 x.l1.length p.c1) x.l1 from Kd.R_mono (Kd.R_tight rfl hm.m1) (fun k hk => by simpa using hk))
  have T2 := Aside0.mk (show Kd.R (Kd.int .i64) 3 w w0.heap.size (fun k => some k = (.slice p.A2 x.l2.length p.c2 : Value).ownBlock) (.slice p.A2 x.l2.length p.c2) x.l2 from Kd.R_mono (Kd.R_tight rfl hm.m2) (fun k hk => by simpa using hk))
  have T3 := Aside0.mk (show Kd.R (Kd.int .i64) 3 w w0.heap.size (fun k => some k = (.slice p.A3 x.l3.length p.c3 : Value).ownBlock) (.slice p.A3 x.l3.length p.c3) x.l3 from Kd.R_mono (Kd.R_tight rfl hm.m3) (fun k hk => by simpa using hk))
  have T4 := Aside0.mk (show Kd.S k103 103 w w0.heap.size (fun k => (ok k ∧ some k ≠ (.slice p.A2 x.l2.length p.c2 : Value).ownBlock ∧ some k ≠ (.slice p.A3 x.l3.length p.c3 : Value).ownBlock ∧ some k ≠ (.slice p.A5 x.l5.length p.c5 : Value).ownBlock ∧ some k ≠ (.slice p.A6 x.l6.length p.c6 : Value).ownBlock) ∧ some k ≠ (.slice p.A1 x.l1.length p.c1 : Value).ownBlock ∧ some k ≠ (.slice p.A11 x.l11.length p.c11 : Value).ownBlock ∧ k < w.heap.size) (.slice p.A4 x.l4.length p.c4) x.l4 from Kd.S_mono (Kd.S_bound (S_apart_ hm.m11 (S_apart_ hm.m1 hm.m4 (by decide)) (by decide))) (fun k hk => ⟨hk.1.1.1, hk.1.1.2, hk.1.2, hk.2.2.1⟩))
  have T5 := Aside0.mk (show Kd.R (Kd.int .i64) 3 w w0.heap.size (fun k => some k = (.slice p.A5 x.l5.length p.c5 : Value).ownBlock) (.slice p.A5 x.l5.length p.c5) x.l5 from Kd.R_mono (Kd.R_tight rfl hm.m5) (fun k hk => by simpa using hk))
  have T6 := Aside0.mk (show Kd.R (Kd.int .i64) 3 w w0.heap.size (fun k => some k = (.slice p.A6 x.l6.length p.c6 : Value).ownBlock) (.slice p.A6 x.l6.length p.c6) x.l6 from Kd.R_mono (Kd.R_tight rfl hm.m6) (fun k hk => by simpa using hk))
  have T11 := Aside0.mk (show Kd.R k62 62 w w0.heap.size (fun k => some k = (.slice p.A11 x.l11.length p.c11 : Value).ownBlock) (.slice p.A11 x.l11.length p.c11) x.l11 from Kd.R_mono (Kd.R_tight rfl hm.m11) (fun k hk => by simpa using hk))
  have D1_2 := Aside0.mk (show ∀ k, (fun k => some k = (.slice p.A2 x.l2.length p.c2 : Value).ownBlock) k → ¬ (fun k => some k = (.slice p.A1 x.l1.length p.c1 : Value).ownBlock) k from fun k h1 h2 => R_apart_ hm.m1 hm.m2 (by decide) k h2 h1)
  have D1_3 := Aside0.mk (show ∀ k, (fun k => some k = (.slice p.A3 x.l3.length p.c3 : Value).ownBlock) k → ¬ (fun k => some k = (.slice p.A1 x.l1.length p.c1 : Value).ownBlock) k from fun k h1 h2 => R_apart_ hm.m1 hm.m3 (by decide) k h2 h1)
  have D1_4 := Aside0.mk (show ∀ k, (fun k => (ok k ∧ some k ≠ (.slice p.A2 x.l2.length p.c2 : Value).ownBlock ∧ some k ≠ (.slice p.A3 x.l3.length p.c3 : Value).ownBlock ∧ some k ≠ (.slice p.A5 x.l5.length p.c5 : Value).ownBlock ∧ some k ≠ (.slice p.A6 x.l6.length p.c6 : Value).ownBlock) ∧ some k ≠ (.slice p.A1 x.l1.length p.c1 : Value).ownBlock ∧ some k ≠ (.slice p.A11 x.l11.length p.c11 : Value).ownBlock ∧ k < w.heap.size) k → ¬ (fun k => some k = (.slice p.A1 x.l1.length p.c1 : Value).ownBlock) k from fun k hk he => hk.2.1 he)
  have D1_5 := Aside0.mk (show ∀ k, (fun k => some k = (.slice p.A5 x.l5.length p.c5 : Value).ownBlock) k → ¬ (fun k => some k = (.slice p.A1 x.l1.length p.c1 : Value).ownBlock) k from fun k h1 h2 => R_apart_ hm.m1 hm.m5 (by decide) k h2 h1)
  have D1_6 := Aside0.mk (show ∀ k, (fun k => some k = (.slice p.A6 x.l6.length p.c6 : Value).ownBlock) k → ¬ (fun k => some k = (.slice p.A1 x.l1.length p.c1 : Value).ownBlock) k from fun k h1 h2 => R_apart_ hm.m1 hm.m6 (by decide) k h2 h1)
  have D1_11 := Aside0.mk (show ∀ k, (fun k => some k = (.slice p.A11 x.l11.length p.c11 : Value).ownBlock) k → ¬ (fun k => some k = (.slice p.A1 x.l1.length p.c1 : Value).ownBlock) k from fun k h1 h2 => R_apart_ hm.m1 hm.m11 (by decide) k h2 h1)
  have D2_3 := Aside0.mk (show ∀ k, (fun k => some k = (.slice p.A3 x.l3.length p.c3 : Value).ownBlock) k → ¬ (fun k => some k = (.slice p.A2 x.l2.length p.c2 : Value).ownBlock) k from fun k h1 h2 => (hm.m3.1 k h1.symm).2.1 h2)
  have D2_4 := Aside0.mk (show ∀ k, (fun k => (ok k ∧ some k ≠ (.slice p.A2 x.l2.length p.c2 : Value).ownBlock ∧ some k ≠ (.slice p.A3 x.l3.length p.c3 : Value).ownBlock ∧ some k ≠ (.slice p.A5 x.l5.length p.c5 : Value).ownBlock ∧ some k ≠ (.slice p.A6 x.l6.length p.c6 : Value).ownBlock) ∧ some k ≠ (.slice p.A1 x.l1.length p.c1 : Value).ownBlock ∧ some k ≠ (.slice p.A11 x.l11.length p.c11 : Value).ownBlock ∧ k < w.heap.size) k → ¬ (fun k => some k = (.slice p.A2 x.l2.length p.c2 : Value).ownBlock) k from fun k hk he => hk.1.2.1 he)
  have D2_5 := Aside0.mk (show ∀ k, (fun k => some k = (.slice p.A5 x.l5.length p.c5 : Value).ownBlock) k → ¬ (fun k => some k = (.slice p.A2 x.l2.length p.c2 : Value).ownBlock) k from fun k h1 h2 => (hm.m5.1 k h1.symm).2.1 h2)
  have D2_6 := Aside0.mk (show ∀ k, (fun k => some k = (.slice p.A6 x.l6.length p.c6 : Value).ownBlock) k → ¬ (fun k => some k = (.slice p.A2 x.l2.length p.c2 : Value).ownBlock) k from fun k h1 h2 => (hm.m6.1 k h1.symm).2.1 h2)
  have D2_11 := Aside0.mk (show ∀ k, (fun k => some k = (.slice p.A11 x.l11.length p.c11 : Value).ownBlock) k → ¬ (fun k => some k = (.slice p.A2 x.l2.length p.c2 : Value).ownBlock) k from fun k h1 h2 => R_apart_ hm.m2 hm.m11 (by decide) k h2 h1)
  have D3_4 := Aside0.mk (show ∀ k, (fun k => (ok k ∧ some k ≠ (.slice p.A2 x.l2.length p.c2 : Value).ownBlock ∧ some k ≠ (.slice p.A3 x.l3.length p.c3 : Value).ownBlock ∧ some k ≠ (.slice p.A5 x.l5.length p.c5 : Value).ownBlock ∧ some k ≠ (.slice p.A6 x.l6.length p.c6 : Value).ownBlock) ∧ some k ≠ (.slice p.A1 x.l1.length p.c1 : Value).ownBlock ∧ some k ≠ (.slice p.A11 x.l11.length p.c11 : Value).ownBlock ∧ k < w.heap.size) k → ¬ (fun k => some k = (.slice p.A3 x.l3.length p.c3 : Value).ownBlock) k from fun k hk he => hk.1.2.2.1 he)
  have D3_5 := Aside0.mk (show ∀ k, (fun k => some k = (.slice p.A5 x.l5.length p.c5 : Value).ownBlock) k → ¬ (fun k => some k = (.slice p.A3 x.l3.length p.c3 : Value).ownBlock) k from fun k h1 h2 => (hm.m5.1 k h1.symm).2.2.1 h2)
  have D3_6 := Aside0.mk (show ∀ k, (fun k => some k = (.slice p.A6 x.l6.length p.c6 : Value).ownBlock) k → ¬ (fun k => some k = (.slice p.A3 x.l3.length p.c3 : Value).ownBlock) k from fun k h1 h2 => (hm.m6.1 k h1.symm).2.2.1 h2)
  have D3_11 := Aside0.mk (show ∀ k, (fun k => some k = (.slice p.A11 x.l11.length p.c11 : Value).ownBlock) k → ¬ (fun k => some k = (.slice p.A3 x.l3.length p.c3 : Value).ownBlock) k from fun k h1 h2 => R_apart_ hm.m3 hm.m11 (by decide) k h2 h1)
  have D4_5 := Aside0.mk (show ∀ k, (fun k => some k = (.slice p.A5 x.l5.length p.c5 : Value).ownBlock) k → ¬ (fun k => (ok k ∧ some k ≠ (.slice p.A2 x.l2.length p.c2 : Value).ownBlock ∧ some k ≠ (.slice p.A3 x.l3.length p.c3 : Value).ownBlock ∧ some k ≠ (.slice p.A5 x.l5.length p.c5 : Value).ownBlock ∧ some k ≠ (.slice p.A6 x.l6.length p.c6 : Value).ownBlock) ∧ some k ≠ (.slice p.A1 x.l1.length p.c1 : Value).ownBlock ∧ some k ≠ (.slice p.A11 x.l11.length p.c11 : Value).ownBlock ∧ k < w.heap.size) k from fun k he hk => hk.1.2.2.2.1 he)
  have D4_6 := Aside0.mk (show ∀ k, (fun k => some k = (.slice p.A6 x.l6.length p.c6 : Value).ownBlock) k → ¬ (fun k => (ok k ∧ some k ≠ (.slice p.A2 x.l2.length p.c2 : Value).ownBlock ∧ some k ≠ (.slice p.A3 x.l3.length p.c3 : Value).ownBlock ∧ some k ≠ (.slice p.A5 x.l5.length p.c5 : Value).ownBlock ∧ some k ≠ (.slice p.A6 x.l6.length p.c6 : Value).ownBlock) ∧ some k ≠ (.slice p.A1 x.l1.length p.c1 : Value).ownBlock ∧ some k ≠ (.slice p.A11 x.l11.length p.c11 : Value).ownBlock ∧ k < w.heap.size) k from fun k he hk => hk.1.2.2.2.2 he)
  have D4_11 := Aside0.mk (show ∀ k, (fun k => some k = (.slice p.A11 x.l11.length p.c11 : Value).ownBlock) k → ¬ (fun k => (ok k ∧ some k ≠ (.slice p.A2 x.l2.length p.c2 : Value).ownBlock ∧ some k ≠ (.slice p.A3 x.l3.length p.c3 : Value).ownBlock ∧ some k ≠ (.slice p.A5 x.l5.length p.c5 : Value).ownBlock ∧ some k ≠ (.slice p.A6 x.l6.length p.c6 : Value).ownBlock) ∧ some k ≠ (.slice p.A1 x.l1.length p.c1 : Value).ownBlock ∧ some k ≠ (.slice p.A11 x.l11.length p.c11 : Value).ownBlock ∧ k < w.heap.size) k from fun k he hk => hk.2.2.1 he)
  have D5_6 := Aside0.mk (show ∀ k, (fun k => some k = (.slice p.A6 x.l6.length p.c6 : Value).ownBlock) k → ¬ (fun k => some k = (.slice p.A5 x.l5.length p.c5 : Value).ownBlock) k from fun k h1 h2 => (hm.m6.1 k h1.symm).2.2.2 h2)
  have D5_11 := Aside0.mk (show ∀ k, (fun k => some k = (.slice p.A11 x.l11.length p.c11 : Value).ownBlock) k → ¬ (fun k => some k = (.slice p.A5 x.l5.length p.c5 : Value).ownBlock) k from fun k h1 h2 => R_apart_ hm.m5 hm.m11 (by decide) k h2 h1)
  have D6_11 := Aside0.mk (show ∀ k, (fun k => some k = (.slice p.A11 x.l11.length p.c11 : Value).ownBlock) k → ¬ (fun k => some k = (.slice p.A6 x.l6.length p.c6 : Value).ownBlock) k from fun k h1 h2 => R_apart_ hm.m6 hm.m11 (by decide) k h2 h1)
  have X1 := Aside0.mk (show ∀ k, (fun k => some k = (.slice p.A1 x.l1.length p.c1 : Value).ownBlock) k → k < w.heap.size from fun k h => Kd.R_lt hm.m1 k h.symm)
  have X2 := Aside0.mk (show ∀ k, (fun k => some k = (.slice p.A2 x.l2.length p.c2 : Value).ownBlock) k → k < w.heap.size from fun k h => Kd.R_lt hm.m2 k h.symm)
  have X3 := Aside0.mk (show ∀ k, (fun k => some k = (.slice p.A3 x.l3.length p.c3 : Value).ownBlock) k → k < w.heap.size from fun k h => Kd.R_lt hm.m3 k h.symm)
  have X4 := Aside0.mk (show ∀ k, (fun k => (ok k ∧ some k ≠ (.slice p.A2 x.l2.length p.c2 : Value).ownBlock ∧ some k ≠ (.slice p.A3 x.l3.length p.c3 : Value).ownBlock ∧ some k ≠ (.slice p.A5 x.l5.length p.c5 : Value).ownBlock ∧ some k ≠ (.slice p.A6 x.l6.length p.c6 : Value).ownBlock) ∧ some k ≠ (.slice p.A1 x.l1.length p.c1 : Value).ownBlock ∧ some k ≠ (.slice p.A11 x.l11.length p.c11 : Value).ownBlock ∧ k < w.heap.size) k → k < w.heap.size from fun k h => h.2.2.2)
  have X5 := Aside0.mk (show ∀ k, (fun k => some k = (.slice p.A5 x.l5.length p.c5 : Value).ownBlock) k → k < w.heap.size from fun k h => Kd.R_lt hm.m5 k h.symm)
  have X6 := Aside0.mk (show ∀ k, (fun k => some k = (.slice p.A6 x.l6.length p.c6 : Value).ownBlock) k → k < w.heap.size from fun k h => Kd.R_lt hm.m6 k h.symm)
  have X11 := Aside0.mk (show ∀ k, (fun k => some k = (.slice p.A11 x.l11.length p.c11 : Value).ownBlock) k → k < w.heap.size from fun k h => Kd.R_lt hm.m11 k h.symm)
  have Y1 := Aside0.mk (show ∀ k, (fun k => some k = (.slice p.A1 x.l1.length p.c1 : Value).ownBlock) k → ok k from fun k h => hm.m1.1 k h.symm)
  have Y2 := Aside0.mk (show ∀ k, (fun k => some k = (.slice p.A2 x.l2.length p.c2 : Value).ownBlock) k → ok k from fun k h => (hm.m2.1 k h.symm).1)
  have Y3 := Aside0.mk (show ∀ k, (fun k => some k = (.slice p.A3 x.l3.length p.c3 : Value).ownBlock) k → ok k from fun k h => (hm.m3.1 k h.symm).1)
  have Y4 := Aside0.mk (show ∀ k, (fun k => (ok k ∧ some k ≠ (.slice p.A2 x.l2.length p.c2 : Value).ownBlock ∧ some k ≠ (.slice p.A3 x.l3.length p.c3 : Value).ownBlock ∧ some k ≠ (.slice p.A5 x.l5.length p.c5 : Value).ownBlock ∧ some k ≠ (.slice p.A6 x.l6.length p.c6 : Value).ownBlock) ∧ some k ≠ (.slice p.A1 x.l1.length p.c1 : Value).ownBlock ∧ some k ≠ (.slice p.A11 x.l11.length p.c11 : Value).ownBlock ∧ k < w.heap.size) k → ok k from fun k h => h.1.1)
  have Y5 := Aside0.mk (show ∀ k, (fun k => some k = (.slice p.A5 x.l5.length p.c5 : Value).ownBlock) k → ok k from fun k h => (hm.m5.1 k h.symm).1)
  have Y6 := Aside0.mk (show ∀ k, (fun k => some k = (.slice p.A6 x.l6.length p.c6 : Value).ownBlock) k → ok k from fun k h => (hm.m6.1 k h.symm).1)
  have Y11 := Aside0.mk (show ∀ k, (fun k => some k = (.slice p.A11 x.l11.length p.c11 : Value).ownBlock) k → ok k from fun k h => hm.m11.1 k h.symm)
  have HB := Aside0.mk hB; have H0 := Aside0.mk h0; have H1 := Aside0.mk h1; clear hm hB h0 h1
  have O1 := Aside0.mk o1; clear o1
  have O2 := Aside0.mk o2; clear o2
  have O3 := Aside0.mk o3; clear o3
  have O4 := Aside0.mk o4; clear o4
  have O5 := Aside0.mk o5; clear o5
  have O6 := Aside0.mk o6; clear o6
  have O11 := Aside0.mk o11; clear o11
  have O4P := Aside0.mk o4p; clear o4p
  go_enter Try.func18, Try.ntmps18
  go_wp2_with fail
  refine calls_gen (fun W' => Below w.heap.size w W' ∧ W'.heap[w.heap.size]? = some (.cells (x.cells p) 42 (0, 0))) ⟨?gb, ?gx⟩ ?_
  case gb => exact (by repeat (first | (with_reducible exact Below.refl _ _) | refine below_set ?_ (Nat.le_refl _) | apply below_alloc | apply pw_below_drewN | exact Below.refl _ _))
  case gx => (repeat (refine blk_drewN ?_ _)); exact blk_new _ _
  rintro W1 ⟨hbw, hgx⟩
  have HS := Aside0.mk hbw.size; have BX := Aside0.mk hgx; clear hgx
  have HK := Aside0.mk (Kept.of_below hbw ok)
  have HB2 := Aside0.mk (below_step HB.out hbw); clear HB; have HB := HB2; clear HB2
  have U1 := Aside0.mk (Kd.R_step T1.out (fun k _ hl => hbw.block k hl)); clear T1; have T1 := U1; clear U1
  have U2 := Aside0.mk (Kd.R_step T2.out (fun k _ hl => hbw.block k hl)); clear T2; have T2 := U2; clear U2
  have U3 := Aside0.mk (Kd.R_step T3.out (fun k _ hl => hbw.block k hl)); clear T3; have T3 := U3; clear U3
  have U4 := Aside0.mk (Kd.S_step T4.out (fun k _ hl => hbw.block k hl)); clear T4; have T4 := U4; clear U4
  have U5 := Aside0.mk (Kd.R_step T5.out (fun k _ hl => hbw.block k hl)); clear T5; have T5 := U5; clear U5
  have U6 := Aside0.mk (Kd.R_step T6.out (fun k _ hl => hbw.block k hl)); clear T6; have T6 := U6; clear U6
  have U11 := Aside0.mk (Kd.R_step T11.out (fun k _ hl => hbw.block k hl)); clear T11; have T11 := U11; clear U11
  clear hbw
  obtain ⟨k1, hk1⟩ := (markNet_ev x.d0 x.l1 a1 O1.out H0.out (by have := H1.out; omega)).rounds
  have K1 := Aside0.mk hk1; clear hk1
  go_at_call 56; (refine (laws_markNet.calls k1 x.d0 _ _ x.l1 _ _ _ w0 W1 HB.out T1.out K1.out).mono ?_); rintro e w1 ⟨rfl, _, hB', hK'⟩
  have BX2 := Aside0.mk ((hK'.2 w.heap.size (blk_lt BX.out) (fun h => by have := X1.out _ h; omega)).trans BX.out); clear BX; have BX := BX2; clear BX2
  have U2 := Aside0.mk (Kd.R_kept T2.out hK' (D1_2.out)); clear T2; have T2 := U2; clear U2
  have U3 := Aside0.mk (Kd.R_kept T3.out hK' (D1_3.out)); clear T3; have T3 := U3; clear U3
  have U4 := Aside0.mk (Kd.S_kept T4.out hK' (D1_4.out)); clear T4; have T4 := U4; clear U4
  have U5 := Aside0.mk (Kd.R_kept T5.out hK' (D1_5.out)); clear T5; have T5 := U5; clear U5
  have U6 := Aside0.mk (Kd.R_kept T6.out hK' (D1_6.out)); clear T6; have T6 := U6; clear U6
  have U11 := Aside0.mk (Kd.R_kept T11.out hK' (D1_11.out)); clear T11; have T11 := U11; clear U11
  have HK2 := Aside0.mk (Kept.then_ HK.out hK' (fun k hk => .inl (Y1.out k hk))); clear HK; have HK := HK2; clear HK2
  have HS2 := Aside0.mk (Nat.le_trans HS.out hK'.1); clear HS; have HS := HS2; clear HS2
  have HB2 := Aside0.mk hB'; clear HB; have HB := HB2; clear HB2 hB' hK'
  obtain ⟨x0, x1, x2, x3, x4, x5, x6, x7, x8, x9, x10, x11, x12⟩ := IW.at_ BX.out
  go_wp2_with fail
  refine calls_gen (fun W' => Below w1.heap.size w1 W') ?gb ?_
  case gb => exact (by repeat (first | (with_reducible exact Below.refl _ _) | refine below_set ?_ (Nat.le_refl _) | apply below_alloc | apply pw_below_drewN | exact Below.refl _ _))
  rintro W2 hbw
  clear x0 x1 x2 x3 x4 x5 x6 x7 x8 x9 x10 x11 x12
  have HS2 := Aside0.mk (Nat.le_trans HS.out hbw.size); clear HS; have HS := HS2; clear HS2; have BX2 := Aside0.mk (blk_below BX.out hbw); clear BX; have BX := BX2; clear BX2
  have HK2 := Aside0.mk (Kept.below HK.out hbw); clear HK; have HK := HK2; clear HK2
  have HB2 := Aside0.mk (below_step HB.out hbw); clear HB; have HB := HB2; clear HB2
  have U2 := Aside0.mk (Kd.R_step T2.out (fun k _ hl => hbw.block k hl)); clear T2; have T2 := U2; clear U2
  have U3 := Aside0.mk (Kd.R_step T3.out (fun k _ hl => hbw.block k hl)); clear T3; have T3 := U3; clear U3
  have U4 := Aside0.mk (Kd.S_step T4.out (fun k _ hl => hbw.block k hl)); clear T4; have T4 := U4; clear U4
  have U5 := Aside0.mk (Kd.R_step T5.out (fun k _ hl => hbw.block k hl)); clear T5; have T5 := U5; clear U5
  have U6 := Aside0.mk (Kd.R_step T6.out (fun k _ hl => hbw.block k hl)); clear T6; have T6 := U6; clear U6
  have U11 := Aside0.mk (Kd.R_step T11.out (fun k _ hl => hbw.block k hl)); clear T11; have T11 := U11; clear U11
  clear hbw
  obtain ⟨k2, hk2⟩ := (markIntS_ev2 x.l2 (a1 + 2 * x.l1.length) O2.out (by have := H0.out; have := H1.out; have := O1.out; omega) (by have := H0.out; have := H1.out; have := O1.out; omega)).rounds
  have K2 := Aside0.mk hk2; clear hk2
  go_at_call 24; (refine (laws_markIntS.calls k2 _ _ x.l2 _ _ _ w0 W2 HB.out T2.out K2.out).mono ?_); rintro e w2 ⟨rfl, _, hB', hK'⟩
  have BX2 := Aside0.mk ((hK'.2 w.heap.size (blk_lt BX.out) (fun h => by have := X2.out _ h; omega)).trans BX.out); clear BX; have BX := BX2; clear BX2
  have U3 := Aside0.mk (Kd.R_kept T3.out hK' (D2_3.out)); clear T3; have T3 := U3; clear U3
  have U4 := Aside0.mk (Kd.S_kept T4.out hK' (D2_4.out)); clear T4; have T4 := U4; clear U4
  have U5 := Aside0.mk (Kd.R_kept T5.out hK' (D2_5.out)); clear T5; have T5 := U5; clear U5
  have U6 := Aside0.mk (Kd.R_kept T6.out hK' (D2_6.out)); clear T6; have T6 := U6; clear U6
  have U11 := Aside0.mk (Kd.R_kept T11.out hK' (D2_11.out)); clear T11; have T11 := U11; clear U11
  have HK2 := Aside0.mk (Kept.then_ HK.out hK' (fun k hk => .inl (Y2.out k hk))); clear HK; have HK := HK2; clear HK2
  have HS2 := Aside0.mk (Nat.le_trans HS.out hK'.1); clear HS; have HS := HS2; clear HS2
  have HB2 := Aside0.mk hB'; clear HB; have HB := HB2; clear HB2 hB' hK'
  obtain ⟨x0, x1, x2, x3, x4, x5, x6, x7, x8, x9, x10, x11, x12⟩ := IW.at_ BX.out
  go_wp2_with fail
  refine calls_gen (fun W' => Below w2.heap.size w2 W') ?gb ?_
  case gb => exact (by repeat (first | (with_reducible exact Below.refl _ _) | refine below_set ?_ (Nat.le_refl _) | apply below_alloc | apply pw_below_drewN | exact Below.refl _ _))
  rintro W3 hbw
  clear x0 x1 x2 x3 x4 x5 x6 x7 x8 x9 x10 x11 x12
  have HS2 := Aside0.mk (Nat.le_trans HS.out hbw.size); clear HS; have HS := HS2; clear HS2; have BX2 := Aside0.mk (blk_below BX.out hbw); clear BX; have BX := BX2; clear BX2
  have HK2 := Aside0.mk (Kept.below HK.out hbw); clear HK; have HK := HK2; clear HK2
  have HB2 := Aside0.mk (below_step HB.out hbw); clear HB; have HB := HB2; clear HB2
  have U3 := Aside0.mk (Kd.R_step T3.out (fun k _ hl => hbw.block k hl)); clear T3; have T3 := U3; clear U3
  have U4 := Aside0.mk (Kd.S_step T4.out (fun k _ hl => hbw.block k hl)); clear T4; have T4 := U4; clear U4
  have U5 := Aside0.mk (Kd.R_step T5.out (fun k _ hl => hbw.block k hl)); clear T5; have T5 := U5; clear U5
  have U6 := Aside0.mk (Kd.R_step T6.out (fun k _ hl => hbw.block k hl)); clear T6; have T6 := U6; clear U6
  have U11 := Aside0.mk (Kd.R_step T11.out (fun k _ hl => hbw.block k hl)); clear T11; have T11 := U11; clear U11
  clear hbw
  obtain ⟨k3, hk3⟩ := (markIntS_ev2 x.l3 (a1 + 2 * x.l1.length +  x.l2.length) O3.out (by have := H0.out; have := H1.out; have := O1.out; have := O2.out; omega) (by have := H0.out; have := H1.out; have := O1.out; have := O2.out; omega)).rounds
  have K3 := Aside0.mk hk3; clear hk3
  go_at_call 24; (refine (laws_markIntS.calls k3 _ _ x.l3 _ _ _ w0 W3 HB.out T3.out K3.out).mono ?_); rintro e w3 ⟨rfl, _, hB', hK'⟩
  have BX2 := Aside0.mk ((hK'.2 w.heap.size (blk_lt BX.out) (fun h => by have := X3.out _ h; omega)).trans BX.out); clear BX; have BX := BX2; clear BX2
  have U4 := Aside0.mk (Kd.S_kept T4.out hK' (D3_4.out)); clear T4; have T4 := U4; clear U4
  have U5 := Aside0.mk (Kd.R_kept T5.out hK' (D3_5.out)); clear T5; have T5 := U5; clear U5
  have U6 := Aside0.mk (Kd.R_kept T6.out hK' (D3_6.out)); clear T6; have T6 := U6; clear U6
  have U11 := Aside0.mk (Kd.R_kept T11.out hK' (D3_11.out)); clear T11; have T11 := U11; clear U11
  have HK2 := Aside0.mk (Kept.then_ HK.out hK' (fun k hk => .inl (Y3.out k hk))); clear HK; have HK := HK2; clear HK2
  have HS2 := Aside0.mk (Nat.le_trans HS.out hK'.1); clear HS; have HS := HS2; clear HS2
  have HB2 := Aside0.mk hB'; clear HB; have HB := HB2; clear HB2 hB' hK'
  obtain ⟨x0, x1, x2, x3, x4, x5, x6, x7, x8, x9, x10, x11, x12⟩ := IW.at_ BX.out
  go_wp2_with fail
  refine calls_gen (fun W' => Below w3.heap.size w3 W') ?gb ?_
  case gb => exact (by repeat (first | (with_reducible exact Below.refl _ _) | refine below_set ?_ (Nat.le_refl _) | apply below_alloc | apply pw_below_drewN | exact Below.refl _ _))
  rintro W4 hbw
  clear x0 x1 x2 x3 x4 x5 x6 x7 x8 x9 x10 x11 x12
  have HS2 := Aside0.mk (Nat.le_trans HS.out hbw.size); clear HS; have HS := HS2; clear HS2; have BX2 := Aside0.mk (blk_below BX.out hbw); clear BX; have BX := BX2; clear BX2
  have HK2 := Aside0.mk (Kept.below HK.out hbw); clear HK; have HK := HK2; clear HK2
  have HB2 := Aside0.mk (below_step HB.out hbw); clear HB; have HB := HB2; clear HB2
  have U4 := Aside0.mk (Kd.S_step T4.out (fun k _ hl => hbw.block k hl)); clear T4; have T4 := U4; clear U4
  have U5 := Aside0.mk (Kd.R_step T5.out (fun k _ hl => hbw.block k hl)); clear T5; have T5 := U5; clear U5
  have U6 := Aside0.mk (Kd.R_step T6.out (fun k _ hl => hbw.block k hl)); clear T6; have T6 := U6; clear U6
  have U11 := Aside0.mk (Kd.R_step T11.out (fun k _ hl => hbw.block k hl)); clear T11; have T11 := U11; clear U11
  clear hbw
  go_at_call 75; (refine (markProbeS_c _ _ x.l4 (a1 + 2 * x.l1.length +  x.l2.length +  x.l3.length) w0 W4 HB.out T4.out O4.out O4P.out (by have := H0.out; omega) (by have := H1.out; have := O1.out; have := O2.out; have := O3.out; omega)).mono ?_); rintro e w4 ⟨n4, rfl, hn0, hn1, hB', hK'⟩
  have N0 := Aside0.mk hn0; have N1 := Aside0.mk hn1; clear hn0 hn1
  have BX2 := Aside0.mk ((hK'.2 w.heap.size (blk_lt BX.out) (fun h => by have := X4.out _ h; omega)).trans BX.out); clear BX; have BX := BX2; clear BX2
  have U5 := Aside0.mk (Kd.R_kept T5.out hK' (D4_5.out)); clear T5; have T5 := U5; clear U5
  have U6 := Aside0.mk (Kd.R_kept T6.out hK' (D4_6.out)); clear T6; have T6 := U6; clear U6
  have U11 := Aside0.mk (Kd.R_kept T11.out hK' (D4_11.out)); clear T11; have T11 := U11; clear U11
  have HK2 := Aside0.mk (Kept.then_ HK.out hK' (fun k hk => .inl (Y4.out k hk))); clear HK; have HK := HK2; clear HK2
  have HS2 := Aside0.mk (Nat.le_trans HS.out hK'.1); clear HS; have HS := HS2; clear HS2
  have HB2 := Aside0.mk hB'; clear HB; have HB := HB2; clear HB2 hB' hK'
  obtain ⟨x0, x1, x2, x3, x4, x5, x6, x7, x8, x9, x10, x11, x12⟩ := IW.at_ BX.out
  go_wp2_with fail
  refine calls_gen (fun W' => Below w4.heap.size w4 W') ?gb ?_
  case gb => exact (by repeat (first | (with_reducible exact Below.refl _ _) | refine below_set ?_ (Nat.le_refl _) | apply below_alloc | apply pw_below_drewN | exact Below.refl _ _))
  rintro W5 hbw
  clear x0 x1 x2 x3 x4 x5 x6 x7 x8 x9 x10 x11 x12
  have HS2 := Aside0.mk (Nat.le_trans HS.out hbw.size); clear HS; have HS := HS2; clear HS2; have BX2 := Aside0.mk (blk_below BX.out hbw); clear BX; have BX := BX2; clear BX2
  have HK2 := Aside0.mk (Kept.below HK.out hbw); clear HK; have HK := HK2; clear HK2
  have HB2 := Aside0.mk (below_step HB.out hbw); clear HB; have HB := HB2; clear HB2
  have U5 := Aside0.mk (Kd.R_step T5.out (fun k _ hl => hbw.block k hl)); clear T5; have T5 := U5; clear U5
  have U6 := Aside0.mk (Kd.R_step T6.out (fun k _ hl => hbw.block k hl)); clear T6; have T6 := U6; clear U6
  have U11 := Aside0.mk (Kd.R_step T11.out (fun k _ hl => hbw.block k hl)); clear T11; have T11 := U11; clear U11
  clear hbw
  obtain ⟨k5, hk5⟩ := (markIntS_ev2 x.l5 (n4) O5.out (by have := H0.out; have := H1.out; have := O1.out; have := O2.out; have := O3.out; have := O4.out; have := N0.out; have := N1.out; omega) (by have := H0.out; have := H1.out; have := O1.out; have := O2.out; have := O3.out; have := O4.out; have := N0.out; have := N1.out; omega)).rounds
  have K5 := Aside0.mk hk5; clear hk5
  go_at_call 24; (refine (laws_markIntS.calls k5 _ _ x.l5 _ _ _ w0 W5 HB.out T5.out K5.out).mono ?_); rintro e w5 ⟨rfl, _, hB', hK'⟩
  have BX2 := Aside0.mk ((hK'.2 w.heap.size (blk_lt BX.out) (fun h => by have := X5.out _ h; omega)).trans BX.out); clear BX; have BX := BX2; clear BX2
  have U6 := Aside0.mk (Kd.R_kept T6.out hK' (D5_6.out)); clear T6; have T6 := U6; clear U6
  have U11 := Aside0.mk (Kd.R_kept T11.out hK' (D5_11.out)); clear T11; have T11 := U11; clear U11
  have HK2 := Aside0.mk (Kept.then_ HK.out hK' (fun k hk => .inl (Y5.out k hk))); clear HK; have HK := HK2; clear HK2
  have HS2 := Aside0.mk (Nat.le_trans HS.out hK'.1); clear HS; have HS := HS2; clear HS2
  have HB2 := Aside0.mk hB'; clear HB; have HB := HB2; clear HB2 hB' hK'
  obtain ⟨x0, x1, x2, x3, x4, x5, x6, x7, x8, x9, x10, x11, x12⟩ := IW.at_ BX.out
  go_wp2_with fail
  refine calls_gen (fun W' => Below w5.heap.size w5 W') ?gb ?_
  case gb => exact (by repeat (first | (with_reducible exact Below.refl _ _) | refine below_set ?_ (Nat.le_refl _) | apply below_alloc | apply pw_below_drewN | exact Below.refl _ _))
  rintro W6 hbw
  clear x0 x1 x2 x3 x4 x5 x6 x7 x8 x9 x10 x11 x12
  have HS2 := Aside0.mk (Nat.le_trans HS.out hbw.size); clear HS; have HS := HS2; clear HS2; have BX2 := Aside0.mk (blk_below BX.out hbw); clear BX; have BX := BX2; clear BX2
  have HK2 := Aside0.mk (Kept.below HK.out hbw); clear HK; have HK := HK2; clear HK2
  have HB2 := Aside0.mk (below_step HB.out hbw); clear HB; have HB := HB2; clear HB2
  have U6 := Aside0.mk (Kd.R_step T6.out (fun k _ hl => hbw.block k hl)); clear T6; have T6 := U6; clear U6
  have U11 := Aside0.mk (Kd.R_step T11.out (fun k _ hl => hbw.block k hl)); clear T11; have T11 := U11; clear U11
  clear hbw
  obtain ⟨k6, hk6⟩ := (markIntS_ev2 x.l6 (n4 +  x.l5.length) O6.out (by have := H0.out; have := H1.out; have := O1.out; have := O2.out; have := O3.out; have := O4.out; have := O5.out; have := N0.out; have := N1.out; omega) (by have := H0.out; have := H1.out; have := O1.out; have := O2.out; have := O3.out; have := O4.out; have := O5.out; have := N0.out; have := N1.out; omega)).rounds
  have K6 := Aside0.mk hk6; clear hk6
  go_at_call 24; (refine (laws_markIntS.calls k6 _ _ x.l6 _ _ _ w0 W6 HB.out T6.out K6.out).mono ?_); rintro e w6 ⟨rfl, _, hB', hK'⟩
  have BX2 := Aside0.mk ((hK'.2 w.heap.size (blk_lt BX.out) (fun h => by have := X6.out _ h; omega)).trans BX.out); clear BX; have BX := BX2; clear BX2
  have U11 := Aside0.mk (Kd.R_kept T11.out hK' (D6_11.out)); clear T11; have T11 := U11; clear U11
  have HK2 := Aside0.mk (Kept.then_ HK.out hK' (fun k hk => .inl (Y6.out k hk))); clear HK; have HK := HK2; clear HK2
  have HS2 := Aside0.mk (Nat.le_trans HS.out hK'.1); clear HS; have HS := HS2; clear HS2
  have HB2 := Aside0.mk hB'; clear HB; have HB := HB2; clear HB2 hB' hK'
  obtain ⟨x0, x1, x2, x3, x4, x5, x6, x7, x8, x9, x10, x11, x12⟩ := IW.at_ BX.out
  go_wp2_with fail
  refine calls_gen (fun W' => Below w6.heap.size w6 W') ?gb ?_
  case gb => exact (by repeat (first | (with_reducible exact Below.refl _ _) | refine below_set ?_ (Nat.le_refl _) | apply below_alloc | apply pw_below_drewN | exact Below.refl _ _))
  rintro W11 hbw
  clear x0 x1 x2 x3 x4 x5 x6 x7 x8 x9 x10 x11 x12
  have HS2 := Aside0.mk (Nat.le_trans HS.out hbw.size); clear HS; have HS := HS2; clear HS2; have BX2 := Aside0.mk (blk_below BX.out hbw); clear BX; have BX := BX2; clear BX2
  have HK2 := Aside0.mk (Kept.below HK.out hbw); clear HK; have HK := HK2; clear HK2
  have HB2 := Aside0.mk (below_step HB.out hbw); clear HB; have HB := HB2; clear HB2
  have U11 := Aside0.mk (Kd.R_step T11.out (fun k _ hl => hbw.block k hl)); clear T11; have T11 := U11; clear U11
  clear hbw
  obtain ⟨k11, hk11⟩ := (markSeenS_ev2 x.l11 (n4 +  x.l5.length +  x.l6.length) O11.out (by have := H0.out; have := H1.out; have := O1.out; have := O2.out; have := O3.out; have := O4.out; have := O5.out; have := O6.out; have := N0.out; have := N1.out; omega) (by have := H0.out; have := H1.out; have := O1.out; have := O2.out; have := O3.out; have := O4.out; have := O5.out; have := O6.out; have := N0.out; have := N1.out; omega)).rounds
  have K11 := Aside0.mk hk11; clear hk11
  go_at_call 76; (refine (laws_markSeenS.calls k11 _ _ x.l11 _ _ _ w0 W11 HB.out T11.out K11.out).mono ?_); rintro e w11 ⟨rfl, _, hB', hK'⟩
  have BX2 := Aside0.mk ((hK'.2 w.heap.size (blk_lt BX.out) (fun h => by have := X11.out _ h; omega)).trans BX.out); clear BX; have BX := BX2; clear BX2
  have HK2 := Aside0.mk (Kept.then_ HK.out hK' (fun k hk => .inl (Y11.out k hk))); clear HK; have HK := HK2; clear HK2
  have HS2 := Aside0.mk (Nat.le_trans HS.out hK'.1); clear HS; have HS := HS2; clear HS2
  have HB2 := Aside0.mk hB'; clear HB; have HB := HB2; clear HB2 hB' hK'
  go_wp2
  go_ret
  exact ⟨_, rfl, by have := H0.out; have := N0.out; omega, by first | exact HB.out | exact below_step HB.out (by repeat (first | (with_reducible exact Below.refl _ _) | refine below_set ?_ (Nat.le_refl _) | apply below_alloc | apply pw_below_drewN | exact Below.refl _ _)), by first | exact HK.out | exact Kept.below HK.out (by repeat (first | (with_reducible exact Below.refl _ _) | refine below_set ?_ (Nat.le_refl _) | apply below_alloc | apply pw_below_drewN | exact Below.refl _ _))⟩
/-! ### intss -/
/-- What is left of a behind the lists' own lengths and the list's length; -1 where it is not enough. -/
def leftR : List (List Int) → Int → Int
  | [], a => a
  | r :: rs, a => if leftI r a < 0 then -1 else leftR rs (leftI r a)
def leftII (l : List (List Int)) (a : Int) : Int := if a - (l.length : Int) < 0 then -1 else leftR l (a - (l.length : Int))
theorem leftR_rows : ∀ (l : List (List Int)) (a : Int), 0 ≤ leftR l a → 0 ≤ a → a ≤ 1048576 → (∀ r ∈ l, r.length ≤ 1048576)
  | [], _, _, _, _ => by simp
  | r :: rs, a, h, h0, h1 => by
    unfold leftR at h
    split at h
    · omega
    · rename_i hx
      have hx' : 0 ≤ leftI r a := by omega
      have hrl : r.length ≤ 1048576 ∧ leftI r a ≤ 1048576 := by
        unfold leftI at hx' ⊢
        split at hx' <;> split <;> omega
      intro q hq
      rcases List.mem_cons.1 hq with rfl | hq
      · exact hrl.1
      · exact leftR_rows rs _ h hx' hrl.2 q hq
/-- Rows that may be examined. -/
def okII (l : List (List Int)) : Prop := l.length ≤ 1048576 ∧ ∀ r ∈ l, r.length ≤ 1048576
theorem leftII_ok {l : List (List Int)} (h : 0 ≤ leftII l 1048576) : okII l := by
  unfold leftII at h
  split at h
  · omega
  · exact ⟨by omega, leftR_rows l _ h (by omega) (by omega)⟩
theorem eqIntSS_l0 : ∀ (suf pre : List (List Int)), (pre ++ suf).length ≤ 1048576 → (∀ r ∈ suf, r.length ≤ 1048576) →
    Ev (fun k => laws_eqIntSS.l0 k (pre ++ suf) (pre ++ suf) (pre.length : Int)) true := by
  intro suf
  induction suf with
  | nil =>
    intro pre hb hq
    refine Ev.step (fun k => by rw [laws_eqIntSS.l0]) ?_
    exact evNeg (by simp) (Ev.now _)
  | cons x suf ih =>
    intro pre hb hq
    simp only [List.length_append, List.length_cons] at hb
    refine Ev.step (fun k => by rw [laws_eqIntSS.l0]) ?_
    refine evPos (by simp only [List.length_append, List.length_cons]; omega) (evPos (by omega) (evPos (by simp only [List.length_append, List.length_cons]; omega) ?_))
    rw [rd_L2, getD_mid]
    refine Ev.bind (eqIntS_ev x (hq x (by simp))) (evPos rfl ?_)
    rw [wsucc (by omega)]
    have h := ih (pre ++ [x]) (by simp; omega) (fun r h => hq r (by simp [h]))
    simpa using h
theorem eqIntSS_ev (l : List (List Int)) (hl : okII l) : Ev (fun k => laws_eqIntSS.f k l l) true := by
  unfold laws_eqIntSS.f
  refine evPos rfl ?_
  have h := eqIntSS_l0 l [] (by simpa using hl.1) hl.2
  simpa using h
/-! ### markintss -/
def totL : List (List Int) → Nat
  | [] => 0
  | r :: rs => r.length + totL rs
def mkII : Int → List (List Int) → List (List Int)
  | _, [] => []
  | a, r :: rs => mkI a r.length :: mkII (a + r.length) rs
theorem mkII_length : ∀ (l : List (List Int)) (a : Int), (mkII a l).length = l.length
  | [], _ => rfl
  | r :: rs, a => by simp [mkII, mkII_length rs]
theorem totL_snoc : ∀ (l : List (List Int)) (x : List Int), totL (l ++ [x]) = totL l + x.length
  | [], x => by simp [totL]
  | r :: rs, x => by simp only [List.cons_append, totL, totL_snoc rs x]; omega
theorem mkII_snoc : ∀ (l : List (List Int)) (x : List Int) (a : Int), mkII a (l ++ [x]) = mkII a l ++ [mkI (a + totL l) x.length]
  | [], x, a => by simp [mkII, totL]
  | r :: rs, x, a => by
    simp only [List.cons_append, mkII, totL, mkII_snoc rs x]
    rw [show a + (r.length : Int) + (totL rs : Int) = a + ((r.length + totL rs : Nat) : Int) by omega]
theorem totL_append : ∀ (l m : List (List Int)), totL (l ++ m) = totL l + totL m
  | [], m => by simp [totL]
  | r :: rs, m => by simp only [List.cons_append, totL, totL_append rs m]; omega
set_option maxHeartbeats 2000000 in
theorem markIntSS_c (P0 : Nat → Prop) (u : Value) (l0 : List (List Int)) (a1 : Int) (w0 w : World) (hB : Below w0.heap.size w0 w) (ho0 : Kd.S (Kd.slice 3 (Kd.int .i64)) 25 w w0.heap.size P0 u l0) (hl : okII l0) (h0 : 0 ≤ a1) (h1 : a1 + totL l0 ≤ 1099511627776) :
    Calls Try.prog 19 #[u, .int .i64 a1] w fun e w' => e = .returned (.int .i64 (a1 + totL l0)) ∧ Kd.S (Kd.slice 3 (Kd.int .i64)) 25 w' w0.heap.size P0 u (mkII a1 l0) ∧ Below w0.heap.size w0 w' ∧ Kept w w' P0 := by
  obtain ⟨A, c, rfl⟩ := Kd.S_slice ho0
  have HB0 := Aside0.mk hB
  have HO0 := Aside0.mk ho0
  have HL := Aside0.mk hl
  clear hB ho0 hl
  have h0' := Aside0.mk h0
  have h1' := Aside0.mk h1
  clear h0 h1
  go_enter Try.func19, Try.ntmps19
  go_wp2
  go_loopg [1, 5] l0.length (fun gg v1 v5 wr => ∃ (pre suf : List (List Int)), gg = suf.length ∧ Aside0 (l0 = pre ++ suf) ∧ v1 = .int .i64 (a1 + totL pre) ∧ v5 = .int .i64 (pre.length : Int) ∧ Aside0 (Kd.S (Kd.slice 3 (Kd.int .i64)) 25 wr w0.heap.size P0 (.slice A l0.length c) (mkII a1 pre ++ suf)) ∧ Aside0 (Below w0.heap.size w0 wr) ∧ Aside0 (Kept w wr P0))
  case atStart => exact ⟨[], l0, rfl, ⟨rfl⟩, by simp [totL], rfl, ⟨by simpa [mkII] using (by (with_reducible repeat (first | apply Kd.S_alloc | apply Kd.S_drewN | apply Kd.S_drew)); exact HO0.out)⟩, ⟨by repeat (first | (with_reducible first | exact HB0.out | apply below_alloc | apply pw_below_drewN | apply below_drew1) | exact HB0.out)⟩, ⟨by repeat (first | exact Kept.refl _ _ | apply Kept.alloc | apply Kept.drewN)⟩⟩
  case round =>
    clear HO0 HB0
    obtain ⟨pre, suf, hgg, HE, rfl, rfl, HO, HB, HK⟩ := hrel
    cases suf with
    | nil =>
      have e0 : l0 = pre := by simpa using HE.out
      subst e0
      go_wp2
      go_ret
      exact ⟨rfl, by have := HO.out; rwa [List.append_nil] at this, HB.out, HK.out⟩
    | cons x suf =>
      have hlen : l0.length = pre.length + (suf.length + 1) := by rw [HE.out]; simp
      have ht : totL l0 = totL pre + (x.length + totL suf) := by rw [HE.out, totL_append]; rfl
      have hx : x.length ≤ 1048576 := HL.out.2 x (by rw [HE.out]; simp)
      have hlt : (pre.length : Int) < (l0.length : Int) := by omega
      obtain ⟨g, cap, e1, gb, gl, cl⟩ := Kd.S_form HO.out (by simp [mkII_length]; omega)
      injection e1 with e1 e2 e3
      subst e1
      subst e3
      have HO1 := HO.out
      obtain ⟨oki, cs, hcl, hM, hcc, hoki, hH⟩ := Kd.S_lend HO1 [] (pre.length : Int) (by omega) (by omega)
      obtain ⟨v, rfl, hR⟩ := hM
      have hcell : wr.cell? ⟨g, pre.length, none⟩ = some v := by have := hcc 0 v rfl; simpa [Kd.slice] using this
      have hxe : (mkII a1 pre ++ x :: suf).getD ((pre.length : Int)).toNat [] = x := getD_mid' _ _ _ _ (mkII_length _ _)
      rw [hxe] at hR
      obtain ⟨k1, hk1⟩ := (markIntS_ev x (a1 + totL pre) hx (by have := h0'.out; omega) (by have := h1'.out; omega)).rounds
      have HK1 := Aside0.mk hk1
      have HR := Aside0.mk hR
      have HH := Aside0.mk hH
      have HOK := Aside0.mk hoki
      have HLEN := Aside0.mk hlen
      have HLL := Aside0.mk (show l0.length ≤ 1048576 from HL.out.1)
      clear hk1 hR hH hoki hcc hxe HO1 hlen ht hx gb gl cl hcl e2
      go_wp2_with (go_at_call 24; (with_reducible refine (laws_markIntS.calls k1 oki v x _ _ _ w0 _ ?s1 ?s2 HK1.out).mono ?_); (case s1 => exact HB.out); (case s2 => exact HR.out); rintro e w' ⟨rfl, hR', hB', hK'⟩)
      go_roundg suf.length
      case measure => rw [hgg]; simp
      case rel =>
        refine ⟨pre ++ [x], suf, rfl, ⟨by rw [HE.out]; simp⟩, ?_, ?_, ⟨?_⟩, ⟨hB'⟩, ⟨Kept.then_ HK.out hK' (fun k hk => .inl (HOK.out k hk).1)⟩⟩
        · rw [totL_snoc]; congr 1; omega
        · rw [List.length_append, wsucc (by have := HLEN.out; have := HLL.out; omega)]; rfl
        · have h2 := Kd.H_back (Kd.H_kept HH.out hK' (fun k _ hn => hn)) (x' := mkI (a1 + totL pre) x.length) ⟨v, rfl, Kd.R_tight rfl hR'⟩ (fun k hk => HR.out.1 k hk.symm)
          rw [mkII_snoc, List.append_assoc]
          have h3 : (mkII a1 pre ++ x :: suf).set ((pre.length : Int)).toNat (mkI (a1 + totL pre) x.length) = mkII a1 pre ++ mkI (a1 + totL pre) x.length :: suf := by
            have := set_mid (mkII a1 pre) suf x (mkI (a1 + totL pre) x.length)
            rwa [mkII_length] at this
          rw [h3] at h2
          exact h2
/-! ### heldintss -/
theorem heldIntSS_l0 : ∀ (suf pre : List (List Int)) (m : Int), (pre ++ suf).length ≤ 1048576 → (∀ r ∈ suf, r.length ≤ 1048576) → 0 ≤ m → m + totL suf ≤ 1099511627776 →
    Ev (fun k => laws_heldIntSS.l0 k (pre ++ mkII m suf) m (pre.length : Int)) (m + totL suf) := by
  intro suf
  induction suf with
  | nil =>
    intro pre m hb hr h0 hm
    refine Ev.step (fun k => by rw [laws_heldIntSS.l0]) ?_
    refine evNeg (by simp [mkII]) (evEq ?_ (Ev.now _))
    simp [totL]
  | cons x suf ih =>
    intro pre m hb hr h0 hm
    simp only [List.length_append, List.length_cons] at hb
    simp only [totL] at hm
    refine Ev.step (fun k => by rw [laws_heldIntSS.l0]) ?_
    refine evPos (by simp only [List.length_append, mkII, List.length_cons, mkII_length]; omega) (evPos (by omega) ?_)
    rw [mkII, rd_L2, getD_mid, wsucc (by omega)]
    refine Ev.bind (heldIntS_ev x.length m (hr x (by simp)) h0 (by omega)) (evNeg (by omega) ?_)
    have h := ih (pre ++ [mkI m x.length]) (m + x.length) (by simp; omega) (fun r h => hr r (by simp [h])) (by omega) (by omega)
    refine evEq ?_ (Ev.congr (fun k => ?_) h)
    · simp only [totL]; omega
    · simp
theorem heldIntSS_ev (l : List (List Int)) (m : Int) (hl : okII l) (h0 : 0 ≤ m) (hm : m + totL l ≤ 1099511627776) : Ev (fun k => laws_heldIntSS.f k (mkII m l) m) (m + totL l) := by
  have h := heldIntSS_l0 l [] m (by simpa using hl.1) hl.2 h0 hm
  simpa [laws_heldIntSS.f] using h
theorem totL_le : ∀ (l : List (List Int)) (n : Nat), (∀ r ∈ l, r.length ≤ n) → totL l ≤ l.length * n
  | [], _, _ => by simp [totL]
  | r :: rs, n, h => by
    have h1 := totL_le rs n (fun q hq => h q (by simp [hq]))
    have h2 := h r (by simp)
    simp only [totL, List.length_cons, Nat.succ_mul]
    omega
theorem totL_leftR : ∀ (l : List (List Int)) (a : Int), 0 ≤ a → 0 ≤ leftR l a → (totL l : Int) ≤ a
  | [], a, h, _ => by simpa [totL] using h
  | r :: rs, a, h, h2 => by
    unfold leftR at h2
    split at h2
    · omega
    · rename_i hx
      have h3 := totL_leftR rs _ (by omega) h2
      have h4 : leftI r a = a - r.length := by unfold leftI at hx ⊢; split <;> omega
      simp only [totL]
      omega
theorem totL_left {l : List (List Int)} (h : 0 ≤ leftII l 1048576) : totL l ≤ 1048576 := by
  unfold leftII at h
  split at h
  · omega
  · have := totL_leftR l _ (by omega) h
    omega
/-! ### inrange -/
theorem impl_InRange_eq (a b c : Int) : impl_InRange.f a b c = some (decide (b ≤ a ∧ a ≤ c)) := by
  unfold impl_InRange.f
  by_cases h : b ≤ a
  · rw [if_pos h]
    simp [h]
  · rw [if_neg h]
    simp [h]
/-! ### small -/
theorem spec_l1In_eq (a b c : Int) : spec_l1In.f a b c = some (decide (b ≤ a ∧ a ≤ c)) := by
  unfold spec_l1In.f
  by_cases h : a ≥ b
  · rw [if_pos h]
    simp [show b ≤ a from h]
  · rw [if_neg h]
    have : ¬ b ≤ a := h
    simp [this]
/-! ### has -/
def hasB (l : List Int) (v : Int) : Bool := l.any fun x => decide (x = v)
theorem spec_l7Has_l0 (v : Int) : ∀ (suf pre : List Int), (pre ++ suf).length ≤ 1048576 → Ev (fun k => spec_l7Has.l0 k (pre ++ suf) v (pre.length : Int)) (hasB suf v) := by
  intro suf
  induction suf with
  | nil =>
    intro pre hb
    refine Ev.step (fun k => by rw [spec_l7Has.l0]) ?_
    exact evNeg (by simp) (Ev.now _)
  | cons x suf ih =>
    intro pre hb
    simp only [List.length_append, List.length_cons] at hb
    refine Ev.step (fun k => by rw [spec_l7Has.l0]) ?_
    refine evPos (by simp only [List.length_append, List.length_cons]; omega) (evPos (by omega) ?_)
    rw [rd_mid, wsucc (by omega)]
    by_cases hx : x = v
    · refine evPos hx (evEq ?_ (Ev.now _))
      simp [hasB, hx]
    · have h := ih (pre ++ [x]) (by simp; omega)
      refine evNeg hx (evEq ?_ (Ev.congr (fun k => ?_) h))
      · simp [hasB, hx]
      · simp
theorem spec_l7Has_ev (l : List Int) (v : Int) (hl : l.length ≤ 1048576) : Ev (fun k => spec_l7Has.f k l v) (hasB l v) := by
  unfold spec_l7Has.f
  exact spec_l7Has_l0 v l [] (by simpa using hl)
/-! ### at -/
theorem impl_at_eq (a n : Int) : impl_at.f a n = some (decide (0 ≤ a ∧ a < n)) := by
  unfold impl_at.f
  by_cases h : a ≥ 0
  · rw [if_pos h]
    simp [show 0 ≤ a from h]
  · rw [if_neg h]
    have : ¬ 0 ≤ a := h
    simp [this]
/-! ### rowof -/
def bitV (path : List Int) (i : Nat) : Int := if hasB path (i : Int) = true then 1 else 0
def rowV (path : List Int) (n : Int) : List Int := if 1 ≤ n ∧ n ≤ 6 then (List.range n.toNat).map (bitV path) else []
def matV (l : List S103) (n : Int) : List (List Int) := l.map (fun p => rowV p.f2 n)
theorem rowV_len (p : List Int) (n : Int) : (rowV p n).length ≤ 6 := by
  unfold rowV
  split <;> simp <;> omega
theorem spec_RowOf_l0 (l : List Int) (hl : l.length ≤ 1048576) (n : Nat) (hn : n ≤ 6) : ∀ (d p : Nat) (out : List Int), p + d = n → out.length ≤ p →
    Ev (fun k => spec_RowOf.l0 k l (n : Int) out (p : Int)) (out ++ (List.range' p d).map (bitV l)) := by
  intro d
  induction d with
  | zero =>
    intro p out e ho
    refine Ev.step (fun k => by rw [spec_RowOf.l0]) ?_
    exact evNeg (by omega) (evEq (by simp) (Ev.now _))
  | succ d ih =>
    intro p out e ho
    refine Ev.step (fun k => by rw [spec_RowOf.l0]) ?_
    refine evPos (by omega) (Ev.bind (spec_l7Has_ev l p hl) ?_)
    rw [wsucc (by omega)]
    by_cases h : hasB l (p : Int) = true
    · refine evPos h (evPos (by omega) (evEq ?_ (ih (p + 1) _ (by omega) (by simp; omega))))
      simp [List.range'_succ, bitV, h]
    · refine evNeg h (evPos (by omega) (evEq ?_ (ih (p + 1) _ (by omega) (by simp; omega))))
      simp [List.range'_succ, bitV, h]
theorem spec_RowOf_ev (l : List Int) (n : Int) (hl : l.length ≤ 1048576) : Ev (fun k => spec_RowOf.f k l n) (rowV l n) := by
  unfold spec_RowOf.f
  refine evSome rfl (evSome (spec_l1In_eq _ _ _) ?_)
  by_cases h : 1 ≤ n ∧ n ≤ 6
  · refine evPos (by simpa using h) ?_
    have h2 := spec_RowOf_l0 l hl n.toNat (by omega) n.toNat 0 [] (by omega) (by simp)
    rw [Int.toNat_of_nonneg (by omega)] at h2
    refine evEq ?_ h2
    simp [rowV, h, List.range_eq_range']
  · refine evNeg (by simpa using h) (evEq ?_ (Ev.now _))
    simp [rowV, h]
theorem hasB_snoc (l : List Int) (x v : Int) : hasB (l ++ [x]) v = (hasB l v || decide (x = v)) := by simp [hasB]
theorem row_set (pre : List Int) (x : Int) (n : Nat) (h0 : 0 ≤ x) (h1 : x < n) : ((List.range n).map (bitV pre)).set x.toNat 1 = (List.range n).map (bitV (pre ++ [x])) := by
  apply List.ext_getElem
  · simp
  · intro i h2 h3
    simp only [List.getElem_set, List.getElem_map, List.getElem_range, bitV, hasB_snoc]
    by_cases e : x.toNat = i
    · have e2 : x = (i : Int) := by omega
      simp [e2]
    · have e2 : ¬ x = (i : Int) := by omega
      simp [e, e2]
theorem row_keep (pre : List Int) (x : Int) (n : Nat) (h : ¬ (0 ≤ x ∧ x < (n : Int))) : (List.range n).map (bitV pre) = (List.range n).map (bitV (pre ++ [x])) := by
  apply List.map_congr_left
  intro i hi
  have hi2 := List.mem_range.1 hi
  simp only [bitV, hasB_snoc]
  have e2 : ¬ x = (i : Int) := by omega
  simp [e2]
theorem impl_RowOf_l0 (n : Nat) (hn : n ≤ 6) : ∀ (suf pre : List Int), (pre ++ suf).length ≤ 1048576 →
    Ev (fun k => impl_RowOf.l0 k (n : Int) ((List.range n).map (bitV pre)) (pre ++ suf) ((pre ++ suf).length : Int) (pre.length : Int)) ((List.range n).map (bitV (pre ++ suf))) := by
  intro suf
  induction suf with
  | nil =>
    intro pre hb
    refine Ev.step (fun k => by rw [impl_RowOf.l0]) ?_
    exact evNeg (by simp) (evEq (by simp) (Ev.now _))
  | cons x suf ih =>
    intro pre hb
    simp only [List.length_append, List.length_cons] at hb
    refine Ev.step (fun k => by rw [impl_RowOf.l0]) ?_
    refine evPos (by simp only [List.length_append, List.length_cons]; omega) (evPos (by omega) (evPos (by simp only [List.length_append, List.length_cons]; omega) ?_))
    rw [rd_mid, wsucc (by omega)]
    refine evSome (impl_at_eq _ _) ?_
    have h := ih (pre ++ [x]) (by simp; omega)
    by_cases ha : 0 ≤ x ∧ x < (n : Int)
    · refine evPos (by simpa using ha) (evPos ha.1 (evPos (by simpa using ha.2) ?_))
      rw [row_set pre x n ha.1 ha.2]
      simpa using h
    · refine evNeg (by simpa using ha) ?_
      rw [row_keep pre x n ha]
      simpa using h
theorem impl_RowOf_ev (l : List Int) (n : Int) (hl : l.length ≤ 1048576) : Ev (fun k => impl_RowOf.f k l n) (rowV l n) := by
  unfold impl_RowOf.f
  refine evSome (impl_InRange_eq _ _ _) ?_
  by_cases h : 1 ≤ n ∧ n ≤ 6
  · refine evPos (by simpa using h) (evPos (by omega) (evPos (by omega) ?_))
    have h2 := impl_RowOf_l0 n.toNat (by omega) l [] (by simpa using hl)
    rw [Int.toNat_of_nonneg (by omega)] at h2
    have e : (List.range n.toNat).map (bitV []) = List.replicate n.toNat 0 := by
      apply List.ext_getElem
      · simp
      · intro i h3 h4
        simp [bitV, hasB]
    rw [e] at h2
    refine evEq ?_ h2
    simp [rowV, h]
  · refine evNeg (by simpa using h) (evEq ?_ (Ev.now _))
    simp [rowV, h]
/-! ### ilat -/
abbrev Sn := S62
def mt (p : Int) (b : Bool) (x : Sn) : Bool := decide (x.f0 = p) && (x.f4 == b)
def latF (p : Int) (b : Bool) : Nat → Int → List Sn → Int
  | _, k, [] => k
  | i, k, x :: xs => latF p b (i + 1) (if mt p b x = true then (i : Int) else k) xs
def latV (l : List Sn) (p : Int) (b : Bool) : Int := latF p b 0 (-1) l
theorem latF_snoc (p : Int) (b : Bool) (x : Sn) : ∀ (l : List Sn) (i : Nat) (k : Int), latF p b i k (l ++ [x]) = if mt p b x = true then ((i + l.length : Nat) : Int) else latF p b i k l
  | [], i, k => by simp [latF]
  | y :: l, i, k => by
    rw [List.cons_append, latF, latF_snoc p b x l, latF]
    simp only [List.length_cons]
    rw [show i + 1 + l.length = i + (l.length + 1) by omega]
theorem impl_LatestOf_l0 (l : List Sn) (p : Int) (b : Bool) (hl : l.length ≤ 1048576) : ∀ n : Nat, n ≤ l.length →
    Ev (fun k => impl_LatestOf.l0 k l p b ((n : Int) - 1)) (latV (l.take n) p b) := by
  intro n
  induction n with
  | zero =>
    intro _
    refine Ev.step (fun k => by rw [impl_LatestOf.l0]) ?_
    exact evNeg (by omega) (Ev.now _)
  | succ n ih =>
    intro hn
    have e : ((n + 1 : Nat) : Int) - 1 = (n : Int) := by omega
    rw [e]
    have et : l.take (n + 1) = l.take n ++ [l[n]] := by rw [List.take_succ_eq_append_getElem (by omega)]
    have ev : latV (l.take (n + 1)) p b = if mt p b l[n] = true then (n : Int) else latV (l.take n) p b := by
      rw [et, latV, latF_snoc]
      simp only [Nat.zero_add, List.length_take, Nat.min_eq_left (show n ≤ l.length by omega)]
      rfl
    rw [ev]
    refine Ev.step (fun k => by rw [impl_LatestOf.l0]) ?_
    refine evPos (by omega) (evPos (by omega) (evPos (by omega) ?_))
    simp only [rd_T62, getD_at l _ n (show n < l.length by omega)]
    rw [w64 (by omega) (by omega)]
    by_cases h1 : l[n].f0 = p
    · refine evPos h1 ?_
      by_cases h2 : (l[n].f4 == b) = true
      · refine evPos h2 (evEq ?_ (Ev.now _))
        rw [if_pos (by simp only [mt, h1, h2, decide_true, Bool.true_and])]
      · refine evNeg h2 (evEq ?_ (ih (by omega)))
        rw [if_neg (by simp only [mt, h1, decide_true, Bool.true_and]; exact h2)]
    · refine evNeg h1 (evEq ?_ (ih (by omega)))
      rw [if_neg (by simp [mt, h1])]
theorem impl_LatestOf_ev (l : List Sn) (p : Int) (b : Bool) (hl : l.length ≤ 1048576) : Ev (fun k => impl_LatestOf.f k l p b) (latV l p b) := by
  unfold impl_LatestOf.f
  rw [w64 (by omega) (by omega)]
  have h := impl_LatestOf_l0 l p b hl l.length (Nat.le_refl _)
  rw [List.take_length] at h
  exact h
theorem latV_range (l : List Sn) (p : Int) (b : Bool) : -1 ≤ latV l p b ∧ latV l p b < l.length := by
  have key : ∀ (l : List Sn) (i : Nat) (k : Int), -1 ≤ k → k < i → -1 ≤ latF p b i k l ∧ latF p b i k l < i + l.length := by
    intro l
    induction l with
    | nil =>
      intro i k h1 h2
      simp [latF]
      omega
    | cons x l ih =>
      intro i k h1 h2
      rw [latF]
      have h := ih (i + 1) (if mt p b x = true then (i : Int) else k) (by split <;> omega) (by split <;> omega)
      simp only [List.length_cons]
      omega
  have h := key l 0 (-1) (by omega) (by omega)
  unfold latV
  omega
/-! ### igood -/
def goodF (l : List Sn) : Nat → Nat → List Int
  | 0, _ => []
  | d + 1, p => (if latV l p false ≥ 0 then [latV l p false] else []) ++ goodF l d (p + 1)
def goodV (l : List Sn) (n : Int) : List Int := if 0 ≤ n ∧ n ≤ 12 then goodF l n.toNat 0 else []
theorem goodF_length (l : List Sn) : ∀ (d p : Nat), (goodF l d p).length ≤ d
  | 0, _ => by simp [goodF]
  | d + 1, p => by
    have h := goodF_length l d (p + 1)
    rw [goodF, List.length_append]
    split <;> simp <;> omega
theorem goodV_length (l : List Sn) (n : Int) : (goodV l n).length ≤ 12 := by
  unfold goodV
  split
  · have := goodF_length l n.toNat 0
    omega
  · simp
theorem impl_GoodOnes_l0 (l : List Sn) (hl : l.length ≤ 1048576) (n : Nat) (hn : n ≤ 12) : ∀ (d p : Nat) (out : List Int), p + d = n → out.length ≤ p →
    Ev (fun k => impl_GoodOnes.l0 k l out (n : Int) (p : Int)) (out ++ goodF l d p) := by
  intro d
  induction d with
  | zero =>
    intro p out e ho
    refine Ev.step (fun k => by rw [impl_GoodOnes.l0]) ?_
    refine evNeg (by omega) (evEq ?_ (Ev.now _))
    simp [goodF]
  | succ d ih =>
    intro p out e ho
    refine Ev.step (fun k => by rw [impl_GoodOnes.l0]) ?_
    refine evPos (by omega) (Ev.bind (impl_LatestOf_ev l p false hl) ?_)
    rw [wsucc (by omega)]
    by_cases h : latV l p false ≥ 0
    · refine evPos h (evPos (by omega) (evEq ?_ (ih (p + 1) _ (by omega) (by simp; omega))))
      simp [goodF, h]
    · refine evNeg h (evEq ?_ (ih (p + 1) _ (by omega) (by omega)))
      simp [goodF, h]
theorem impl_GoodOnes_ev (l : List Sn) (n : Int) (hl : l.length ≤ 1048576) : Ev (fun k => impl_GoodOnes.f k l n) (goodV l n) := by
  unfold impl_GoodOnes.f
  refine evSome (impl_InRange_eq _ _ _) ?_
  by_cases h : 0 ≤ n ∧ n ≤ 12
  · refine evPos (by simpa using h) ?_
    have h2 := impl_GoodOnes_l0 l hl n.toNat (by omega) n.toNat 0 [] (by omega) (by simp)
    rw [Int.toNat_of_nonneg h.1] at h2
    refine evEq ?_ h2
    simp [goodV, h]
  · refine evNeg (by simpa using h) (evEq ?_ (Ev.now _))
    simp [goodV, h]
/-! ### latest -/
theorem spec_LatestOf_l0 (p : Int) (b : Bool) : ∀ (suf pre : List Sn) (m : Int), (pre ++ suf).length ≤ 1048576 →
    Ev (fun k => spec_LatestOf.l0 k (pre ++ suf) p b m (pre.length : Int)) (latF p b pre.length m suf) := by
  intro suf
  induction suf with
  | nil =>
    intro pre m hb
    refine Ev.step (fun k => by rw [spec_LatestOf.l0]) ?_
    exact evNeg (by simp) (Ev.now _)
  | cons x suf ih =>
    intro pre m hb
    simp only [List.length_append, List.length_cons] at hb
    refine Ev.step (fun k => by rw [spec_LatestOf.l0]) ?_
    refine evPos (by simp only [List.length_append, List.length_cons]; omega) (evPos (by omega) ?_)
    simp only [rd_T62, getD_mid]
    rw [wsucc (by omega)]
    have h := fun m => ih (pre ++ [x]) m (by simp; omega)
    have h' : ∀ m, Ev (fun k => spec_LatestOf.l0 k (pre ++ x :: suf) p b m ((pre.length + 1 : Nat) : Int)) (latF p b (pre.length + 1) m suf) := fun m => by simpa using h m
    by_cases h1 : x.f0 = p
    · refine evPos h1 ?_
      by_cases h2 : (x.f4 == b) = true
      · refine evPos h2 (evEq ?_ (h' _))
        simp only [latF, mt, h1, h2, decide_true, Bool.true_and, if_true]
      · refine evNeg h2 (evEq ?_ (h' _))
        simp only [latF, mt, h1, h2, decide_true, Bool.true_and, if_false]
        simp
    · refine evNeg h1 (evEq ?_ (h' _))
      simp [latF, mt, h1]
theorem spec_LatestOf_ev (l : List Sn) (p : Int) (b : Bool) (hl : l.length ≤ 1048576) : Ev (fun k => spec_LatestOf.f k l p b) (latV l p b) := by
  unfold spec_LatestOf.f
  exact spec_LatestOf_l0 p b l [] (-1) (by simpa using hl)
/-! ### good -/
theorem spec_GoodOnes_l0 (l : List Sn) (hl : l.length ≤ 1048576) (n : Nat) (hn : n ≤ 12) : ∀ (d p : Nat) (out : List Int), p + d = n → out.length ≤ p →
    Ev (fun k => spec_GoodOnes.l0 k l (n : Int) out (p : Int)) (out ++ goodF l d p) := by
  intro d
  induction d with
  | zero =>
    intro p out e ho
    refine Ev.step (fun k => by rw [spec_GoodOnes.l0]) ?_
    refine evNeg (by omega) (evEq ?_ (Ev.now _))
    simp [goodF]
  | succ d ih =>
    intro p out e ho
    refine Ev.step (fun k => by rw [spec_GoodOnes.l0]) ?_
    refine evPos (by omega) (Ev.bind (spec_LatestOf_ev l p false hl) ?_)
    rw [wsucc (by omega)]
    by_cases h : latV l p false ≥ 0
    · refine evPos h (evPos (by omega) (evEq ?_ (ih (p + 1) _ (by omega) (by simp; omega))))
      simp [goodF, h]
    · refine evNeg h (evEq ?_ (ih (p + 1) _ (by omega) (by omega)))
      simp [goodF, h]
theorem spec_GoodOnes_ev (l : List Sn) (n : Int) (hl : l.length ≤ 1048576) : Ev (fun k => spec_GoodOnes.f k l n) (goodV l n) := by
  unfold spec_GoodOnes.f
  refine evSome rfl (evSome (spec_l1In_eq _ _ _) ?_)
  by_cases h : 0 ≤ n ∧ n ≤ 12
  · refine evPos (by simpa using h) ?_
    have h2 := spec_GoodOnes_l0 l hl n.toNat (by omega) n.toNat 0 [] (by omega) (by simp)
    rw [Int.toNat_of_nonneg h.1] at h2
    refine evEq ?_ h2
    simp [goodV, h]
  · refine evNeg (by simpa using h) (evEq ?_ (Ev.now _))
    simp [goodV, h]
/-! ### rowsof -/
theorem latF_match (p : Int) (b : Bool) (full : List Sn) : ∀ (suf pre : List Sn) (k : Int), full = pre ++ suf → (0 ≤ k → k < pre.length ∧ (rd_T62 full k).f0 = p) →
    0 ≤ latF p b pre.length k suf → (rd_T62 full (latF p b pre.length k suf)).f0 = p := by
  intro suf
  induction suf with
  | nil =>
    intro pre k e hk h
    exact (hk h).2
  | cons x suf ih =>
    intro pre k e hk h
    have e2 : full = (pre ++ [x]) ++ suf := by simp [e]
    have hl : (pre ++ [x]).length = pre.length + 1 := by simp
    rw [latF] at h ⊢
    by_cases hm : mt p b x = true
    · rw [if_pos hm] at h ⊢
      have h3 := ih (pre ++ [x]) (pre.length : Int) e2 (fun _ => ⟨by rw [hl]; omega, ?_⟩)
      · rw [hl] at h3
        exact h3 h
      · rw [e]
        simp only [rd_T62, getD_mid]
        simp only [mt, Bool.and_eq_true, decide_eq_true_eq] at hm
        exact hm.1
    · rw [if_neg hm] at h ⊢
      have h3 := ih (pre ++ [x]) k e2 (fun h0 => ⟨by have := (hk h0).1; rw [hl]; omega, (hk h0).2⟩)
      rw [hl] at h3
      exact h3 h
theorem latV_match (l : List Sn) (p : Int) (b : Bool) (h : 0 ≤ latV l p b) : (rd_T62 l (latV l p b)).f0 = p :=
  latF_match p b l l [] (-1) rfl (fun h => by omega) h
def goodAt (pr : List S103) (se : List Sn) (g : Int) : Prop := (0 ≤ g ∧ g < (se.length : Int)) ∧ 0 ≤ (rd_T62 se g).f0 ∧ (rd_T62 se g).f0 < (pr.length : Int)
theorem goodF_good (pr : List S103) (se : List Sn) : ∀ (d p : Nat), p + d ≤ pr.length → ∀ g ∈ goodF se d p, goodAt pr se g
  | 0, _, _, g, hg => by simp [goodF] at hg
  | d + 1, p, h, g, hg => by
    rw [goodF, List.mem_append] at hg
    rcases hg with hg | hg
    · by_cases h0 : latV se p false ≥ 0
      · rw [if_pos h0] at hg
        have e : g = latV se p false := by simpa using hg
        subst e
        have hm := latV_match se p false h0
        exact ⟨⟨h0, (latV_range se p false).2⟩, by rw [hm]; omega, by rw [hm]; omega⟩
      · rw [if_neg h0] at hg
        simp at hg
    · exact goodF_good pr se d (p + 1) (by omega) g hg
theorem goodV_good (pr : List S103) (se : List Sn) : ∀ g ∈ goodV se (pr.length : Int), goodAt pr se g := by
  intro g hg
  unfold goodV at hg
  split at hg
  · exact goodF_good pr se _ 0 (by omega) g hg
  · simp at hg
def rwA (pr : List S103) (se : List Sn) (n : Int) (G : List Int) : List (List Int) := G.map fun g => rowV (rd_T103 pr (rd_T62 se g).f0).f2 n
def rwB (se : List Sn) (G : List Int) : List Int := G.map fun g => (rd_T62 se g).f3
def rwC (se : List Sn) (G : List Int) : List Int := G.map fun g => (rd_T62 se g).f1
theorem path_len {pr : List S103} {i : Int} (h0 : 0 ≤ i) (h1 : i < (pr.length : Int)) (hp : ∀ p ∈ pr, p.f2.length ≤ 1048576) : (rd_T103 pr i).f2.length ≤ 1048576 := by
  have h2 : i.toNat < pr.length := by omega
  have e : rd_T103 pr i = pr[i.toNat] := by simp [rd_T103, h2]
  rw [e]
  exact hp _ (List.getElem_mem h2)
theorem spec_RowsOf_l0 (a0_0 : Int) (l0_1 : (List S133)) (l0_2 : (List Int)) (l0_3 : (List Int)) (l0_4 : (List S103)) (l0_5 : (List Int)) (l0_6 : (List Int)) (a0_7 : Int) (a0_8 : Int) (a0_9 : Int) (a0_10 : Int) (l0_11 : (List S62)) (a0_12 : Int) (hp : ∀ p ∈ l0_4, p.f2.length ≤ 1048576) : ∀ (suf pre : List Int) (o1 : List (List Int)) (o2 o3 : List Int), (pre ++ suf).length ≤ 12 → (∀ g ∈ suf, goodAt l0_4 l0_11 g) → o1.length ≤ pre.length → o2.length ≤ pre.length → o3.length ≤ pre.length →
    Ev (fun k => spec_RowsOf.l0 k o1 o2 o3 (pre ++ suf) (pre.length : Int) a0_0 l0_1 l0_2 l0_3 l0_4 l0_5 l0_6 a0_7 a0_8 a0_9 a0_10 l0_11 a0_12) (o1 ++ rwA l0_4 l0_11 (l0_1.length : Int) suf, o2 ++ rwB l0_11 suf, o3 ++ rwC l0_11 suf) := by
  intro suf
  induction suf with
  | nil =>
    intro pre o1 o2 o3 hb hg h1 h2 h3
    refine Ev.step (fun k => by rw [spec_RowsOf.l0]) ?_
    exact evNeg (by simp) (evEq (by simp [rwA, rwB, rwC]) (Ev.now _))
  | cons x suf ih =>
    intro pre o1 o2 o3 hb hg h1 h2 h3
    simp only [List.length_append, List.length_cons] at hb
    obtain ⟨⟨g0, g1⟩, g2, g3⟩ := hg x (by simp)
    refine Ev.step (fun k => by rw [spec_RowsOf.l0]) ?_
    refine evPos (by simp only [List.length_append, List.length_cons]; omega) (evPos (by omega) ?_)
    rw [rd_mid, wsucc (by omega)]
    refine evPos g0 (evPos g1 (evPos g2 (evPos g3 ?_)))
    refine Ev.bind (spec_RowOf_ev _ _ (path_len g2 g3 hp)) (evPos (by omega) (evPos (by omega) (evPos (by omega) ?_)))
    have h := ih (pre ++ [x]) (o1 ++ [rowV (rd_T103 l0_4 (rd_T62 l0_11 x).f0).f2 (l0_1.length : Int)]) (o2 ++ [(rd_T62 l0_11 x).f3]) (o3 ++ [(rd_T62 l0_11 x).f1]) (by simp; omega) (fun g h => hg g (by simp [h])) (by simp; omega) (by simp; omega) (by simp; omega)
    refine evEq ?_ (Ev.congr (fun k => ?_) h)
    · simp [rwA, rwB, rwC]
    · simp
theorem impl_RowsOf_l0 (a0_0 : Int) (l0_1 : (List S133)) (l0_2 : (List Int)) (l0_3 : (List Int)) (l0_4 : (List S103)) (l0_5 : (List Int)) (l0_6 : (List Int)) (a0_7 : Int) (a0_8 : Int) (a0_9 : Int) (a0_10 : Int) (l0_11 : (List S62)) (a0_12 : Int) (hp : ∀ p ∈ l0_4, p.f2.length ≤ 1048576) : ∀ (suf pre : List Int) (o1 : List (List Int)) (o2 o3 : List Int), (pre ++ suf).length ≤ 12 → (∀ g ∈ suf, goodAt l0_4 l0_11 g) → o1.length ≤ pre.length → o2.length ≤ pre.length → o3.length ≤ pre.length →
    Ev (fun k => impl_RowsOf.l0 k o1 o2 o3 (pre ++ suf) ((pre ++ suf).length : Int) (pre.length : Int) a0_0 l0_1 l0_2 l0_3 l0_4 l0_5 l0_6 a0_7 a0_8 a0_9 a0_10 l0_11 a0_12) (o1 ++ rwA l0_4 l0_11 (l0_1.length : Int) suf, o2 ++ rwB l0_11 suf, o3 ++ rwC l0_11 suf) := by
  intro suf
  induction suf with
  | nil =>
    intro pre o1 o2 o3 hb hg h1 h2 h3
    refine Ev.step (fun k => by rw [impl_RowsOf.l0]) ?_
    exact evNeg (by simp) (evEq (by simp [rwA, rwB, rwC]) (Ev.now _))
  | cons x suf ih =>
    intro pre o1 o2 o3 hb hg h1 h2 h3
    simp only [List.length_append, List.length_cons] at hb
    obtain ⟨⟨g0, g1⟩, g2, g3⟩ := hg x (by simp)
    refine Ev.step (fun k => by rw [impl_RowsOf.l0]) ?_
    refine evPos (by simp only [List.length_append, List.length_cons]; omega) (evPos (by omega) (evPos (by simp only [List.length_append, List.length_cons]; omega) ?_))
    rw [rd_mid, wsucc (by omega)]
    refine evPos g0 (evPos g1 (evPos g2 (evPos g3 ?_)))
    refine Ev.bind (impl_RowOf_ev _ _ (path_len g2 g3 hp)) (evPos (by omega) (evPos (by omega) (evPos (by omega) ?_)))
    have h := ih (pre ++ [x]) (o1 ++ [rowV (rd_T103 l0_4 (rd_T62 l0_11 x).f0).f2 (l0_1.length : Int)]) (o2 ++ [(rd_T62 l0_11 x).f3]) (o3 ++ [(rd_T62 l0_11 x).f1]) (by simp; omega) (fun g h => hg g (by simp [h])) (by simp; omega) (by simp; omega) (by simp; omega)
    refine evEq ?_ (Ev.congr (fun k => ?_) h)
    · simp [rwA, rwB, rwC]
    · simp
def roV (a0_0 : Int) (l0_1 : (List S133)) (l0_2 : (List Int)) (l0_3 : (List Int)) (l0_4 : (List S103)) (l0_5 : (List Int)) (l0_6 : (List Int)) (a0_7 : Int) (a0_8 : Int) (a0_9 : Int) (a0_10 : Int) (l0_11 : (List S62)) (a0_12 : Int) : List (List Int) × List Int × List Int := (rwA l0_4 l0_11 (l0_1.length : Int) (goodV l0_11 (l0_4.length : Int)), rwB l0_11 (goodV l0_11 (l0_4.length : Int)), rwC l0_11 (goodV l0_11 (l0_4.length : Int)))
theorem spec_RowsOf_ev (a0_0 : Int) (l0_1 : (List S133)) (l0_2 : (List Int)) (l0_3 : (List Int)) (l0_4 : (List S103)) (l0_5 : (List Int)) (l0_6 : (List Int)) (a0_7 : Int) (a0_8 : Int) (a0_9 : Int) (a0_10 : Int) (l0_11 : (List S62)) (a0_12 : Int) (h : okW' l0_1 l0_2 l0_3 l0_4 l0_5 l0_6 l0_11) : Ev (fun k => spec_RowsOf.f k a0_0 l0_1 l0_2 l0_3 l0_4 l0_5 l0_6 a0_7 a0_8 a0_9 a0_10 l0_11 a0_12) (roV a0_0 l0_1 l0_2 l0_3 l0_4 l0_5 l0_6 a0_7 a0_8 a0_9 a0_10 l0_11 a0_12) := by
  unfold spec_RowsOf.f
  refine Ev.bind (spec_GoodOnes_ev l0_11 _ h.2.2.2.2.2.2) ?_
  have h2 := spec_RowsOf_l0 a0_0 l0_1 l0_2 l0_3 l0_4 l0_5 l0_6 a0_7 a0_8 a0_9 a0_10 l0_11 a0_12 h.2.2.2.1.2 (goodV l0_11 (l0_4.length : Int)) [] [] [] [] (by simpa using goodV_length _ _) (goodV_good l0_4 l0_11) (by simp) (by simp) (by simp)
  simpa [roV] using h2
theorem impl_RowsOf_ev (a0_0 : Int) (l0_1 : (List S133)) (l0_2 : (List Int)) (l0_3 : (List Int)) (l0_4 : (List S103)) (l0_5 : (List Int)) (l0_6 : (List Int)) (a0_7 : Int) (a0_8 : Int) (a0_9 : Int) (a0_10 : Int) (l0_11 : (List S62)) (a0_12 : Int) (h : okW' l0_1 l0_2 l0_3 l0_4 l0_5 l0_6 l0_11) : Ev (fun k => impl_RowsOf.f k a0_0 l0_1 l0_2 l0_3 l0_4 l0_5 l0_6 a0_7 a0_8 a0_9 a0_10 l0_11 a0_12) (roV a0_0 l0_1 l0_2 l0_3 l0_4 l0_5 l0_6 a0_7 a0_8 a0_9 a0_10 l0_11 a0_12) := by
  unfold impl_RowsOf.f
  refine Ev.bind (impl_GoodOnes_ev l0_11 _ h.2.2.2.2.2.2) ?_
  have h2 := impl_RowsOf_l0 a0_0 l0_1 l0_2 l0_3 l0_4 l0_5 l0_6 a0_7 a0_8 a0_9 a0_10 l0_11 a0_12 h.2.2.2.1.2 (goodV l0_11 (l0_4.length : Int)) [] [] [] [] (by simpa using goodV_length _ _) (goodV_good l0_4 l0_11) (by simp) (by simp) (by simp)
  simpa [roV] using h2
theorem roV_ok (a0_0 : Int) (l0_1 : (List S133)) (l0_2 : (List Int)) (l0_3 : (List Int)) (l0_4 : (List S103)) (l0_5 : (List Int)) (l0_6 : (List Int)) (a0_7 : Int) (a0_8 : Int) (a0_9 : Int) (a0_10 : Int) (l0_11 : (List S62)) (a0_12 : Int) : okII (roV a0_0 l0_1 l0_2 l0_3 l0_4 l0_5 l0_6 a0_7 a0_8 a0_9 a0_10 l0_11 a0_12).1 ∧ totL (roV a0_0 l0_1 l0_2 l0_3 l0_4 l0_5 l0_6 a0_7 a0_8 a0_9 a0_10 l0_11 a0_12).1 ≤ 72 ∧ (roV a0_0 l0_1 l0_2 l0_3 l0_4 l0_5 l0_6 a0_7 a0_8 a0_9 a0_10 l0_11 a0_12).2.1.length ≤ 12 ∧ (roV a0_0 l0_1 l0_2 l0_3 l0_4 l0_5 l0_6 a0_7 a0_8 a0_9 a0_10 l0_11 a0_12).2.2.length ≤ 12 := by
  have hg := goodV_length l0_11 (l0_4.length : Int)
  have h1 : ∀ r ∈ (roV a0_0 l0_1 l0_2 l0_3 l0_4 l0_5 l0_6 a0_7 a0_8 a0_9 a0_10 l0_11 a0_12).1, r.length ≤ 6 := by
    intro r hr
    simp only [roV, rwA, List.mem_map] at hr
    obtain ⟨g, _, rfl⟩ := hr
    exact rowV_len _ _
  have h2 : (roV a0_0 l0_1 l0_2 l0_3 l0_4 l0_5 l0_6 a0_7 a0_8 a0_9 a0_10 l0_11 a0_12).1.length ≤ 12 := by simpa [roV, rwA] using hg
  refine ⟨⟨by omega, fun r hr => by have := h1 r hr; omega⟩, ?_, by simpa [roV, rwB] using hg, by simpa [roV, rwC] using hg⟩
  have h3 := totL_le _ 6 h1
  omega
/-! ### zw_FnExactRowsOf -/
set_option maxHeartbeats 8000000 in
set_option maxRecDepth 100000 in
theorem FnExactRowsOf_calls' (y : LW) (q : LP)  (w : World) (hq : y.Rd q w) (g1 : y.l1.length ≤ 9223372036854775807) (g2 : y.l2.length ≤ 9223372036854775807) (g3 : y.l3.length ≤ 9223372036854775807) (g4 : y.l4.length ≤ 9223372036854775807 ∧ ∀ p ∈ y.l4, p.f2.length ≤ 9223372036854775807) (g5 : y.l5.length ≤ 9223372036854775807) (g6 : y.l6.length ≤ 9223372036854775807) (g11 : y.l11.length ≤ 9223372036854775807) :
    Calls Try.prog 4 #[.agg (y.cells q)] w fun e w' => e = .returned (.bool true) ∧ Below w.heap.size w w' := by
  have hv := Try.underlying31
  have hu := Try.underlying42
  have HQ := Aside0.mk hq; clear hq
  go_enter Try.func4, Try.ntmps4
  have HBW0 := Aside0.mk (Below.refl w.heap.size w)
  go_wp2_with fail
  refine calls_gen (fun W' => Below w.heap.size w W' ∧ W'.heap[w.heap.size]? = some (.cells (y.cells q) 31 (0, 0))) ⟨?gb, ?gn⟩ ?_
  case gb => repeat (first | (with_reducible exact Below.refl _ _) | refine below_set ?_ (Nat.le_refl _) | apply below_alloc | apply pw_below_drewN)
  case gn => (repeat (refine blk_drewN ?_ _)); exact blk_new _ _
  rintro W1 ⟨hbw, hbn⟩
  have hrd := HQ.out.below (below_step HBW0.out hbw)
  go_at_call 12; (refine (szWorld_c y q W1 hrd g1 g2 g3 g4 g5 g6 g11).mono ?_); rintro e w3 ⟨r, rfl, hok, hb⟩
  clear hrd
  have hs := below_step hbw hb
  have HB4 := Aside0.mk (below_step HBW0.out hs)
  clear HBW0
  have BX5 := Aside0.mk (blk_below hbn hb)
  clear hbn
  have HS := Aside0.mk (hs.size : w.heap.size ≤ w3.heap.size)
  replace HS := Aside0.mk (And.intro HS.out (blk_lt BX5.out))
  by_cases hc : r < 0
  · have hcd : decide (r < 0) = true := decide_eq_true hc
    go_wp2
    go_ret
    exact ⟨rfl, below_step HB4.out (by repeat (first | (with_reducible first | exact Below.refl _ _ | apply below_alloc | apply pw_below_drewN | apply below_drew1) | exact Below.refl _ _))⟩
  have hcd : decide (r < 0) = false := decide_eq_false hc
  have OK := Aside0.mk (hok (by omega)); clear hok hb hs hbw
  obtain ⟨x, hxe⟩ : ∃ x, x = cvW y := ⟨_, rfl⟩
  have HXE := Aside0.mk hxe
  have OKX := Aside0.mk (show x.Ok from by rw [hxe]; exact cvW_ok OK.out)
  obtain ⟨⟨y0, y1, y2⟩, hy0⟩ : ∃ b, b = roV x.d0 x.l1 x.l2 x.l3 x.l4 x.l5 x.l6 x.d7 x.d8 x.d9 x.d10 x.l11 x.d12 := ⟨_, rfl⟩
  have hok := roV_ok x.d0 x.l1 x.l2 x.l3 x.l4 x.l5 x.l6 x.d7 x.d8 x.d9 x.d10 x.l11 x.d12
  have ey0 : y0 = _ := congrArg (fun z => z.1) hy0; have ey1 : y1 = _ := congrArg (fun z => z.2.1) hy0; have ey2 : y2 = _ := congrArg (fun z => z.2.2) hy0
  have oy0 : okII y0 := by rw [ey0]; exact hok.1
  have ty0 : totL y0 ≤ 72 := by rw [ey0]; exact hok.2.1
  have oy1 : y1.length ≤ 12 := by rw [ey1]; exact hok.2.2.1
  have oy2 : y2.length ≤ 12 := by rw [ey2]; exact hok.2.2.2
  have hks := spec_RowsOf_ev x.d0 x.l1 x.l2 x.l3 x.l4 x.l5 x.l6 x.d7 x.d8 x.d9 x.d10 x.l11 x.d12 OKX.out
  have hki := impl_RowsOf_ev x.d0 x.l1 x.l2 x.l3 x.l4 x.l5 x.l6 x.d7 x.d8 x.d9 x.d10 x.l11 x.d12 OKX.out
  rw [← hy0] at hks hki
  clear ey0 ey1 ey2 hok hy0 hxe
  obtain ⟨ks, hz_⟩ := (hks).rounds; have KS := Aside0.mk hz_; clear hz_
  obtain ⟨ki, hz_⟩ := (hki).rounds; have KI := Aside0.mk hz_; clear hz_
  clear hks hki
  obtain ⟨ke, hz_⟩ := (eqIntSS_ev y0 oy0).rounds; have KE := Aside0.mk hz_; clear hz_
  obtain ⟨ke1, hz_⟩ := (eqIntS_ev y1 (by omega)).rounds; have KE1 := Aside0.mk hz_; clear hz_
  obtain ⟨ke2, hz_⟩ := (eqIntS_ev y2 (by omega)).rounds; have KE2 := Aside0.mk hz_; clear hz_
  obtain ⟨km1, hz_⟩ := (markIntS_ev y1 (1 + (totL y0 : Int)) (by omega) (by omega) (by omega)).rounds; have KM1 := Aside0.mk hz_; clear hz_
  obtain ⟨km2, hz_⟩ := (markIntS_ev y2 ((1 + (totL y0 : Int)) + (y1.length : Int)) (by omega) (by omega) (by omega)).rounds; have KM2 := Aside0.mk hz_; clear hz_
  obtain ⟨kh, hz_⟩ := (heldIntSS_ev y0 1 oy0 (by omega) (by omega)).rounds; have KH := Aside0.mk hz_; clear hz_
  obtain ⟨kh1, hz_⟩ := (heldIntS_ev y1.length (1 + (totL y0 : Int)) (by omega) (by omega) (by omega)).rounds; have KH1 := Aside0.mk hz_; clear hz_
  obtain ⟨kh2, hz_⟩ := (heldIntS_ev y2.length ((1 + (totL y0 : Int)) + (y1.length : Int)) (by omega) (by omega) (by omega)).rounds; have KH2 := Aside0.mk hz_; clear hz_
  obtain ⟨z6, z7, z8, z9, z10, z11, z12, z13, z14, z15, z16, z17, z18⟩ := LW.at_ BX5.out
  go_wp2_with fail
  refine calls_gen (fun W' => Below w3.heap.size w3 W') ?gb ?_
  case gb => repeat (first | (with_reducible exact Below.refl _ _) | refine below_set ?_ (Nat.le_refl _) | apply below_alloc | apply pw_below_drewN)
  rintro W19 hbw
  clear z6 z7 z8 z9 z10 z11 z12 z13 z14 z15 z16 z17 z18
  have hrd := HQ.out.below (below_step HB4.out hbw)
  go_at_call 14; (refine (toWorld_c y q W19 hrd OK.out).mono ?_); rintro e w21 ⟨p22, rfl, hm, hb⟩
  rw [← HXE.out] at hm ⊢
  have HO23 := Aside0.mk ((hm.lower (Nat.le_trans HB4.out.size hbw.size)).mono (ok' := fun k => w3.heap.size ≤ k ∧ k < w21.heap.size) (fun k h => ⟨Nat.le_trans hbw.size h.1, h.2⟩))
  have hs := below_step hbw hb
  have HB24 := Aside0.mk (below_step HB4.out hs)
  clear HB4
  have BX25 := Aside0.mk (blk_below BX5.out hs); clear BX5
  replace HS := Aside0.mk (And.intro HS.out (hs.size : w3.heap.size ≤ w21.heap.size))
  clear hm hb hs hbw hrd
  obtain ⟨z26, z27, z28, z29, z30, z31, z32, z33, z34, z35, z36, z37, z38⟩ := LW.at_ BX25.out
  go_wp2_with fail
  refine calls_gen (fun W' => Below w21.heap.size w21 W') ?gb ?_
  case gb => repeat (first | (with_reducible exact Below.refl _ _) | refine below_set ?_ (Nat.le_refl _) | apply below_alloc | apply pw_below_drewN)
  rintro W39 hbw
  clear z26 z27 z28 z29 z30 z31 z32 z33 z34 z35 z36 z37 z38
  have h48 := (HO23.out.rd).below hbw
  go_at_call 21; (refine (spec_RowsOf.calls ks x.d0 p22.A1 p22.c1 x.l1 p22.A2 p22.c2 x.l2 p22.A3 p22.c3 x.l3 p22.A4 p22.c4 x.l4 p22.A5 p22.c5 x.l5 p22.A6 p22.c6 x.l6 x.d7 x.d8 x.d9 x.d10 p22.A11 p22.c11 x.l11 x.d12 (y0) (y1) (y2) W39 h48.r1 h48.h1 h48.r2 h48.h2 h48.r3 h48.h3 h48.r4 h48.h4 h48.r5 h48.h5 h48.r6 h48.h6 h48.r11 h48.h11 KS.out).mono ?_); rintro e w41 ⟨v42, v44, v46, rfl, ho43, ho45, ho47, hb⟩
  obtain ⟨A49, c50, rfl⟩ := Kd.S_slice ho43
  obtain ⟨A51, c52, rfl⟩ := Kd.R_slice ho45
  obtain ⟨A53, c54, rfl⟩ := Kd.R_slice ho47
  have hz := Kd.S_mono (ok' := fun k => (w21.heap.size ≤ k ∧ k < w41.heap.size) ∧ some k ≠ (.slice A51 (y1).length c52 : Value).ownBlock ∧ some k ≠ (.slice A53 (y2).length c54 : Value).ownBlock) (Kd.S_lower (Kd.S_bound ho43) (Nat.le_trans HB24.out.size hbw.size)) (fun k hk => ⟨⟨Nat.le_trans hbw.size hk.2.1, hk.2.2.1⟩, hk.1⟩)
  have HO55 := Aside0.mk hz; clear hz
  have hz := Kd.R_mono (ok' := fun k => (w21.heap.size ≤ k ∧ k < w41.heap.size) ∧ some k ≠ (.slice A53 (y2).length c54 : Value).ownBlock) (Kd.R_lower (Kd.R_bound ho45) (Nat.le_trans HB24.out.size hbw.size)) (fun k hk => ⟨⟨Nat.le_trans hbw.size hk.2.1, hk.2.2.1⟩, hk.1⟩)
  have HO56 := Aside0.mk (Kd.R_mono (ok' := (fun k => (w21.heap.size ≤ k ∧ k < w41.heap.size) ∧ some k = (.slice A51 (y1).length c52 : Value).ownBlock ∧ some k ≠ (.slice A53 (y2).length c54 : Value).ownBlock)) (Kd.R_tight rfl hz) (fun k hk => by have h1 : some k = (.slice A51 (y1).length c52 : Value).ownBlock := (by simpa using hk); exact ⟨(hz.1 k h1.symm).1, h1, (hz.1 k h1.symm).2⟩)); clear hz
  have hz := Kd.R_mono (ok' := fun k => (w21.heap.size ≤ k ∧ k < w41.heap.size) ∧ some k ≠ (.slice A51 (y1).length c52 : Value).ownBlock) (Kd.R_lower (Kd.R_bound ho47) (Nat.le_trans HB24.out.size hbw.size)) (fun k hk => ⟨⟨Nat.le_trans hbw.size hk.2.1, hk.2.2.1⟩, hk.1⟩)
  have HO57 := Aside0.mk (Kd.R_mono (ok' := (fun k => (w21.heap.size ≤ k ∧ k < w41.heap.size) ∧ some k = (.slice A53 (y2).length c54 : Value).ownBlock ∧ some k ≠ (.slice A51 (y1).length c52 : Value).ownBlock)) (Kd.R_tight rfl hz) (fun k hk => by have h1 : some k = (.slice A53 (y2).length c54 : Value).ownBlock := (by simpa using hk); exact ⟨(hz.1 k h1.symm).1, h1, (hz.1 k h1.symm).2⟩)); clear hz
  clear ho43 ho45 ho47
  have hs := below_step hbw hb
  have HB58 := Aside0.mk (below_step HB24.out hs)
  clear HB24
  have HO59 := Aside0.mk (HO23.out.below hs); clear HO23
  have BX60 := Aside0.mk (blk_below BX25.out hs); clear BX25
  replace HS := Aside0.mk (And.intro HS.out (hs.size : w21.heap.size ≤ w41.heap.size))
  clear hb hs hbw h48
  clear HO59
  obtain ⟨z61, z62, z63, z64, z65, z66, z67, z68, z69, z70, z71, z72, z73⟩ := LW.at_ BX60.out
  go_wp2_with fail
  refine calls_gen (fun W' => Below w41.heap.size w41 W') ?gb ?_
  case gb => repeat (first | (with_reducible exact Below.refl _ _) | refine below_set ?_ (Nat.le_refl _) | apply below_alloc | apply pw_below_drewN)
  rintro W74 hbw
  clear z61 z62 z63 z64 z65 z66 z67 z68 z69 z70 z71 z72 z73
  have hrd := HQ.out.below (below_step HB58.out hbw)
  go_at_call 14; (refine (toWorld_c y q W74 hrd OK.out).mono ?_); rintro e w76 ⟨p77, rfl, hm, hb⟩
  rw [← HXE.out] at hm ⊢
  have HO78 := Aside0.mk ((hm.lower (Nat.le_trans HB58.out.size hbw.size)).mono (ok' := fun k => w41.heap.size ≤ k ∧ k < w76.heap.size) (fun k h => ⟨Nat.le_trans hbw.size h.1, h.2⟩))
  have hs := below_step hbw hb
  have HB79 := Aside0.mk (below_step HB58.out hs)
  clear HB58
  have HO80 := Aside0.mk (Kd.S_below HO55.out hs); clear HO55
  have HO81 := Aside0.mk (Kd.R_below HO56.out hs); clear HO56
  have HO82 := Aside0.mk (Kd.R_below HO57.out hs); clear HO57
  have BX83 := Aside0.mk (blk_below BX60.out hs); clear BX60
  replace HS := Aside0.mk (And.intro HS.out (hs.size : w41.heap.size ≤ w76.heap.size))
  clear hm hb hs hbw hrd
  obtain ⟨z84, z85, z86, z87, z88, z89, z90, z91, z92, z93, z94, z95, z96⟩ := LW.at_ BX83.out
  go_wp2_with fail
  refine calls_gen (fun W' => Below w76.heap.size w76 W' ∧ W'.heap[w76.heap.size]? = some (.cells (x.cells p77) 42 (0, 0))) ⟨?gb, ?gn⟩ ?_
  case gb => repeat (first | (with_reducible exact Below.refl _ _) | refine below_set ?_ (Nat.le_refl _) | apply below_alloc | apply pw_below_drewN)
  case gn => (repeat (refine blk_drewN ?_ _)); exact blk_new _ _
  rintro W97 ⟨hbw, hbn⟩
  clear z84 z85 z86 z87 z88 z89 z90 z91 z92 z93 z94 z95 z96
  have h106 := (HO78.out.rd).below hbw
  go_at_call 22; (refine (impl_RowsOf.calls ki x.d0 p77.A1 p77.c1 x.l1 p77.A2 p77.c2 x.l2 p77.A3 p77.c3 x.l3 p77.A4 p77.c4 x.l4 p77.A5 p77.c5 x.l5 p77.A6 p77.c6 x.l6 x.d7 x.d8 x.d9 x.d10 p77.A11 p77.c11 x.l11 x.d12 (y0) (y1) (y2) W97 h106.r1 h106.h1 h106.r2 h106.h2 h106.r3 h106.h3 h106.r4 h106.h4 h106.r5 h106.h5 h106.r6 h106.h6 h106.r11 h106.h11 KI.out).mono ?_); rintro e w99 ⟨v100, v102, v104, rfl, ho101, ho103, ho105, hb⟩
  obtain ⟨A107, c108, rfl⟩ := Kd.S_slice ho101
  obtain ⟨A109, c110, rfl⟩ := Kd.R_slice ho103
  obtain ⟨A111, c112, rfl⟩ := Kd.R_slice ho105
  have hz := Kd.S_mono (ok' := fun k => (w76.heap.size ≤ k ∧ k < w99.heap.size) ∧ some k ≠ (.slice A109 (y1).length c110 : Value).ownBlock ∧ some k ≠ (.slice A111 (y2).length c112 : Value).ownBlock) (Kd.S_lower (Kd.S_bound ho101) (Nat.le_trans HB79.out.size hbw.size)) (fun k hk => ⟨⟨Nat.le_trans hbw.size hk.2.1, hk.2.2.1⟩, hk.1⟩)
  have HO113 := Aside0.mk hz; clear hz
  have hz := Kd.R_mono (ok' := fun k => (w76.heap.size ≤ k ∧ k < w99.heap.size) ∧ some k ≠ (.slice A111 (y2).length c112 : Value).ownBlock) (Kd.R_lower (Kd.R_bound ho103) (Nat.le_trans HB79.out.size hbw.size)) (fun k hk => ⟨⟨Nat.le_trans hbw.size hk.2.1, hk.2.2.1⟩, hk.1⟩)
  have HO114 := Aside0.mk (Kd.R_mono (ok' := (fun k => (w76.heap.size ≤ k ∧ k < w99.heap.size) ∧ some k = (.slice A109 (y1).length c110 : Value).ownBlock ∧ some k ≠ (.slice A111 (y2).length c112 : Value).ownBlock)) (Kd.R_tight rfl hz) (fun k hk => by have h1 : some k = (.slice A109 (y1).length c110 : Value).ownBlock := (by simpa using hk); exact ⟨(hz.1 k h1.symm).1, h1, (hz.1 k h1.symm).2⟩)); clear hz
  have hz := Kd.R_mono (ok' := fun k => (w76.heap.size ≤ k ∧ k < w99.heap.size) ∧ some k ≠ (.slice A109 (y1).length c110 : Value).ownBlock) (Kd.R_lower (Kd.R_bound ho105) (Nat.le_trans HB79.out.size hbw.size)) (fun k hk => ⟨⟨Nat.le_trans hbw.size hk.2.1, hk.2.2.1⟩, hk.1⟩)
  have HO115 := Aside0.mk (Kd.R_mono (ok' := (fun k => (w76.heap.size ≤ k ∧ k < w99.heap.size) ∧ some k = (.slice A111 (y2).length c112 : Value).ownBlock ∧ some k ≠ (.slice A109 (y1).length c110 : Value).ownBlock)) (Kd.R_tight rfl hz) (fun k hk => by have h1 : some k = (.slice A111 (y2).length c112 : Value).ownBlock := (by simpa using hk); exact ⟨(hz.1 k h1.symm).1, h1, (hz.1 k h1.symm).2⟩)); clear hz
  clear ho101 ho103 ho105
  have hs := below_step hbw hb
  have HB116 := Aside0.mk (below_step HB79.out hs)
  clear HB79
  have HO117 := Aside0.mk (Kd.S_below HO80.out hs); clear HO80
  have HO118 := Aside0.mk (Kd.R_below HO81.out hs); clear HO81
  have HO119 := Aside0.mk (Kd.R_below HO82.out hs); clear HO82
  have HO120 := Aside0.mk (HO78.out.below hs); clear HO78
  have BX121 := Aside0.mk (blk_below BX83.out hs); clear BX83
  have BX122 := Aside0.mk (blk_below hbn hb)
  clear hbn
  replace HS := Aside0.mk (And.intro HS.out (hs.size : w76.heap.size ≤ w99.heap.size))
  replace HS := Aside0.mk (And.intro HS.out (blk_lt BX122.out))
  clear hb hs hbw h106
  obtain ⟨z123, z124, z125, z126, z127, z128, z129, z130, z131, z132, z133, z134, z135⟩ := LW.at_ BX121.out
  obtain ⟨z136, z137, z138, z139, z140, z141, z142, z143, z144, z145, z146, z147, z148⟩ := IW.at_ BX122.out
  go_wp2_with fail
  refine calls_gen (fun W' => Below w99.heap.size w99 W') ?gb ?_
  case gb => repeat (first | (with_reducible exact Below.refl _ _) | refine below_set ?_ (Nat.le_refl _) | apply below_alloc | apply pw_below_drewN)
  rintro W149 hbw
  clear z123 z124 z125 z126 z127 z128 z129 z130 z131 z132 z133 z134 z135 z136 z137 z138 z139 z140 z141 z142 z143 z144 z145 z146 z147 z148
  have h152 := Kd.S_reads' (Kd.S_below HO113.out hbw)
  have h153 := Kd.S_reads' (Kd.S_below HO117.out hbw)
  go_at_call 16; (refine (laws_eqIntSS.calls ke A107 c108 (y0) A49 c50 (y0) (true) W149 h152.2.2 h152.2.1 h153.2.2 h153.2.1 KE.out ⟨rfl⟩).mono ?_); rintro e w' ⟨rfl, ⟨nd, rfl⟩⟩
  have hb : Below W149.heap.size W149 (W149.drewN nd) := (by repeat (first | (with_reducible first | exact Below.refl _ _ | apply below_alloc | apply pw_below_drewN | apply below_drew1) | exact Below.refl _ _))
  generalize W149.drewN nd = w151 at hb ⊢
  have hs := below_step hbw hb
  have HB154 := Aside0.mk (below_step HB116.out hs)
  clear HB116
  have HO155 := Aside0.mk (Kd.S_below HO117.out hs); clear HO117
  have HO156 := Aside0.mk (Kd.R_below HO118.out hs); clear HO118
  have HO157 := Aside0.mk (Kd.R_below HO119.out hs); clear HO119
  have HO158 := Aside0.mk (HO120.out.below hs); clear HO120
  have HO159 := Aside0.mk (Kd.S_below HO113.out hs); clear HO113
  have HO160 := Aside0.mk (Kd.R_below HO114.out hs); clear HO114
  have HO161 := Aside0.mk (Kd.R_below HO115.out hs); clear HO115
  have BX162 := Aside0.mk (blk_below BX121.out hs); clear BX121
  have BX163 := Aside0.mk (blk_below BX122.out hs); clear BX122
  replace HS := Aside0.mk (And.intro HS.out (hs.size : w99.heap.size ≤ w151.heap.size))
  clear hb hs hbw h152 h153
  obtain ⟨z164, z165, z166, z167, z168, z169, z170, z171, z172, z173, z174, z175, z176⟩ := LW.at_ BX162.out
  obtain ⟨z177, z178, z179, z180, z181, z182, z183, z184, z185, z186, z187, z188, z189⟩ := IW.at_ BX163.out
  go_wp2_with fail
  refine calls_gen (fun W' => Below w151.heap.size w151 W') ?gb ?_
  case gb => repeat (first | (with_reducible exact Below.refl _ _) | refine below_set ?_ (Nat.le_refl _) | apply below_alloc | apply pw_below_drewN)
  rintro W190 hbw
  clear z164 z165 z166 z167 z168 z169 z170 z171 z172 z173 z174 z175 z176 z177 z178 z179 z180 z181 z182 z183 z184 z185 z186 z187 z188 z189
  have h193 := Kd.R_reads' (Kd.R_below HO160.out hbw)
  have h194 := Kd.R_reads' (Kd.R_below HO156.out hbw)
  go_at_call 23; (refine (laws_eqIntS.calls ke1 A109 c110 (y1) A51 c52 (y1) (true) W190 h193.2.2 h193.2.1 h194.2.2 h194.2.1 KE1.out ⟨rfl⟩).mono ?_); rintro e w' ⟨rfl, ⟨nd, rfl⟩⟩
  have hb : Below W190.heap.size W190 (W190.drewN nd) := (by repeat (first | (with_reducible first | exact Below.refl _ _ | apply below_alloc | apply pw_below_drewN | apply below_drew1) | exact Below.refl _ _))
  generalize W190.drewN nd = w192 at hb ⊢
  have hs := below_step hbw hb
  have HB195 := Aside0.mk (below_step HB154.out hs)
  clear HB154
  have HO196 := Aside0.mk (Kd.S_below HO155.out hs); clear HO155
  have HO197 := Aside0.mk (Kd.R_below HO156.out hs); clear HO156
  have HO198 := Aside0.mk (Kd.R_below HO157.out hs); clear HO157
  have HO199 := Aside0.mk (HO158.out.below hs); clear HO158
  have HO200 := Aside0.mk (Kd.S_below HO159.out hs); clear HO159
  have HO201 := Aside0.mk (Kd.R_below HO160.out hs); clear HO160
  have HO202 := Aside0.mk (Kd.R_below HO161.out hs); clear HO161
  have BX203 := Aside0.mk (blk_below BX162.out hs); clear BX162
  have BX204 := Aside0.mk (blk_below BX163.out hs); clear BX163
  replace HS := Aside0.mk (And.intro HS.out (hs.size : w151.heap.size ≤ w192.heap.size))
  clear hb hs hbw h193 h194
  obtain ⟨z205, z206, z207, z208, z209, z210, z211, z212, z213, z214, z215, z216, z217⟩ := LW.at_ BX203.out
  obtain ⟨z218, z219, z220, z221, z222, z223, z224, z225, z226, z227, z228, z229, z230⟩ := IW.at_ BX204.out
  go_wp2_with fail
  refine calls_gen (fun W' => Below w192.heap.size w192 W') ?gb ?_
  case gb => repeat (first | (with_reducible exact Below.refl _ _) | refine below_set ?_ (Nat.le_refl _) | apply below_alloc | apply pw_below_drewN)
  rintro W231 hbw
  clear z205 z206 z207 z208 z209 z210 z211 z212 z213 z214 z215 z216 z217 z218 z219 z220 z221 z222 z223 z224 z225 z226 z227 z228 z229 z230
  have h234 := Kd.R_reads' (Kd.R_below HO202.out hbw)
  have h235 := Kd.R_reads' (Kd.R_below HO198.out hbw)
  go_at_call 23; (refine (laws_eqIntS.calls ke2 A111 c112 (y2) A53 c54 (y2) (true) W231 h234.2.2 h234.2.1 h235.2.2 h235.2.1 KE2.out ⟨rfl⟩).mono ?_); rintro e w' ⟨rfl, ⟨nd, rfl⟩⟩
  have hb : Below W231.heap.size W231 (W231.drewN nd) := (by repeat (first | (with_reducible first | exact Below.refl _ _ | apply below_alloc | apply pw_below_drewN | apply below_drew1) | exact Below.refl _ _))
  generalize W231.drewN nd = w233 at hb ⊢
  have hs := below_step hbw hb
  have HB236 := Aside0.mk (below_step HB195.out hs)
  clear HB195
  have HO237 := Aside0.mk (Kd.S_below HO196.out hs); clear HO196
  have HO238 := Aside0.mk (Kd.R_below HO197.out hs); clear HO197
  have HO239 := Aside0.mk (Kd.R_below HO198.out hs); clear HO198
  have HO240 := Aside0.mk (HO199.out.below hs); clear HO199
  have HO241 := Aside0.mk (Kd.S_below HO200.out hs); clear HO200
  have HO242 := Aside0.mk (Kd.R_below HO201.out hs); clear HO201
  have HO243 := Aside0.mk (Kd.R_below HO202.out hs); clear HO202
  have BX244 := Aside0.mk (blk_below BX203.out hs); clear BX203
  have BX245 := Aside0.mk (blk_below BX204.out hs); clear BX204
  replace HS := Aside0.mk (And.intro HS.out (hs.size : w192.heap.size ≤ w233.heap.size))
  clear hb hs hbw h234 h235
  go_upto_region 10 with fail
  (try simp only [Act.put, List.setIfInBounds_toArray, List.set_cons_zero, List.set_cons_succ])
  go_cut [57] (fun v57 wc246 => v57 = .bool false ∧ Below w233.heap.size w233 wc246)
  case first =>
    go_region_held3 (fun w' => Below w233.heap.size w233 w' ∧ (w'.cell? ⟨w76.heap.size, 0, none⟩ = some (.int .i64 x.d0) ∧ w'.cell? ⟨w76.heap.size, 1, none⟩ = some (.slice p77.A1 x.l1.length p77.c1) ∧ w'.cell? ⟨w76.heap.size, 2, none⟩ = some (.slice p77.A2 x.l2.length p77.c2) ∧ w'.cell? ⟨w76.heap.size, 3, none⟩ = some (.slice p77.A3 x.l3.length p77.c3) ∧ w'.cell? ⟨w76.heap.size, 4, none⟩ = some (.slice p77.A4 x.l4.length p77.c4) ∧ w'.cell? ⟨w76.heap.size, 5, none⟩ = some (.slice p77.A5 x.l5.length p77.c5) ∧ w'.cell? ⟨w76.heap.size, 6, none⟩ = some (.slice p77.A6 x.l6.length p77.c6) ∧ w'.cell? ⟨w76.heap.size, 7, none⟩ = some (.int .i64 x.d7) ∧ w'.cell? ⟨w76.heap.size, 8, none⟩ = some (.int .i64 x.d8) ∧ w'.cell? ⟨w76.heap.size, 9, none⟩ = some (.int .i64 x.d9) ∧ w'.cell? ⟨w76.heap.size, 10, none⟩ = some (.int .i64 x.d10) ∧ w'.cell? ⟨w76.heap.size, 11, none⟩ = some (.slice p77.A11 x.l11.length p77.c11) ∧ w'.cell? ⟨w76.heap.size, 12, none⟩ = some (.int .i64 x.d12)) ∧ (w'.cell? ⟨w.heap.size, 0, none⟩ = some (.int .i64 y.d0) ∧ w'.cell? ⟨w.heap.size, 1, none⟩ = some (.slice q.A1 y.l1.length q.c1) ∧ w'.cell? ⟨w.heap.size, 2, none⟩ = some (.slice q.A2 y.l2.length q.c2) ∧ w'.cell? ⟨w.heap.size, 3, none⟩ = some (.slice q.A3 y.l3.length q.c3) ∧ w'.cell? ⟨w.heap.size, 4, none⟩ = some (.slice q.A4 y.l4.length q.c4) ∧ w'.cell? ⟨w.heap.size, 5, none⟩ = some (.slice q.A5 y.l5.length q.c5) ∧ w'.cell? ⟨w.heap.size, 6, none⟩ = some (.slice q.A6 y.l6.length q.c6) ∧ w'.cell? ⟨w.heap.size, 7, none⟩ = some (.int .i64 y.d7) ∧ w'.cell? ⟨w.heap.size, 8, none⟩ = some (.int .i64 y.d8) ∧ w'.cell? ⟨w.heap.size, 9, none⟩ = some (.int .i64 y.d9) ∧ w'.cell? ⟨w.heap.size, 10, none⟩ = some (.int .i64 y.d10) ∧ w'.cell? ⟨w.heap.size, 11, none⟩ = some (.slice q.A11 y.l11.length q.c11) ∧ w'.cell? ⟨w.heap.size, 12, none⟩ = some (.int .i64 y.d12))) (first | exact ⟨(below_step (below_step (w := w233) (by repeat (first | (with_reducible first | exact Below.refl _ _ | apply below_alloc | apply pw_below_drewN | apply below_drew1) | exact Below.refl _ _)) hb1) (below_step (by repeat (first | (with_reducible first | exact Below.refl _ _ | apply below_alloc | apply pw_below_drewN | apply below_drew1) | exact Below.refl _ _)) hb2)), IW.at_ (blk_below BX245.out (below_step (below_step (w := w233) (by repeat (first | (with_reducible first | exact Below.refl _ _ | apply below_alloc | apply pw_below_drewN | apply below_drew1) | exact Below.refl _ _)) hb1) (below_step (by repeat (first | (with_reducible first | exact Below.refl _ _ | apply below_alloc | apply pw_below_drewN | apply below_drew1) | exact Below.refl _ _)) hb2))), LW.at_ (blk_below BX244.out (below_step (below_step (w := w233) (by repeat (first | (with_reducible first | exact Below.refl _ _ | apply below_alloc | apply pw_below_drewN | apply below_drew1) | exact Below.refl _ _)) hb1) (below_step (by repeat (first | (with_reducible first | exact Below.refl _ _ | apply below_alloc | apply pw_below_drewN | apply below_drew1) | exact Below.refl _ _)) hb2)))⟩ | exact ⟨(below_step (w := w233) (by repeat (first | (with_reducible first | exact Below.refl _ _ | apply below_alloc | apply pw_below_drewN | apply below_drew1) | exact Below.refl _ _)) hb1), IW.at_ (blk_below BX245.out (below_step (w := w233) (by repeat (first | (with_reducible first | exact Below.refl _ _ | apply below_alloc | apply pw_below_drewN | apply below_drew1) | exact Below.refl _ _)) hb1)), LW.at_ (blk_below BX244.out (below_step (w := w233) (by repeat (first | (with_reducible first | exact Below.refl _ _ | apply below_alloc | apply pw_below_drewN | apply below_drew1) | exact Below.refl _ _)) hb1))⟩ | exact ⟨(by repeat (first | (with_reducible first | exact Below.refl _ _ | apply below_alloc | apply pw_below_drewN | apply below_drew1) | exact Below.refl _ _)), IW.at_ (blk_below BX245.out (by repeat (first | (with_reducible first | exact Below.refl _ _ | apply below_alloc | apply pw_below_drewN | apply below_drew1) | exact Below.refl _ _))), LW.at_ (blk_below BX244.out (by repeat (first | (with_reducible first | exact Below.refl _ _ | apply below_alloc | apply pw_below_drewN | apply below_drew1) | exact Below.refl _ _)))⟩)
      (first | (go_at_call 14; (refine (toWorld_c y q _ (HQ.out.below (below_step HB236.out (by repeat (first | (with_reducible first | exact Below.refl _ _ | apply below_alloc | apply pw_below_drewN | apply below_drew1) | exact Below.refl _ _)))) OK.out).mono ?_); rintro e w1_ ⟨p_, rfl, hm, hb1⟩; rw [← HXE.out] at hm ⊢) | (go_at_call 17; (refine (eqWorld_c x p77 p_ _ ((HO240.out.rd).below (below_step (w := w233) (by repeat (first | (with_reducible first | exact Below.refl _ _ | apply below_alloc | apply pw_below_drewN | apply below_drew1) | exact Below.refl _ _)) hb1)) (hm.rd.below (by repeat (first | (with_reducible first | exact Below.refl _ _ | apply below_alloc | apply pw_below_drewN | apply below_drew1) | exact Below.refl _ _))) OKX.out).mono ?_); rintro e w2_ ⟨rfl, hb2⟩) | fail)
    all_goals (try go_wp2_with fail)
    all_goals go_meet
    all_goals exact ⟨rfl, below_step (below_step (below_step (w := w233) (by repeat (first | (with_reducible first | exact Below.refl _ _ | apply below_alloc | apply pw_below_drewN | apply below_drew1) | exact Below.refl _ _)) hb1) (below_step (by repeat (first | (with_reducible first | exact Below.refl _ _ | apply below_alloc | apply pw_below_drewN | apply below_drew1) | exact Below.refl _ _)) hb2)) (by repeat (first | (with_reducible first | exact Below.refl _ _ | apply below_alloc | apply pw_below_drewN | apply below_drew1) | exact Below.refl _ _))⟩
  case rest =>
    obtain ⟨rfl, hbw⟩ := hcut
    obtain ⟨wc246, hw9⟩ : ∃ w9, w9 = wc := ⟨_, rfl⟩
    subst hw9
    have hs := hbw
    have HB247 := Aside0.mk (below_step HB236.out hs)
    clear HB236
    have HO248 := Aside0.mk (Kd.S_below HO237.out hs); clear HO237
    have HO249 := Aside0.mk (Kd.R_below HO238.out hs); clear HO238
    have HO250 := Aside0.mk (Kd.R_below HO239.out hs); clear HO239
    have HO251 := Aside0.mk (HO240.out.below hs); clear HO240
    have HO252 := Aside0.mk (Kd.S_below HO241.out hs); clear HO241
    have HO253 := Aside0.mk (Kd.R_below HO242.out hs); clear HO242
    have HO254 := Aside0.mk (Kd.R_below HO243.out hs); clear HO243
    have BX255 := Aside0.mk (blk_below BX244.out hs); clear BX244
    have BX256 := Aside0.mk (blk_below BX245.out hs); clear BX245
    replace HS := Aside0.mk (And.intro HS.out (hs.size : w233.heap.size ≤ wc246.heap.size))
    clear hs hbw
    obtain ⟨z257, z258, z259, z260, z261, z262, z263, z264, z265, z266, z267, z268, z269⟩ := LW.at_ BX255.out
    obtain ⟨z270, z271, z272, z273, z274, z275, z276, z277, z278, z279, z280, z281, z282⟩ := IW.at_ BX256.out
    go_wp2_with fail
    refine calls_gen (fun W' => Below wc246.heap.size wc246 W') ?gb ?_
    case gb => repeat (first | (with_reducible exact Below.refl _ _) | refine below_set ?_ (Nat.le_refl _) | apply below_alloc | apply pw_below_drewN)
    rintro W283 hbw
    clear z257 z258 z259 z260 z261 z262 z263 z264 z265 z266 z267 z268 z269 z270 z271 z272 z273 z274 z275 z276 z277 z278 z279 z280 z281 z282
    go_at_call 18; (refine (markWorld_c x p77 (fun k => w41.heap.size ≤ k ∧ k < w76.heap.size) w W283 (below_step HB247.out hbw) (HO251.out.below hbw) OKX.out (1) (by omega) (by omega)).mono ?_); rintro e w285 ⟨n286, rfl, hn0, hb, hkp⟩
    have hkz := (Kept.of_below (w := wc246) hbw (fun k => w41.heap.size ≤ k ∧ k < w76.heap.size)).then_ hkp (fun _ h_ => .inl h_)
    have HO287 := Aside0.mk (Kd.S_kept HO248.out hkz (fun k hk hp => by have := HS.out; omega)); clear HO248
    have HO288 := Aside0.mk (Kd.R_kept HO249.out hkz (fun k hk hp => by have := HS.out; omega)); clear HO249
    have HO289 := Aside0.mk (Kd.R_kept HO250.out hkz (fun k hk hp => by have := HS.out; omega)); clear HO250
    have HO290 := Aside0.mk (Kd.S_kept HO252.out hkz (fun k hk hp => by have := HS.out; omega)); clear HO252
    have HO291 := Aside0.mk (Kd.R_kept HO253.out hkz (fun k hk hp => by have := HS.out; omega)); clear HO253
    have HO292 := Aside0.mk (Kd.R_kept HO254.out hkz (fun k hk hp => by have := HS.out; omega)); clear HO254
    clear BX256
    have BX293 := Aside0.mk (blk_kept BX255.out hkz (by intro h; have := HS.out; omega)); clear BX255
    have HB294 := Aside0.mk hb; clear HB247
    replace HS := Aside0.mk (And.intro HS.out (hkz.1 : wc246.heap.size ≤ w285.heap.size))
    clear hkz hkp hb hbw
    have hnd : decide (n286 < 0) = false := decide_eq_false (by omega)
    obtain ⟨z295, z296, z297, z298, z299, z300, z301, z302, z303, z304, z305, z306, z307⟩ := LW.at_ BX293.out
    go_wp2_with fail
    refine calls_gen (fun W' => Below w285.heap.size w285 W') ?gb ?_
    case gb => repeat (first | (with_reducible exact Below.refl _ _) | refine below_set ?_ (Nat.le_refl _) | apply below_alloc | apply pw_below_drewN)
    rintro W308 hbw
    clear z295 z296 z297 z298 z299 z300 z301 z302 z303 z304 z305 z306 z307
    have h311 := Kd.S_reads' (Kd.S_below HO290.out hbw)
    have h312 := Kd.S_reads' (Kd.S_below HO287.out hbw)
    go_at_call 16; (refine (laws_eqIntSS.calls ke A107 c108 (y0) A49 c50 (y0) (true) W308 h311.2.2 h311.2.1 h312.2.2 h312.2.1 KE.out ⟨rfl⟩).mono ?_); rintro e w' ⟨rfl, ⟨nd, rfl⟩⟩
    have hb : Below W308.heap.size W308 (W308.drewN nd) := (by repeat (first | (with_reducible first | exact Below.refl _ _ | apply below_alloc | apply pw_below_drewN | apply below_drew1) | exact Below.refl _ _))
    generalize W308.drewN nd = w310 at hb ⊢
    have hs := below_step hbw hb
    have HB313 := Aside0.mk (below_step HB294.out hs)
    clear HB294
    have HO314 := Aside0.mk (Kd.S_below HO287.out hs); clear HO287
    have HO315 := Aside0.mk (Kd.R_below HO288.out hs); clear HO288
    have HO316 := Aside0.mk (Kd.R_below HO289.out hs); clear HO289
    have HO317 := Aside0.mk (Kd.S_below HO290.out hs); clear HO290
    have HO318 := Aside0.mk (Kd.R_below HO291.out hs); clear HO291
    have HO319 := Aside0.mk (Kd.R_below HO292.out hs); clear HO292
    have BX320 := Aside0.mk (blk_below BX293.out hs); clear BX293
    replace HS := Aside0.mk (And.intro HS.out (hs.size : w285.heap.size ≤ w310.heap.size))
    clear hb hs hbw h311 h312
    obtain ⟨z321, z322, z323, z324, z325, z326, z327, z328, z329, z330, z331, z332, z333⟩ := LW.at_ BX320.out
    go_wp2_with fail
    refine calls_gen (fun W' => Below w310.heap.size w310 W') ?gb ?_
    case gb => repeat (first | (with_reducible exact Below.refl _ _) | refine below_set ?_ (Nat.le_refl _) | apply below_alloc | apply pw_below_drewN)
    rintro W334 hbw
    clear z321 z322 z323 z324 z325 z326 z327 z328 z329 z330 z331 z332 z333
    have h337 := Kd.R_reads' (Kd.R_below HO318.out hbw)
    have h338 := Kd.R_reads' (Kd.R_below HO315.out hbw)
    go_at_call 23; (refine (laws_eqIntS.calls ke1 A109 c110 (y1) A51 c52 (y1) (true) W334 h337.2.2 h337.2.1 h338.2.2 h338.2.1 KE1.out ⟨rfl⟩).mono ?_); rintro e w' ⟨rfl, ⟨nd, rfl⟩⟩
    have hb : Below W334.heap.size W334 (W334.drewN nd) := (by repeat (first | (with_reducible first | exact Below.refl _ _ | apply below_alloc | apply pw_below_drewN | apply below_drew1) | exact Below.refl _ _))
    generalize W334.drewN nd = w336 at hb ⊢
    have hs := below_step hbw hb
    have HB339 := Aside0.mk (below_step HB313.out hs)
    clear HB313
    have HO340 := Aside0.mk (Kd.S_below HO314.out hs); clear HO314
    have HO341 := Aside0.mk (Kd.R_below HO315.out hs); clear HO315
    have HO342 := Aside0.mk (Kd.R_below HO316.out hs); clear HO316
    have HO343 := Aside0.mk (Kd.S_below HO317.out hs); clear HO317
    have HO344 := Aside0.mk (Kd.R_below HO318.out hs); clear HO318
    have HO345 := Aside0.mk (Kd.R_below HO319.out hs); clear HO319
    have BX346 := Aside0.mk (blk_below BX320.out hs); clear BX320
    replace HS := Aside0.mk (And.intro HS.out (hs.size : w310.heap.size ≤ w336.heap.size))
    clear hb hs hbw h337 h338
    obtain ⟨z347, z348, z349, z350, z351, z352, z353, z354, z355, z356, z357, z358, z359⟩ := LW.at_ BX346.out
    go_wp2_with fail
    refine calls_gen (fun W' => Below w336.heap.size w336 W') ?gb ?_
    case gb => repeat (first | (with_reducible exact Below.refl _ _) | refine below_set ?_ (Nat.le_refl _) | apply below_alloc | apply pw_below_drewN)
    rintro W360 hbw
    clear z347 z348 z349 z350 z351 z352 z353 z354 z355 z356 z357 z358 z359
    have h363 := Kd.R_reads' (Kd.R_below HO345.out hbw)
    have h364 := Kd.R_reads' (Kd.R_below HO342.out hbw)
    go_at_call 23; (refine (laws_eqIntS.calls ke2 A111 c112 (y2) A53 c54 (y2) (true) W360 h363.2.2 h363.2.1 h364.2.2 h364.2.1 KE2.out ⟨rfl⟩).mono ?_); rintro e w' ⟨rfl, ⟨nd, rfl⟩⟩
    have hb : Below W360.heap.size W360 (W360.drewN nd) := (by repeat (first | (with_reducible first | exact Below.refl _ _ | apply below_alloc | apply pw_below_drewN | apply below_drew1) | exact Below.refl _ _))
    generalize W360.drewN nd = w362 at hb ⊢
    have hs := below_step hbw hb
    have HB365 := Aside0.mk (below_step HB339.out hs)
    clear HB339
    have HO366 := Aside0.mk (Kd.S_below HO340.out hs); clear HO340
    have HO367 := Aside0.mk (Kd.R_below HO341.out hs); clear HO341
    have HO368 := Aside0.mk (Kd.R_below HO342.out hs); clear HO342
    have HO369 := Aside0.mk (Kd.S_below HO343.out hs); clear HO343
    have HO370 := Aside0.mk (Kd.R_below HO344.out hs); clear HO344
    have HO371 := Aside0.mk (Kd.R_below HO345.out hs); clear HO345
    have BX372 := Aside0.mk (blk_below BX346.out hs); clear BX346
    replace HS := Aside0.mk (And.intro HS.out (hs.size : w336.heap.size ≤ w362.heap.size))
    clear hb hs hbw h363 h364
    obtain ⟨z373, z374, z375, z376, z377, z378, z379, z380, z381, z382, z383, z384, z385⟩ := LW.at_ BX372.out
    go_wp2_with fail
    refine calls_gen (fun W' => Below w362.heap.size w362 W') ?gb ?_
    case gb => repeat (first | (with_reducible exact Below.refl _ _) | refine below_set ?_ (Nat.le_refl _) | apply below_alloc | apply pw_below_drewN)
    rintro W386 hbw
    clear z373 z374 z375 z376 z377 z378 z379 z380 z381 z382 z383 z384 z385
    go_at_call 19; (refine (markIntSS_c (fun k => (w76.heap.size ≤ k ∧ k < w99.heap.size) ∧ some k ≠ (.slice A109 (y1).length c110 : Value).ownBlock ∧ some k ≠ (.slice A111 (y2).length c112 : Value).ownBlock) _ (y0) (1) w W386 (below_step HB365.out hbw) (Kd.S_below HO369.out hbw) oy0 (by omega) (by omega)).mono ?_); rintro e w388 ⟨rfl, ho, hb, hkp⟩
    have HO389 := Aside0.mk (ho); clear ho
    have hkz := (Kept.of_below (w := w362) hbw (fun k => (w76.heap.size ≤ k ∧ k < w99.heap.size) ∧ some k ≠ (.slice A109 (y1).length c110 : Value).ownBlock ∧ some k ≠ (.slice A111 (y2).length c112 : Value).ownBlock)).then_ hkp (fun _ h_ => .inl h_)
    have HO390 := Aside0.mk (Kd.S_kept HO366.out hkz (fun k hk hp => by have := HS.out; omega)); clear HO366
    have HO391 := Aside0.mk (Kd.R_kept HO367.out hkz (fun k hk hp => by have := HS.out; omega)); clear HO367
    have HO392 := Aside0.mk (Kd.R_kept HO368.out hkz (fun k hk hp => by have := HS.out; omega)); clear HO368
    have HO393 := Aside0.mk (Kd.R_kept HO370.out hkz (fun k hk hp => hp.2.1 hk.2.1)); clear HO370
    have HO394 := Aside0.mk (Kd.R_kept HO371.out hkz (fun k hk hp => hp.2.2 hk.2.1)); clear HO371
    have BX395 := Aside0.mk (blk_kept BX372.out hkz (by intro h; have := HS.out; omega)); clear BX372
    have HB396 := Aside0.mk hb; clear HB365
    replace HS := Aside0.mk (And.intro HS.out (hkz.1 : w362.heap.size ≤ w388.heap.size))
    clear hkz hkp hb hbw
    clear HO369
    obtain ⟨z397, z398, z399, z400, z401, z402, z403, z404, z405, z406, z407, z408, z409⟩ := LW.at_ BX395.out
    go_wp2_with fail
    refine calls_gen (fun W' => Below w388.heap.size w388 W') ?gb ?_
    case gb => repeat (first | (with_reducible exact Below.refl _ _) | refine below_set ?_ (Nat.le_refl _) | apply below_alloc | apply pw_below_drewN)
    rintro W410 hbw
    clear z397 z398 z399 z400 z401 z402 z403 z404 z405 z406 z407 z408 z409
    go_at_call 24; (refine (laws_markIntS.calls km1 (fun k => (w76.heap.size ≤ k ∧ k < w99.heap.size) ∧ some k = (.slice A109 (y1).length c110 : Value).ownBlock ∧ some k ≠ (.slice A111 (y2).length c112 : Value).ownBlock) _ (y1) ((1 + (totL y0 : Int))) (((1 + (totL y0 : Int)) + (y1.length : Int))) ((mkI (1 + (totL y0 : Int)) y1.length)) w W410 (below_step HB396.out hbw) (Kd.R_below HO393.out hbw) KM1.out).mono ?_); rintro e w412 ⟨rfl, ho, hb, hkp⟩
    have HO413 := Aside0.mk (R_tight' rfl ho HO393.out); clear ho
    have hkz := (Kept.of_below (w := w388) hbw (fun k => (w76.heap.size ≤ k ∧ k < w99.heap.size) ∧ some k = (.slice A109 (y1).length c110 : Value).ownBlock ∧ some k ≠ (.slice A111 (y2).length c112 : Value).ownBlock)).then_ hkp (fun _ h_ => .inl h_)
    have HO414 := Aside0.mk (Kd.S_kept HO390.out hkz (fun k hk hp => by have := HS.out; omega)); clear HO390
    have HO415 := Aside0.mk (Kd.R_kept HO391.out hkz (fun k hk hp => by have := HS.out; omega)); clear HO391
    have HO416 := Aside0.mk (Kd.R_kept HO392.out hkz (fun k hk hp => by have := HS.out; omega)); clear HO392
    have HO417 := Aside0.mk (Kd.R_kept HO394.out hkz (fun k hk hp => hk.2.2 hp.2.1)); clear HO394
    have HO418 := Aside0.mk (Kd.S_kept HO389.out hkz (fun k hk hp => hk.2.1 hp.2.1)); clear HO389
    have BX419 := Aside0.mk (blk_kept BX395.out hkz (by intro h; have := HS.out; omega)); clear BX395
    have HB420 := Aside0.mk hb; clear HB396
    replace HS := Aside0.mk (And.intro HS.out (hkz.1 : w388.heap.size ≤ w412.heap.size))
    clear hkz hkp hb hbw
    clear HO393
    obtain ⟨z421, z422, z423, z424, z425, z426, z427, z428, z429, z430, z431, z432, z433⟩ := LW.at_ BX419.out
    go_wp2_with fail
    refine calls_gen (fun W' => Below w412.heap.size w412 W') ?gb ?_
    case gb => repeat (first | (with_reducible exact Below.refl _ _) | refine below_set ?_ (Nat.le_refl _) | apply below_alloc | apply pw_below_drewN)
    rintro W434 hbw
    clear z421 z422 z423 z424 z425 z426 z427 z428 z429 z430 z431 z432 z433
    go_at_call 24; (refine (laws_markIntS.calls km2 (fun k => (w76.heap.size ≤ k ∧ k < w99.heap.size) ∧ some k = (.slice A111 (y2).length c112 : Value).ownBlock ∧ some k ≠ (.slice A109 (y1).length c110 : Value).ownBlock) _ (y2) (((1 + (totL y0 : Int)) + (y1.length : Int))) ((((1 + (totL y0 : Int)) + (y1.length : Int)) + (y2.length : Int))) ((mkI ((1 + (totL y0 : Int)) + (y1.length : Int)) y2.length)) w W434 (below_step HB420.out hbw) (Kd.R_below HO417.out hbw) KM2.out).mono ?_); rintro e w436 ⟨rfl, ho, hb, hkp⟩
    have HO437 := Aside0.mk (R_tight' rfl ho HO417.out); clear ho
    have hkz := (Kept.of_below (w := w412) hbw (fun k => (w76.heap.size ≤ k ∧ k < w99.heap.size) ∧ some k = (.slice A111 (y2).length c112 : Value).ownBlock ∧ some k ≠ (.slice A109 (y1).length c110 : Value).ownBlock)).then_ hkp (fun _ h_ => .inl h_)
    have HO438 := Aside0.mk (Kd.S_kept HO414.out hkz (fun k hk hp => by have := HS.out; omega)); clear HO414
    have HO439 := Aside0.mk (Kd.R_kept HO415.out hkz (fun k hk hp => by have := HS.out; omega)); clear HO415
    have HO440 := Aside0.mk (Kd.R_kept HO416.out hkz (fun k hk hp => by have := HS.out; omega)); clear HO416
    have HO441 := Aside0.mk (Kd.S_kept HO418.out hkz (fun k hk hp => hk.2.2 hp.2.1)); clear HO418
    have HO442 := Aside0.mk (Kd.R_kept HO413.out hkz (fun k hk hp => hk.2.2 hp.2.1)); clear HO413
    have BX443 := Aside0.mk (blk_kept BX419.out hkz (by intro h; have := HS.out; omega)); clear BX419
    have HB444 := Aside0.mk hb; clear HB420
    replace HS := Aside0.mk (And.intro HS.out (hkz.1 : w412.heap.size ≤ w436.heap.size))
    clear hkz hkp hb hbw
    clear HO417
    obtain ⟨z445, z446, z447, z448, z449, z450, z451, z452, z453, z454, z455, z456, z457⟩ := LW.at_ BX443.out
    go_wp2_with fail
    refine calls_gen (fun W' => Below w436.heap.size w436 W') ?gb ?_
    case gb => repeat (first | (with_reducible exact Below.refl _ _) | refine below_set ?_ (Nat.le_refl _) | apply below_alloc | apply pw_below_drewN)
    rintro W458 hbw
    clear z445 z446 z447 z448 z449 z450 z451 z452 z453 z454 z455 z456 z457
    go_at_call 20; (refine (calls_cast ?ce (laws_heldIntSS.calls kh A107 c108 ((mkII (1) y0)) (1) ((1 + (totL y0 : Int))) W458 ?s0 ?s1 KH.out ⟨by omega⟩)).mono ?_); (case ce => simp only [mkI_length, mkII_length]); (case s0 => (have z_ := Kd.S_reads' (Kd.S_below HO441.out hbw); exact z_.2.2)); (case s1 => (have z_ := (Kd.S_reads' HO441.out).2.1; simp only [mkI_length, mkII_length]; exact z_)); rintro e w' ⟨rfl, ⟨nd, rfl⟩⟩
    have hb : Below W458.heap.size W458 (W458.drewN nd) := (by repeat (first | (with_reducible first | exact Below.refl _ _ | apply below_alloc | apply pw_below_drewN | apply below_drew1) | exact Below.refl _ _))
    generalize W458.drewN nd = w460 at hb ⊢
    have hs := below_step hbw hb
    have HB461 := Aside0.mk (below_step HB444.out hs)
    clear HB444
    have HO462 := Aside0.mk (Kd.S_below HO438.out hs); clear HO438
    have HO463 := Aside0.mk (Kd.R_below HO439.out hs); clear HO439
    have HO464 := Aside0.mk (Kd.R_below HO440.out hs); clear HO440
    have HO465 := Aside0.mk (Kd.S_below HO441.out hs); clear HO441
    have HO466 := Aside0.mk (Kd.R_below HO442.out hs); clear HO442
    have HO467 := Aside0.mk (Kd.R_below HO437.out hs); clear HO437
    have BX468 := Aside0.mk (blk_below BX443.out hs); clear BX443
    replace HS := Aside0.mk (And.intro HS.out (hs.size : w436.heap.size ≤ w460.heap.size))
    clear hb hs hbw
    obtain ⟨z469, z470, z471, z472, z473, z474, z475, z476, z477, z478, z479, z480, z481⟩ := LW.at_ BX468.out
    go_wp2_with fail
    refine calls_gen (fun W' => Below w460.heap.size w460 W') ?gb ?_
    case gb => repeat (first | (with_reducible exact Below.refl _ _) | refine below_set ?_ (Nat.le_refl _) | apply below_alloc | apply pw_below_drewN)
    rintro W482 hbw
    clear z469 z470 z471 z472 z473 z474 z475 z476 z477 z478 z479 z480 z481
    go_at_call 25; (refine (calls_cast ?ce (laws_heldIntS.calls kh1 A109 c110 ((mkI (1 + (totL y0 : Int)) y1.length)) ((1 + (totL y0 : Int))) (((1 + (totL y0 : Int)) + (y1.length : Int))) W482 ?s0 ?s1 KH1.out ⟨by omega⟩)).mono ?_); (case ce => simp only [mkI_length, mkII_length]); (case s0 => (have z_ := Kd.R_reads' (Kd.R_below HO466.out hbw); exact z_.2.2)); (case s1 => (have z_ := (Kd.R_reads' HO466.out).2.1; simp only [mkI_length, mkII_length]; exact z_)); rintro e w' ⟨rfl, ⟨nd, rfl⟩⟩
    have hb : Below W482.heap.size W482 (W482.drewN nd) := (by repeat (first | (with_reducible first | exact Below.refl _ _ | apply below_alloc | apply pw_below_drewN | apply below_drew1) | exact Below.refl _ _))
    generalize W482.drewN nd = w484 at hb ⊢
    have hs := below_step hbw hb
    have HB485 := Aside0.mk (below_step HB461.out hs)
    clear HB461
    have HO486 := Aside0.mk (Kd.S_below HO462.out hs); clear HO462
    have HO487 := Aside0.mk (Kd.R_below HO463.out hs); clear HO463
    have HO488 := Aside0.mk (Kd.R_below HO464.out hs); clear HO464
    have HO489 := Aside0.mk (Kd.S_below HO465.out hs); clear HO465
    have HO490 := Aside0.mk (Kd.R_below HO466.out hs); clear HO466
    have HO491 := Aside0.mk (Kd.R_below HO467.out hs); clear HO467
    have BX492 := Aside0.mk (blk_below BX468.out hs); clear BX468
    replace HS := Aside0.mk (And.intro HS.out (hs.size : w460.heap.size ≤ w484.heap.size))
    clear hb hs hbw
    obtain ⟨z493, z494, z495, z496, z497, z498, z499, z500, z501, z502, z503, z504, z505⟩ := LW.at_ BX492.out
    go_wp2_with fail
    refine calls_gen (fun W' => Below w484.heap.size w484 W') ?gb ?_
    case gb => repeat (first | (with_reducible exact Below.refl _ _) | refine below_set ?_ (Nat.le_refl _) | apply below_alloc | apply pw_below_drewN)
    rintro W506 hbw
    clear z493 z494 z495 z496 z497 z498 z499 z500 z501 z502 z503 z504 z505
    go_at_call 25; (refine (calls_cast ?ce (laws_heldIntS.calls kh2 A111 c112 ((mkI ((1 + (totL y0 : Int)) + (y1.length : Int)) y2.length)) (((1 + (totL y0 : Int)) + (y1.length : Int))) ((((1 + (totL y0 : Int)) + (y1.length : Int)) + (y2.length : Int))) W506 ?s0 ?s1 KH2.out ⟨by omega⟩)).mono ?_); (case ce => simp only [mkI_length, mkII_length]); (case s0 => (have z_ := Kd.R_reads' (Kd.R_below HO491.out hbw); exact z_.2.2)); (case s1 => (have z_ := (Kd.R_reads' HO491.out).2.1; simp only [mkI_length, mkII_length]; exact z_)); rintro e w' ⟨rfl, ⟨nd, rfl⟩⟩
    have hb : Below W506.heap.size W506 (W506.drewN nd) := (by repeat (first | (with_reducible first | exact Below.refl _ _ | apply below_alloc | apply pw_below_drewN | apply below_drew1) | exact Below.refl _ _))
    generalize W506.drewN nd = w508 at hb ⊢
    have hs := below_step hbw hb
    have HB509 := Aside0.mk (below_step HB485.out hs)
    clear HB485
    have HO510 := Aside0.mk (Kd.S_below HO486.out hs); clear HO486
    have HO511 := Aside0.mk (Kd.R_below HO487.out hs); clear HO487
    have HO512 := Aside0.mk (Kd.R_below HO488.out hs); clear HO488
    have HO513 := Aside0.mk (Kd.S_below HO489.out hs); clear HO489
    have HO514 := Aside0.mk (Kd.R_below HO490.out hs); clear HO490
    have HO515 := Aside0.mk (Kd.R_below HO491.out hs); clear HO491
    have BX516 := Aside0.mk (blk_below BX492.out hs); clear BX492
    replace HS := Aside0.mk (And.intro HS.out (hs.size : w484.heap.size ≤ w508.heap.size))
    clear hb hs hbw
    obtain ⟨z517, z518, z519, z520, z521, z522, z523, z524, z525, z526, z527, z528, z529⟩ := LW.at_ BX516.out
    go_wp2_with fail
    refine calls_gen (fun W' => Below w508.heap.size w508 W') ?gb ?_
    case gb => repeat (first | (with_reducible exact Below.refl _ _) | refine below_set ?_ (Nat.le_refl _) | apply below_alloc | apply pw_below_drewN)
    rintro W530 hbw
    clear z517 z518 z519 z520 z521 z522 z523 z524 z525 z526 z527 z528 z529
    have hrd := HQ.out.below (below_step HB509.out hbw)
    go_at_call 14; (refine (toWorld_c y q W530 hrd OK.out).mono ?_); rintro e w532 ⟨p533, rfl, hm, hb⟩
    rw [← HXE.out] at hm ⊢
    have HO534 := Aside0.mk ((hm.lower (Nat.le_trans HB509.out.size hbw.size)).mono (ok' := fun k => w508.heap.size ≤ k ∧ k < w532.heap.size) (fun k h => ⟨Nat.le_trans hbw.size h.1, h.2⟩))
    have hs := below_step hbw hb
    have HB535 := Aside0.mk (below_step HB509.out hs)
    clear HB509
    have HO536 := Aside0.mk (Kd.S_below HO510.out hs); clear HO510
    have HO537 := Aside0.mk (Kd.R_below HO511.out hs); clear HO511
    have HO538 := Aside0.mk (Kd.R_below HO512.out hs); clear HO512
    have HO539 := Aside0.mk (Kd.S_below HO513.out hs); clear HO513
    have HO540 := Aside0.mk (Kd.R_below HO514.out hs); clear HO514
    have HO541 := Aside0.mk (Kd.R_below HO515.out hs); clear HO515
    have BX542 := Aside0.mk (blk_below BX516.out hs); clear BX516
    replace HS := Aside0.mk (And.intro HS.out (hs.size : w508.heap.size ≤ w532.heap.size))
    clear hm hb hs hbw hrd
    obtain ⟨z543, z544, z545, z546, z547, z548, z549, z550, z551, z552, z553, z554, z555⟩ := LW.at_ BX542.out
    go_wp2_with fail
    refine calls_gen (fun W' => Below w532.heap.size w532 W') ?gb ?_
    case gb => repeat (first | (with_reducible exact Below.refl _ _) | refine below_set ?_ (Nat.le_refl _) | apply below_alloc | apply pw_below_drewN)
    rintro W556 hbw
    clear z543 z544 z545 z546 z547 z548 z549 z550 z551 z552 z553 z554 z555
    have h565 := (HO534.out.rd).below hbw
    go_at_call 22; (refine (impl_RowsOf.calls ki x.d0 p533.A1 p533.c1 x.l1 p533.A2 p533.c2 x.l2 p533.A3 p533.c3 x.l3 p533.A4 p533.c4 x.l4 p533.A5 p533.c5 x.l5 p533.A6 p533.c6 x.l6 x.d7 x.d8 x.d9 x.d10 p533.A11 p533.c11 x.l11 x.d12 (y0) (y1) (y2) W556 h565.r1 h565.h1 h565.r2 h565.h2 h565.r3 h565.h3 h565.r4 h565.h4 h565.r5 h565.h5 h565.r6 h565.h6 h565.r11 h565.h11 KI.out).mono ?_); rintro e w558 ⟨v559, v561, v563, rfl, ho560, ho562, ho564, hb⟩
    obtain ⟨A566, c567, rfl⟩ := Kd.S_slice ho560
    obtain ⟨A568, c569, rfl⟩ := Kd.R_slice ho562
    obtain ⟨A570, c571, rfl⟩ := Kd.R_slice ho564
    have hz := Kd.S_mono (ok' := fun k => (w532.heap.size ≤ k ∧ k < w558.heap.size) ∧ some k ≠ (.slice A568 (y1).length c569 : Value).ownBlock ∧ some k ≠ (.slice A570 (y2).length c571 : Value).ownBlock) (Kd.S_lower (Kd.S_bound ho560) (Nat.le_trans HB535.out.size hbw.size)) (fun k hk => ⟨⟨Nat.le_trans hbw.size hk.2.1, hk.2.2.1⟩, hk.1⟩)
    have HO572 := Aside0.mk hz; clear hz
    have hz := Kd.R_mono (ok' := fun k => (w532.heap.size ≤ k ∧ k < w558.heap.size) ∧ some k ≠ (.slice A570 (y2).length c571 : Value).ownBlock) (Kd.R_lower (Kd.R_bound ho562) (Nat.le_trans HB535.out.size hbw.size)) (fun k hk => ⟨⟨Nat.le_trans hbw.size hk.2.1, hk.2.2.1⟩, hk.1⟩)
    have HO573 := Aside0.mk (Kd.R_mono (ok' := (fun k => (w532.heap.size ≤ k ∧ k < w558.heap.size) ∧ some k = (.slice A568 (y1).length c569 : Value).ownBlock ∧ some k ≠ (.slice A570 (y2).length c571 : Value).ownBlock)) (Kd.R_tight rfl hz) (fun k hk => by have h1 : some k = (.slice A568 (y1).length c569 : Value).ownBlock := (by simpa using hk); exact ⟨(hz.1 k h1.symm).1, h1, (hz.1 k h1.symm).2⟩)); clear hz
    have hz := Kd.R_mono (ok' := fun k => (w532.heap.size ≤ k ∧ k < w558.heap.size) ∧ some k ≠ (.slice A568 (y1).length c569 : Value).ownBlock) (Kd.R_lower (Kd.R_bound ho564) (Nat.le_trans HB535.out.size hbw.size)) (fun k hk => ⟨⟨Nat.le_trans hbw.size hk.2.1, hk.2.2.1⟩, hk.1⟩)
    have HO574 := Aside0.mk (Kd.R_mono (ok' := (fun k => (w532.heap.size ≤ k ∧ k < w558.heap.size) ∧ some k = (.slice A570 (y2).length c571 : Value).ownBlock ∧ some k ≠ (.slice A568 (y1).length c569 : Value).ownBlock)) (Kd.R_tight rfl hz) (fun k hk => by have h1 : some k = (.slice A570 (y2).length c571 : Value).ownBlock := (by simpa using hk); exact ⟨(hz.1 k h1.symm).1, h1, (hz.1 k h1.symm).2⟩)); clear hz
    clear ho560 ho562 ho564
    have hs := below_step hbw hb
    have HB575 := Aside0.mk (below_step HB535.out hs)
    clear HB535
    have HO576 := Aside0.mk (Kd.S_below HO536.out hs); clear HO536
    have HO577 := Aside0.mk (Kd.R_below HO537.out hs); clear HO537
    have HO578 := Aside0.mk (Kd.R_below HO538.out hs); clear HO538
    have HO579 := Aside0.mk (Kd.S_below HO539.out hs); clear HO539
    have HO580 := Aside0.mk (Kd.R_below HO540.out hs); clear HO540
    have HO581 := Aside0.mk (Kd.R_below HO541.out hs); clear HO541
    have HO582 := Aside0.mk (HO534.out.below hs); clear HO534
    have BX583 := Aside0.mk (blk_below BX542.out hs); clear BX542
    replace HS := Aside0.mk (And.intro HS.out (hs.size : w532.heap.size ≤ w558.heap.size))
    clear hb hs hbw h565
    clear HO582
    obtain ⟨z584, z585, z586, z587, z588, z589, z590, z591, z592, z593, z594, z595, z596⟩ := LW.at_ BX583.out
    go_wp2_with fail
    refine calls_gen (fun W' => Below w558.heap.size w558 W') ?gb ?_
    case gb => repeat (first | (with_reducible exact Below.refl _ _) | refine below_set ?_ (Nat.le_refl _) | apply below_alloc | apply pw_below_drewN)
    rintro W597 hbw
    clear z584 z585 z586 z587 z588 z589 z590 z591 z592 z593 z594 z595 z596
    have h600 := Kd.S_reads' (Kd.S_below HO572.out hbw)
    have h601 := Kd.S_reads' (Kd.S_below HO576.out hbw)
    go_at_call 16; (refine (laws_eqIntSS.calls ke A566 c567 (y0) A49 c50 (y0) (true) W597 h600.2.2 h600.2.1 h601.2.2 h601.2.1 KE.out ⟨rfl⟩).mono ?_); rintro e w' ⟨rfl, ⟨nd, rfl⟩⟩
    have hb : Below W597.heap.size W597 (W597.drewN nd) := (by repeat (first | (with_reducible first | exact Below.refl _ _ | apply below_alloc | apply pw_below_drewN | apply below_drew1) | exact Below.refl _ _))
    generalize W597.drewN nd = w599 at hb ⊢
    have hs := below_step hbw hb
    have HB602 := Aside0.mk (below_step HB575.out hs)
    clear HB575
    have HO603 := Aside0.mk (Kd.S_below HO576.out hs); clear HO576
    have HO604 := Aside0.mk (Kd.R_below HO577.out hs); clear HO577
    have HO605 := Aside0.mk (Kd.R_below HO578.out hs); clear HO578
    have HO606 := Aside0.mk (Kd.S_below HO579.out hs); clear HO579
    have HO607 := Aside0.mk (Kd.R_below HO580.out hs); clear HO580
    have HO608 := Aside0.mk (Kd.R_below HO581.out hs); clear HO581
    have HO609 := Aside0.mk (Kd.S_below HO572.out hs); clear HO572
    have HO610 := Aside0.mk (Kd.R_below HO573.out hs); clear HO573
    have HO611 := Aside0.mk (Kd.R_below HO574.out hs); clear HO574
    have BX612 := Aside0.mk (blk_below BX583.out hs); clear BX583
    replace HS := Aside0.mk (And.intro HS.out (hs.size : w558.heap.size ≤ w599.heap.size))
    clear hb hs hbw h600 h601
    obtain ⟨z613, z614, z615, z616, z617, z618, z619, z620, z621, z622, z623, z624, z625⟩ := LW.at_ BX612.out
    go_wp2_with fail
    refine calls_gen (fun W' => Below w599.heap.size w599 W') ?gb ?_
    case gb => repeat (first | (with_reducible exact Below.refl _ _) | refine below_set ?_ (Nat.le_refl _) | apply below_alloc | apply pw_below_drewN)
    rintro W626 hbw
    clear z613 z614 z615 z616 z617 z618 z619 z620 z621 z622 z623 z624 z625
    have h629 := Kd.R_reads' (Kd.R_below HO610.out hbw)
    have h630 := Kd.R_reads' (Kd.R_below HO604.out hbw)
    go_at_call 23; (refine (laws_eqIntS.calls ke1 A568 c569 (y1) A51 c52 (y1) (true) W626 h629.2.2 h629.2.1 h630.2.2 h630.2.1 KE1.out ⟨rfl⟩).mono ?_); rintro e w' ⟨rfl, ⟨nd, rfl⟩⟩
    have hb : Below W626.heap.size W626 (W626.drewN nd) := (by repeat (first | (with_reducible first | exact Below.refl _ _ | apply below_alloc | apply pw_below_drewN | apply below_drew1) | exact Below.refl _ _))
    generalize W626.drewN nd = w628 at hb ⊢
    have hs := below_step hbw hb
    have HB631 := Aside0.mk (below_step HB602.out hs)
    clear HB602
    have HO632 := Aside0.mk (Kd.S_below HO603.out hs); clear HO603
    have HO633 := Aside0.mk (Kd.R_below HO604.out hs); clear HO604
    have HO634 := Aside0.mk (Kd.R_below HO605.out hs); clear HO605
    have HO635 := Aside0.mk (Kd.S_below HO606.out hs); clear HO606
    have HO636 := Aside0.mk (Kd.R_below HO607.out hs); clear HO607
    have HO637 := Aside0.mk (Kd.R_below HO608.out hs); clear HO608
    have HO638 := Aside0.mk (Kd.S_below HO609.out hs); clear HO609
    have HO639 := Aside0.mk (Kd.R_below HO610.out hs); clear HO610
    have HO640 := Aside0.mk (Kd.R_below HO611.out hs); clear HO611
    have BX641 := Aside0.mk (blk_below BX612.out hs); clear BX612
    replace HS := Aside0.mk (And.intro HS.out (hs.size : w599.heap.size ≤ w628.heap.size))
    clear hb hs hbw h629 h630
    obtain ⟨z642, z643, z644, z645, z646, z647, z648, z649, z650, z651, z652, z653, z654⟩ := LW.at_ BX641.out
    go_wp2_with fail
    refine calls_gen (fun W' => Below w628.heap.size w628 W') ?gb ?_
    case gb => repeat (first | (with_reducible exact Below.refl _ _) | refine below_set ?_ (Nat.le_refl _) | apply below_alloc | apply pw_below_drewN)
    rintro W655 hbw
    clear z642 z643 z644 z645 z646 z647 z648 z649 z650 z651 z652 z653 z654
    have h658 := Kd.R_reads' (Kd.R_below HO640.out hbw)
    have h659 := Kd.R_reads' (Kd.R_below HO634.out hbw)
    go_at_call 23; (refine (laws_eqIntS.calls ke2 A570 c571 (y2) A53 c54 (y2) (true) W655 h658.2.2 h658.2.1 h659.2.2 h659.2.1 KE2.out ⟨rfl⟩).mono ?_); rintro e w' ⟨rfl, ⟨nd, rfl⟩⟩
    have hb : Below W655.heap.size W655 (W655.drewN nd) := (by repeat (first | (with_reducible first | exact Below.refl _ _ | apply below_alloc | apply pw_below_drewN | apply below_drew1) | exact Below.refl _ _))
    generalize W655.drewN nd = w657 at hb ⊢
    have hs := below_step hbw hb
    have HB660 := Aside0.mk (below_step HB631.out hs)
    clear HB631
    have HO661 := Aside0.mk (Kd.S_below HO632.out hs); clear HO632
    have HO662 := Aside0.mk (Kd.R_below HO633.out hs); clear HO633
    have HO663 := Aside0.mk (Kd.R_below HO634.out hs); clear HO634
    have HO664 := Aside0.mk (Kd.S_below HO635.out hs); clear HO635
    have HO665 := Aside0.mk (Kd.R_below HO636.out hs); clear HO636
    have HO666 := Aside0.mk (Kd.R_below HO637.out hs); clear HO637
    have HO667 := Aside0.mk (Kd.S_below HO638.out hs); clear HO638
    have HO668 := Aside0.mk (Kd.R_below HO639.out hs); clear HO639
    have HO669 := Aside0.mk (Kd.R_below HO640.out hs); clear HO640
    have BX670 := Aside0.mk (blk_below BX641.out hs); clear BX641
    replace HS := Aside0.mk (And.intro HS.out (hs.size : w628.heap.size ≤ w657.heap.size))
    clear hb hs hbw h658 h659
    obtain ⟨z671, z672, z673, z674, z675, z676, z677, z678, z679, z680, z681, z682, z683⟩ := LW.at_ BX670.out
    go_wp2_with fail
    refine calls_gen (fun W' => Below w657.heap.size w657 W') ?gb ?_
    case gb => repeat (first | (with_reducible exact Below.refl _ _) | refine below_set ?_ (Nat.le_refl _) | apply below_alloc | apply pw_below_drewN)
    rintro W684 hbw
    clear z671 z672 z673 z674 z675 z676 z677 z678 z679 z680 z681 z682 z683
    go_at_call 20; (refine (calls_cast ?ce (laws_heldIntSS.calls kh A107 c108 ((mkII (1) y0)) (1) ((1 + (totL y0 : Int))) W684 ?s0 ?s1 KH.out ⟨by omega⟩)).mono ?_); (case ce => simp only [mkI_length, mkII_length]); (case s0 => (have z_ := Kd.S_reads' (Kd.S_below HO664.out hbw); exact z_.2.2)); (case s1 => (have z_ := (Kd.S_reads' HO664.out).2.1; simp only [mkI_length, mkII_length]; exact z_)); rintro e w' ⟨rfl, ⟨nd, rfl⟩⟩
    have hb : Below W684.heap.size W684 (W684.drewN nd) := (by repeat (first | (with_reducible first | exact Below.refl _ _ | apply below_alloc | apply pw_below_drewN | apply below_drew1) | exact Below.refl _ _))
    generalize W684.drewN nd = w686 at hb ⊢
    have hs := below_step hbw hb
    have HB687 := Aside0.mk (below_step HB660.out hs)
    clear HB660
    have HO688 := Aside0.mk (Kd.S_below HO661.out hs); clear HO661
    have HO689 := Aside0.mk (Kd.R_below HO662.out hs); clear HO662
    have HO690 := Aside0.mk (Kd.R_below HO663.out hs); clear HO663
    have HO691 := Aside0.mk (Kd.S_below HO664.out hs); clear HO664
    have HO692 := Aside0.mk (Kd.R_below HO665.out hs); clear HO665
    have HO693 := Aside0.mk (Kd.R_below HO666.out hs); clear HO666
    have HO694 := Aside0.mk (Kd.S_below HO667.out hs); clear HO667
    have HO695 := Aside0.mk (Kd.R_below HO668.out hs); clear HO668
    have HO696 := Aside0.mk (Kd.R_below HO669.out hs); clear HO669
    have BX697 := Aside0.mk (blk_below BX670.out hs); clear BX670
    replace HS := Aside0.mk (And.intro HS.out (hs.size : w657.heap.size ≤ w686.heap.size))
    clear hb hs hbw
    obtain ⟨z698, z699, z700, z701, z702, z703, z704, z705, z706, z707, z708, z709, z710⟩ := LW.at_ BX697.out
    go_wp2_with fail
    refine calls_gen (fun W' => Below w686.heap.size w686 W') ?gb ?_
    case gb => repeat (first | (with_reducible exact Below.refl _ _) | refine below_set ?_ (Nat.le_refl _) | apply below_alloc | apply pw_below_drewN)
    rintro W711 hbw
    clear z698 z699 z700 z701 z702 z703 z704 z705 z706 z707 z708 z709 z710
    go_at_call 25; (refine (calls_cast ?ce (laws_heldIntS.calls kh1 A109 c110 ((mkI (1 + (totL y0 : Int)) y1.length)) ((1 + (totL y0 : Int))) (((1 + (totL y0 : Int)) + (y1.length : Int))) W711 ?s0 ?s1 KH1.out ⟨by omega⟩)).mono ?_); (case ce => simp only [mkI_length, mkII_length]); (case s0 => (have z_ := Kd.R_reads' (Kd.R_below HO692.out hbw); exact z_.2.2)); (case s1 => (have z_ := (Kd.R_reads' HO692.out).2.1; simp only [mkI_length, mkII_length]; exact z_)); rintro e w' ⟨rfl, ⟨nd, rfl⟩⟩
    have hb : Below W711.heap.size W711 (W711.drewN nd) := (by repeat (first | (with_reducible first | exact Below.refl _ _ | apply below_alloc | apply pw_below_drewN | apply below_drew1) | exact Below.refl _ _))
    generalize W711.drewN nd = w713 at hb ⊢
    have hs := below_step hbw hb
    have HB714 := Aside0.mk (below_step HB687.out hs)
    clear HB687
    have HO715 := Aside0.mk (Kd.S_below HO688.out hs); clear HO688
    have HO716 := Aside0.mk (Kd.R_below HO689.out hs); clear HO689
    have HO717 := Aside0.mk (Kd.R_below HO690.out hs); clear HO690
    have HO718 := Aside0.mk (Kd.S_below HO691.out hs); clear HO691
    have HO719 := Aside0.mk (Kd.R_below HO692.out hs); clear HO692
    have HO720 := Aside0.mk (Kd.R_below HO693.out hs); clear HO693
    have HO721 := Aside0.mk (Kd.S_below HO694.out hs); clear HO694
    have HO722 := Aside0.mk (Kd.R_below HO695.out hs); clear HO695
    have HO723 := Aside0.mk (Kd.R_below HO696.out hs); clear HO696
    have BX724 := Aside0.mk (blk_below BX697.out hs); clear BX697
    replace HS := Aside0.mk (And.intro HS.out (hs.size : w686.heap.size ≤ w713.heap.size))
    clear hb hs hbw
    obtain ⟨z725, z726, z727, z728, z729, z730, z731, z732, z733, z734, z735, z736, z737⟩ := LW.at_ BX724.out
    go_wp2_with fail
    refine calls_gen (fun W' => Below w713.heap.size w713 W') ?gb ?_
    case gb => repeat (first | (with_reducible exact Below.refl _ _) | refine below_set ?_ (Nat.le_refl _) | apply below_alloc | apply pw_below_drewN)
    rintro W738 hbw
    clear z725 z726 z727 z728 z729 z730 z731 z732 z733 z734 z735 z736 z737
    go_at_call 25; (refine (calls_cast ?ce (laws_heldIntS.calls kh2 A111 c112 ((mkI ((1 + (totL y0 : Int)) + (y1.length : Int)) y2.length)) (((1 + (totL y0 : Int)) + (y1.length : Int))) ((((1 + (totL y0 : Int)) + (y1.length : Int)) + (y2.length : Int))) W738 ?s0 ?s1 KH2.out ⟨by omega⟩)).mono ?_); (case ce => simp only [mkI_length, mkII_length]); (case s0 => (have z_ := Kd.R_reads' (Kd.R_below HO720.out hbw); exact z_.2.2)); (case s1 => (have z_ := (Kd.R_reads' HO720.out).2.1; simp only [mkI_length, mkII_length]; exact z_)); rintro e w' ⟨rfl, ⟨nd, rfl⟩⟩
    have hb : Below W738.heap.size W738 (W738.drewN nd) := (by repeat (first | (with_reducible first | exact Below.refl _ _ | apply below_alloc | apply pw_below_drewN | apply below_drew1) | exact Below.refl _ _))
    generalize W738.drewN nd = w740 at hb ⊢
    have hs := below_step hbw hb
    have HB741 := Aside0.mk (below_step HB714.out hs)
    clear HB714
    have HO742 := Aside0.mk (Kd.S_below HO715.out hs); clear HO715
    have HO743 := Aside0.mk (Kd.R_below HO716.out hs); clear HO716
    have HO744 := Aside0.mk (Kd.R_below HO717.out hs); clear HO717
    have HO745 := Aside0.mk (Kd.S_below HO718.out hs); clear HO718
    have HO746 := Aside0.mk (Kd.R_below HO719.out hs); clear HO719
    have HO747 := Aside0.mk (Kd.R_below HO720.out hs); clear HO720
    have HO748 := Aside0.mk (Kd.S_below HO721.out hs); clear HO721
    have HO749 := Aside0.mk (Kd.R_below HO722.out hs); clear HO722
    have HO750 := Aside0.mk (Kd.R_below HO723.out hs); clear HO723
    have BX751 := Aside0.mk (blk_below BX724.out hs); clear BX724
    replace HS := Aside0.mk (And.intro HS.out (hs.size : w713.heap.size ≤ w740.heap.size))
    clear hb hs hbw
    go_wp2
    go_ret
    exact ⟨rfl, below_step HB741.out (by repeat (first | (with_reducible first | exact Below.refl _ _ | apply below_alloc | apply pw_below_drewN | apply below_drew1) | exact Below.refl _ _))⟩
theorem FnExactRowsOf_calls (a0_0 : Int) (A0_1 : Option Addr) (c0_1 : Nat) (l0_1 : (List S159)) (A0_2 : Option Addr) (c0_2 : Nat) (l0_2 : (List Int)) (A0_3 : Option Addr) (c0_3 : Nat) (l0_3 : (List Int)) (A0_4 : Option Addr) (c0_4 : Nat) (l0_4 : (List S139)) (A0_5 : Option Addr) (c0_5 : Nat) (l0_5 : (List Int)) (A0_6 : Option Addr) (c0_6 : Nat) (l0_6 : (List Int)) (a0_7 : Int) (a0_8 : Int) (a0_9 : Int) (a0_10 : Int) (A0_11 : Option Addr) (c0_11 : Nat) (l0_11 : (List S142)) (a0_12 : Int)  (w : World) (hr0_1 : Kd.C k159 w A0_1 l0_1.length l0_1) (hc0_1 : l0_1.length ≤ c0_1) (hr0_2 : Kd.C (Kd.int .i64) w A0_2 l0_2.length l0_2) (hc0_2 : l0_2.length ≤ c0_2) (hr0_3 : Kd.C (Kd.int .i64) w A0_3 l0_3.length l0_3) (hc0_3 : l0_3.length ≤ c0_3) (hr0_4 : Kd.C k139 w A0_4 l0_4.length l0_4) (hc0_4 : l0_4.length ≤ c0_4) (hr0_5 : Kd.C (Kd.int .i64) w A0_5 l0_5.length l0_5) (hc0_5 : l0_5.length ≤ c0_5) (hr0_6 : Kd.C (Kd.int .i64) w A0_6 l0_6.length l0_6) (hc0_6 : l0_6.length ≤ c0_6) (hr0_11 : Kd.C k142 w A0_11 l0_11.length l0_11) (hc0_11 : l0_11.length ≤ c0_11) (g0_0 : (Lit.int .i64 a0_0).wf = true) (g0_1 : (l0_1.length ≤ 9223372036854775807 ∧ ∀ y0_ ∈ l0_1, Wf159 y0_)) (g0_2 : (l0_2.length ≤ 9223372036854775807 ∧ ∀ y0_ ∈ l0_2, (Lit.int .i64 y0_).wf = true)) (g0_3 : (l0_3.length ≤ 9223372036854775807 ∧ ∀ y0_ ∈ l0_3, (Lit.int .i64 y0_).wf = true)) (g0_4 : (l0_4.length ≤ 9223372036854775807 ∧ ∀ y0_ ∈ l0_4, Wf139 y0_)) (g0_5 : (l0_5.length ≤ 9223372036854775807 ∧ ∀ y0_ ∈ l0_5, (Lit.int .i64 y0_).wf = true)) (g0_6 : (l0_6.length ≤ 9223372036854775807 ∧ ∀ y0_ ∈ l0_6, (Lit.int .i64 y0_).wf = true)) (g0_7 : (Lit.int .i64 a0_7).wf = true) (g0_8 : (Lit.int .i64 a0_8).wf = true) (g0_9 : (Lit.int .i64 a0_9).wf = true) (g0_10 : (Lit.int .i64 a0_10).wf = true) (g0_11 : (l0_11.length ≤ 9223372036854775807 ∧ ∀ y0_ ∈ l0_11, Wf142 y0_)) (g0_12 : (Lit.int .i64 a0_12).wf = true)  :
    Calls Try.prog 4 #[.agg #[.int .i64 a0_0, .slice A0_1 l0_1.length c0_1, .slice A0_2 l0_2.length c0_2, .slice A0_3 l0_3.length c0_3, .slice A0_4 l0_4.length c0_4, .slice A0_5 l0_5.length c0_5, .slice A0_6 l0_6.length c0_6, .int .i64 a0_7, .int .i64 a0_8, .int .i64 a0_9, .int .i64 a0_10, .slice A0_11 l0_11.length c0_11, .int .i64 a0_12]] w fun e w' => e = .returned (.bool true) ∧ Below w.heap.size w w' :=
  FnExactRowsOf_calls' ⟨a0_0, l0_1, l0_2, l0_3, l0_4, l0_5, l0_6, a0_7, a0_8, a0_9, a0_10, l0_11, a0_12⟩ ⟨A0_1, c0_1, A0_2, c0_2, A0_3, c0_3, A0_4, c0_4, A0_5, c0_5, A0_6, c0_6, A0_11, c0_11⟩  w ⟨hr0_1, hc0_1, hr0_2, hc0_2, hr0_3, hc0_3, hr0_4, hc0_4, hr0_5, hc0_5, hr0_6, hc0_6, hr0_11, hc0_11⟩ g0_1.1 g0_2.1 g0_3.1 ⟨g0_4.1, fun p hp => (g0_4.2 p hp).2.2.1⟩ g0_5.1 g0_6.1 g0_11.1
end Go.Proofs.Ytiipcophnnfnoaa.Pure
