/- Lemmas: zw_FnExactObserve -/
import Derived.Test.YtakembkodcjbjaaPFnExactObservex0
import Derived.Test.YtakembkodcjbjaaPFnExactObservex1
import Derived.Test.YtakembkodcjbjaaPFnExactObservex2
import Derived.Test.YtakembkodcjbjaaPFnExactObservex3
import Derived.Test.YtakembkodcjbjaaPFnExactObservex4
import Derived.Test.YtakembkodcjbjaaPFnExactObservex5
import Derived.Test.YtakembkodcjbjaaPFnExactObservex6
import Derived.Test.YtakembkodcjbjaaPFnExactObservex7
import Derived.Test.YtakembkodcjbjaaPFnExactObservex8
import Derived.Test.YtakembkodcjbjaaPFnExactObservex9
import Derived.Test.YtakembkodcjbjaaPFnExactObservex10
import Derived.Test.YtakembkodcjbjaaRFnExactObserve
import Derived.Test.YtakembkodcjbjaaBase
namespace Go.Proofs.Ytakembkodcjbjaa.Pure
open Go.RowKit Go.Proofs.Ytakembkodcjbjaa.Base Go.Proofs.Ytakembkodcjbjaa.PFnExactObserve Go.Proofs.YtakembkodcjbjaaW.PrintWords Go.Proofs.YtakembkodcjbjaaW.PrintLast Go.Proofs.YtakembkodcjbjaaW.PrintMore
set_option linter.unusedVariables false
set_option linter.unusedSimpArgs false
/-! ### own -/
/-- A row that a call made: its blocks are those between the two worlds. -/
theorem S_fresh {α : Type} {d : Kd α} {e : Nat} {w w2 W w3 : World} {v : Value} {xs : List α} (h0 : Below w.heap.size w w2) (h1 : Below w2.heap.size w2 W) (ho : Kd.S d e w3 W.heap.size (fun _ => True) v xs) (hb : Below W.heap.size W w3) : Kd.S d e w3 w.heap.size (fun k => w2.heap.size ≤ k ∧ k < w3.heap.size) v xs :=
  Kd.S_lower (Kd.S_mono (Kd.S_bound ho) (fun k hk => ⟨Nat.le_trans h1.size hk.2.1, hk.2.2.1⟩)) (Nat.le_trans h0.size h1.size)
theorem R_fresh {α : Type} {d : Kd α} {e : Nat} {w w2 W w3 : World} {v : Value} {xs : List α} (h0 : Below w.heap.size w w2) (h1 : Below w2.heap.size w2 W) (ho : Kd.R d e w3 W.heap.size (fun _ => True) v xs) (hb : Below W.heap.size W w3) : Kd.R d e w3 w.heap.size (fun k => w2.heap.size ≤ k ∧ k < w3.heap.size) v xs :=
  Kd.R_lower (Kd.R_mono (Kd.R_bound ho) (fun k hk => ⟨Nat.le_trans h1.size hk.2.1, hk.2.2.1⟩)) (Nat.le_trans h0.size h1.size)
/-- A flat row that was written and comes back: its blocks are the same. -/
theorem R_tight' {α β : Type} {d : Kd α} {d' : Kd β} {e e' : Nat} {w w' : World} {b b' : Nat} {ok ok' : Nat → Prop} {v : Value} {xs : List α} {ys : List β} (hE : d.E = []) (h : Kd.R d e w b ok v xs) (h' : Kd.R d' e' w' b' ok' v ys) : Kd.R d e w b ok' v xs :=
  Kd.R_mono (Kd.R_tight hE h) (fun k hk => h'.1 k hk.symm)
theorem calls_cast {P : Program} {f : Nat} {args args' : Array Value} {w : World} {Q : Ending → World → Prop} (h : args = args') (hc : Calls P f args w Q) : Calls P f args' w Q := h ▸ hc
/-! ### szints -/
def leftI (l : List Int) (a : Int) : Int := if a - (l.length : Int) < 0 then -1 else a - (l.length : Int)
theorem szIntS_eq (l : List Int) (a : Int) (h0 : 0 ≤ a) (h1 : a ≤ 1048576) (hl : l.length ≤ 9223372036854775807) : laws_szIntS.f l a = some (leftI l a) := by
  unfold laws_szIntS.f leftI
  rw [w64 (by omega) (by omega)]
  split <;> rfl
/-! ### ints -/
theorem toIntS_l0 : ∀ (suf pre rest : List Int), (pre ++ suf).length ≤ 1048576 → rest.length = suf.length →
    Ev (fun k => laws_toIntS.l0 k (pre ++ suf) (pre ++ rest) (pre.length : Int)) (pre ++ suf) := by
  intro suf
  induction suf with
  | nil =>
    intro pre rest hb hr
    obtain rfl : rest = [] := by simpa using hr
    refine Ev.step (fun k => by rw [laws_toIntS.l0]) ?_
    exact evNeg (by simp) (Ev.now _)
  | cons x suf ih =>
    intro pre rest hb hr
    obtain ⟨r, rest, rfl⟩ : ∃ r t, rest = r :: t := by
      cases rest with
      | nil => simp at hr
      | cons r t => exact ⟨r, t, rfl⟩
    simp only [List.length_append, List.length_cons] at hb hr
    refine Ev.step (fun k => by rw [laws_toIntS.l0]) ?_
    refine evPos (by simp only [List.length_append, List.length_cons]; omega) (evPos (by omega) (evPos (by simp only [List.length_append, List.length_cons]; omega) ?_))
    rw [rd_mid, set_mid, wsucc (by omega)]
    have h := ih (pre ++ [x]) rest (by simp; omega) (by omega)
    simpa using h
theorem toIntS_ev (l : List Int) (hl : l.length ≤ 1048576) : Ev (fun k => laws_toIntS.f k l) l := by
  unfold laws_toIntS.f
  refine evPos (by omega) (evPos (by omega) ?_)
  have h := toIntS_l0 l [] (List.replicate l.length 0) (by simpa using hl) (by simp)
  simpa using h
theorem eqIntS_l0 : ∀ (suf pre : List Int), (pre ++ suf).length ≤ 1048576 →
    Ev (fun k => laws_eqIntS.l0 k (pre ++ suf) (pre ++ suf) (pre.length : Int)) true := by
  intro suf
  induction suf with
  | nil =>
    intro pre hb
    refine Ev.step (fun k => by rw [laws_eqIntS.l0]) ?_
    exact evNeg (by simp) (Ev.now _)
  | cons x suf ih =>
    intro pre hb
    simp only [List.length_append, List.length_cons] at hb
    refine Ev.step (fun k => by rw [laws_eqIntS.l0]) ?_
    refine evPos (by simp only [List.length_append, List.length_cons]; omega) (evPos (by omega) (evPos (by simp only [List.length_append, List.length_cons]; omega) (evPos rfl ?_)))
    rw [wsucc (by omega)]
    have h := ih (pre ++ [x]) (by simp; omega)
    simpa using h
theorem eqIntS_ev (l : List Int) (hl : l.length ≤ 1048576) : Ev (fun k => laws_eqIntS.f k l l) true := by
  unfold laws_eqIntS.f
  refine evPos rfl ?_
  have h := eqIntS_l0 l [] (by simpa using hl)
  simpa using h
/-! ### seens -/
def leftL {α : Type} (l : List α) (a : Int) : Int := if a - (l.length : Int) < 0 then -1 else a - (l.length : Int)
theorem szSeenS_eq (l : List S120) (a : Int) (h0 : 0 ≤ a) (h1 : a ≤ 1048576) (hl : l.length ≤ 9223372036854775807) : laws_szSeenS.f l a = some (leftL l a) := by
  unfold laws_szSeenS.f leftL
  rw [w64 (by omega) (by omega)]
  split <;> rfl
theorem leftL_ok {α : Type} {l : List α} (h : 0 ≤ leftL l 1048576) : l.length ≤ 1048576 := by
  unfold leftL at h
  split at h <;> omega
def cvSeen (x : S120) : S62 := ⟨x.f0, x.f1, x.f2, x.f3, x.f4⟩
theorem toSeenS_l0 : ∀ (suf pre : List S120) (rest : List S62), (pre ++ suf).length ≤ 1048576 → rest.length = suf.length →
    Ev (fun k => laws_toSeenS.l0 k (pre ++ suf) (pre.map cvSeen ++ rest) (pre.length : Int)) ((pre ++ suf).map cvSeen) := by
  intro suf
  induction suf with
  | nil =>
    intro pre rest hb hr
    obtain rfl : rest = [] := by simpa using hr
    refine Ev.step (fun k => by rw [laws_toSeenS.l0]) ?_
    refine evNeg (by simp) (evEq ?_ (Ev.now _))
    simp
  | cons x suf ih =>
    intro pre rest hb hr
    obtain ⟨r, rest, rfl⟩ : ∃ r t, rest = r :: t := by
      cases rest with
      | nil => simp at hr
      | cons r t => exact ⟨r, t, rfl⟩
    simp only [List.length_append, List.length_cons] at hb hr
    refine Ev.step (fun k => by rw [laws_toSeenS.l0]) ?_
    refine evPos (by simp only [List.length_append, List.length_cons]; omega) (evPos (by omega) ?_)
    simp only [rd_T120, getD_mid]
    refine evSome rfl (evPos (by simp only [List.length_append, List.length_cons, List.length_map]; omega) ?_)
    rw [wsucc (by omega)]
    have h := ih (pre ++ [x]) rest (by simp; omega) (by omega)
    refine evEq ?_ (Ev.congr (fun k => ?_) h)
    · simp
    · have e : (pre.length : Int) = ((pre.map cvSeen).length : Int) := by simp
      rw [e, set_mid]
      simp [cvSeen]
theorem toSeenS_ev (l : List S120) (hl : l.length ≤ 1048576) : Ev (fun k => laws_toSeenS.f k l) (l.map cvSeen) := by
  unfold laws_toSeenS.f
  refine evPos (by omega) (evPos (by omega) ?_)
  have h := toSeenS_l0 l [] (List.replicate l.length z62) (by simpa using hl) (by simp)
  simpa using h
theorem eqSeen_eq (x : S62) : laws_eqSeen.f x.f0 x.f1 x.f2 x.f3 x.f4 x.f0 x.f1 x.f2 x.f3 x.f4 = some true := by
  simp [laws_eqSeen.f]
theorem eqSeenS_l0 : ∀ (suf pre : List S62), (pre ++ suf).length ≤ 1048576 →
    Ev (fun k => laws_eqSeenS.l0 k (pre ++ suf) (pre ++ suf) (pre.length : Int)) true := by
  intro suf
  induction suf with
  | nil =>
    intro pre hb
    refine Ev.step (fun k => by rw [laws_eqSeenS.l0]) ?_
    exact evNeg (by simp) (Ev.now _)
  | cons x suf ih =>
    intro pre hb
    simp only [List.length_append, List.length_cons] at hb
    refine Ev.step (fun k => by rw [laws_eqSeenS.l0]) ?_
    refine evPos (by simp only [List.length_append, List.length_cons]; omega) (evPos (by omega) (evPos (by simp only [List.length_append, List.length_cons]; omega) ?_))
    simp only [rd_T62, getD_mid]
    refine evSome (eqSeen_eq x) (evPos rfl ?_)
    rw [wsucc (by omega)]
    have h := ih (pre ++ [x]) (by simp; omega)
    simpa using h
theorem eqSeenS_ev (l : List S62) (hl : l.length ≤ 1048576) : Ev (fun k => laws_eqSeenS.f k l l) true := by
  unfold laws_eqSeenS.f
  refine evPos rfl ?_
  have h := eqSeenS_l0 l [] (by simpa using hl)
  simpa using h
/-! ### world -/
def okP (l : List S116) : Prop := l.length ≤ 1048576 ∧ ∀ p ∈ l, p.f2.length ≤ 1048576
def cvLink (x : S133) : S96 := ⟨x.f0, x.f1⟩
def cvProbe (x : S116) : S84 := ⟨x.f0, x.f1, x.f2⟩
theorem szLinkS_eq (l : List S133) (a : Int) (h0 : 0 ≤ a) (h1 : a ≤ 1048576) (hl : l.length ≤ 9223372036854775807) : laws_szLinkS.f l a = some (leftL l a) := by
  unfold laws_szLinkS.f leftL
  rw [w64 (by omega) (by omega)]
  split <;> rfl
theorem leftL_neg {α : Type} {l : List α} {a : Int} (h : leftL l a < 0) : leftL l a = -1 := by
  unfold leftL at h ⊢
  split <;> omega
theorem leftL_le {α : Type} (l : List α) {a : Int} (h0 : 0 ≤ a) : leftL l a ≤ a := by
  unfold leftL
  split <;> omega
theorem leftL_ok' {α : Type} {l : List α} {a : Int} (ha : a ≤ 1048576) (h : 0 ≤ leftL l a) : l.length ≤ 1048576 := by
  unfold leftL at h
  split at h <;> omega
theorem leftI_eq (l : List Int) (a : Int) : leftI l a = leftL l a := rfl
theorem szNet_eq (n : Int) (l : List S133) (a : Int) (h0 : 0 ≤ a) (h1 : a ≤ 1048576) (hl : l.length ≤ 9223372036854775807) : laws_szNet.f n l a = some (leftL l a) := by
  unfold laws_szNet.f
  rw [szLinkS_eq l a h0 h1 hl, Option.bind_some]
  split
  · rename_i h
    rw [leftL_neg h]
  · rfl
theorem szProbe_eq (x y : Int) (l : List Int) (a : Int) (h0 : 0 ≤ a) (h1 : a ≤ 1048576) (hl : l.length ≤ 9223372036854775807) : laws_szProbe.f x y l a = some (leftL l a) := by
  unfold laws_szProbe.f
  rw [szIntS_eq l a h0 h1 hl, Option.bind_some, leftI_eq]
  split
  · rename_i h
    rw [leftL_neg h]
  · rfl
theorem szProbeS_l0 : ∀ (suf pre : List S116) (a : Int), (pre ++ suf).length ≤ 1048576 → 0 ≤ a → a ≤ 1048576 → (∀ p ∈ suf, p.f2.length ≤ 9223372036854775807) →
    ∃ r, Ev (fun k => laws_szProbeS.l0 k (pre ++ suf) a (pre.length : Int)) r ∧ r ≤ 1048576 ∧ (0 ≤ r → ∀ p ∈ suf, p.f2.length ≤ 1048576) := by
  intro suf
  induction suf with
  | nil =>
    intro pre a hb h0 h1 hr
    refine ⟨a, Ev.step (fun k => by rw [laws_szProbeS.l0]) (evNeg (by simp) (Ev.now _)), h1, by simp⟩
  | cons x suf ih =>
    intro pre a hb h0 h1 hr
    simp only [List.length_append, List.length_cons] at hb
    have hx := szProbe_eq x.f0 x.f1 x.f2 a h0 h1 (hr x (by simp))
    have hle := leftL_le x.f2 h0
    by_cases hn : leftL x.f2 a < 0
    · refine ⟨-1, Ev.step (fun k => by rw [laws_szProbeS.l0]) ?_, by omega, fun h => by omega⟩
      refine evPos (by simp only [List.length_append, List.length_cons]; omega) (evPos (by omega) ?_)
      simp only [rd_T116, getD_mid]
      exact evSome hx (evPos hn (Ev.now _))
    · obtain ⟨r, he, hr1, hr2⟩ := ih (pre ++ [x]) (leftL x.f2 a) (by simp; omega) (by omega) (by omega) (fun p h => hr p (by simp [h]))
      refine ⟨r, Ev.step (fun k => by rw [laws_szProbeS.l0]) ?_, hr1, fun h p hp => ?_⟩
      · refine evPos (by simp only [List.length_append, List.length_cons]; omega) (evPos (by omega) ?_)
        simp only [rd_T116, getD_mid]
        refine evSome hx (evNeg hn ?_)
        rw [wsucc (by omega)]
        simpa using he
      · rcases List.mem_cons.1 hp with rfl | hp
        · exact leftL_ok' h1 (by omega)
        · exact hr2 h p hp
theorem szProbeS_ev (l : List S116) (a : Int) (h0 : 0 ≤ a) (h1 : a ≤ 1048576) (hl : l.length ≤ 9223372036854775807) (hr : ∀ p ∈ l, p.f2.length ≤ 9223372036854775807) :
    ∃ r, Ev (fun k => laws_szProbeS.f k l a) r ∧ r ≤ 1048576 ∧ (0 ≤ r → okP l) := by
  by_cases h : a - (l.length : Int) < 0
  · refine ⟨-1, ?_, by omega, fun h => by omega⟩
    unfold laws_szProbeS.f
    rw [w64 (by omega) (by omega)]
    exact evPos h (Ev.now _)
  · obtain ⟨r, he, hr1, hr2⟩ := szProbeS_l0 l [] (a - (l.length : Int)) (by simp; omega) (by omega) (by omega) hr
    refine ⟨r, ?_, hr1, fun h2 => ⟨by omega, hr2 h2⟩⟩
    unfold laws_szProbeS.f
    rw [w64 (by omega) (by omega)]
    exact evNeg h he
def okW (lk : List S133) (de dn : List Int) (pr : List S116) (ow li : List Int) (se : List S120) : Prop :=
  lk.length ≤ 1048576 ∧ de.length ≤ 1048576 ∧ dn.length ≤ 1048576 ∧ okP pr ∧ ow.length ≤ 1048576 ∧ li.length ≤ 1048576 ∧ se.length ≤ 1048576
theorem toLinkS_l0 : ∀ (suf pre : List S133) (rest : List S96), (pre ++ suf).length ≤ 1048576 → rest.length = suf.length → 
    Ev (fun k => laws_toLinkS.l0 k (pre ++ suf) (pre.map cvLink ++ rest) (pre.length : Int)) ((pre ++ suf).map cvLink) := by
  intro suf
  induction suf with
  | nil =>
    intro pre rest hb hr
    obtain rfl : rest = [] := by simpa using hr
    refine Ev.step (fun k => by rw [laws_toLinkS.l0]) ?_
    refine evNeg (by simp) (evEq ?_ (Ev.now _))
    simp
  | cons x suf ih =>
    intro pre rest hb hr
    obtain ⟨r, rest, rfl⟩ : ∃ r t, rest = r :: t := by
      cases rest with
      | nil => simp at hr
      | cons r t => exact ⟨r, t, rfl⟩
    simp only [List.length_append, List.length_cons] at hb hr
    refine Ev.step (fun k => by rw [laws_toLinkS.l0]) ?_
    refine evPos (by simp only [List.length_append, List.length_cons]; omega) (evPos (by omega) ?_)
    simp only [rd_T133, getD_mid]
    refine evSome rfl (evPos (by simp only [List.length_append, List.length_cons, List.length_map]; omega) ?_)
    rw [wsucc (by omega)]
    have h := ih (pre ++ [x]) rest (by simp; omega) (by omega)
    refine evEq ?_ (Ev.congr (fun k => ?_) h)
    · simp
    · have e : (pre.length : Int) = ((pre.map cvLink).length : Int) := by simp
      rw [e, set_mid]
      simp [cvLink]
theorem toLinkS_ev (l : List S133) (hl : l.length ≤ 1048576) : Ev (fun k => laws_toLinkS.f k l) (l.map cvLink) := by
  unfold laws_toLinkS.f
  refine evPos (by omega) (evPos (by omega) ?_)
  have h := toLinkS_l0 l [] (List.replicate l.length z96) (by simpa using hl) (by simp)
  simpa using h
theorem toProbe_ev (x : S116) (h : x.f2.length ≤ 1048576) : Ev (fun k => laws_toProbe.f k x.f0 x.f1 x.f2) (x.f0, x.f1, x.f2) := by
  unfold laws_toProbe.f
  exact Ev.bind (toIntS_ev x.f2 h) (Ev.now _)
theorem toProbeS_l0 : ∀ (suf pre : List S116) (rest : List S84), (pre ++ suf).length ≤ 1048576 → rest.length = suf.length → (∀ p ∈ suf, p.f2.length ≤ 1048576) →
    Ev (fun k => laws_toProbeS.l0 k (pre ++ suf) (pre.map cvProbe ++ rest) (pre.length : Int)) ((pre ++ suf).map cvProbe) := by
  intro suf
  induction suf with
  | nil =>
    intro pre rest hb hr hq
    obtain rfl : rest = [] := by simpa using hr
    refine Ev.step (fun k => by rw [laws_toProbeS.l0]) ?_
    refine evNeg (by simp) (evEq ?_ (Ev.now _))
    simp
  | cons x suf ih =>
    intro pre rest hb hr hq
    obtain ⟨r, rest, rfl⟩ : ∃ r t, rest = r :: t := by
      cases rest with
      | nil => simp at hr
      | cons r t => exact ⟨r, t, rfl⟩
    simp only [List.length_append, List.length_cons] at hb hr
    refine Ev.step (fun k => by rw [laws_toProbeS.l0]) ?_
    refine evPos (by simp only [List.length_append, List.length_cons]; omega) (evPos (by omega) ?_)
    simp only [rd_T116, getD_mid]
    refine Ev.bind (toProbe_ev x (hq x (by simp))) (evPos (by simp only [List.length_append, List.length_cons, List.length_map]; omega) ?_)
    rw [wsucc (by omega)]
    have h := ih (pre ++ [x]) rest (by simp; omega) (by omega) (fun p h => hq p (by simp [h]))
    refine evEq ?_ (Ev.congr (fun k => ?_) h)
    · simp
    · have e : (pre.length : Int) = ((pre.map cvProbe).length : Int) := by simp
      rw [e, set_mid]
      simp [cvProbe]
theorem toProbeS_ev (l : List S116) (hl : okP l) : Ev (fun k => laws_toProbeS.f k l) (l.map cvProbe) := by
  have hl1 := hl.1
  unfold laws_toProbeS.f
  refine evPos (by omega) (evPos (by omega) ?_)
  have h := toProbeS_l0 l [] (List.replicate l.length z84) (by simpa using hl.1) (by simp) hl.2
  simpa using h
theorem eqLink_eq (x : S96) : laws_eqLink.f x.f0 x.f1 x.f0 x.f1 = some true := by
  simp [laws_eqLink.f]
theorem eqLinkS_l0 : ∀ (suf pre : List S96), (pre ++ suf).length ≤ 1048576 → 
    Ev (fun k => laws_eqLinkS.l0 k (pre ++ suf) (pre ++ suf) (pre.length : Int)) true := by
  intro suf
  induction suf with
  | nil =>
    intro pre hb
    refine Ev.step (fun k => by rw [laws_eqLinkS.l0]) ?_
    exact evNeg (by simp) (Ev.now _)
  | cons x suf ih =>
    intro pre hb
    simp only [List.length_append, List.length_cons] at hb
    refine Ev.step (fun k => by rw [laws_eqLinkS.l0]) ?_
    refine evPos (by simp only [List.length_append, List.length_cons]; omega) (evPos (by omega) (evPos (by simp only [List.length_append, List.length_cons]; omega) ?_))
    simp only [rd_T96, getD_mid]
    refine evSome (eqLink_eq x) (evPos rfl ?_)
    rw [wsucc (by omega)]
    have h := ih (pre ++ [x]) (by simp; omega)
    simpa using h
theorem eqLinkS_ev (l : List S96) (hl : l.length ≤ 1048576) : Ev (fun k => laws_eqLinkS.f k l l) true := by
  unfold laws_eqLinkS.f
  refine evPos rfl ?_
  have h := eqLinkS_l0 l [] (by simpa using hl)
  simpa using h
def okP' (l : List S84) : Prop := l.length ≤ 1048576 ∧ ∀ p ∈ l, p.f2.length ≤ 1048576
theorem eqProbe_ev (x : S84) (h : x.f2.length ≤ 1048576) : Ev (fun k => laws_eqProbe.f k x.f0 x.f1 x.f2 x.f0 x.f1 x.f2) true := by
  unfold laws_eqProbe.f
  exact evPos rfl (evPos rfl (Ev.bind (eqIntS_ev x.f2 h) (evPos rfl (Ev.now _))))
theorem eqProbeS_l0 : ∀ (suf pre : List S84), (pre ++ suf).length ≤ 1048576 → (∀ p ∈ suf, p.f2.length ≤ 1048576) →
    Ev (fun k => laws_eqProbeS.l0 k (pre ++ suf) (pre ++ suf) (pre.length : Int)) true := by
  intro suf
  induction suf with
  | nil =>
    intro pre hb hq
    refine Ev.step (fun k => by rw [laws_eqProbeS.l0]) ?_
    exact evNeg (by simp) (Ev.now _)
  | cons x suf ih =>
    intro pre hb hq
    simp only [List.length_append, List.length_cons] at hb
    refine Ev.step (fun k => by rw [laws_eqProbeS.l0]) ?_
    refine evPos (by simp only [List.length_append, List.length_cons]; omega) (evPos (by omega) (evPos (by simp only [List.length_append, List.length_cons]; omega) ?_))
    simp only [rd_T84, getD_mid]
    refine Ev.bind (eqProbe_ev x (hq x (by simp))) (evPos rfl ?_)
    rw [wsucc (by omega)]
    have h := ih (pre ++ [x]) (by simp; omega) (fun p h => hq p (by simp [h]))
    simpa using h
theorem eqProbeS_ev (l : List S84) (hl : okP' l) : Ev (fun k => laws_eqProbeS.f k l l) true := by
  unfold laws_eqProbeS.f
  refine evPos rfl ?_
  have h := eqProbeS_l0 l [] (by simpa using hl.1) hl.2
  simpa using h
def okW' (lk : List S96) (de dn : List Int) (pr : List S84) (ow li : List Int) (se : List S62) : Prop :=
  lk.length ≤ 1048576 ∧ de.length ≤ 1048576 ∧ dn.length ≤ 1048576 ∧ okP' pr ∧ ow.length ≤ 1048576 ∧ li.length ≤ 1048576 ∧ se.length ≤ 1048576
theorem okW_cv {lk : List S133} {de dn : List Int} {pr : List S116} {ow li : List Int} {se : List S120} (h : okW lk de dn pr ow li se) :
    okW' (lk.map cvLink) de dn (pr.map cvProbe) ow li (se.map cvSeen) := by
  obtain ⟨h1, h2, h3, h4, h5, h6, h7⟩ := h
  refine ⟨by simpa using h1, h2, h3, ⟨by simpa using h4.1, fun p hp => ?_⟩, h5, h6, by simpa using h7⟩
  obtain ⟨q, hq, rfl⟩ := List.mem_map.1 hp
  exact h4.2 q hq
theorem eqBucket_eq (a b c d : Int) : laws_eqBucket.f a b c d a b c d = some true := by
  simp [laws_eqBucket.f]
theorem eqNet_ev (nd : Int) (lk : List S96) (h : lk.length ≤ 1048576) : Ev (fun k => laws_eqNet.f k nd lk nd lk) true := by
  unfold laws_eqNet.f
  exact evPos rfl (Ev.bind (eqLinkS_ev lk h) (evPos rfl (Ev.now _)))
/-! ### wkit -/
/-- A world's data (impl.World). -/
structure IW where
  d0 : Int
  l1 : List S96
  l2 : List Int
  l3 : List Int
  l4 : List S84
  l5 : List Int
  l6 : List Int
  d7 : Int
  d8 : Int
  d9 : Int
  d10 : Int
  l11 : List S62
  d12 : Int
/-- Where its rows lie. -/
structure IP where
  A1 : Option Addr
  c1 : Nat
  A2 : Option Addr
  c2 : Nat
  A3 : Option Addr
  c3 : Nat
  A4 : Option Addr
  c4 : Nat
  A5 : Option Addr
  c5 : Nat
  A6 : Option Addr
  c6 : Nat
  A11 : Option Addr
  c11 : Nat
abbrev IW.cells (x : IW) (p : IP) : Array Value := #[.int .i64 x.d0, .slice p.A1 x.l1.length p.c1, .slice p.A2 x.l2.length p.c2, .slice p.A3 x.l3.length p.c3, .slice p.A4 x.l4.length p.c4, .slice p.A5 x.l5.length p.c5, .slice p.A6 x.l6.length p.c6, .int .i64 x.d7, .int .i64 x.d8, .int .i64 x.d9, .int .i64 x.d10, .slice p.A11 x.l11.length p.c11, .int .i64 x.d12]
structure IW.Rd (x : IW) (p : IP) (w : World) : Prop where
  r1 : Kd.C k96 w p.A1 x.l1.length x.l1
  h1 : x.l1.length ≤ p.c1
  r2 : Kd.C (Kd.int .i64) w p.A2 x.l2.length x.l2
  h2 : x.l2.length ≤ p.c2
  r3 : Kd.C (Kd.int .i64) w p.A3 x.l3.length x.l3
  h3 : x.l3.length ≤ p.c3
  r4 : Kd.C k84 w p.A4 x.l4.length x.l4
  h4 : x.l4.length ≤ p.c4
  r5 : Kd.C (Kd.int .i64) w p.A5 x.l5.length x.l5
  h5 : x.l5.length ≤ p.c5
  r6 : Kd.C (Kd.int .i64) w p.A6 x.l6.length x.l6
  h6 : x.l6.length ≤ p.c6
  r11 : Kd.C k62 w p.A11 x.l11.length x.l11
  h11 : x.l11.length ≤ p.c11
theorem IW.Rd.below {x : IW} {p : IP} {w w1 : World} (h : x.Rd p w) (hb : Below w.heap.size w w1) : x.Rd p w1 := ⟨Kd.C_below h.r1 hb, h.h1, Kd.C_below h.r2 hb, h.h2, Kd.C_below h.r3 hb, h.h3, Kd.C_below h.r4 hb, h.h4, Kd.C_below h.r5 hb, h.h5, Kd.C_below h.r6 hb, h.h6, Kd.C_below h.r11 hb, h.h11⟩
theorem IW.at_ {x : IW} {p : IP} {w : World} {g t : Nat} (h : w.heap[g]? = some (.cells (x.cells p) t (0, 0))) : w.cell? ⟨g, 0, none⟩ = some (.int .i64 x.d0) ∧ w.cell? ⟨g, 1, none⟩ = some (.slice p.A1 x.l1.length p.c1) ∧ w.cell? ⟨g, 2, none⟩ = some (.slice p.A2 x.l2.length p.c2) ∧ w.cell? ⟨g, 3, none⟩ = some (.slice p.A3 x.l3.length p.c3) ∧ w.cell? ⟨g, 4, none⟩ = some (.slice p.A4 x.l4.length p.c4) ∧ w.cell? ⟨g, 5, none⟩ = some (.slice p.A5 x.l5.length p.c5) ∧ w.cell? ⟨g, 6, none⟩ = some (.slice p.A6 x.l6.length p.c6) ∧ w.cell? ⟨g, 7, none⟩ = some (.int .i64 x.d7) ∧ w.cell? ⟨g, 8, none⟩ = some (.int .i64 x.d8) ∧ w.cell? ⟨g, 9, none⟩ = some (.int .i64 x.d9) ∧ w.cell? ⟨g, 10, none⟩ = some (.int .i64 x.d10) ∧ w.cell? ⟨g, 11, none⟩ = some (.slice p.A11 x.l11.length p.c11) ∧ w.cell? ⟨g, 12, none⟩ = some (.int .i64 x.d12) := ⟨(blk_cell h 0).trans rfl, (blk_cell h 1).trans rfl, (blk_cell h 2).trans rfl, (blk_cell h 3).trans rfl, (blk_cell h 4).trans rfl, (blk_cell h 5).trans rfl, (blk_cell h 6).trans rfl, (blk_cell h 7).trans rfl, (blk_cell h 8).trans rfl, (blk_cell h 9).trans rfl, (blk_cell h 10).trans rfl, (blk_cell h 11).trans rfl, (blk_cell h 12).trans rfl⟩
structure IW.Md (x : IW) (p : IP) (w : World) (base : Nat) (ok : Nat → Prop) : Prop where
  m1 : Kd.R k96 96 w base (fun k_ => ok k_) (.slice p.A1 x.l1.length p.c1) x.l1
  m2 : Kd.R (Kd.int .i64) 3 w base (fun k_ => ok k_ ∧ some k_ ≠ (.slice p.A3 x.l3.length p.c3 : Value).ownBlock ∧ some k_ ≠ (.slice p.A5 x.l5.length p.c5 : Value).ownBlock ∧ some k_ ≠ (.slice p.A6 x.l6.length p.c6 : Value).ownBlock) (.slice p.A2 x.l2.length p.c2) x.l2
  m3 : Kd.R (Kd.int .i64) 3 w base (fun k_ => ok k_ ∧ some k_ ≠ (.slice p.A2 x.l2.length p.c2 : Value).ownBlock ∧ some k_ ≠ (.slice p.A5 x.l5.length p.c5 : Value).ownBlock ∧ some k_ ≠ (.slice p.A6 x.l6.length p.c6 : Value).ownBlock) (.slice p.A3 x.l3.length p.c3) x.l3
  m4 : Kd.S k84 84 w base (fun k_ => ok k_ ∧ some k_ ≠ (.slice p.A2 x.l2.length p.c2 : Value).ownBlock ∧ some k_ ≠ (.slice p.A3 x.l3.length p.c3 : Value).ownBlock ∧ some k_ ≠ (.slice p.A5 x.l5.length p.c5 : Value).ownBlock ∧ some k_ ≠ (.slice p.A6 x.l6.length p.c6 : Value).ownBlock) (.slice p.A4 x.l4.length p.c4) x.l4
  m5 : Kd.R (Kd.int .i64) 3 w base (fun k_ => ok k_ ∧ some k_ ≠ (.slice p.A2 x.l2.length p.c2 : Value).ownBlock ∧ some k_ ≠ (.slice p.A3 x.l3.length p.c3 : Value).ownBlock ∧ some k_ ≠ (.slice p.A6 x.l6.length p.c6 : Value).ownBlock) (.slice p.A5 x.l5.length p.c5) x.l5
  m6 : Kd.R (Kd.int .i64) 3 w base (fun k_ => ok k_ ∧ some k_ ≠ (.slice p.A2 x.l2.length p.c2 : Value).ownBlock ∧ some k_ ≠ (.slice p.A3 x.l3.length p.c3 : Value).ownBlock ∧ some k_ ≠ (.slice p.A5 x.l5.length p.c5 : Value).ownBlock) (.slice p.A6 x.l6.length p.c6) x.l6
  m11 : Kd.R k62 62 w base (fun k_ => ok k_) (.slice p.A11 x.l11.length p.c11) x.l11
theorem IW.Md.rd {x : IW} {p : IP} {w : World} {base : Nat} {ok : Nat → Prop} (h : x.Md p w base ok) : x.Rd p w := ⟨(Kd.R_reads' h.m1).2.2, (Kd.R_reads' h.m1).2.1, (Kd.R_reads' h.m2).2.2, (Kd.R_reads' h.m2).2.1, (Kd.R_reads' h.m3).2.2, (Kd.R_reads' h.m3).2.1, (Kd.S_reads' h.m4).2.2, (Kd.S_reads' h.m4).2.1, (Kd.R_reads' h.m5).2.2, (Kd.R_reads' h.m5).2.1, (Kd.R_reads' h.m6).2.2, (Kd.R_reads' h.m6).2.1, (Kd.R_reads' h.m11).2.2, (Kd.R_reads' h.m11).2.1⟩
theorem IW.Md.step {x : IW} {p : IP} {w w1 : World} {base : Nat} {ok : Nat → Prop} (h : x.Md p w base ok) (hm : ∀ k, ok k → k < w.heap.size → w1.heap[k]? = w.heap[k]?) : x.Md p w1 base ok := ⟨Kd.R_step h.m1 (fun k hk hl => hm k hk hl), Kd.R_step h.m2 (fun k hk hl => hm k hk.1 hl), Kd.R_step h.m3 (fun k hk hl => hm k hk.1 hl), Kd.S_step h.m4 (fun k hk hl => hm k hk.1 hl), Kd.R_step h.m5 (fun k hk hl => hm k hk.1 hl), Kd.R_step h.m6 (fun k hk hl => hm k hk.1 hl), Kd.R_step h.m11 (fun k hk hl => hm k hk hl)⟩
theorem IW.Md.below {x : IW} {p : IP} {w w1 : World} {base : Nat} {ok : Nat → Prop} (h : x.Md p w base ok) (hb : Below w.heap.size w w1) : x.Md p w1 base ok := h.step (fun k _ hl => hb.block k hl)
theorem IW.Md.kept {x : IW} {p : IP} {w w1 : World} {base : Nat} {ok S : Nat → Prop} (h : x.Md p w base ok) (hk : Kept w w1 S) (hne : ∀ k, ok k → ¬ S k) : x.Md p w1 base ok := h.step (fun k ho hl => hk.2 k hl (hne k ho))
theorem IW.Md.lower {x : IW} {p : IP} {w : World} {base base' : Nat} {ok : Nat → Prop} (h : x.Md p w base ok) (hb : base' ≤ base) : x.Md p w base' ok := ⟨Kd.R_lower h.m1 hb, Kd.R_lower h.m2 hb, Kd.R_lower h.m3 hb, Kd.S_lower h.m4 hb, Kd.R_lower h.m5 hb, Kd.R_lower h.m6 hb, Kd.R_lower h.m11 hb⟩
theorem IW.Md.mono {x : IW} {p : IP} {w : World} {base : Nat} {ok ok' : Nat → Prop} (h : x.Md p w base ok) (hok : ∀ k, ok k → ok' k) : x.Md p w base ok' := ⟨Kd.R_mono h.m1 (fun k hk => hok k hk), Kd.R_mono h.m2 (fun k hk => ⟨hok k hk.1, hk.2⟩), Kd.R_mono h.m3 (fun k hk => ⟨hok k hk.1, hk.2⟩), Kd.S_mono h.m4 (fun k hk => ⟨hok k hk.1, hk.2⟩), Kd.R_mono h.m5 (fun k hk => ⟨hok k hk.1, hk.2⟩), Kd.R_mono h.m6 (fun k hk => ⟨hok k hk.1, hk.2⟩), Kd.R_mono h.m11 (fun k hk => hok k hk)⟩
/-- A world's data (laws.World). -/
structure LW where
  d0 : Int
  l1 : List S133
  l2 : List Int
  l3 : List Int
  l4 : List S116
  l5 : List Int
  l6 : List Int
  d7 : Int
  d8 : Int
  d9 : Int
  d10 : Int
  l11 : List S120
  d12 : Int
/-- Where its rows lie. -/
structure LP where
  A1 : Option Addr
  c1 : Nat
  A2 : Option Addr
  c2 : Nat
  A3 : Option Addr
  c3 : Nat
  A4 : Option Addr
  c4 : Nat
  A5 : Option Addr
  c5 : Nat
  A6 : Option Addr
  c6 : Nat
  A11 : Option Addr
  c11 : Nat
abbrev LW.cells (x : LW) (p : LP) : Array Value := #[.int .i64 x.d0, .slice p.A1 x.l1.length p.c1, .slice p.A2 x.l2.length p.c2, .slice p.A3 x.l3.length p.c3, .slice p.A4 x.l4.length p.c4, .slice p.A5 x.l5.length p.c5, .slice p.A6 x.l6.length p.c6, .int .i64 x.d7, .int .i64 x.d8, .int .i64 x.d9, .int .i64 x.d10, .slice p.A11 x.l11.length p.c11, .int .i64 x.d12]
structure LW.Rd (x : LW) (p : LP) (w : World) : Prop where
  r1 : Kd.C k133 w p.A1 x.l1.length x.l1
  h1 : x.l1.length ≤ p.c1
  r2 : Kd.C (Kd.int .i64) w p.A2 x.l2.length x.l2
  h2 : x.l2.length ≤ p.c2
  r3 : Kd.C (Kd.int .i64) w p.A3 x.l3.length x.l3
  h3 : x.l3.length ≤ p.c3
  r4 : Kd.C k116 w p.A4 x.l4.length x.l4
  h4 : x.l4.length ≤ p.c4
  r5 : Kd.C (Kd.int .i64) w p.A5 x.l5.length x.l5
  h5 : x.l5.length ≤ p.c5
  r6 : Kd.C (Kd.int .i64) w p.A6 x.l6.length x.l6
  h6 : x.l6.length ≤ p.c6
  r11 : Kd.C k120 w p.A11 x.l11.length x.l11
  h11 : x.l11.length ≤ p.c11
theorem LW.Rd.below {x : LW} {p : LP} {w w1 : World} (h : x.Rd p w) (hb : Below w.heap.size w w1) : x.Rd p w1 := ⟨Kd.C_below h.r1 hb, h.h1, Kd.C_below h.r2 hb, h.h2, Kd.C_below h.r3 hb, h.h3, Kd.C_below h.r4 hb, h.h4, Kd.C_below h.r5 hb, h.h5, Kd.C_below h.r6 hb, h.h6, Kd.C_below h.r11 hb, h.h11⟩
theorem LW.at_ {x : LW} {p : LP} {w : World} {g t : Nat} (h : w.heap[g]? = some (.cells (x.cells p) t (0, 0))) : w.cell? ⟨g, 0, none⟩ = some (.int .i64 x.d0) ∧ w.cell? ⟨g, 1, none⟩ = some (.slice p.A1 x.l1.length p.c1) ∧ w.cell? ⟨g, 2, none⟩ = some (.slice p.A2 x.l2.length p.c2) ∧ w.cell? ⟨g, 3, none⟩ = some (.slice p.A3 x.l3.length p.c3) ∧ w.cell? ⟨g, 4, none⟩ = some (.slice p.A4 x.l4.length p.c4) ∧ w.cell? ⟨g, 5, none⟩ = some (.slice p.A5 x.l5.length p.c5) ∧ w.cell? ⟨g, 6, none⟩ = some (.slice p.A6 x.l6.length p.c6) ∧ w.cell? ⟨g, 7, none⟩ = some (.int .i64 x.d7) ∧ w.cell? ⟨g, 8, none⟩ = some (.int .i64 x.d8) ∧ w.cell? ⟨g, 9, none⟩ = some (.int .i64 x.d9) ∧ w.cell? ⟨g, 10, none⟩ = some (.int .i64 x.d10) ∧ w.cell? ⟨g, 11, none⟩ = some (.slice p.A11 x.l11.length p.c11) ∧ w.cell? ⟨g, 12, none⟩ = some (.int .i64 x.d12) := ⟨(blk_cell h 0).trans rfl, (blk_cell h 1).trans rfl, (blk_cell h 2).trans rfl, (blk_cell h 3).trans rfl, (blk_cell h 4).trans rfl, (blk_cell h 5).trans rfl, (blk_cell h 6).trans rfl, (blk_cell h 7).trans rfl, (blk_cell h 8).trans rfl, (blk_cell h 9).trans rfl, (blk_cell h 10).trans rfl, (blk_cell h 11).trans rfl, (blk_cell h 12).trans rfl⟩
def cvW (y : LW) : IW := ⟨y.d0, y.l1.map cvLink, y.l2, y.l3, y.l4.map cvProbe, y.l5, y.l6, y.d7, y.d8, y.d9, y.d10, y.l11.map cvSeen, y.d12⟩
def LW.Ok (y : LW) : Prop := okW y.l1 y.l2 y.l3 y.l4 y.l5 y.l6 y.l11
def IW.Ok (x : IW) : Prop := okW' x.l1 x.l2 x.l3 x.l4 x.l5 x.l6 x.l11
theorem cvW_ok {y : LW} (h : y.Ok) : (cvW y).Ok := okW_cv h
/-! ### weq -/
set_option maxHeartbeats 4000000 in
set_option maxRecDepth 100000 in
theorem eqWorld_c (x : IW) (p q : IP) (w : World) (hp : x.Rd p w) (hq : x.Rd q w) (ho : x.Ok) :
    Calls Try.prog 38 #[.agg (x.cells p), .agg (x.cells q)] w fun e w' => e = .returned (.bool true) ∧ Below w.heap.size w w' := by
  have hu := Try.underlying56
  have hu2 := Try.underlying51
  have hu3 := Try.underlying53
  obtain ⟨k1, hk⟩ := (eqNet_ev x.d0 x.l1 ho.1).rounds
  have K1 := Aside0.mk hk
  clear hk
  obtain ⟨k2, hk⟩ := (eqIntS_ev x.l2 ho.2.1).rounds
  have K2 := Aside0.mk hk
  clear hk
  obtain ⟨k3, hk⟩ := (eqIntS_ev x.l3 ho.2.2.1).rounds
  have K3 := Aside0.mk hk
  clear hk
  obtain ⟨k4, hk⟩ := (eqProbeS_ev x.l4 ho.2.2.2.1).rounds
  have K4 := Aside0.mk hk
  clear hk
  obtain ⟨k5, hk⟩ := (eqIntS_ev x.l5 ho.2.2.2.2.1).rounds
  have K5 := Aside0.mk hk
  clear hk
  obtain ⟨k6, hk⟩ := (eqIntS_ev x.l6 ho.2.2.2.2.2.1).rounds
  have K6 := Aside0.mk hk
  clear hk
  obtain ⟨k11, hk⟩ := (eqSeenS_ev x.l11 ho.2.2.2.2.2.2).rounds
  have K11 := Aside0.mk hk
  clear hk
  have HP := Aside0.mk hp
  have HQ := Aside0.mk hq
  clear hp hq ho
  go_enter Try.func38, Try.ntmps38
  go_wp2_with fail
  go_at_call 83; (with_reducible refine (laws_eqNet.calls k1 x.d0 p.A1 p.c1 x.l1 x.d0 q.A1 q.c1 x.l1 true _ ?s0 HP.out.h1 ?s1 HQ.out.h1 K1.out ⟨rfl⟩).mono ?_); (case s0 => exact (HP.out.below (by repeat (first | (with_reducible first | exact Below.refl _ _ | apply below_alloc | apply pw_below_drewN | apply below_drew1) | exact Below.refl _ _))).r1); (case s1 => exact (HQ.out.below (by repeat (first | (with_reducible first | exact Below.refl _ _ | apply below_alloc | apply pw_below_drewN | apply below_drew1) | exact Below.refl _ _))).r1); rintro e w1 ⟨rfl, hb⟩
  have HB := Aside0.mk (below_step (w := w) (by repeat (first | (with_reducible first | exact Below.refl _ _ | apply below_alloc | apply pw_below_drewN | apply below_drew1) | exact Below.refl _ _)) hb)
  have BP := Aside0.mk (show w1.heap[w.heap.size]? = some (.cells (x.cells p) 56 (0, 0)) from blk_below (by repeat (first | exact blk_new _ _ | refine blk_drewN ?_ _ | refine blk_alloc ?_ _)) hb)
  have BQ := Aside0.mk (show w1.heap[w.heap.size + 1]? = some (.cells (x.cells q) 56 (0, 0)) from blk_below (by have h_ := blk_new (w.alloc (.cells (x.cells p) 56)) (.cells (x.cells q) 56); simpa using h_) hb)
  clear hb
  obtain ⟨hp0, hp1, hp2, hp3, hp4, hp5, hp6, hp7, hp8, hp9, hp10, hp11, hp12⟩ := IW.at_ BP.out
  obtain ⟨hq0, hq1, hq2, hq3, hq4, hq5, hq6, hq7, hq8, hq9, hq10, hq11, hq12⟩ := IW.at_ BQ.out
  go_wp2_with fail
  go_at_call 21; (with_reducible refine (laws_eqIntS.calls k2 p.A2 p.c2 x.l2 q.A2 q.c2 x.l2 true _ ?s0 HP.out.h2 ?s1 HQ.out.h2 K2.out ⟨rfl⟩).mono ?_); (case s0 => exact (HP.out.below (below_step HB.out (by repeat (first | (with_reducible first | exact Below.refl _ _ | apply below_alloc | apply pw_below_drewN | apply below_drew1) | exact Below.refl _ _)))).r2); (case s1 => exact (HQ.out.below (below_step HB.out (by repeat (first | (with_reducible first | exact Below.refl _ _ | apply below_alloc | apply pw_below_drewN | apply below_drew1) | exact Below.refl _ _)))).r2); rintro e w' ⟨rfl, ⟨nd, rfl⟩⟩
  clear hp0 hp1 hp2 hp3 hp4 hp5 hp6 hp7 hp8 hp9 hp10 hp11 hp12 hq0 hq1 hq2 hq3 hq4 hq5 hq6 hq7 hq8 hq9 hq10 hq11 hq12
  obtain ⟨hp0, hp1, hp2, hp3, hp4, hp5, hp6, hp7, hp8, hp9, hp10, hp11, hp12⟩ := IW.at_ BP.out
  obtain ⟨hq0, hq1, hq2, hq3, hq4, hq5, hq6, hq7, hq8, hq9, hq10, hq11, hq12⟩ := IW.at_ BQ.out
  go_wp2_with fail
  go_at_call 21; (with_reducible refine (laws_eqIntS.calls k3 p.A3 p.c3 x.l3 q.A3 q.c3 x.l3 true _ ?s0 HP.out.h3 ?s1 HQ.out.h3 K3.out ⟨rfl⟩).mono ?_); (case s0 => exact (HP.out.below (below_step HB.out (by repeat (first | (with_reducible first | exact Below.refl _ _ | apply below_alloc | apply pw_below_drewN | apply below_drew1) | exact Below.refl _ _)))).r3); (case s1 => exact (HQ.out.below (below_step HB.out (by repeat (first | (with_reducible first | exact Below.refl _ _ | apply below_alloc | apply pw_below_drewN | apply below_drew1) | exact Below.refl _ _)))).r3); rintro e w' ⟨rfl, ⟨nd, rfl⟩⟩
  clear hp0 hp1 hp2 hp3 hp4 hp5 hp6 hp7 hp8 hp9 hp10 hp11 hp12 hq0 hq1 hq2 hq3 hq4 hq5 hq6 hq7 hq8 hq9 hq10 hq11 hq12
  obtain ⟨hp0, hp1, hp2, hp3, hp4, hp5, hp6, hp7, hp8, hp9, hp10, hp11, hp12⟩ := IW.at_ BP.out
  obtain ⟨hq0, hq1, hq2, hq3, hq4, hq5, hq6, hq7, hq8, hq9, hq10, hq11, hq12⟩ := IW.at_ BQ.out
  go_wp2_with fail
  go_at_call 84; (with_reducible refine (laws_eqProbeS.calls k4 p.A4 p.c4 x.l4 q.A4 q.c4 x.l4 true _ ?s0 HP.out.h4 ?s1 HQ.out.h4 K4.out ⟨rfl⟩).mono ?_); (case s0 => exact (HP.out.below (below_step HB.out (by repeat (first | (with_reducible first | exact Below.refl _ _ | apply below_alloc | apply pw_below_drewN | apply below_drew1) | exact Below.refl _ _)))).r4); (case s1 => exact (HQ.out.below (below_step HB.out (by repeat (first | (with_reducible first | exact Below.refl _ _ | apply below_alloc | apply pw_below_drewN | apply below_drew1) | exact Below.refl _ _)))).r4); rintro e w4 ⟨rfl, hb⟩
  have hs := below_step (w := w1) (by repeat (first | (with_reducible first | exact Below.refl _ _ | apply below_alloc | apply pw_below_drewN | apply below_drew1) | exact Below.refl _ _)) hb
  have HB2 := Aside0.mk (below_step HB.out hs)
  have BP2 := Aside0.mk (blk_below BP.out hs)
  have BQ2 := Aside0.mk (blk_below BQ.out hs)
  clear HB BP BQ hb hs hp0 hp1 hp2 hp3 hp4 hp5 hp6 hp7 hp8 hp9 hp10 hp11 hp12 hq0 hq1 hq2 hq3 hq4 hq5 hq6 hq7 hq8 hq9 hq10 hq11 hq12
  have HB := HB2
  have BP := BP2
  have BQ := BQ2
  clear HB2 BP2 BQ2
  obtain ⟨hp0, hp1, hp2, hp3, hp4, hp5, hp6, hp7, hp8, hp9, hp10, hp11, hp12⟩ := IW.at_ BP.out
  obtain ⟨hq0, hq1, hq2, hq3, hq4, hq5, hq6, hq7, hq8, hq9, hq10, hq11, hq12⟩ := IW.at_ BQ.out
  go_wp2_with fail
  go_at_call 21; (with_reducible refine (laws_eqIntS.calls k5 p.A5 p.c5 x.l5 q.A5 q.c5 x.l5 true _ ?s0 HP.out.h5 ?s1 HQ.out.h5 K5.out ⟨rfl⟩).mono ?_); (case s0 => exact (HP.out.below (below_step HB.out (by repeat (first | (with_reducible first | exact Below.refl _ _ | apply below_alloc | apply pw_below_drewN | apply below_drew1) | exact Below.refl _ _)))).r5); (case s1 => exact (HQ.out.below (below_step HB.out (by repeat (first | (with_reducible first | exact Below.refl _ _ | apply below_alloc | apply pw_below_drewN | apply below_drew1) | exact Below.refl _ _)))).r5); rintro e w' ⟨rfl, ⟨nd, rfl⟩⟩
  clear hp0 hp1 hp2 hp3 hp4 hp5 hp6 hp7 hp8 hp9 hp10 hp11 hp12 hq0 hq1 hq2 hq3 hq4 hq5 hq6 hq7 hq8 hq9 hq10 hq11 hq12
  obtain ⟨hp0, hp1, hp2, hp3, hp4, hp5, hp6, hp7, hp8, hp9, hp10, hp11, hp12⟩ := IW.at_ BP.out
  obtain ⟨hq0, hq1, hq2, hq3, hq4, hq5, hq6, hq7, hq8, hq9, hq10, hq11, hq12⟩ := IW.at_ BQ.out
  go_wp2_with fail
  go_at_call 21; (with_reducible refine (laws_eqIntS.calls k6 p.A6 p.c6 x.l6 q.A6 q.c6 x.l6 true _ ?s0 HP.out.h6 ?s1 HQ.out.h6 K6.out ⟨rfl⟩).mono ?_); (case s0 => exact (HP.out.below (below_step HB.out (by repeat (first | (with_reducible first | exact Below.refl _ _ | apply below_alloc | apply pw_below_drewN | apply below_drew1) | exact Below.refl _ _)))).r6); (case s1 => exact (HQ.out.below (below_step HB.out (by repeat (first | (with_reducible first | exact Below.refl _ _ | apply below_alloc | apply pw_below_drewN | apply below_drew1) | exact Below.refl _ _)))).r6); rintro e w' ⟨rfl, ⟨nd, rfl⟩⟩
  clear hp0 hp1 hp2 hp3 hp4 hp5 hp6 hp7 hp8 hp9 hp10 hp11 hp12 hq0 hq1 hq2 hq3 hq4 hq5 hq6 hq7 hq8 hq9 hq10 hq11 hq12
  obtain ⟨hp0, hp1, hp2, hp3, hp4, hp5, hp6, hp7, hp8, hp9, hp10, hp11, hp12⟩ := IW.at_ BP.out
  obtain ⟨hq0, hq1, hq2, hq3, hq4, hq5, hq6, hq7, hq8, hq9, hq10, hq11, hq12⟩ := IW.at_ BQ.out
  go_wp2_with fail
  go_at_call 85; (with_reducible refine (laws_eqBucket.calls x.d7 x.d8 x.d9 x.d10 x.d7 x.d8 x.d9 x.d10 true _ (eqBucket_eq _ _ _ _) ⟨rfl⟩).mono ?_); rintro e w7 ⟨rfl, hb⟩
  have hs := below_step (w := w4) (by repeat (first | (with_reducible first | exact Below.refl _ _ | apply below_alloc | apply pw_below_drewN | apply below_drew1) | exact Below.refl _ _)) hb
  have HB2 := Aside0.mk (below_step HB.out hs)
  have BP2 := Aside0.mk (blk_below BP.out hs)
  have BQ2 := Aside0.mk (blk_below BQ.out hs)
  clear HB BP BQ hb hs hp0 hp1 hp2 hp3 hp4 hp5 hp6 hp7 hp8 hp9 hp10 hp11 hp12 hq0 hq1 hq2 hq3 hq4 hq5 hq6 hq7 hq8 hq9 hq10 hq11 hq12
  have HB := HB2
  have BP := BP2
  have BQ := BQ2
  clear HB2 BP2 BQ2
  obtain ⟨hp0, hp1, hp2, hp3, hp4, hp5, hp6, hp7, hp8, hp9, hp10, hp11, hp12⟩ := IW.at_ BP.out
  obtain ⟨hq0, hq1, hq2, hq3, hq4, hq5, hq6, hq7, hq8, hq9, hq10, hq11, hq12⟩ := IW.at_ BQ.out
  go_wp2_with fail
  go_at_call 86; (with_reducible refine (laws_eqSeenS.calls k11 p.A11 p.c11 x.l11 q.A11 q.c11 x.l11 true _ ?s0 HP.out.h11 ?s1 HQ.out.h11 K11.out ⟨rfl⟩).mono ?_); (case s0 => exact (HP.out.below (below_step HB.out (by repeat (first | (with_reducible first | exact Below.refl _ _ | apply below_alloc | apply pw_below_drewN | apply below_drew1) | exact Below.refl _ _)))).r11); (case s1 => exact (HQ.out.below (below_step HB.out (by repeat (first | (with_reducible first | exact Below.refl _ _ | apply below_alloc | apply pw_below_drewN | apply below_drew1) | exact Below.refl _ _)))).r11); rintro e w8 ⟨rfl, hb⟩
  have hs := below_step (w := w7) (by repeat (first | (with_reducible first | exact Below.refl _ _ | apply below_alloc | apply pw_below_drewN | apply below_drew1) | exact Below.refl _ _)) hb
  have HB2 := Aside0.mk (below_step HB.out hs)
  have BP2 := Aside0.mk (blk_below BP.out hs)
  have BQ2 := Aside0.mk (blk_below BQ.out hs)
  clear HB BP BQ hb hs hp0 hp1 hp2 hp3 hp4 hp5 hp6 hp7 hp8 hp9 hp10 hp11 hp12 hq0 hq1 hq2 hq3 hq4 hq5 hq6 hq7 hq8 hq9 hq10 hq11 hq12
  have HB := HB2
  have BP := BP2
  have BQ := BQ2
  clear HB2 BP2 BQ2
  obtain ⟨hp0, hp1, hp2, hp3, hp4, hp5, hp6, hp7, hp8, hp9, hp10, hp11, hp12⟩ := IW.at_ BP.out
  obtain ⟨hq0, hq1, hq2, hq3, hq4, hq5, hq6, hq7, hq8, hq9, hq10, hq11, hq12⟩ := IW.at_ BQ.out
  go_wp2
  go_ret
  exact ⟨rfl, below_step HB.out (by repeat (first | (with_reducible first | exact Below.refl _ _ | apply below_alloc | apply pw_below_drewN | apply below_drew1) | exact Below.refl _ _))⟩
/-! ### wto -/
theorem calls_gen {P : Program} {f : Nat} {args : Array Value} {w : World} {Q : Ending → World → Prop} (R : World → Prop) (hR : R w) (h : ∀ w', R w' → Calls P f args w' Q) : Calls P f args w Q := h w hR
theorem R_iv {α : Type} {d : Kd α} {e : Nat} {W w2 : World} {b : Nat} {ok : Nat → Prop} {v : Value} {xs : List α} (hb : b ≤ W.heap.size) (ho : Kd.R d e w2 W.heap.size ok v xs) : Kd.R d e w2 b (fun k => W.heap.size ≤ k ∧ k < w2.heap.size) v xs := Kd.R_lower (Kd.R_mono (Kd.R_bound ho) (fun k hk => ⟨hk.2.1, hk.2.2.1⟩)) hb
theorem S_iv {α : Type} {d : Kd α} {e : Nat} {W w2 : World} {b : Nat} {ok : Nat → Prop} {v : Value} {xs : List α} (hb : b ≤ W.heap.size) (ho : Kd.S d e w2 W.heap.size ok v xs) : Kd.S d e w2 b (fun k => W.heap.size ≤ k ∧ k < w2.heap.size) v xs := Kd.S_lower (Kd.S_mono (Kd.S_bound ho) (fun k hk => ⟨hk.2.1, hk.2.2.1⟩)) hb
set_option maxHeartbeats 8000000 in
set_option maxRecDepth 100000 in
theorem toWorld_c (y : LW) (q : LP) (w : World) (hq : y.Rd q w) (ho : y.Ok) :
    Calls Try.prog 36 #[.agg (y.cells q)] w fun e w' => ∃ p : IP, e = .returned (.agg ((cvW y).cells p)) ∧ (cvW y).Md p w' w.heap.size (fun k => w.heap.size ≤ k ∧ k < w'.heap.size) ∧ Below w.heap.size w w' := by
  have hu := Try.underlying56
  have hu2 := Try.underlying51
  have hu3 := Try.underlying53
  have hv := Try.underlying46
  have hv2 := Try.underlying40
  have hv3 := Try.underlying43
  obtain ⟨k1, hk⟩ := (show Ev (fun k => laws_toNet.f k y.d0 y.l1) (y.d0, y.l1.map cvLink) from by unfold laws_toNet.f; exact Ev.bind (toLinkS_ev y.l1 ho.1) (Ev.now _)).rounds
  obtain ⟨x1, hx1⟩ : ∃ x_, x_ = y.l1.map cvLink := ⟨_, rfl⟩
  rw [← hx1] at hk
  have HX1 := Aside0.mk hx1
  clear hx1
  have K1 := Aside0.mk hk
  clear hk
  obtain ⟨k2, hk⟩ := (toIntS_ev y.l2 ho.2.1).rounds
  have K2 := Aside0.mk hk
  clear hk
  obtain ⟨k3, hk⟩ := (toIntS_ev y.l3 ho.2.2.1).rounds
  have K3 := Aside0.mk hk
  clear hk
  obtain ⟨k4, hk⟩ := (toProbeS_ev y.l4 ho.2.2.2.1).rounds
  obtain ⟨x4, hx4⟩ : ∃ x_, x_ = y.l4.map cvProbe := ⟨_, rfl⟩
  rw [← hx4] at hk
  have HX4 := Aside0.mk hx4
  clear hx4
  have K4 := Aside0.mk hk
  clear hk
  obtain ⟨k5, hk⟩ := (toIntS_ev y.l5 ho.2.2.2.2.1).rounds
  have K5 := Aside0.mk hk
  clear hk
  obtain ⟨k6, hk⟩ := (toIntS_ev y.l6 ho.2.2.2.2.2.1).rounds
  have K6 := Aside0.mk hk
  clear hk
  obtain ⟨k11, hk⟩ := (toSeenS_ev y.l11 ho.2.2.2.2.2.2).rounds
  obtain ⟨x11, hx11⟩ : ∃ x_, x_ = y.l11.map cvSeen := ⟨_, rfl⟩
  rw [← hx11] at hk
  have HX11 := Aside0.mk hx11
  clear hx11
  have K11 := Aside0.mk hk
  clear hk
  have HQ := Aside0.mk hq
  clear hq ho
  go_enter Try.func36, Try.ntmps36
  go_wp2_with fail
  refine calls_gen (fun W' => W'.heap[w.heap.size]? = some (.cells (y.cells q) 46 (0, 0)) ∧ W'.heap[w.heap.size + 1]? = some (.cells #[.int .i64 0, .slice none 0 0, .slice none 0 0, .slice none 0 0, .slice none 0 0, .slice none 0 0, .slice none 0 0, .int .i64 0, .int .i64 0, .int .i64 0, .int .i64 0, .slice none 0 0, .int .i64 0] 56 (0, 0)) ∧ W'.heap[w.heap.size + 1 + 1]? = some (.cells #[.int .i64 0, .slice none 0 0, .slice none 0 0, .slice none 0 0, .slice none 0 0, .slice none 0 0, .slice none 0 0, .int .i64 0, .int .i64 0, .int .i64 0, .int .i64 0, .slice none 0 0, .int .i64 0] 56 (0, 0)) ∧ Below w.heap.size w W') ⟨?i0, ?i1, ?i2, (by repeat (first | (with_reducible first | exact Below.refl _ _ | apply below_alloc | apply pw_below_drewN | apply below_drew1) | exact Below.refl _ _))⟩ ?_
  case i0 => (repeat (refine blk_drewN ?_ _)); exact blk_alloc (blk_alloc (blk_new w _) _) _
  case i1 => (repeat (refine blk_drewN ?_ _)); have h_ := blk_alloc (blk_new (w.alloc (.cells (y.cells q) 46)) (.cells #[.int .i64 0, .slice none 0 0, .slice none 0 0, .slice none 0 0, .slice none 0 0, .slice none 0 0, .slice none 0 0, .int .i64 0, .int .i64 0, .int .i64 0, .int .i64 0, .slice none 0 0, .int .i64 0] 56)) (.cells #[.int .i64 0, .slice none 0 0, .slice none 0 0, .slice none 0 0, .slice none 0 0, .slice none 0 0, .slice none 0 0, .int .i64 0, .int .i64 0, .int .i64 0, .int .i64 0, .slice none 0 0, .int .i64 0] 56); simpa using h_
  case i2 => (repeat (refine blk_drewN ?_ _)); have h_ := blk_new ((w.alloc (.cells (y.cells q) 46)).alloc (.cells #[.int .i64 0, .slice none 0 0, .slice none 0 0, .slice none 0 0, .slice none 0 0, .slice none 0 0, .slice none 0 0, .int .i64 0, .int .i64 0, .int .i64 0, .int .i64 0, .slice none 0 0, .int .i64 0] 56)) (.cells #[.int .i64 0, .slice none 0 0, .slice none 0 0, .slice none 0 0, .slice none 0 0, .slice none 0 0, .slice none 0 0, .int .i64 0, .int .i64 0, .int .i64 0, .int .i64 0, .slice none 0 0, .int .i64 0] 56); simpa using h_
  rintro W0 ⟨hby, hbr, hbo, hbw⟩
  go_at_call 77; (with_reducible refine (laws_toNet.calls k1 y.d0 q.A1 q.c1 y.l1 y.d0 x1 _ ?s0 HQ.out.h1 K1.out).mono ?_); (case s0 => exact (HQ.out.below hbw).r1); rintro e w1 ⟨v, rfl, ho, hb⟩
  have NN1 := Aside0.mk (R_iv (b := w.heap.size) hbw.size ho)
  obtain ⟨A1, c1, rfl⟩ := Kd.R_slice ho
  have HS := Aside0.mk (And.intro (show w.heap.size + 2 < W0.heap.size from blk_lt hbo) (show W0.heap.size ≤ w1.heap.size from hb.size))
  have HB2 := Aside0.mk (below_step hbw hb)
  have BY2 := Aside0.mk (blk_below hby hb)
  have BR2 := Aside0.mk (blk_below hbr hb)
  have BO2 := Aside0.mk (blk_below hbo hb)
  clear hby hbr hbo hbw hb ho
  have HB := HB2; clear HB2
  have BY := BY2; clear BY2
  have BR := BR2; clear BR2
  have BO := BO2; clear BO2
  have M1 := NN1; clear NN1
  obtain ⟨hy0, hy1, hy2, hy3, hy4, hy5, hy6, hy7, hy8, hy9, hy10, hy11, hy12⟩ := LW.at_ BY.out
  have hf0 := blk_frozen BO.out 0; have hc0 := (blk_cell BO.out 0).trans rfl
  have hf1 := blk_frozen BO.out 1; have hc1 := (blk_cell BO.out 1).trans rfl
  go_wp2_with fail
  refine calls_gen (fun W' => Kept w1 W' (fun k => k = w.heap.size + 1 + 1) ∧ W'.heap[w.heap.size + 1 + 1]? = some (.cells #[.int .i64 y.d0, .slice A1 x1.length c1, .slice none 0 0, .slice none 0 0, .slice none 0 0, .slice none 0 0, .slice none 0 0, .int .i64 0, .int .i64 0, .int .i64 0, .int .i64 0, .slice none 0 0, .int .i64 0] 56 (0, 0)) ∧ Below w.heap.size w W') ⟨?i0, ?i1, ?i2⟩ ?_
  case i0 => repeat (first | exact Kept.refl _ _ | refine Kept.setCell ?_ (by exact Or.inl rfl) _ | apply Kept.drewN | apply Kept.alloc)
  case i1 => exact blk_set (blk_set (BO.out) 0 _) 1 _
  case i2 => repeat (first | exact HB.out | refine below_set ?_ (by omega) | apply below_alloc | apply pw_below_drewN)
  rintro W1 ⟨hk, hbo, hbw⟩
  have hby := blk_kept BY.out hk (by intro h; omega)
  have hbr := blk_kept BR.out hk (by intro h; omega)
  go_at_call 18; (with_reducible refine (laws_toIntS.calls k2 q.A2 q.c2 y.l2 y.l2 _ ?s0 HQ.out.h2 K2.out).mono ?_); (case s0 => exact (HQ.out.below hbw).r2); rintro e w2 ⟨v, rfl, ho, hb⟩
  have N1 := Aside0.mk (Kd.R_below (Kd.R_kept M1.out hk (fun k h h' => by have := HS.out; omega)) hb)
  have NN2 := Aside0.mk (R_iv (b := w.heap.size) hbw.size ho)
  obtain ⟨A2, c2, rfl⟩ := Kd.R_slice ho
  replace HS := Aside0.mk (And.intro HS.out (And.intro (show w1.heap.size ≤ W1.heap.size from hk.1) (show W1.heap.size ≤ w2.heap.size from hb.size)))
  have HB2 := Aside0.mk (below_step hbw hb)
  have BY2 := Aside0.mk (blk_below hby hb)
  have BR2 := Aside0.mk (blk_below hbr hb)
  have BO2 := Aside0.mk (blk_below hbo hb)
  clear HB BY BR BO hy0 hy1 hy2 hy3 hy4 hy5 hy6 hy7 hy8 hy9 hy10 hy11 hy12 hk hf0 hc0 hf1 hc1 M1 hby hbr hbo hbw hb ho
  have HB := HB2; clear HB2
  have BY := BY2; clear BY2
  have BR := BR2; clear BR2
  have BO := BO2; clear BO2
  have M1 := N1; clear N1
  have M2 := NN2; clear NN2
  obtain ⟨hy0, hy1, hy2, hy3, hy4, hy5, hy6, hy7, hy8, hy9, hy10, hy11, hy12⟩ := LW.at_ BY.out
  have hf2 := blk_frozen BO.out 2; have hc2 := (blk_cell BO.out 2).trans rfl
  go_wp2_with fail
  refine calls_gen (fun W' => Kept w2 W' (fun k => k = w.heap.size + 1 + 1) ∧ W'.heap[w.heap.size + 1 + 1]? = some (.cells #[.int .i64 y.d0, .slice A1 x1.length c1, .slice A2 y.l2.length c2, .slice none 0 0, .slice none 0 0, .slice none 0 0, .slice none 0 0, .int .i64 0, .int .i64 0, .int .i64 0, .int .i64 0, .slice none 0 0, .int .i64 0] 56 (0, 0)) ∧ Below w.heap.size w W') ⟨?i0, ?i1, ?i2⟩ ?_
  case i0 => repeat (first | exact Kept.refl _ _ | refine Kept.setCell ?_ (by exact Or.inl rfl) _ | apply Kept.drewN | apply Kept.alloc)
  case i1 => exact blk_set (BO.out) 2 _
  case i2 => repeat (first | exact HB.out | refine below_set ?_ (by omega) | apply below_alloc | apply pw_below_drewN)
  rintro W2 ⟨hk, hbo, hbw⟩
  have hby := blk_kept BY.out hk (by intro h; omega)
  have hbr := blk_kept BR.out hk (by intro h; omega)
  go_at_call 18; (with_reducible refine (laws_toIntS.calls k3 q.A3 q.c3 y.l3 y.l3 _ ?s0 HQ.out.h3 K3.out).mono ?_); (case s0 => exact (HQ.out.below hbw).r3); rintro e w3 ⟨v, rfl, ho, hb⟩
  have N1 := Aside0.mk (Kd.R_below (Kd.R_kept M1.out hk (fun k h h' => by have := HS.out; omega)) hb)
  have N2 := Aside0.mk (Kd.R_below (Kd.R_kept M2.out hk (fun k h h' => by have := HS.out; omega)) hb)
  have NN3 := Aside0.mk (R_iv (b := w.heap.size) hbw.size ho)
  obtain ⟨A3, c3, rfl⟩ := Kd.R_slice ho
  replace HS := Aside0.mk (And.intro HS.out (And.intro (show w2.heap.size ≤ W2.heap.size from hk.1) (show W2.heap.size ≤ w3.heap.size from hb.size)))
  have HB2 := Aside0.mk (below_step hbw hb)
  have BY2 := Aside0.mk (blk_below hby hb)
  have BR2 := Aside0.mk (blk_below hbr hb)
  have BO2 := Aside0.mk (blk_below hbo hb)
  clear HB BY BR BO hy0 hy1 hy2 hy3 hy4 hy5 hy6 hy7 hy8 hy9 hy10 hy11 hy12 hk hf2 hc2 M1 M2 hby hbr hbo hbw hb ho
  have HB := HB2; clear HB2
  have BY := BY2; clear BY2
  have BR := BR2; clear BR2
  have BO := BO2; clear BO2
  have M1 := N1; clear N1
  have M2 := N2; clear N2
  have M3 := NN3; clear NN3
  obtain ⟨hy0, hy1, hy2, hy3, hy4, hy5, hy6, hy7, hy8, hy9, hy10, hy11, hy12⟩ := LW.at_ BY.out
  have hf3 := blk_frozen BO.out 3; have hc3 := (blk_cell BO.out 3).trans rfl
  go_wp2_with fail
  refine calls_gen (fun W' => Kept w3 W' (fun k => k = w.heap.size + 1 + 1) ∧ W'.heap[w.heap.size + 1 + 1]? = some (.cells #[.int .i64 y.d0, .slice A1 x1.length c1, .slice A2 y.l2.length c2, .slice A3 y.l3.length c3, .slice none 0 0, .slice none 0 0, .slice none 0 0, .int .i64 0, .int .i64 0, .int .i64 0, .int .i64 0, .slice none 0 0, .int .i64 0] 56 (0, 0)) ∧ Below w.heap.size w W') ⟨?i0, ?i1, ?i2⟩ ?_
  case i0 => repeat (first | exact Kept.refl _ _ | refine Kept.setCell ?_ (by exact Or.inl rfl) _ | apply Kept.drewN | apply Kept.alloc)
  case i1 => exact blk_set (BO.out) 3 _
  case i2 => repeat (first | exact HB.out | refine below_set ?_ (by omega) | apply below_alloc | apply pw_below_drewN)
  rintro W3 ⟨hk, hbo, hbw⟩
  have hby := blk_kept BY.out hk (by intro h; omega)
  have hbr := blk_kept BR.out hk (by intro h; omega)
  go_at_call 78; (with_reducible refine (laws_toProbeS.calls k4 q.A4 q.c4 y.l4 (x4) _ ?s0 HQ.out.h4 K4.out).mono ?_); (case s0 => exact (HQ.out.below hbw).r4); rintro e w4 ⟨v, rfl, ho, hb⟩
  have N1 := Aside0.mk (Kd.R_below (Kd.R_kept M1.out hk (fun k h h' => by have := HS.out; omega)) hb)
  have N2 := Aside0.mk (Kd.R_below (Kd.R_kept M2.out hk (fun k h h' => by have := HS.out; omega)) hb)
  have N3 := Aside0.mk (Kd.R_below (Kd.R_kept M3.out hk (fun k h h' => by have := HS.out; omega)) hb)
  have NN4 := Aside0.mk (S_iv (b := w.heap.size) hbw.size ho)
  obtain ⟨A4, c4, rfl⟩ := Kd.S_slice ho
  replace HS := Aside0.mk (And.intro HS.out (And.intro (show w3.heap.size ≤ W3.heap.size from hk.1) (show W3.heap.size ≤ w4.heap.size from hb.size)))
  have HB2 := Aside0.mk (below_step hbw hb)
  have BY2 := Aside0.mk (blk_below hby hb)
  have BR2 := Aside0.mk (blk_below hbr hb)
  have BO2 := Aside0.mk (blk_below hbo hb)
  clear HB BY BR BO hy0 hy1 hy2 hy3 hy4 hy5 hy6 hy7 hy8 hy9 hy10 hy11 hy12 hk hf3 hc3 M1 M2 M3 hby hbr hbo hbw hb ho
  have HB := HB2; clear HB2
  have BY := BY2; clear BY2
  have BR := BR2; clear BR2
  have BO := BO2; clear BO2
  have M1 := N1; clear N1
  have M2 := N2; clear N2
  have M3 := N3; clear N3
  have M4 := NN4; clear NN4
  obtain ⟨hy0, hy1, hy2, hy3, hy4, hy5, hy6, hy7, hy8, hy9, hy10, hy11, hy12⟩ := LW.at_ BY.out
  have hf4 := blk_frozen BO.out 4; have hc4 := (blk_cell BO.out 4).trans rfl
  go_wp2_with fail
  refine calls_gen (fun W' => Kept w4 W' (fun k => k = w.heap.size + 1 + 1) ∧ W'.heap[w.heap.size + 1 + 1]? = some (.cells #[.int .i64 y.d0, .slice A1 x1.length c1, .slice A2 y.l2.length c2, .slice A3 y.l3.length c3, .slice A4 x4.length c4, .slice none 0 0, .slice none 0 0, .int .i64 0, .int .i64 0, .int .i64 0, .int .i64 0, .slice none 0 0, .int .i64 0] 56 (0, 0)) ∧ Below w.heap.size w W') ⟨?i0, ?i1, ?i2⟩ ?_
  case i0 => repeat (first | exact Kept.refl _ _ | refine Kept.setCell ?_ (by exact Or.inl rfl) _ | apply Kept.drewN | apply Kept.alloc)
  case i1 => exact blk_set (BO.out) 4 _
  case i2 => repeat (first | exact HB.out | refine below_set ?_ (by omega) | apply below_alloc | apply pw_below_drewN)
  rintro W4 ⟨hk, hbo, hbw⟩
  have hby := blk_kept BY.out hk (by intro h; omega)
  have hbr := blk_kept BR.out hk (by intro h; omega)
  go_at_call 18; (with_reducible refine (laws_toIntS.calls k5 q.A5 q.c5 y.l5 y.l5 _ ?s0 HQ.out.h5 K5.out).mono ?_); (case s0 => exact (HQ.out.below hbw).r5); rintro e w5 ⟨v, rfl, ho, hb⟩
  have N1 := Aside0.mk (Kd.R_below (Kd.R_kept M1.out hk (fun k h h' => by have := HS.out; omega)) hb)
  have N2 := Aside0.mk (Kd.R_below (Kd.R_kept M2.out hk (fun k h h' => by have := HS.out; omega)) hb)
  have N3 := Aside0.mk (Kd.R_below (Kd.R_kept M3.out hk (fun k h h' => by have := HS.out; omega)) hb)
  have N4 := Aside0.mk (Kd.S_below (Kd.S_kept M4.out hk (fun k h h' => by have := HS.out; omega)) hb)
  have NN5 := Aside0.mk (R_iv (b := w.heap.size) hbw.size ho)
  obtain ⟨A5, c5, rfl⟩ := Kd.R_slice ho
  replace HS := Aside0.mk (And.intro HS.out (And.intro (show w4.heap.size ≤ W4.heap.size from hk.1) (show W4.heap.size ≤ w5.heap.size from hb.size)))
  have HB2 := Aside0.mk (below_step hbw hb)
  have BY2 := Aside0.mk (blk_below hby hb)
  have BR2 := Aside0.mk (blk_below hbr hb)
  have BO2 := Aside0.mk (blk_below hbo hb)
  clear HB BY BR BO hy0 hy1 hy2 hy3 hy4 hy5 hy6 hy7 hy8 hy9 hy10 hy11 hy12 hk hf4 hc4 M1 M2 M3 M4 hby hbr hbo hbw hb ho
  have HB := HB2; clear HB2
  have BY := BY2; clear BY2
  have BR := BR2; clear BR2
  have BO := BO2; clear BO2
  have M1 := N1; clear N1
  have M2 := N2; clear N2
  have M3 := N3; clear N3
  have M4 := N4; clear N4
  have M5 := NN5; clear NN5
  obtain ⟨hy0, hy1, hy2, hy3, hy4, hy5, hy6, hy7, hy8, hy9, hy10, hy11, hy12⟩ := LW.at_ BY.out
  have hf5 := blk_frozen BO.out 5; have hc5 := (blk_cell BO.out 5).trans rfl
  go_wp2_with fail
  refine calls_gen (fun W' => Kept w5 W' (fun k => k = w.heap.size + 1 + 1) ∧ W'.heap[w.heap.size + 1 + 1]? = some (.cells #[.int .i64 y.d0, .slice A1 x1.length c1, .slice A2 y.l2.length c2, .slice A3 y.l3.length c3, .slice A4 x4.length c4, .slice A5 y.l5.length c5, .slice none 0 0, .int .i64 0, .int .i64 0, .int .i64 0, .int .i64 0, .slice none 0 0, .int .i64 0] 56 (0, 0)) ∧ Below w.heap.size w W') ⟨?i0, ?i1, ?i2⟩ ?_
  case i0 => repeat (first | exact Kept.refl _ _ | refine Kept.setCell ?_ (by exact Or.inl rfl) _ | apply Kept.drewN | apply Kept.alloc)
  case i1 => exact blk_set (BO.out) 5 _
  case i2 => repeat (first | exact HB.out | refine below_set ?_ (by omega) | apply below_alloc | apply pw_below_drewN)
  rintro W5 ⟨hk, hbo, hbw⟩
  have hby := blk_kept BY.out hk (by intro h; omega)
  have hbr := blk_kept BR.out hk (by intro h; omega)
  go_at_call 18; (with_reducible refine (laws_toIntS.calls k6 q.A6 q.c6 y.l6 y.l6 _ ?s0 HQ.out.h6 K6.out).mono ?_); (case s0 => exact (HQ.out.below hbw).r6); rintro e w6 ⟨v, rfl, ho, hb⟩
  have N1 := Aside0.mk (Kd.R_below (Kd.R_kept M1.out hk (fun k h h' => by have := HS.out; omega)) hb)
  have N2 := Aside0.mk (Kd.R_below (Kd.R_kept M2.out hk (fun k h h' => by have := HS.out; omega)) hb)
  have N3 := Aside0.mk (Kd.R_below (Kd.R_kept M3.out hk (fun k h h' => by have := HS.out; omega)) hb)
  have N4 := Aside0.mk (Kd.S_below (Kd.S_kept M4.out hk (fun k h h' => by have := HS.out; omega)) hb)
  have N5 := Aside0.mk (Kd.R_below (Kd.R_kept M5.out hk (fun k h h' => by have := HS.out; omega)) hb)
  have NN6 := Aside0.mk (R_iv (b := w.heap.size) hbw.size ho)
  obtain ⟨A6, c6, rfl⟩ := Kd.R_slice ho
  replace HS := Aside0.mk (And.intro HS.out (And.intro (show w5.heap.size ≤ W5.heap.size from hk.1) (show W5.heap.size ≤ w6.heap.size from hb.size)))
  have HB2 := Aside0.mk (below_step hbw hb)
  have BY2 := Aside0.mk (blk_below hby hb)
  have BR2 := Aside0.mk (blk_below hbr hb)
  have BO2 := Aside0.mk (blk_below hbo hb)
  clear HB BY BR BO hy0 hy1 hy2 hy3 hy4 hy5 hy6 hy7 hy8 hy9 hy10 hy11 hy12 hk hf5 hc5 M1 M2 M3 M4 M5 hby hbr hbo hbw hb ho
  have HB := HB2; clear HB2
  have BY := BY2; clear BY2
  have BR := BR2; clear BR2
  have BO := BO2; clear BO2
  have M1 := N1; clear N1
  have M2 := N2; clear N2
  have M3 := N3; clear N3
  have M4 := N4; clear N4
  have M5 := N5; clear N5
  have M6 := NN6; clear NN6
  obtain ⟨hy0, hy1, hy2, hy3, hy4, hy5, hy6, hy7, hy8, hy9, hy10, hy11, hy12⟩ := LW.at_ BY.out
  have hf6 := blk_frozen BO.out 6; have hc6 := (blk_cell BO.out 6).trans rfl
  go_wp2_with fail
  refine calls_gen (fun W' => Kept w6 W' (fun k => k = w.heap.size + 1 + 1) ∧ W'.heap[w.heap.size + 1 + 1]? = some (.cells #[.int .i64 y.d0, .slice A1 x1.length c1, .slice A2 y.l2.length c2, .slice A3 y.l3.length c3, .slice A4 x4.length c4, .slice A5 y.l5.length c5, .slice A6 y.l6.length c6, .int .i64 0, .int .i64 0, .int .i64 0, .int .i64 0, .slice none 0 0, .int .i64 0] 56 (0, 0)) ∧ Below w.heap.size w W') ⟨?i0, ?i1, ?i2⟩ ?_
  case i0 => repeat (first | exact Kept.refl _ _ | refine Kept.setCell ?_ (by exact Or.inl rfl) _ | apply Kept.drewN | apply Kept.alloc)
  case i1 => exact blk_set (BO.out) 6 _
  case i2 => repeat (first | exact HB.out | refine below_set ?_ (by omega) | apply below_alloc | apply pw_below_drewN)
  rintro W6 ⟨hk, hbo, hbw⟩
  have hby := blk_kept BY.out hk (by intro h; omega)
  have hbr := blk_kept BR.out hk (by intro h; omega)
  go_at_call 79; (with_reducible refine (laws_toBucket.calls y.d7 y.d8 y.d9 y.d10 y.d7 y.d8 y.d9 y.d10 _ rfl).mono ?_); rintro e w7 ⟨rfl, hb⟩
  have N1 := Aside0.mk (Kd.R_below (Kd.R_kept M1.out hk (fun k h h' => by have := HS.out; omega)) hb)
  have N2 := Aside0.mk (Kd.R_below (Kd.R_kept M2.out hk (fun k h h' => by have := HS.out; omega)) hb)
  have N3 := Aside0.mk (Kd.R_below (Kd.R_kept M3.out hk (fun k h h' => by have := HS.out; omega)) hb)
  have N4 := Aside0.mk (Kd.S_below (Kd.S_kept M4.out hk (fun k h h' => by have := HS.out; omega)) hb)
  have N5 := Aside0.mk (Kd.R_below (Kd.R_kept M5.out hk (fun k h h' => by have := HS.out; omega)) hb)
  have N6 := Aside0.mk (Kd.R_below (Kd.R_kept M6.out hk (fun k h h' => by have := HS.out; omega)) hb)
  replace HS := Aside0.mk (And.intro HS.out (And.intro (show w6.heap.size ≤ W6.heap.size from hk.1) (show W6.heap.size ≤ w7.heap.size from hb.size)))
  have HB2 := Aside0.mk (below_step hbw hb)
  have BY2 := Aside0.mk (blk_below hby hb)
  have BR2 := Aside0.mk (blk_below hbr hb)
  have BO2 := Aside0.mk (blk_below hbo hb)
  clear HB BY BR BO hy0 hy1 hy2 hy3 hy4 hy5 hy6 hy7 hy8 hy9 hy10 hy11 hy12 hk hf6 hc6 M1 M2 M3 M4 M5 M6 hby hbr hbo hbw hb
  have HB := HB2; clear HB2
  have BY := BY2; clear BY2
  have BR := BR2; clear BR2
  have BO := BO2; clear BO2
  have M1 := N1; clear N1
  have M2 := N2; clear N2
  have M3 := N3; clear N3
  have M4 := N4; clear N4
  have M5 := N5; clear N5
  have M6 := N6; clear N6
  obtain ⟨hy0, hy1, hy2, hy3, hy4, hy5, hy6, hy7, hy8, hy9, hy10, hy11, hy12⟩ := LW.at_ BY.out
  have hf7 := blk_frozen BO.out 7; have hc7 := (blk_cell BO.out 7).trans rfl
  have hf8 := blk_frozen BO.out 8; have hc8 := (blk_cell BO.out 8).trans rfl
  have hf9 := blk_frozen BO.out 9; have hc9 := (blk_cell BO.out 9).trans rfl
  have hf10 := blk_frozen BO.out 10; have hc10 := (blk_cell BO.out 10).trans rfl
  go_wp2_with fail
  refine calls_gen (fun W' => Kept w7 W' (fun k => k = w.heap.size + 1 + 1) ∧ W'.heap[w.heap.size + 1 + 1]? = some (.cells #[.int .i64 y.d0, .slice A1 x1.length c1, .slice A2 y.l2.length c2, .slice A3 y.l3.length c3, .slice A4 x4.length c4, .slice A5 y.l5.length c5, .slice A6 y.l6.length c6, .int .i64 y.d7, .int .i64 y.d8, .int .i64 y.d9, .int .i64 y.d10, .slice none 0 0, .int .i64 0] 56 (0, 0)) ∧ Below w.heap.size w W') ⟨?i0, ?i1, ?i2⟩ ?_
  case i0 => repeat (first | exact Kept.refl _ _ | refine Kept.setCell ?_ (by exact Or.inl rfl) _ | apply Kept.drewN | apply Kept.alloc)
  case i1 => exact blk_set (blk_set (blk_set (blk_set (BO.out) 7 _) 8 _) 9 _) 10 _
  case i2 => repeat (first | exact HB.out | refine below_set ?_ (by omega) | apply below_alloc | apply pw_below_drewN)
  rintro W7 ⟨hk, hbo, hbw⟩
  have hby := blk_kept BY.out hk (by intro h; omega)
  have hbr := blk_kept BR.out hk (by intro h; omega)
  go_at_call 80; (with_reducible refine (laws_toSeenS.calls k11 q.A11 q.c11 y.l11 (x11) _ ?s0 HQ.out.h11 K11.out).mono ?_); (case s0 => exact (HQ.out.below hbw).r11); rintro e w8 ⟨v, rfl, ho, hb⟩
  have N1 := Aside0.mk (Kd.R_below (Kd.R_kept M1.out hk (fun k h h' => by have := HS.out; omega)) hb)
  have N2 := Aside0.mk (Kd.R_below (Kd.R_kept M2.out hk (fun k h h' => by have := HS.out; omega)) hb)
  have N3 := Aside0.mk (Kd.R_below (Kd.R_kept M3.out hk (fun k h h' => by have := HS.out; omega)) hb)
  have N4 := Aside0.mk (Kd.S_below (Kd.S_kept M4.out hk (fun k h h' => by have := HS.out; omega)) hb)
  have N5 := Aside0.mk (Kd.R_below (Kd.R_kept M5.out hk (fun k h h' => by have := HS.out; omega)) hb)
  have N6 := Aside0.mk (Kd.R_below (Kd.R_kept M6.out hk (fun k h h' => by have := HS.out; omega)) hb)
  have NN11 := Aside0.mk (R_iv (b := w.heap.size) hbw.size ho)
  obtain ⟨A11, c11, rfl⟩ := Kd.R_slice ho
  replace HS := Aside0.mk (And.intro HS.out (And.intro (show w7.heap.size ≤ W7.heap.size from hk.1) (show W7.heap.size ≤ w8.heap.size from hb.size)))
  have HB2 := Aside0.mk (below_step hbw hb)
  have BY2 := Aside0.mk (blk_below hby hb)
  have BR2 := Aside0.mk (blk_below hbr hb)
  have BO2 := Aside0.mk (blk_below hbo hb)
  clear HB BY BR BO hy0 hy1 hy2 hy3 hy4 hy5 hy6 hy7 hy8 hy9 hy10 hy11 hy12 hk hf7 hc7 hf8 hc8 hf9 hc9 hf10 hc10 M1 M2 M3 M4 M5 M6 hby hbr hbo hbw hb ho
  have HB := HB2; clear HB2
  have BY := BY2; clear BY2
  have BR := BR2; clear BR2
  have BO := BO2; clear BO2
  have M1 := N1; clear N1
  have M2 := N2; clear N2
  have M3 := N3; clear N3
  have M4 := N4; clear N4
  have M5 := N5; clear N5
  have M6 := N6; clear N6
  have M11 := NN11; clear NN11
  obtain ⟨hy0, hy1, hy2, hy3, hy4, hy5, hy6, hy7, hy8, hy9, hy10, hy11, hy12⟩ := LW.at_ BY.out
  have hw0 := HB.out.size
  have hf0 := blk_frozen BO.out 0; have hc0 := (blk_cell BO.out 0).trans rfl; have hg0 := blk_frozen BR.out 0; have hd0 := (blk_cell BR.out 0).trans rfl
  have hf1 := blk_frozen BO.out 1; have hc1 := (blk_cell BO.out 1).trans rfl; have hg1 := blk_frozen BR.out 1; have hd1 := (blk_cell BR.out 1).trans rfl
  have hf2 := blk_frozen BO.out 2; have hc2 := (blk_cell BO.out 2).trans rfl; have hg2 := blk_frozen BR.out 2; have hd2 := (blk_cell BR.out 2).trans rfl
  have hf3 := blk_frozen BO.out 3; have hc3 := (blk_cell BO.out 3).trans rfl; have hg3 := blk_frozen BR.out 3; have hd3 := (blk_cell BR.out 3).trans rfl
  have hf4 := blk_frozen BO.out 4; have hc4 := (blk_cell BO.out 4).trans rfl; have hg4 := blk_frozen BR.out 4; have hd4 := (blk_cell BR.out 4).trans rfl
  have hf5 := blk_frozen BO.out 5; have hc5 := (blk_cell BO.out 5).trans rfl; have hg5 := blk_frozen BR.out 5; have hd5 := (blk_cell BR.out 5).trans rfl
  have hf6 := blk_frozen BO.out 6; have hc6 := (blk_cell BO.out 6).trans rfl; have hg6 := blk_frozen BR.out 6; have hd6 := (blk_cell BR.out 6).trans rfl
  have hf7 := blk_frozen BO.out 7; have hc7 := (blk_cell BO.out 7).trans rfl; have hg7 := blk_frozen BR.out 7; have hd7 := (blk_cell BR.out 7).trans rfl
  have hf8 := blk_frozen BO.out 8; have hc8 := (blk_cell BO.out 8).trans rfl; have hg8 := blk_frozen BR.out 8; have hd8 := (blk_cell BR.out 8).trans rfl
  have hf9 := blk_frozen BO.out 9; have hc9 := (blk_cell BO.out 9).trans rfl; have hg9 := blk_frozen BR.out 9; have hd9 := (blk_cell BR.out 9).trans rfl
  have hf10 := blk_frozen BO.out 10; have hc10 := (blk_cell BO.out 10).trans rfl; have hg10 := blk_frozen BR.out 10; have hd10 := (blk_cell BR.out 10).trans rfl
  have hf11 := blk_frozen BO.out 11; have hc11 := (blk_cell BO.out 11).trans rfl; have hg11 := blk_frozen BR.out 11; have hd11 := (blk_cell BR.out 11).trans rfl
  have hf12 := blk_frozen BO.out 12; have hc12 := (blk_cell BO.out 12).trans rfl; have hg12 := blk_frozen BR.out 12; have hd12 := (blk_cell BR.out 12).trans rfl
  go_wp2
  refine bodyPost_ret (results_cell_row rfl _ _ (w.heap.size + 1) 56 #[.int .i64 y.d0, .slice A1 x1.length c1, .slice A2 y.l2.length c2, .slice A3 y.l3.length c3, .slice A4 x4.length c4, .slice A5 y.l5.length c5, .slice A6 y.l6.length c6, .int .i64 y.d7, .int .i64 y.d8, .int .i64 y.d9, .int .i64 y.d10, .slice A11 x11.length c11, .int .i64 y.d12] (0, 0) _ rfl (blk_put (cs' := #[.int .i64 y.d0, .slice A1 x1.length c1, .slice A2 y.l2.length c2, .slice A3 y.l3.length c3, .slice A4 x4.length c4, .slice A5 y.l5.length c5, .slice A6 y.l6.length c6, .int .i64 y.d7, .int .i64 y.d8, .int .i64 y.d9, .int .i64 y.d10, .slice A11 x11.length c11, .int .i64 y.d12]) (blk_put (cs' := #[.int .i64 y.d0, .slice A1 x1.length c1, .slice A2 y.l2.length c2, .slice A3 y.l3.length c3, .slice A4 x4.length c4, .slice A5 y.l5.length c5, .slice A6 y.l6.length c6, .int .i64 y.d7, .int .i64 y.d8, .int .i64 y.d9, .int .i64 y.d10, .slice A11 x11.length c11, .int .i64 0]) (blk_put (cs' := #[.int .i64 y.d0, .slice A1 x1.length c1, .slice A2 y.l2.length c2, .slice A3 y.l3.length c3, .slice A4 x4.length c4, .slice A5 y.l5.length c5, .slice A6 y.l6.length c6, .int .i64 y.d7, .int .i64 y.d8, .int .i64 y.d9, .int .i64 y.d10, .slice none 0 0, .int .i64 0]) (blk_put (cs' := #[.int .i64 y.d0, .slice A1 x1.length c1, .slice A2 y.l2.length c2, .slice A3 y.l3.length c3, .slice A4 x4.length c4, .slice A5 y.l5.length c5, .slice A6 y.l6.length c6, .int .i64 y.d7, .int .i64 y.d8, .int .i64 y.d9, .int .i64 0, .slice none 0 0, .int .i64 0]) (blk_put (cs' := #[.int .i64 y.d0, .slice A1 x1.length c1, .slice A2 y.l2.length c2, .slice A3 y.l3.length c3, .slice A4 x4.length c4, .slice A5 y.l5.length c5, .slice A6 y.l6.length c6, .int .i64 y.d7, .int .i64 y.d8, .int .i64 0, .int .i64 0, .slice none 0 0, .int .i64 0]) (blk_put (cs' := #[.int .i64 y.d0, .slice A1 x1.length c1, .slice A2 y.l2.length c2, .slice A3 y.l3.length c3, .slice A4 x4.length c4, .slice A5 y.l5.length c5, .slice A6 y.l6.length c6, .int .i64 y.d7, .int .i64 0, .int .i64 0, .int .i64 0, .slice none 0 0, .int .i64 0]) (blk_put (cs' := #[.int .i64 y.d0, .slice A1 x1.length c1, .slice A2 y.l2.length c2, .slice A3 y.l3.length c3, .slice A4 x4.length c4, .slice A5 y.l5.length c5, .slice A6 y.l6.length c6, .int .i64 0, .int .i64 0, .int .i64 0, .int .i64 0, .slice none 0 0, .int .i64 0]) (blk_put (cs' := #[.int .i64 y.d0, .slice A1 x1.length c1, .slice A2 y.l2.length c2, .slice A3 y.l3.length c3, .slice A4 x4.length c4, .slice A5 y.l5.length c5, .slice none 0 0, .int .i64 0, .int .i64 0, .int .i64 0, .int .i64 0, .slice none 0 0, .int .i64 0]) (blk_put (cs' := #[.int .i64 y.d0, .slice A1 x1.length c1, .slice A2 y.l2.length c2, .slice A3 y.l3.length c3, .slice A4 x4.length c4, .slice none 0 0, .slice none 0 0, .int .i64 0, .int .i64 0, .int .i64 0, .int .i64 0, .slice none 0 0, .int .i64 0]) (blk_put (cs' := #[.int .i64 y.d0, .slice A1 x1.length c1, .slice A2 y.l2.length c2, .slice A3 y.l3.length c3, .slice none 0 0, .slice none 0 0, .slice none 0 0, .int .i64 0, .int .i64 0, .int .i64 0, .int .i64 0, .slice none 0 0, .int .i64 0]) (blk_put (cs' := #[.int .i64 y.d0, .slice A1 x1.length c1, .slice A2 y.l2.length c2, .slice none 0 0, .slice none 0 0, .slice none 0 0, .slice none 0 0, .int .i64 0, .int .i64 0, .int .i64 0, .int .i64 0, .slice none 0 0, .int .i64 0]) (blk_put (cs' := #[.int .i64 y.d0, .slice A1 x1.length c1, .slice none 0 0, .slice none 0 0, .slice none 0 0, .slice none 0 0, .slice none 0 0, .int .i64 0, .int .i64 0, .int .i64 0, .int .i64 0, .slice none 0 0, .int .i64 0]) (blk_put (cs' := #[.int .i64 y.d0, .slice none 0 0, .slice none 0 0, .slice none 0 0, .slice none 0 0, .slice none 0 0, .slice none 0 0, .int .i64 0, .int .i64 0, .int .i64 0, .int .i64 0, .slice none 0 0, .int .i64 0]) (blk_far (blk_far BR.out (p := ⟨w.heap.size + 1 + 1, 11, none⟩) (by simp) _) (p := ⟨w.heap.size + 1 + 1, 12, none⟩) (by simp) _) 0 (.int .i64 y.d0) rfl) 1 (.slice A1 x1.length c1) rfl) 2 (.slice A2 y.l2.length c2) rfl) 3 (.slice A3 y.l3.length c3) rfl) 4 (.slice A4 x4.length c4) rfl) 5 (.slice A5 y.l5.length c5) rfl) 6 (.slice A6 y.l6.length c6) rfl) 7 (.int .i64 y.d7) rfl) 8 (.int .i64 y.d8) rfl) 9 (.int .i64 y.d9) rfl) 10 (.int .i64 y.d10) rfl) 11 (.slice A11 x11.length c11) rfl) 12 (.int .i64 y.d12) rfl) Try.underlying56 rfl (by kernel_rfl)) rfl ?_
  have hk : Kept w8 (((((((((((((((w8.setCell ⟨w.heap.size + 1 + 1, 11, none⟩ (.slice A11 x11.length c11)).setCell ⟨w.heap.size + 1 + 1, 12, none⟩ (.int .i64 y.d12)).setCell ⟨w.heap.size + 1, 0, none⟩ (.int .i64 y.d0)).setCell ⟨w.heap.size + 1, 1, none⟩ (.slice A1 x1.length c1)).setCell ⟨w.heap.size + 1, 2, none⟩ (.slice A2 y.l2.length c2)).setCell ⟨w.heap.size + 1, 3, none⟩ (.slice A3 y.l3.length c3)).setCell ⟨w.heap.size + 1, 4, none⟩ (.slice A4 x4.length c4)).setCell ⟨w.heap.size + 1, 5, none⟩ (.slice A5 y.l5.length c5)).setCell ⟨w.heap.size + 1, 6, none⟩ (.slice A6 y.l6.length c6)).setCell ⟨w.heap.size + 1, 7, none⟩ (.int .i64 y.d7)).setCell ⟨w.heap.size + 1, 8, none⟩ (.int .i64 y.d8)).setCell ⟨w.heap.size + 1, 9, none⟩ (.int .i64 y.d9)).setCell ⟨w.heap.size + 1, 10, none⟩ (.int .i64 y.d10)).setCell ⟨w.heap.size + 1, 11, none⟩ (.slice A11 x11.length c11)).setCell ⟨w.heap.size + 1, 12, none⟩ (.int .i64 y.d12)) (fun k => k = w.heap.size + 1 + 1 ∨ k = w.heap.size + 1) := Kept.setCell (Kept.setCell (Kept.setCell (Kept.setCell (Kept.setCell (Kept.setCell (Kept.setCell (Kept.setCell (Kept.setCell (Kept.setCell (Kept.setCell (Kept.setCell (Kept.setCell (Kept.setCell (Kept.setCell (Kept.refl _ _) (p := ⟨w.heap.size + 1 + 1, 11, none⟩) (Or.inl (Or.inl rfl)) (.slice A11 x11.length c11)) (p := ⟨w.heap.size + 1 + 1, 12, none⟩) (Or.inl (Or.inl rfl)) (.int .i64 y.d12)) (p := ⟨w.heap.size + 1, 0, none⟩) (Or.inl (Or.inr rfl)) (.int .i64 y.d0)) (p := ⟨w.heap.size + 1, 1, none⟩) (Or.inl (Or.inr rfl)) (.slice A1 x1.length c1)) (p := ⟨w.heap.size + 1, 2, none⟩) (Or.inl (Or.inr rfl)) (.slice A2 y.l2.length c2)) (p := ⟨w.heap.size + 1, 3, none⟩) (Or.inl (Or.inr rfl)) (.slice A3 y.l3.length c3)) (p := ⟨w.heap.size + 1, 4, none⟩) (Or.inl (Or.inr rfl)) (.slice A4 x4.length c4)) (p := ⟨w.heap.size + 1, 5, none⟩) (Or.inl (Or.inr rfl)) (.slice A5 y.l5.length c5)) (p := ⟨w.heap.size + 1, 6, none⟩) (Or.inl (Or.inr rfl)) (.slice A6 y.l6.length c6)) (p := ⟨w.heap.size + 1, 7, none⟩) (Or.inl (Or.inr rfl)) (.int .i64 y.d7)) (p := ⟨w.heap.size + 1, 8, none⟩) (Or.inl (Or.inr rfl)) (.int .i64 y.d8)) (p := ⟨w.heap.size + 1, 9, none⟩) (Or.inl (Or.inr rfl)) (.int .i64 y.d9)) (p := ⟨w.heap.size + 1, 10, none⟩) (Or.inl (Or.inr rfl)) (.int .i64 y.d10)) (p := ⟨w.heap.size + 1, 11, none⟩) (Or.inl (Or.inr rfl)) (.slice A11 x11.length c11)) (p := ⟨w.heap.size + 1, 12, none⟩) (Or.inl (Or.inr rfl)) (.int .i64 y.d12)
  have Z1 := (Kd.R_kept M1.out hk (fun k h h' => by have := HS.out; omega))
  have Z2 := (Kd.R_kept M2.out hk (fun k h h' => by have := HS.out; omega))
  have Z3 := (Kd.R_kept M3.out hk (fun k h h' => by have := HS.out; omega))
  have Z4 := (Kd.S_kept M4.out hk (fun k h h' => by have := HS.out; omega))
  have Z5 := (Kd.R_kept M5.out hk (fun k h h' => by have := HS.out; omega))
  have Z6 := (Kd.R_kept M6.out hk (fun k h h' => by have := HS.out; omega))
  have Z11 := (Kd.R_kept M11.out hk (fun k h h' => by have := HS.out; omega))
  have hbf : Below w.heap.size w (((((((((((((((w8.setCell ⟨w.heap.size + 1 + 1, 11, none⟩ (.slice A11 x11.length c11)).setCell ⟨w.heap.size + 1 + 1, 12, none⟩ (.int .i64 y.d12)).setCell ⟨w.heap.size + 1, 0, none⟩ (.int .i64 y.d0)).setCell ⟨w.heap.size + 1, 1, none⟩ (.slice A1 x1.length c1)).setCell ⟨w.heap.size + 1, 2, none⟩ (.slice A2 y.l2.length c2)).setCell ⟨w.heap.size + 1, 3, none⟩ (.slice A3 y.l3.length c3)).setCell ⟨w.heap.size + 1, 4, none⟩ (.slice A4 x4.length c4)).setCell ⟨w.heap.size + 1, 5, none⟩ (.slice A5 y.l5.length c5)).setCell ⟨w.heap.size + 1, 6, none⟩ (.slice A6 y.l6.length c6)).setCell ⟨w.heap.size + 1, 7, none⟩ (.int .i64 y.d7)).setCell ⟨w.heap.size + 1, 8, none⟩ (.int .i64 y.d8)).setCell ⟨w.heap.size + 1, 9, none⟩ (.int .i64 y.d9)).setCell ⟨w.heap.size + 1, 10, none⟩ (.int .i64 y.d10)).setCell ⟨w.heap.size + 1, 11, none⟩ (.slice A11 x11.length c11)).setCell ⟨w.heap.size + 1, 12, none⟩ (.int .i64 y.d12)) := below_set (below_set (below_set (below_set (below_set (below_set (below_set (below_set (below_set (below_set (below_set (below_set (below_set (below_set (below_set (HB.out) (by omega)) (by omega)) (by omega)) (by omega)) (by omega)) (by omega)) (by omega)) (by omega)) (by omega)) (by omega)) (by omega)) (by omega)) (by omega)) (by omega)) (by omega)
  have hszf := hk.1
  obtain rfl := HX1.out
  obtain rfl := HX4.out
  obtain rfl := HX11.out
  refine ⟨⟨A1, c1, A2, c2, A3, c3, A4, c4, A5, c5, A6, c6, A11, c11⟩, rfl, ⟨?z1, ?z2, ?z3, ?z4, ?z5, ?z6, ?z11⟩, hbf⟩
  case z1 => exact Kd.R_mono Z1 (fun k h => ⟨by have := HS.out; omega, by have := HS.out; omega⟩)
  case z2 => exact Kd.R_mono Z2 (fun k h => ⟨⟨by have := HS.out; omega, by have := HS.out; omega⟩, fun e_ => by have h2_ := Z3.1 k e_.symm; have := HS.out; omega, fun e_ => by have h2_ := Z5.1 k e_.symm; have := HS.out; omega, fun e_ => by have h2_ := Z6.1 k e_.symm; have := HS.out; omega⟩)
  case z3 => exact Kd.R_mono Z3 (fun k h => ⟨⟨by have := HS.out; omega, by have := HS.out; omega⟩, fun e_ => by have h2_ := Z2.1 k e_.symm; have := HS.out; omega, fun e_ => by have h2_ := Z5.1 k e_.symm; have := HS.out; omega, fun e_ => by have h2_ := Z6.1 k e_.symm; have := HS.out; omega⟩)
  case z4 => exact Kd.S_mono Z4 (fun k h => ⟨⟨by have := HS.out; omega, by have := HS.out; omega⟩, fun e_ => by have h2_ := Z2.1 k e_.symm; have := HS.out; omega, fun e_ => by have h2_ := Z3.1 k e_.symm; have := HS.out; omega, fun e_ => by have h2_ := Z5.1 k e_.symm; have := HS.out; omega, fun e_ => by have h2_ := Z6.1 k e_.symm; have := HS.out; omega⟩)
  case z5 => exact Kd.R_mono Z5 (fun k h => ⟨⟨by have := HS.out; omega, by have := HS.out; omega⟩, fun e_ => by have h2_ := Z2.1 k e_.symm; have := HS.out; omega, fun e_ => by have h2_ := Z3.1 k e_.symm; have := HS.out; omega, fun e_ => by have h2_ := Z6.1 k e_.symm; have := HS.out; omega⟩)
  case z6 => exact Kd.R_mono Z6 (fun k h => ⟨⟨by have := HS.out; omega, by have := HS.out; omega⟩, fun e_ => by have h2_ := Z2.1 k e_.symm; have := HS.out; omega, fun e_ => by have h2_ := Z3.1 k e_.symm; have := HS.out; omega, fun e_ => by have h2_ := Z5.1 k e_.symm; have := HS.out; omega⟩)
  case z11 => exact Kd.R_mono Z11 (fun k h => ⟨by have := HS.out; omega, by have := HS.out; omega⟩)
/-! ### wsz -/
set_option maxHeartbeats 8000000 in
set_option maxRecDepth 100000 in
theorem szWorld_c (y : LW) (q : LP) (w : World) (hq : y.Rd q w) (g1 : y.l1.length ≤ 9223372036854775807) (g2 : y.l2.length ≤ 9223372036854775807) (g3 : y.l3.length ≤ 9223372036854775807) (g4 : y.l4.length ≤ 9223372036854775807 ∧ ∀ p ∈ y.l4, p.f2.length ≤ 9223372036854775807) (g5 : y.l5.length ≤ 9223372036854775807) (g6 : y.l6.length ≤ 9223372036854775807) (g11 : y.l11.length ≤ 9223372036854775807) :
    Calls Try.prog 34 #[.agg (y.cells q), .int .i64 1048576] w fun e w' => ∃ r : Int, e = .returned (.int .i64 r) ∧ (0 ≤ r → y.Ok) ∧ Below w.heap.size w w' := by
  have hv := Try.underlying46
  have hv2 := Try.underlying40
  have HQ := Aside0.mk hq
  clear hq
  go_enter Try.func34, Try.ntmps34
  have h0a : 0 ≤ (1048576 : Int) := by omega
  have h1a : (1048576 : Int) ≤ 1048576 := by omega
  obtain ⟨r1, hr1⟩ : ∃ r_, r_ = leftL y.l1 1048576 := ⟨_, rfl⟩
  have hle1 : r1 ≤ 1048576 := by rw [hr1]; exact Int.le_trans (leftL_le y.l1 h0a) h1a
  have E1 := Aside0.mk (show laws_szNet.f y.d0 y.l1 1048576 = some r1 from by rw [hr1]; exact szNet_eq y.d0 y.l1 1048576 h0a h1a g1)
  have O1 := Aside0.mk (fun h => leftL_ok' h1a (by rw [← hr1]; exact h) : 0 ≤ r1 → y.l1.length ≤ 1048576); clear hr1
  clear h0a h1a
  go_wp2_with fail
  go_at_call 74; (with_reducible refine (laws_szNet.calls y.d0 q.A1 q.c1 y.l1 1048576 r1 _ ?s0 HQ.out.h1 E1.out).mono ?_); (case s0 => exact (HQ.out.below (by repeat (first | (with_reducible first | exact Below.refl _ _ | apply below_alloc | apply pw_below_drewN | apply below_drew1) | exact Below.refl _ _))).r1); rintro e w1 ⟨rfl, hb⟩
  have HB := Aside0.mk (below_step (w := w) (by repeat (first | (with_reducible first | exact Below.refl _ _ | apply below_alloc | apply pw_below_drewN | apply below_drew1) | exact Below.refl _ _)) hb); have BY := Aside0.mk (show w1.heap[w.heap.size]? = some (.cells (y.cells q) 46 (0, 0)) from blk_below (by repeat (first | exact blk_new _ _ | refine blk_drewN ?_ _ | refine blk_alloc ?_ _)) hb); clear hb
  by_cases c1 : r1 < 0
  · have d1 : decide (r1 < 0) = true := decide_eq_true c1
    go_wp2
    go_ret
    exact ⟨-1, rfl, fun h => by omega, (below_step HB.out (by repeat (first | (with_reducible first | exact Below.refl _ _ | apply below_alloc | apply pw_below_drewN | apply below_drew1) | exact Below.refl _ _)))⟩
  have d1 : decide (r1 < 0) = false := decide_eq_false c1
  obtain ⟨hy0, hy1, hy2, hy3, hy4, hy5, hy6, hy7, hy8, hy9, hy10, hy11, hy12⟩ := LW.at_ BY.out
  have h0a : 0 ≤ (r1 : Int) := by omega
  have h1a : (r1 : Int) ≤ 1048576 := by omega
  obtain ⟨r2, hr2⟩ : ∃ r_, r_ = leftL y.l2 r1 := ⟨_, rfl⟩
  have hle2 : r2 ≤ 1048576 := by rw [hr2]; exact Int.le_trans (leftL_le y.l2 h0a) h1a
  have E2 := Aside0.mk (show laws_szIntS.f y.l2 r1 = some r2 from by rw [hr2]; exact (szIntS_eq y.l2 r1 h0a h1a g2).trans (by rw [leftI_eq]))
  have O2 := Aside0.mk (fun h => leftL_ok' h1a (by rw [← hr2]; exact h) : 0 ≤ r2 → y.l2.length ≤ 1048576); clear hr2
  clear h0a h1a
  go_wp2_with fail
  go_at_call 62; (with_reducible refine (laws_szIntS.calls q.A2 q.c2 y.l2 r1 r2 _ ?s0 HQ.out.h2 E2.out).mono ?_); (case s0 => exact (HQ.out.below (below_step HB.out (by repeat (first | (with_reducible first | exact Below.refl _ _ | apply below_alloc | apply pw_below_drewN | apply below_drew1) | exact Below.refl _ _)))).r2); rintro e w' ⟨rfl, ⟨nd, rfl⟩⟩
  clear hy0 hy1 hy2 hy3 hy4 hy5 hy6 hy7 hy8 hy9 hy10 hy11 hy12
  by_cases c2 : r2 < 0
  · have d2 : decide (r2 < 0) = true := decide_eq_true c2
    go_wp2
    go_ret
    exact ⟨-1, rfl, fun h => by omega, (below_step HB.out (by repeat (first | (with_reducible first | exact Below.refl _ _ | apply below_alloc | apply pw_below_drewN | apply below_drew1) | exact Below.refl _ _)))⟩
  have d2 : decide (r2 < 0) = false := decide_eq_false c2
  obtain ⟨hy0, hy1, hy2, hy3, hy4, hy5, hy6, hy7, hy8, hy9, hy10, hy11, hy12⟩ := LW.at_ BY.out
  have h0a : 0 ≤ (r2 : Int) := by omega
  have h1a : (r2 : Int) ≤ 1048576 := by omega
  obtain ⟨r3, hr3⟩ : ∃ r_, r_ = leftL y.l3 r2 := ⟨_, rfl⟩
  have hle3 : r3 ≤ 1048576 := by rw [hr3]; exact Int.le_trans (leftL_le y.l3 h0a) h1a
  have E3 := Aside0.mk (show laws_szIntS.f y.l3 r2 = some r3 from by rw [hr3]; exact (szIntS_eq y.l3 r2 h0a h1a g3).trans (by rw [leftI_eq]))
  have O3 := Aside0.mk (fun h => leftL_ok' h1a (by rw [← hr3]; exact h) : 0 ≤ r3 → y.l3.length ≤ 1048576); clear hr3
  clear h0a h1a
  go_wp2_with fail
  go_at_call 62; (with_reducible refine (laws_szIntS.calls q.A3 q.c3 y.l3 r2 r3 _ ?s0 HQ.out.h3 E3.out).mono ?_); (case s0 => exact (HQ.out.below (below_step HB.out (by repeat (first | (with_reducible first | exact Below.refl _ _ | apply below_alloc | apply pw_below_drewN | apply below_drew1) | exact Below.refl _ _)))).r3); rintro e w' ⟨rfl, ⟨nd, rfl⟩⟩
  clear hy0 hy1 hy2 hy3 hy4 hy5 hy6 hy7 hy8 hy9 hy10 hy11 hy12
  by_cases c3 : r3 < 0
  · have d3 : decide (r3 < 0) = true := decide_eq_true c3
    go_wp2
    go_ret
    exact ⟨-1, rfl, fun h => by omega, (below_step HB.out (by repeat (first | (with_reducible first | exact Below.refl _ _ | apply below_alloc | apply pw_below_drewN | apply below_drew1) | exact Below.refl _ _)))⟩
  have d3 : decide (r3 < 0) = false := decide_eq_false c3
  obtain ⟨hy0, hy1, hy2, hy3, hy4, hy5, hy6, hy7, hy8, hy9, hy10, hy11, hy12⟩ := LW.at_ BY.out
  have h0a : 0 ≤ (r3 : Int) := by omega
  have h1a : (r3 : Int) ≤ 1048576 := by omega
  obtain ⟨r4, he4, hle4, hok4⟩ := szProbeS_ev y.l4 r3 h0a h1a g4.1 g4.2
  obtain ⟨k4, hk4⟩ := he4.rounds
  have E4 := Aside0.mk hk4; have O4 := Aside0.mk hok4; clear hk4 hok4 he4
  clear h0a h1a
  go_wp2_with fail
  go_at_call 75; (with_reducible refine (laws_szProbeS.calls k4 q.A4 q.c4 y.l4 r3 r4 _ ?s0 HQ.out.h4 E4.out).mono ?_); (case s0 => exact (HQ.out.below (below_step HB.out (by repeat (first | (with_reducible first | exact Below.refl _ _ | apply below_alloc | apply pw_below_drewN | apply below_drew1) | exact Below.refl _ _)))).r4); rintro e w4 ⟨rfl, hb⟩
  have hs := below_step (w := w1) (by repeat (first | (with_reducible first | exact Below.refl _ _ | apply below_alloc | apply pw_below_drewN | apply below_drew1) | exact Below.refl _ _)) hb; have HB2 := Aside0.mk (below_step HB.out hs); have BY2 := Aside0.mk (blk_below BY.out hs); clear HB BY hb hs hy0 hy1 hy2 hy3 hy4 hy5 hy6 hy7 hy8 hy9 hy10 hy11 hy12; have HB := HB2; have BY := BY2; clear HB2 BY2
  by_cases c4 : r4 < 0
  · have d4 : decide (r4 < 0) = true := decide_eq_true c4
    go_wp2
    go_ret
    exact ⟨-1, rfl, fun h => by omega, (below_step HB.out (by repeat (first | (with_reducible first | exact Below.refl _ _ | apply below_alloc | apply pw_below_drewN | apply below_drew1) | exact Below.refl _ _)))⟩
  have d4 : decide (r4 < 0) = false := decide_eq_false c4
  obtain ⟨hy0, hy1, hy2, hy3, hy4, hy5, hy6, hy7, hy8, hy9, hy10, hy11, hy12⟩ := LW.at_ BY.out
  have h0a : 0 ≤ (r4 : Int) := by omega
  have h1a : (r4 : Int) ≤ 1048576 := by omega
  obtain ⟨r5, hr5⟩ : ∃ r_, r_ = leftL y.l5 r4 := ⟨_, rfl⟩
  have hle5 : r5 ≤ 1048576 := by rw [hr5]; exact Int.le_trans (leftL_le y.l5 h0a) h1a
  have E5 := Aside0.mk (show laws_szIntS.f y.l5 r4 = some r5 from by rw [hr5]; exact (szIntS_eq y.l5 r4 h0a h1a g5).trans (by rw [leftI_eq]))
  have O5 := Aside0.mk (fun h => leftL_ok' h1a (by rw [← hr5]; exact h) : 0 ≤ r5 → y.l5.length ≤ 1048576); clear hr5
  clear h0a h1a
  go_wp2_with fail
  go_at_call 62; (with_reducible refine (laws_szIntS.calls q.A5 q.c5 y.l5 r4 r5 _ ?s0 HQ.out.h5 E5.out).mono ?_); (case s0 => exact (HQ.out.below (below_step HB.out (by repeat (first | (with_reducible first | exact Below.refl _ _ | apply below_alloc | apply pw_below_drewN | apply below_drew1) | exact Below.refl _ _)))).r5); rintro e w' ⟨rfl, ⟨nd, rfl⟩⟩
  clear hy0 hy1 hy2 hy3 hy4 hy5 hy6 hy7 hy8 hy9 hy10 hy11 hy12
  by_cases c5 : r5 < 0
  · have d5 : decide (r5 < 0) = true := decide_eq_true c5
    go_wp2
    go_ret
    exact ⟨-1, rfl, fun h => by omega, (below_step HB.out (by repeat (first | (with_reducible first | exact Below.refl _ _ | apply below_alloc | apply pw_below_drewN | apply below_drew1) | exact Below.refl _ _)))⟩
  have d5 : decide (r5 < 0) = false := decide_eq_false c5
  obtain ⟨hy0, hy1, hy2, hy3, hy4, hy5, hy6, hy7, hy8, hy9, hy10, hy11, hy12⟩ := LW.at_ BY.out
  have h0a : 0 ≤ (r5 : Int) := by omega
  have h1a : (r5 : Int) ≤ 1048576 := by omega
  obtain ⟨r6, hr6⟩ : ∃ r_, r_ = leftL y.l6 r5 := ⟨_, rfl⟩
  have hle6 : r6 ≤ 1048576 := by rw [hr6]; exact Int.le_trans (leftL_le y.l6 h0a) h1a
  have E6 := Aside0.mk (show laws_szIntS.f y.l6 r5 = some r6 from by rw [hr6]; exact (szIntS_eq y.l6 r5 h0a h1a g6).trans (by rw [leftI_eq]))
  have O6 := Aside0.mk (fun h => leftL_ok' h1a (by rw [← hr6]; exact h) : 0 ≤ r6 → y.l6.length ≤ 1048576); clear hr6
  clear h0a h1a
  go_wp2_with fail
  go_at_call 62; (with_reducible refine (laws_szIntS.calls q.A6 q.c6 y.l6 r5 r6 _ ?s0 HQ.out.h6 E6.out).mono ?_); (case s0 => exact (HQ.out.below (below_step HB.out (by repeat (first | (with_reducible first | exact Below.refl _ _ | apply below_alloc | apply pw_below_drewN | apply below_drew1) | exact Below.refl _ _)))).r6); rintro e w' ⟨rfl, ⟨nd, rfl⟩⟩
  clear hy0 hy1 hy2 hy3 hy4 hy5 hy6 hy7 hy8 hy9 hy10 hy11 hy12
  by_cases c6 : r6 < 0
  · have d6 : decide (r6 < 0) = true := decide_eq_true c6
    go_wp2
    go_ret
    exact ⟨-1, rfl, fun h => by omega, (below_step HB.out (by repeat (first | (with_reducible first | exact Below.refl _ _ | apply below_alloc | apply pw_below_drewN | apply below_drew1) | exact Below.refl _ _)))⟩
  have d6 : decide (r6 < 0) = false := decide_eq_false c6
  obtain ⟨hy0, hy1, hy2, hy3, hy4, hy5, hy6, hy7, hy8, hy9, hy10, hy11, hy12⟩ := LW.at_ BY.out
  have h0a : 0 ≤ (r6 : Int) := by omega
  have h1a : (r6 : Int) ≤ 1048576 := by omega
  obtain ⟨r11, hr11⟩ : ∃ r_, r_ = leftL y.l11 r6 := ⟨_, rfl⟩
  have hle11 : r11 ≤ 1048576 := by rw [hr11]; exact Int.le_trans (leftL_le y.l11 h0a) h1a
  have E11 := Aside0.mk (show laws_szSeenS.f y.l11 r6 = some r11 from by rw [hr11]; exact szSeenS_eq y.l11 r6 h0a h1a g11)
  have O11 := Aside0.mk (fun h => leftL_ok' h1a (by rw [← hr11]; exact h) : 0 ≤ r11 → y.l11.length ≤ 1048576); clear hr11
  clear h0a h1a
  go_wp2_with fail
  go_at_call 76; (with_reducible refine (laws_szSeenS.calls q.A11 q.c11 y.l11 r6 r11 _ ?s0 HQ.out.h11 E11.out).mono ?_); (case s0 => exact (HQ.out.below (below_step HB.out (by repeat (first | (with_reducible first | exact Below.refl _ _ | apply below_alloc | apply pw_below_drewN | apply below_drew1) | exact Below.refl _ _)))).r11); rintro e w' ⟨rfl, ⟨nd, rfl⟩⟩
  clear hy0 hy1 hy2 hy3 hy4 hy5 hy6 hy7 hy8 hy9 hy10 hy11 hy12
  by_cases c11 : r11 < 0
  · have d11 : decide (r11 < 0) = true := decide_eq_true c11
    go_wp2
    go_ret
    exact ⟨-1, rfl, fun h => by omega, (below_step HB.out (by repeat (first | (with_reducible first | exact Below.refl _ _ | apply below_alloc | apply pw_below_drewN | apply below_drew1) | exact Below.refl _ _)))⟩
  have d11 : decide (r11 < 0) = false := decide_eq_false c11
  go_wp2
  go_ret
  exact ⟨r11, rfl, fun _ => ⟨O1.out (by omega), O2.out (by omega), O3.out (by omega), O4.out (by omega), O5.out (by omega), O6.out (by omega), O11.out (by omega)⟩, (below_step HB.out (by repeat (first | (with_reducible first | exact Below.refl _ _ | apply below_alloc | apply pw_below_drewN | apply below_drew1) | exact Below.refl _ _)))⟩
/-! ### probeok -/
theorem probe_ok {pr : List S84} (h : okP' pr) (p : Int) : (pr.getD p.toNat z84).f2.length ≤ 1048576 := by
  rw [List.getD_eq_getElem?_getD]
  rcases e : pr[p.toNat]? with _ | q
  · simp [z84]
  · exact h.2 q (List.mem_of_getElem? e)
/-! ### at -/
theorem impl_at_eq (a n : Int) : impl_at.f a n = some (decide (0 ≤ a ∧ a < n)) := by
  unfold impl_at.f
  by_cases h : a ≥ 0
  · rw [if_pos h]
    simp [show 0 ≤ a from h]
  · rw [if_neg h]
    have : ¬ 0 ≤ a := h
    simp [this]
/-! ### small -/
theorem spec_l1In_eq (a b c : Int) : spec_l1In.f a b c = some (decide (b ≤ a ∧ a ≤ c)) := by
  unfold spec_l1In.f
  by_cases h : a ≥ b
  · rw [if_pos h]
    simp [show b ≤ a from h]
  · rw [if_neg h]
    have : ¬ b ≤ a := h
    simp [this]
/-! ### truedelay -/
def delayF (de : List Int) : Int → List Int → Int
  | s, [] => s
  | s, k :: ks => delayF de (if 0 ≤ k ∧ k < (de.length : Int) then wrap64 (s + rd de k) else s) ks
def trueDelayV (de : List Int) (pr : List S84) (p : Int) : Int := if 0 ≤ p ∧ p < (pr.length : Int) then delayF de 0 (pr.getD p.toNat z84).f2 else -1
theorem impl_TrueDelay_l0 (nd : Int) (lk : List S96) (de dn : List Int) (pr : List S84) (ow li : List Int) (b0 b1 b2 b3 : Int) (se : List S62) (nw : Int) (hd : de.length ≤ 1048576) :
    ∀ (suf pre : List Int) (s : Int), (pre ++ suf).length ≤ 1048576 →
    Ev (fun k => impl_TrueDelay.l0 k s (pre ++ suf) ((pre ++ suf).length : Int) (pre.length : Int) nd lk de dn pr ow li b0 b1 b2 b3 se nw) (delayF de s suf) := by
  intro suf
  induction suf with
  | nil =>
    intro pre s hb
    refine Ev.step (fun k => by rw [impl_TrueDelay.l0]) ?_
    exact evNeg (by simp) (Ev.now _)
  | cons x suf ih =>
    intro pre s hb
    simp only [List.length_append, List.length_cons] at hb
    refine Ev.step (fun k => by rw [impl_TrueDelay.l0]) ?_
    refine evPos (by simp only [List.length_append, List.length_cons]; omega) (evPos (by omega) (evPos (by simp only [List.length_append, List.length_cons]; omega) ?_))
    rw [rd_mid, wsucc (by omega)]
    refine evSome (impl_at_eq _ _) ?_
    have h := fun s => ih (pre ++ [x]) s (by simp; omega)
    by_cases hx : 0 ≤ x ∧ x < (de.length : Int)
    · refine evPos (by simpa using hx) (evPos hx.1 (evPos hx.2 (evEq ?_ (Ev.congr (fun k => ?_) (h (wrap64 (s + rd de x)))))))
      · rw [delayF, if_pos hx]
      · simp
    · refine evNeg (by simpa using hx) (evEq ?_ (Ev.congr (fun k => ?_) (h s)))
      · rw [delayF, if_neg hx]
      · simp
theorem impl_TrueDelay_ev (nd : Int) (lk : List S96) (de dn : List Int) (pr : List S84) (ow li : List Int) (b0 b1 b2 b3 : Int) (se : List S62) (nw p : Int) (h : okW' lk de dn pr ow li se) :
    Ev (fun k => impl_TrueDelay.f k nd lk de dn pr ow li b0 b1 b2 b3 se nw p) (trueDelayV de pr p) := by
  unfold impl_TrueDelay.f
  refine evSome (impl_at_eq _ _) ?_
  by_cases hp : 0 ≤ p ∧ p < (pr.length : Int)
  · refine evPos (by simpa using hp) (evPos hp.1 (evPos hp.2 ?_))
    have h2 := impl_TrueDelay_l0 nd lk de dn pr ow li b0 b1 b2 b3 se nw h.2.1 (pr.getD p.toNat z84).f2 [] 0 (by simpa using probe_ok h.2.2.2.1 p)
    refine evEq ?_ h2
    rw [trueDelayV, if_pos hp]
  · refine evNeg (by simpa using hp) (evEq ?_ (Ev.now _))
    rw [trueDelayV, if_neg hp]
theorem spec_TrueDelay_l0 (nd : Int) (lk : List S96) (de dn : List Int) (pr : List S84) (ow li : List Int) (b0 b1 b2 b3 : Int) (se : List S62) (nw : Int) (hd : de.length ≤ 1048576) :
    ∀ (suf pre : List Int) (s : Int), (pre ++ suf).length ≤ 1048576 →
    Ev (fun k => spec_TrueDelay.l0 k s (pre ++ suf) (pre.length : Int) nd lk de dn pr ow li b0 b1 b2 b3 se nw) (delayF de s suf) := by
  intro suf
  induction suf with
  | nil =>
    intro pre s hb
    refine Ev.step (fun k => by rw [spec_TrueDelay.l0]) ?_
    exact evNeg (by simp) (Ev.now _)
  | cons x suf ih =>
    intro pre s hb
    simp only [List.length_append, List.length_cons] at hb
    refine Ev.step (fun k => by rw [spec_TrueDelay.l0]) ?_
    refine evPos (by simp only [List.length_append, List.length_cons]; omega) (evPos (by omega) ?_)
    rw [rd_mid, wsucc (by omega), w64 (n := (de.length : Int) - 1) (by omega) (by omega)]
    refine evSome (spec_l1In_eq _ _ _) ?_
    have h := fun s => ih (pre ++ [x]) s (by simp; omega)
    by_cases hx : 0 ≤ x ∧ x < (de.length : Int)
    · refine evPos (by simp; omega) (evPos hx.1 (evPos hx.2 (evEq ?_ (Ev.congr (fun k => ?_) (h (wrap64 (s + rd de x)))))))
      · rw [delayF, if_pos hx]
      · simp
    · refine evNeg (by simp; omega) (evEq ?_ (Ev.congr (fun k => ?_) (h s)))
      · rw [delayF, if_neg hx]
      · simp
theorem spec_TrueDelay_ev (nd : Int) (lk : List S96) (de dn : List Int) (pr : List S84) (ow li : List Int) (b0 b1 b2 b3 : Int) (se : List S62) (nw p : Int) (h : okW' lk de dn pr ow li se) :
    Ev (fun k => spec_TrueDelay.f k nd lk de dn pr ow li b0 b1 b2 b3 se nw p) (trueDelayV de pr p) := by
  have h4 := h.2.2.2.1.1
  unfold spec_TrueDelay.f
  rw [w64 (by omega) (by omega)]
  refine evSome (spec_l1In_eq _ _ _) ?_
  by_cases hp : 0 ≤ p ∧ p < (pr.length : Int)
  · refine evPos (by simp; omega) (evPos hp.1 (evPos hp.2 ?_))
    have h2 := spec_TrueDelay_l0 nd lk de dn pr ow li b0 b1 b2 b3 se nw h.2.1 (pr.getD p.toNat z84).f2 [] 0 (by simpa using probe_ok h.2.2.2.1 p)
    refine evEq ?_ h2
    rw [trueDelayV, if_pos hp]
  · refine evNeg (by simp; omega) (evEq ?_ (Ev.now _))
    rw [trueDelayV, if_neg hp]
/-! ### has -/
def hasB (l : List Int) (v : Int) : Bool := l.any fun x => decide (x = v)
theorem spec_l7Has_l0 (v : Int) : ∀ (suf pre : List Int), (pre ++ suf).length ≤ 1048576 → Ev (fun k => spec_l7Has.l0 k (pre ++ suf) v (pre.length : Int)) (hasB suf v) := by
  intro suf
  induction suf with
  | nil =>
    intro pre hb
    refine Ev.step (fun k => by rw [spec_l7Has.l0]) ?_
    exact evNeg (by simp) (Ev.now _)
  | cons x suf ih =>
    intro pre hb
    simp only [List.length_append, List.length_cons] at hb
    refine Ev.step (fun k => by rw [spec_l7Has.l0]) ?_
    refine evPos (by simp only [List.length_append, List.length_cons]; omega) (evPos (by omega) ?_)
    rw [rd_mid, wsucc (by omega)]
    by_cases hx : x = v
    · refine evPos hx (evEq ?_ (Ev.now _))
      simp [hasB, hx]
    · have h := ih (pre ++ [x]) (by simp; omega)
      refine evNeg hx (evEq ?_ (Ev.congr (fun k => ?_) h))
      · simp [hasB, hx]
      · simp
theorem spec_l7Has_ev (l : List Int) (v : Int) (hl : l.length ≤ 1048576) : Ev (fun k => spec_l7Has.f k l v) (hasB l v) := by
  unfold spec_l7Has.f
  exact spec_l7Has_l0 v l [] (by simpa using hl)
theorem slices_Index_l0 (v : Int) : ∀ (suf pre : List Int), (pre ++ suf).length ≤ 1048576 →
    ∃ r, Ev (fun k => slices_Index_int_int.l0 k (pre ++ suf) v ((pre ++ suf).length : Int) (pre.length : Int)) r ∧ decide (r ≥ 0) = hasB suf v := by
  intro suf
  induction suf with
  | nil =>
    intro pre hb
    exact ⟨-1, Ev.step (fun k => by rw [slices_Index_int_int.l0]) (evNeg (by simp) (Ev.now _)), rfl⟩
  | cons x suf ih =>
    intro pre hb
    simp only [List.length_append, List.length_cons] at hb
    by_cases hx : v = x
    · refine ⟨(pre.length : Int), Ev.step (fun k => by rw [slices_Index_int_int.l0]) ?_, ?_⟩
      · refine evPos (by simp only [List.length_append, List.length_cons]; omega) (evPos (by omega) (evPos (by simp only [List.length_append, List.length_cons]; omega) ?_))
        rw [rd_mid]
        exact evPos hx (Ev.now _)
      · simp [hasB, hx]
    · obtain ⟨r, h, e⟩ := ih (pre ++ [x]) (by simp; omega)
      refine ⟨r, Ev.step (fun k => by rw [slices_Index_int_int.l0]) ?_, ?_⟩
      · refine evPos (by simp only [List.length_append, List.length_cons]; omega) (evPos (by omega) (evPos (by simp only [List.length_append, List.length_cons]; omega) ?_))
        rw [rd_mid, wsucc (by omega)]
        exact evNeg hx (Ev.congr (fun k => by simp) h)
      · rw [e]
        have : ¬ x = v := fun c => hx c.symm
        simp [hasB, this]
theorem slices_Contains_ev (l : List Int) (v : Int) (hl : l.length ≤ 1048576) : Ev (fun k => slices_Contains_int_int.f k l v) (hasB l v) := by
  unfold slices_Contains_int_int.f slices_Index_int_int.f
  obtain ⟨r, h, e⟩ := slices_Index_l0 v l [] (by simpa using hl)
  exact Ev.bind h (evEq e (Ev.now _))
/-! ### lie -/
def lieV (ow li : List Int) (p : Int) : Int := if (0 ≤ p ∧ p < (ow.length : Int)) ∧ hasB li (rd ow p) = true ∧ (0 ≤ rd ow p ∧ rd ow p ≤ 5) then 7 + rd ow p else 0
theorem spec_LieOf_ev (nd : Int) (lk : List S96) (de dn : List Int) (pr : List S84) (ow li : List Int) (b0 b1 b2 b3 : Int) (se : List S62) (nw p : Int) (h : okW' lk de dn pr ow li se) :
    Ev (fun k => spec_LieOf.f k nd lk de dn pr ow li b0 b1 b2 b3 se nw p) (lieV ow li p) := by
  have h5 := h.2.2.2.2.1
  have h6 := h.2.2.2.2.2.1
  unfold spec_LieOf.f
  rw [w64 (n := (ow.length : Int) - 1) (by omega) (by omega)]
  refine evSome (spec_l1In_eq _ _ _) ?_
  by_cases hp : 0 ≤ p ∧ p < (ow.length : Int)
  · refine evPos (by simp; omega) (evPos hp.1 (evPos hp.2 (Ev.bind (spec_l7Has_ev li _ h6) ?_)))
    by_cases hh : hasB li (rd ow p) = true
    · refine evPos hh (evSome (spec_l1In_eq _ _ _) ?_)
      by_cases ho : 0 ≤ rd ow p ∧ rd ow p ≤ 5
      · refine evPos (by simpa using ho) (evEq ?_ (Ev.now _))
        rw [lieV, if_pos ⟨hp, hh, ho⟩, w64 (by omega) (by omega)]
      · refine evNeg (by simpa using ho) (evEq ?_ (Ev.now _))
        rw [lieV, if_neg (fun c => ho c.2.2)]
    · refine evNeg hh (evEq ?_ (Ev.now _))
      rw [lieV, if_neg (fun c => hh c.2.1)]
  · refine evNeg (by simp; omega) (evEq ?_ (Ev.now _))
    rw [lieV, if_neg (fun c => hp c.1)]
theorem impl_LieOf_ev (nd : Int) (lk : List S96) (de dn : List Int) (pr : List S84) (ow li : List Int) (b0 b1 b2 b3 : Int) (se : List S62) (nw p : Int) (h : okW' lk de dn pr ow li se) :
    Ev (fun k => impl_LieOf.f k nd lk de dn pr ow li b0 b1 b2 b3 se nw p) (lieV ow li p) := by
  have h6 := h.2.2.2.2.2.1
  unfold impl_LieOf.f
  refine evSome (impl_at_eq _ _) ?_
  by_cases hp : 0 ≤ p ∧ p < (ow.length : Int)
  · refine evPos (by simpa using hp) (evPos hp.1 (evPos hp.2 (evSome (impl_at_eq _ _) ?_)))
    by_cases ho : 0 ≤ rd ow p ∧ rd ow p ≤ 5
    · refine evPos (by simp; omega) (Ev.bind (slices_Contains_ev li _ h6) ?_)
      by_cases hh : hasB li (rd ow p) = true
      · refine evPos hh (evEq ?_ (Ev.now _))
        rw [lieV, if_pos ⟨hp, hh, ho⟩, w64 (by omega) (by omega)]
      · refine evNeg hh (evEq ?_ (Ev.now _))
        rw [lieV, if_neg (fun c => hh c.2.1)]
    · refine evNeg (by simp; omega) (evEq ?_ (Ev.now _))
      rw [lieV, if_neg (fun c => ho c.2.2)]
  · refine evNeg (by simpa using hp) (evEq ?_ (Ev.now _))
    rw [lieV, if_neg (fun c => hp c.1)]
/-! ### spectruebad -/
theorem spec_TrueBad_l0 (nd : Int) (lk : List S96) (de dn : List Int) (pr : List S84) (ow li : List Int) (b0 b1 b2 b3 : Int) (se : List S62) (nw : Int) (hd : dn.length ≤ 1048576) :
    ∀ (suf pre : List Int), (pre ++ suf).length ≤ 1048576 → Ev (fun k => spec_TrueBad.l0 k (pre ++ suf) (pre.length : Int) nd lk de dn pr ow li b0 b1 b2 b3 se nw) (suf.any fun k => hasB dn k) := by
  intro suf
  induction suf with
  | nil =>
    intro pre hb
    refine Ev.step (fun k => by rw [spec_TrueBad.l0]) ?_
    exact evNeg (by simp) (Ev.now _)
  | cons x suf ih =>
    intro pre hb
    simp only [List.length_append, List.length_cons] at hb
    refine Ev.step (fun k => by rw [spec_TrueBad.l0]) ?_
    refine evPos (by simp only [List.length_append, List.length_cons]; omega) (evPos (by omega) ?_)
    rw [rd_mid, wsucc (by omega)]
    refine Ev.bind (spec_l7Has_ev dn x hd) ?_
    rw [List.any_cons]
    by_cases hx : hasB dn x = true
    · rw [hx]
      exact evPos rfl (Ev.now _)
    · have hx' : hasB dn x = false := by simpa using hx
      rw [hx']
      have h := ih (pre ++ [x]) (by simp; omega)
      refine evNeg (by decide) (evEq (by simp) (Ev.congr (fun k => ?_) h))
      simp
theorem spec_TrueBad_ev (nd : Int) (lk : List S96) (de dn : List Int) (pr : List S84) (ow li : List Int) (b0 b1 b2 b3 : Int) (se : List S62) (nw p : Int) (h : okW' lk de dn pr ow li se) :
    Ev (fun k => spec_TrueBad.f k nd lk de dn pr ow li b0 b1 b2 b3 se nw p) (badV nd lk de dn pr ow li b0 b1 b2 b3 se nw p) := by
  have h4 := h.2.2.2.1.1
  have h3 := h.2.2.1
  unfold spec_TrueBad.f
  rw [w64 (n := (pr.length : Int) - 1) (by omega) (by omega)]
  refine evSome (spec_l1In_eq _ _ _) ?_
  by_cases hp : 0 ≤ p ∧ p < (pr.length : Int)
  · refine evPos (by simp; omega) (evPos hp.1 (evPos hp.2 ?_))
    have h2 := spec_TrueBad_l0 nd lk de dn pr ow li b0 b1 b2 b3 se nw h3 (pr.getD p.toNat z84).f2 [] (by simpa using probe_ok h.2.2.2.1 p)
    refine evEq ?_ h2
    rw [badV, if_pos hp]
    rfl
  · refine evNeg (by simp; omega) (evEq ?_ (Ev.now _))
    rw [badV, if_neg hp]
theorem impl_TrueBad_eq (nd : Int) (lk : List S96) (de dn : List Int) (pr : List S84) (ow li : List Int) (b0 b1 b2 b3 : Int) (se : List S62) (nw p : Int) (h : okW' lk de dn pr ow li se) :
    impl_TrueBad.f nd lk de dn pr ow li b0 b1 b2 b3 se nw p = some (badV nd lk de dn pr ow li b0 b1 b2 b3 se nw p) := by
  unfold impl_TrueBad.f
  rw [if_pos ⟨h.2.2.2.1.2, h.2.2.1, h.2.2.2.1.1⟩]
/-! ### observe -/
def obsV (nd : Int) (lk : List S96) (de dn : List Int) (pr : List S84) (ow li : List Int) (b0 b1 b2 b3 : Int) (se : List S62) (nw p : Int) : Int × Int × Int × Int × Bool × Bool :=
  if (0 ≤ p ∧ p < (pr.length : Int)) ∧ (0 ≤ p ∧ p < (ow.length : Int)) then
    (p, rd ow p, nw, if badV nd lk de dn pr ow li b0 b1 b2 b3 se nw p = true then 0 else wrap64 (trueDelayV de pr p + lieV ow li p), badV nd lk de dn pr ow li b0 b1 b2 b3 se nw p, true)
  else (0, 0, 0, 0, false, false)
theorem spec_Observe_ev (nd : Int) (lk : List S96) (de dn : List Int) (pr : List S84) (ow li : List Int) (b0 b1 b2 b3 : Int) (se : List S62) (nw p : Int) (h : okW' lk de dn pr ow li se) :
    Ev (fun k => spec_Observe.f k nd lk de dn pr ow li b0 b1 b2 b3 se nw p) (obsV nd lk de dn pr ow li b0 b1 b2 b3 se nw p) := by
  have h4 := h.2.2.2.1.1
  have h5 := h.2.2.2.2.1
  unfold spec_Observe.f
  rw [w64 (n := (pr.length : Int) - 1) (by omega) (by omega), w64 (n := (ow.length : Int) - 1) (by omega) (by omega)]
  refine evSome (spec_l1In_eq _ _ _) ?_
  by_cases hp : 0 ≤ p ∧ p < (pr.length : Int)
  · refine evPos (by simp; omega) (evSome (spec_l1In_eq _ _ _) ?_)
    refine Ev.step (fun k => by rw [spec_Observe.j0]) ?_
    by_cases ho : 0 ≤ p ∧ p < (ow.length : Int)
    · refine evNeg (by simp; omega) (evPos ho.1 (evPos ho.2 (Ev.bind (spec_TrueBad_ev nd lk de dn pr ow li b0 b1 b2 b3 se nw p h) ?_)))
      by_cases hb : badV nd lk de dn pr ow li b0 b1 b2 b3 se nw p = true
      · refine evPos hb (evEq ?_ (Ev.now _))
        rw [obsV, if_pos ⟨hp, ho⟩, if_pos hb]
      · refine evNeg hb (Ev.bind (spec_TrueDelay_ev nd lk de dn pr ow li b0 b1 b2 b3 se nw p h) (Ev.bind (spec_LieOf_ev nd lk de dn pr ow li b0 b1 b2 b3 se nw p h) (evEq ?_ (Ev.now _))))
        rw [obsV, if_pos ⟨hp, ho⟩, if_neg hb]
    · refine evPos (by simp; omega) (evEq ?_ (Ev.now _))
      rw [obsV, if_neg (fun c => ho c.2)]
  · refine evNeg (by simp; omega) (Ev.step (fun k => by rw [spec_Observe.j0]) (evPos rfl (evEq ?_ (Ev.now _))))
    rw [obsV, if_neg (fun c => hp c.1)]
theorem impl_Observe_ev (nd : Int) (lk : List S96) (de dn : List Int) (pr : List S84) (ow li : List Int) (b0 b1 b2 b3 : Int) (se : List S62) (nw p : Int) (h : okW' lk de dn pr ow li se) :
    Ev (fun k => impl_Observe.f k nd lk de dn pr ow li b0 b1 b2 b3 se nw p) (obsV nd lk de dn pr ow li b0 b1 b2 b3 se nw p) := by
  unfold impl_Observe.f
  refine evSome (impl_at_eq _ _) ?_
  by_cases hp : 0 ≤ p ∧ p < (pr.length : Int)
  · refine evPos (by simpa using hp) (evSome (impl_at_eq _ _) ?_)
    refine Ev.step (fun k => by rw [impl_Observe.j0]) ?_
    by_cases ho : 0 ≤ p ∧ p < (ow.length : Int)
    · refine evNeg (by simpa using ho) (evPos ho.1 (evPos ho.2 (evSome (impl_TrueBad_eq nd lk de dn pr ow li b0 b1 b2 b3 se nw p h) ?_)))
      by_cases hb : badV nd lk de dn pr ow li b0 b1 b2 b3 se nw p = true
      · refine evPos hb (evEq ?_ (Ev.now _))
        rw [obsV, if_pos ⟨hp, ho⟩, if_pos hb]
      · refine evNeg hb (Ev.bind (impl_TrueDelay_ev nd lk de dn pr ow li b0 b1 b2 b3 se nw p h) (Ev.bind (impl_LieOf_ev nd lk de dn pr ow li b0 b1 b2 b3 se nw p h) (evEq ?_ (Ev.now _))))
        rw [obsV, if_pos ⟨hp, ho⟩, if_neg hb]
    · refine evPos (by simp; omega) (evEq ?_ (Ev.now _))
      rw [obsV, if_neg (fun c => ho c.2)]
  · refine evNeg (by simpa using hp) (Ev.step (fun k => by rw [impl_Observe.j0]) (evPos rfl (evEq ?_ (Ev.now _))))
    rw [obsV, if_neg (fun c => hp c.1)]
/-! ### zw_FnExactObserve -/
set_option maxHeartbeats 8000000 in
set_option maxRecDepth 100000 in
theorem FnExactObserve_calls' (y : LW) (q : LP) (a1 : Int) (w : World) (hq : y.Rd q w) (g1 : y.l1.length ≤ 9223372036854775807) (g2 : y.l2.length ≤ 9223372036854775807) (g3 : y.l3.length ≤ 9223372036854775807) (g4 : y.l4.length ≤ 9223372036854775807 ∧ ∀ p ∈ y.l4, p.f2.length ≤ 9223372036854775807) (g5 : y.l5.length ≤ 9223372036854775807) (g6 : y.l6.length ≤ 9223372036854775807) (g11 : y.l11.length ≤ 9223372036854775807) :
    Calls Try.prog 9 #[.agg (y.cells q), .int .i64 a1] w fun e w' => e = .returned (.bool true) ∧ Below w.heap.size w w' := by
  have hv := Try.underlying46
  have hu := Try.underlying56
  have HQ := Aside0.mk hq; clear hq
  go_enter Try.func9, Try.ntmps9
  have HBW0 := Aside0.mk (Below.refl w.heap.size w)
  go_wp2_with fail
  refine calls_gen (fun W' => Below w.heap.size w W' ∧ W'.heap[w.heap.size]? = some (.cells (y.cells q) 46 (0, 0))) ⟨?gb, ?gn⟩ ?_
  case gb => repeat (first | (with_reducible exact Below.refl _ _) | refine below_set ?_ (Nat.le_refl _) | apply below_alloc | apply pw_below_drewN)
  case gn => (repeat (refine blk_drewN ?_ _)); exact blk_new _ _
  rintro W1 ⟨hbw, hbn⟩
  have hrd := HQ.out.below (below_step HBW0.out hbw)
  go_at_call 34; (refine (szWorld_c y q W1 hrd g1 g2 g3 g4 g5 g6 g11).mono ?_); rintro e w3 ⟨r, rfl, hok, hb⟩
  clear hrd
  have hs := below_step hbw hb
  have HB4 := Aside0.mk (below_step HBW0.out hs)
  clear HBW0
  have BX5 := Aside0.mk (blk_below hbn hb)
  clear hbn
  have HS := Aside0.mk (hs.size : w.heap.size ≤ w3.heap.size)
  by_cases hc : r < 0
  · have hcd : decide (r < 0) = true := decide_eq_true hc
    go_wp2
    go_ret
    exact ⟨rfl, below_step HB4.out (by repeat (first | (with_reducible first | exact Below.refl _ _ | apply below_alloc | apply pw_below_drewN | apply below_drew1) | exact Below.refl _ _))⟩
  have hcd : decide (r < 0) = false := decide_eq_false hc
  have OK := Aside0.mk (hok (by omega)); clear hok hb hs hbw
  obtain ⟨x, hxe⟩ : ∃ x, x = cvW y := ⟨_, rfl⟩
  have HXE := Aside0.mk hxe
  have OKX := Aside0.mk (show x.Ok from by rw [hxe]; exact cvW_ok OK.out)
  obtain ⟨⟨v1, v2, v3, v4, v5, v6⟩, hbv⟩ : ∃ b, b = obsV x.d0 x.l1 x.l2 x.l3 x.l4 x.l5 x.l6 x.d7 x.d8 x.d9 x.d10 x.l11 x.d12 a1 := ⟨_, rfl⟩
  obtain ⟨ks, hks⟩ := (spec_Observe_ev x.d0 x.l1 x.l2 x.l3 x.l4 x.l5 x.l6 x.d7 x.d8 x.d9 x.d10 x.l11 x.d12 a1 OKX.out).rounds
  obtain ⟨ki, hki⟩ := (impl_Observe_ev x.d0 x.l1 x.l2 x.l3 x.l4 x.l5 x.l6 x.d7 x.d8 x.d9 x.d10 x.l11 x.d12 a1 OKX.out).rounds
  rw [← hbv] at hks hki
  have KS := Aside0.mk hks
  have KI := Aside0.mk hki
  clear hks hki hbv hxe
  obtain ⟨z6, z7, z8, z9, z10, z11, z12, z13, z14, z15, z16, z17, z18⟩ := LW.at_ BX5.out
  go_wp2_with fail
  refine calls_gen (fun W' => Below w3.heap.size w3 W') ?gb ?_
  case gb => repeat (first | (with_reducible exact Below.refl _ _) | refine below_set ?_ (Nat.le_refl _) | apply below_alloc | apply pw_below_drewN)
  rintro W19 hbw
  clear z6 z7 z8 z9 z10 z11 z12 z13 z14 z15 z16 z17 z18
  have hrd := HQ.out.below (below_step HB4.out hbw)
  go_at_call 36; (refine (toWorld_c y q W19 hrd OK.out).mono ?_); rintro e w21 ⟨p22, rfl, hm, hb⟩
  rw [← HXE.out] at hm ⊢
  have HO23 := Aside0.mk ((hm.lower (Nat.le_trans HB4.out.size hbw.size)).mono (ok' := fun k => w3.heap.size ≤ k ∧ k < w21.heap.size) (fun k h => ⟨Nat.le_trans hbw.size h.1, h.2⟩))
  have hs := below_step hbw hb
  have HB24 := Aside0.mk (below_step HB4.out hs)
  clear HB4
  have BX25 := Aside0.mk (blk_below BX5.out hs); clear BX5
  replace HS := Aside0.mk (And.intro HS.out (hs.size : w3.heap.size ≤ w21.heap.size))
  clear hm hb hs hbw hrd
  obtain ⟨z26, z27, z28, z29, z30, z31, z32, z33, z34, z35, z36, z37, z38⟩ := LW.at_ BX25.out
  go_wp2_with fail
  refine calls_gen (fun W' => Below w21.heap.size w21 W') ?gb ?_
  case gb => repeat (first | (with_reducible exact Below.refl _ _) | refine below_set ?_ (Nat.le_refl _) | apply below_alloc | apply pw_below_drewN)
  rintro W39 hbw
  clear z26 z27 z28 z29 z30 z31 z32 z33 z34 z35 z36 z37 z38
  have h42 := (HO23.out.rd).below hbw
  go_at_call 43; (refine (spec_Observe.calls ks x.d0 p22.A1 p22.c1 x.l1 p22.A2 p22.c2 x.l2 p22.A3 p22.c3 x.l3 p22.A4 p22.c4 x.l4 p22.A5 p22.c5 x.l5 p22.A6 p22.c6 x.l6 x.d7 x.d8 x.d9 x.d10 p22.A11 p22.c11 x.l11 x.d12 (a1) (v1) (v2) (v3) (v4) (v5) (v6) W39 h42.r1 h42.h1 h42.r2 h42.h2 h42.r3 h42.h3 h42.r4 h42.h4 h42.r5 h42.h5 h42.r6 h42.h6 h42.r11 h42.h11 KS.out).mono ?_); rintro e w41 ⟨rfl, hb⟩
  have hs := below_step hbw hb
  have HB43 := Aside0.mk (below_step HB24.out hs)
  clear HB24
  have HO44 := Aside0.mk (HO23.out.below hs); clear HO23
  have BX45 := Aside0.mk (blk_below BX25.out hs); clear BX25
  replace HS := Aside0.mk (And.intro HS.out (hs.size : w21.heap.size ≤ w41.heap.size))
  clear hb hs hbw h42
  obtain ⟨z46, z47, z48, z49, z50, z51, z52, z53, z54, z55, z56, z57, z58⟩ := LW.at_ BX45.out
  go_upto_region 6 with fail
  generalize hWX : w41.alloc (.cells #[.int .i64 v1, .int .i64 v2, .int .i64 v3, .int .i64 v4, .bool v5] 62) = w59
  have hbw : Below w41.heap.size w41 w59 := by rw [← hWX]; exact (by repeat (first | (with_reducible first | exact Below.refl _ _ | apply below_alloc | apply pw_below_drewN | apply below_drew1) | exact Below.refl _ _))
  have hbn : w59.heap[w41.heap.size]? = some (.cells #[.int .i64 v1, .int .i64 v2, .int .i64 v3, .int .i64 v4, .bool v5] 62 (0, 0)) := by rw [← hWX]; exact blk_new _ _
  clear hWX z46 z47 z48 z49 z50 z51 z52 z53 z54 z55 z56 z57 z58
  have hs := hbw
  have HB60 := Aside0.mk (below_step HB43.out hs)
  clear HB43
  have HO61 := Aside0.mk (HO44.out.below hs); clear HO44
  have BX62 := Aside0.mk (blk_below BX45.out hs); clear BX45
  have BX63 := Aside0.mk (hbn)
  clear hbn
  replace HS := Aside0.mk (And.intro HS.out (hs.size : w41.heap.size ≤ w59.heap.size))
  clear hs hbw
  obtain ⟨z64, z65, z66, z67, z68, z69, z70, z71, z72, z73, z74, z75, z76⟩ := LW.at_ BX62.out
  have z77 := (blk_cell BX63.out 0).trans rfl
  have z78 := (blk_cell BX63.out 1).trans rfl
  have z79 := (blk_cell BX63.out 2).trans rfl
  have z80 := (blk_cell BX63.out 3).trans rfl
  have z81 := (blk_cell BX63.out 4).trans rfl
  go_wp2_with fail
  refine calls_gen (fun W' => Below w59.heap.size w59 W') ?gb ?_
  case gb => repeat (first | (with_reducible exact Below.refl _ _) | refine below_set ?_ (Nat.le_refl _) | apply below_alloc | apply pw_below_drewN)
  rintro W82 hbw
  clear z64 z65 z66 z67 z68 z69 z70 z71 z72 z73 z74 z75 z76 z77 z78 z79 z80 z81
  have hrd := HQ.out.below (below_step HB60.out hbw)
  go_at_call 36; (refine (toWorld_c y q W82 hrd OK.out).mono ?_); rintro e w84 ⟨p85, rfl, hm, hb⟩
  rw [← HXE.out] at hm ⊢
  have HO86 := Aside0.mk ((hm.lower (Nat.le_trans HB60.out.size hbw.size)).mono (ok' := fun k => w59.heap.size ≤ k ∧ k < w84.heap.size) (fun k h => ⟨Nat.le_trans hbw.size h.1, h.2⟩))
  have hs := below_step hbw hb
  have HB87 := Aside0.mk (below_step HB60.out hs)
  clear HB60
  have HO88 := Aside0.mk (HO61.out.below hs); clear HO61
  have BX89 := Aside0.mk (blk_below BX62.out hs); clear BX62
  have BX90 := Aside0.mk (blk_below BX63.out hs); clear BX63
  replace HS := Aside0.mk (And.intro HS.out (hs.size : w59.heap.size ≤ w84.heap.size))
  clear hm hb hs hbw hrd
  obtain ⟨z91, z92, z93, z94, z95, z96, z97, z98, z99, z100, z101, z102, z103⟩ := LW.at_ BX89.out
  have z104 := (blk_cell BX90.out 0).trans rfl
  have z105 := (blk_cell BX90.out 1).trans rfl
  have z106 := (blk_cell BX90.out 2).trans rfl
  have z107 := (blk_cell BX90.out 3).trans rfl
  have z108 := (blk_cell BX90.out 4).trans rfl
  go_wp2_with fail
  refine calls_gen (fun W' => Below w84.heap.size w84 W' ∧ W'.heap[w84.heap.size]? = some (.cells (x.cells p85) 56 (0, 0))) ⟨?gb, ?gn⟩ ?_
  case gb => repeat (first | (with_reducible exact Below.refl _ _) | refine below_set ?_ (Nat.le_refl _) | apply below_alloc | apply pw_below_drewN)
  case gn => (repeat (refine blk_drewN ?_ _)); exact blk_new _ _
  rintro W109 ⟨hbw, hbn⟩
  clear z91 z92 z93 z94 z95 z96 z97 z98 z99 z100 z101 z102 z103 z104 z105 z106 z107 z108
  have h112 := (HO86.out.rd).below hbw
  go_at_call 44; (refine (impl_Observe.calls ki x.d0 p85.A1 p85.c1 x.l1 p85.A2 p85.c2 x.l2 p85.A3 p85.c3 x.l3 p85.A4 p85.c4 x.l4 p85.A5 p85.c5 x.l5 p85.A6 p85.c6 x.l6 x.d7 x.d8 x.d9 x.d10 p85.A11 p85.c11 x.l11 x.d12 (a1) (v1) (v2) (v3) (v4) (v5) (v6) W109 h112.r1 h112.h1 h112.r2 h112.h2 h112.r3 h112.h3 h112.r4 h112.h4 h112.r5 h112.h5 h112.r6 h112.h6 h112.r11 h112.h11 KI.out).mono ?_); rintro e w111 ⟨rfl, hb⟩
  have hs := below_step hbw hb
  have HB113 := Aside0.mk (below_step HB87.out hs)
  clear HB87
  have HO114 := Aside0.mk (HO88.out.below hs); clear HO88
  have HO115 := Aside0.mk (HO86.out.below hs); clear HO86
  have BX116 := Aside0.mk (blk_below BX89.out hs); clear BX89
  have BX117 := Aside0.mk (blk_below BX90.out hs); clear BX90
  have BX118 := Aside0.mk (blk_below hbn hb)
  clear hbn
  replace HS := Aside0.mk (And.intro HS.out (hs.size : w84.heap.size ≤ w111.heap.size))
  clear hb hs hbw h112
  obtain ⟨z119, z120, z121, z122, z123, z124, z125, z126, z127, z128, z129, z130, z131⟩ := LW.at_ BX116.out
  have z132 := (blk_cell BX117.out 0).trans rfl
  have z133 := (blk_cell BX117.out 1).trans rfl
  have z134 := (blk_cell BX117.out 2).trans rfl
  have z135 := (blk_cell BX117.out 3).trans rfl
  have z136 := (blk_cell BX117.out 4).trans rfl
  obtain ⟨z137, z138, z139, z140, z141, z142, z143, z144, z145, z146, z147, z148, z149⟩ := IW.at_ BX118.out
  go_upto_region 8 with fail
  generalize hWX : w111.alloc (.cells #[.int .i64 v1, .int .i64 v2, .int .i64 v3, .int .i64 v4, .bool v5] 62) = w150
  have hbw : Below w111.heap.size w111 w150 := by rw [← hWX]; exact (by repeat (first | (with_reducible first | exact Below.refl _ _ | apply below_alloc | apply pw_below_drewN | apply below_drew1) | exact Below.refl _ _))
  have hbn : w150.heap[w111.heap.size]? = some (.cells #[.int .i64 v1, .int .i64 v2, .int .i64 v3, .int .i64 v4, .bool v5] 62 (0, 0)) := by rw [← hWX]; exact blk_new _ _
  clear hWX z119 z120 z121 z122 z123 z124 z125 z126 z127 z128 z129 z130 z131 z132 z133 z134 z135 z136 z137 z138 z139 z140 z141 z142 z143 z144 z145 z146 z147 z148 z149
  have hs := hbw
  have HB151 := Aside0.mk (below_step HB113.out hs)
  clear HB113
  have HO152 := Aside0.mk (HO114.out.below hs); clear HO114
  have HO153 := Aside0.mk (HO115.out.below hs); clear HO115
  have BX154 := Aside0.mk (blk_below BX116.out hs); clear BX116
  have BX155 := Aside0.mk (blk_below BX117.out hs); clear BX117
  have BX156 := Aside0.mk (blk_below BX118.out hs); clear BX118
  have BX157 := Aside0.mk (hbn)
  clear hbn
  replace HS := Aside0.mk (And.intro HS.out (hs.size : w111.heap.size ≤ w150.heap.size))
  clear hs hbw
  obtain ⟨z158, z159, z160, z161, z162, z163, z164, z165, z166, z167, z168, z169, z170⟩ := LW.at_ BX154.out
  have z171 := (blk_cell BX155.out 0).trans rfl
  have z172 := (blk_cell BX155.out 1).trans rfl
  have z173 := (blk_cell BX155.out 2).trans rfl
  have z174 := (blk_cell BX155.out 3).trans rfl
  have z175 := (blk_cell BX155.out 4).trans rfl
  obtain ⟨z176, z177, z178, z179, z180, z181, z182, z183, z184, z185, z186, z187, z188⟩ := IW.at_ BX156.out
  have z189 := (blk_cell BX157.out 0).trans rfl
  have z190 := (blk_cell BX157.out 1).trans rfl
  have z191 := (blk_cell BX157.out 2).trans rfl
  have z192 := (blk_cell BX157.out 3).trans rfl
  have z193 := (blk_cell BX157.out 4).trans rfl
  go_wp2_with fail
  refine calls_gen (fun W' => Below w150.heap.size w150 W') ?gb ?_
  case gb => repeat (first | (with_reducible exact Below.refl _ _) | refine below_set ?_ (Nat.le_refl _) | apply below_alloc | apply pw_below_drewN)
  rintro W194 hbw
  clear z158 z159 z160 z161 z162 z163 z164 z165 z166 z167 z168 z169 z170 z171 z172 z173 z174 z175 z176 z177 z178 z179 z180 z181 z182 z183 z184 z185 z186 z187 z188 z189 z190 z191 z192 z193
  go_at_call 45; (refine (laws_eqSeen.calls  (v1) (v2) (v3) (v4) (v5) (v1) (v2) (v3) (v4) (v5) (true) W194  (eqSeen_eq ⟨v1, v2, v3, v4, v5⟩) ⟨rfl⟩).mono ?_); rintro e w196 ⟨rfl, hb⟩
  have hs := below_step hbw hb
  have HB197 := Aside0.mk (below_step HB151.out hs)
  clear HB151
  have HO198 := Aside0.mk (HO152.out.below hs); clear HO152
  have HO199 := Aside0.mk (HO153.out.below hs); clear HO153
  have BX200 := Aside0.mk (blk_below BX154.out hs); clear BX154
  have BX201 := Aside0.mk (blk_below BX155.out hs); clear BX155
  have BX202 := Aside0.mk (blk_below BX156.out hs); clear BX156
  have BX203 := Aside0.mk (blk_below BX157.out hs); clear BX157
  replace HS := Aside0.mk (And.intro HS.out (hs.size : w150.heap.size ≤ w196.heap.size))
  clear hb hs hbw 
  go_upto_region 10 with fail
  skip
  go_region_held3 (fun w' => Below w196.heap.size w196 w' ∧ (w'.cell? ⟨w84.heap.size, 0, none⟩ = some (.int .i64 x.d0) ∧ w'.cell? ⟨w84.heap.size, 1, none⟩ = some (.slice p85.A1 x.l1.length p85.c1) ∧ w'.cell? ⟨w84.heap.size, 2, none⟩ = some (.slice p85.A2 x.l2.length p85.c2) ∧ w'.cell? ⟨w84.heap.size, 3, none⟩ = some (.slice p85.A3 x.l3.length p85.c3) ∧ w'.cell? ⟨w84.heap.size, 4, none⟩ = some (.slice p85.A4 x.l4.length p85.c4) ∧ w'.cell? ⟨w84.heap.size, 5, none⟩ = some (.slice p85.A5 x.l5.length p85.c5) ∧ w'.cell? ⟨w84.heap.size, 6, none⟩ = some (.slice p85.A6 x.l6.length p85.c6) ∧ w'.cell? ⟨w84.heap.size, 7, none⟩ = some (.int .i64 x.d7) ∧ w'.cell? ⟨w84.heap.size, 8, none⟩ = some (.int .i64 x.d8) ∧ w'.cell? ⟨w84.heap.size, 9, none⟩ = some (.int .i64 x.d9) ∧ w'.cell? ⟨w84.heap.size, 10, none⟩ = some (.int .i64 x.d10) ∧ w'.cell? ⟨w84.heap.size, 11, none⟩ = some (.slice p85.A11 x.l11.length p85.c11) ∧ w'.cell? ⟨w84.heap.size, 12, none⟩ = some (.int .i64 x.d12)) ∧ w'.cell? ⟨w.heap.size, 0, none⟩ = some (.int .i64 y.d0) ∧ w'.cell? ⟨w.heap.size, 1, none⟩ = some (.slice q.A1 y.l1.length q.c1) ∧ w'.cell? ⟨w.heap.size, 2, none⟩ = some (.slice q.A2 y.l2.length q.c2) ∧ w'.cell? ⟨w.heap.size, 3, none⟩ = some (.slice q.A3 y.l3.length q.c3) ∧ w'.cell? ⟨w.heap.size, 4, none⟩ = some (.slice q.A4 y.l4.length q.c4) ∧ w'.cell? ⟨w.heap.size, 5, none⟩ = some (.slice q.A5 y.l5.length q.c5) ∧ w'.cell? ⟨w.heap.size, 6, none⟩ = some (.slice q.A6 y.l6.length q.c6) ∧ w'.cell? ⟨w.heap.size, 7, none⟩ = some (.int .i64 y.d7) ∧ w'.cell? ⟨w.heap.size, 8, none⟩ = some (.int .i64 y.d8) ∧ w'.cell? ⟨w.heap.size, 9, none⟩ = some (.int .i64 y.d9) ∧ w'.cell? ⟨w.heap.size, 10, none⟩ = some (.int .i64 y.d10) ∧ w'.cell? ⟨w.heap.size, 11, none⟩ = some (.slice q.A11 y.l11.length q.c11) ∧ w'.cell? ⟨w.heap.size, 12, none⟩ = some (.int .i64 y.d12)) (first | exact ⟨(below_step (below_step (w := w196) (by repeat (first | (with_reducible first | exact Below.refl _ _ | apply below_alloc | apply pw_below_drewN | apply below_drew1) | exact Below.refl _ _)) hb1) (below_step (by repeat (first | (with_reducible first | exact Below.refl _ _ | apply below_alloc | apply pw_below_drewN | apply below_drew1) | exact Below.refl _ _)) hb2)), IW.at_ (blk_below BX202.out (below_step (below_step (w := w196) (by repeat (first | (with_reducible first | exact Below.refl _ _ | apply below_alloc | apply pw_below_drewN | apply below_drew1) | exact Below.refl _ _)) hb1) (below_step (by repeat (first | (with_reducible first | exact Below.refl _ _ | apply below_alloc | apply pw_below_drewN | apply below_drew1) | exact Below.refl _ _)) hb2))), LW.at_ (blk_below BX200.out (below_step (below_step (w := w196) (by repeat (first | (with_reducible first | exact Below.refl _ _ | apply below_alloc | apply pw_below_drewN | apply below_drew1) | exact Below.refl _ _)) hb1) (below_step (by repeat (first | (with_reducible first | exact Below.refl _ _ | apply below_alloc | apply pw_below_drewN | apply below_drew1) | exact Below.refl _ _)) hb2)))⟩ | exact ⟨(below_step (w := w196) (by repeat (first | (with_reducible first | exact Below.refl _ _ | apply below_alloc | apply pw_below_drewN | apply below_drew1) | exact Below.refl _ _)) hb1), IW.at_ (blk_below BX202.out (below_step (w := w196) (by repeat (first | (with_reducible first | exact Below.refl _ _ | apply below_alloc | apply pw_below_drewN | apply below_drew1) | exact Below.refl _ _)) hb1)), LW.at_ (blk_below BX200.out (below_step (w := w196) (by repeat (first | (with_reducible first | exact Below.refl _ _ | apply below_alloc | apply pw_below_drewN | apply below_drew1) | exact Below.refl _ _)) hb1))⟩ | exact ⟨(by repeat (first | (with_reducible first | exact Below.refl _ _ | apply below_alloc | apply pw_below_drewN | apply below_drew1) | exact Below.refl _ _)), IW.at_ (blk_below BX202.out (by repeat (first | (with_reducible first | exact Below.refl _ _ | apply below_alloc | apply pw_below_drewN | apply below_drew1) | exact Below.refl _ _))), LW.at_ (blk_below BX200.out (by repeat (first | (with_reducible first | exact Below.refl _ _ | apply below_alloc | apply pw_below_drewN | apply below_drew1) | exact Below.refl _ _)))⟩)
    (first | (go_at_call 36; (refine (toWorld_c y q _ (HQ.out.below (below_step HB197.out (by repeat (first | (with_reducible first | exact Below.refl _ _ | apply below_alloc | apply pw_below_drewN | apply below_drew1) | exact Below.refl _ _)))) OK.out).mono ?_); rintro e w1_ ⟨p_, rfl, hm, hb1⟩; rw [← HXE.out] at hm ⊢) | (go_at_call 38; (refine (eqWorld_c x p85 p_ _ ((HO199.out.rd).below (below_step (w := w196) (by repeat (first | (with_reducible first | exact Below.refl _ _ | apply below_alloc | apply pw_below_drewN | apply below_drew1) | exact Below.refl _ _)) hb1)) (hm.rd.below (by repeat (first | (with_reducible first | exact Below.refl _ _ | apply below_alloc | apply pw_below_drewN | apply below_drew1) | exact Below.refl _ _))) OKX.out).mono ?_); rintro e w2_ ⟨rfl, hb2⟩) | fail)
  all_goals go_wp2
  all_goals go_ret
  all_goals exact ⟨rfl, below_step HB197.out (below_step (below_step (below_step (w := w196) (by repeat (first | (with_reducible first | exact Below.refl _ _ | apply below_alloc | apply pw_below_drewN | apply below_drew1) | exact Below.refl _ _)) hb1) (below_step (by repeat (first | (with_reducible first | exact Below.refl _ _ | apply below_alloc | apply pw_below_drewN | apply below_drew1) | exact Below.refl _ _)) hb2)) (by repeat (first | (with_reducible first | exact Below.refl _ _ | apply below_alloc | apply pw_below_drewN | apply below_drew1) | exact Below.refl _ _)))⟩
theorem FnExactObserve_calls (a0_0 : Int) (A0_1 : Option Addr) (c0_1 : Nat) (l0_1 : (List S133)) (A0_2 : Option Addr) (c0_2 : Nat) (l0_2 : (List Int)) (A0_3 : Option Addr) (c0_3 : Nat) (l0_3 : (List Int)) (A0_4 : Option Addr) (c0_4 : Nat) (l0_4 : (List S116)) (A0_5 : Option Addr) (c0_5 : Nat) (l0_5 : (List Int)) (A0_6 : Option Addr) (c0_6 : Nat) (l0_6 : (List Int)) (a0_7 : Int) (a0_8 : Int) (a0_9 : Int) (a0_10 : Int) (A0_11 : Option Addr) (c0_11 : Nat) (l0_11 : (List S120)) (a0_12 : Int) (a1 : Int) (w : World) (hr0_1 : Kd.C k133 w A0_1 l0_1.length l0_1) (hc0_1 : l0_1.length ≤ c0_1) (hr0_2 : Kd.C (Kd.int .i64) w A0_2 l0_2.length l0_2) (hc0_2 : l0_2.length ≤ c0_2) (hr0_3 : Kd.C (Kd.int .i64) w A0_3 l0_3.length l0_3) (hc0_3 : l0_3.length ≤ c0_3) (hr0_4 : Kd.C k116 w A0_4 l0_4.length l0_4) (hc0_4 : l0_4.length ≤ c0_4) (hr0_5 : Kd.C (Kd.int .i64) w A0_5 l0_5.length l0_5) (hc0_5 : l0_5.length ≤ c0_5) (hr0_6 : Kd.C (Kd.int .i64) w A0_6 l0_6.length l0_6) (hc0_6 : l0_6.length ≤ c0_6) (hr0_11 : Kd.C k120 w A0_11 l0_11.length l0_11) (hc0_11 : l0_11.length ≤ c0_11) (g0_0 : (Lit.int .i64 a0_0).wf = true) (g0_1 : (l0_1.length ≤ 9223372036854775807 ∧ ∀ y0_ ∈ l0_1, Wf133 y0_)) (g0_2 : (l0_2.length ≤ 9223372036854775807 ∧ ∀ y0_ ∈ l0_2, (Lit.int .i64 y0_).wf = true)) (g0_3 : (l0_3.length ≤ 9223372036854775807 ∧ ∀ y0_ ∈ l0_3, (Lit.int .i64 y0_).wf = true)) (g0_4 : (l0_4.length ≤ 9223372036854775807 ∧ ∀ y0_ ∈ l0_4, Wf116 y0_)) (g0_5 : (l0_5.length ≤ 9223372036854775807 ∧ ∀ y0_ ∈ l0_5, (Lit.int .i64 y0_).wf = true)) (g0_6 : (l0_6.length ≤ 9223372036854775807 ∧ ∀ y0_ ∈ l0_6, (Lit.int .i64 y0_).wf = true)) (g0_7 : (Lit.int .i64 a0_7).wf = true) (g0_8 : (Lit.int .i64 a0_8).wf = true) (g0_9 : (Lit.int .i64 a0_9).wf = true) (g0_10 : (Lit.int .i64 a0_10).wf = true) (g0_11 : (l0_11.length ≤ 9223372036854775807 ∧ ∀ y0_ ∈ l0_11, Wf120 y0_)) (g0_12 : (Lit.int .i64 a0_12).wf = true) (g1 : (Lit.int .i64 a1).wf = true) :
    Calls Try.prog 9 #[.agg #[.int .i64 a0_0, .slice A0_1 l0_1.length c0_1, .slice A0_2 l0_2.length c0_2, .slice A0_3 l0_3.length c0_3, .slice A0_4 l0_4.length c0_4, .slice A0_5 l0_5.length c0_5, .slice A0_6 l0_6.length c0_6, .int .i64 a0_7, .int .i64 a0_8, .int .i64 a0_9, .int .i64 a0_10, .slice A0_11 l0_11.length c0_11, .int .i64 a0_12], .int .i64 a1] w fun e w' => e = .returned (.bool true) ∧ Below w.heap.size w w' :=
  FnExactObserve_calls' ⟨a0_0, l0_1, l0_2, l0_3, l0_4, l0_5, l0_6, a0_7, a0_8, a0_9, a0_10, l0_11, a0_12⟩ ⟨A0_1, c0_1, A0_2, c0_2, A0_3, c0_3, A0_4, c0_4, A0_5, c0_5, A0_6, c0_6, A0_11, c0_11⟩ a1 w ⟨hr0_1, hc0_1, hr0_2, hc0_2, hr0_3, hc0_3, hr0_4, hc0_4, hr0_5, hc0_5, hr0_6, hc0_6, hr0_11, hc0_11⟩ g0_1.1 g0_2.1 g0_3.1 ⟨g0_4.1, fun p hp => (g0_4.2 p hp).2.2.1⟩ g0_5.1 g0_6.1 g0_11.1
end Go.Proofs.Ytakembkodcjbjaa.Pure
