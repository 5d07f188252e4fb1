/- Lemmas: zw_FnExactLooksAlike -/
import Derived.Test.YtkimiekgghfoiaaPFnExactLooksAlikex0
import Derived.Test.YtkimiekgghfoiaaPFnExactLooksAlikex1
import Derived.Test.YtkimiekgghfoiaaPFnExactLooksAlikex2
import Derived.Test.YtkimiekgghfoiaaPFnExactLooksAlikex3
import Derived.Test.YtkimiekgghfoiaaPFnExactLooksAlikex4
import Derived.Test.YtkimiekgghfoiaaPFnExactLooksAlikex5
import Derived.Test.YtkimiekgghfoiaaPFnExactLooksAlikex6
import Derived.Test.YtkimiekgghfoiaaPFnExactLooksAlikex7
import Derived.Test.YtkimiekgghfoiaaPFnExactLooksAlikex8
import Derived.Test.YtkimiekgghfoiaaPFnExactLooksAlikex9
import Derived.Test.YtkimiekgghfoiaaRFnExactLooksAlike
import Derived.Test.YtkimiekgghfoiaaBase
namespace Go.Proofs.Ytkimiekgghfoiaa.Pure
open Go.RowKit Go.Proofs.Ytkimiekgghfoiaa.Base Go.Proofs.Ytkimiekgghfoiaa.PFnExactLooksAlike Go.Proofs.YtkimiekgghfoiaaW.PrintWords Go.Proofs.YtkimiekgghfoiaaW.PrintLast Go.Proofs.YtkimiekgghfoiaaW.PrintMore
set_option linter.unusedVariables false
set_option linter.unusedSimpArgs false
/-! ### own -/
/-- A row that a call made: its blocks are those between the two worlds. -/
theorem S_fresh {α : Type} {d : Kd α} {e : Nat} {w w2 W w3 : World} {v : Value} {xs : List α} (h0 : Below w.heap.size w w2) (h1 : Below w2.heap.size w2 W) (ho : Kd.S d e w3 W.heap.size (fun _ => True) v xs) (hb : Below W.heap.size W w3) : Kd.S d e w3 w.heap.size (fun k => w2.heap.size ≤ k ∧ k < w3.heap.size) v xs :=
  Kd.S_lower (Kd.S_mono (Kd.S_bound ho) (fun k hk => ⟨Nat.le_trans h1.size hk.2.1, hk.2.2.1⟩)) (Nat.le_trans h0.size h1.size)
theorem R_fresh {α : Type} {d : Kd α} {e : Nat} {w w2 W w3 : World} {v : Value} {xs : List α} (h0 : Below w.heap.size w w2) (h1 : Below w2.heap.size w2 W) (ho : Kd.R d e w3 W.heap.size (fun _ => True) v xs) (hb : Below W.heap.size W w3) : Kd.R d e w3 w.heap.size (fun k => w2.heap.size ≤ k ∧ k < w3.heap.size) v xs :=
  Kd.R_lower (Kd.R_mono (Kd.R_bound ho) (fun k hk => ⟨Nat.le_trans h1.size hk.2.1, hk.2.2.1⟩)) (Nat.le_trans h0.size h1.size)
/-- A flat row that was written and comes back: its blocks are the same. -/
theorem R_tight' {α β : Type} {d : Kd α} {d' : Kd β} {e e' : Nat} {w w' : World} {b b' : Nat} {ok ok' : Nat → Prop} {v : Value} {xs : List α} {ys : List β} (hE : d.E = []) (h : Kd.R d e w b ok v xs) (h' : Kd.R d' e' w' b' ok' v ys) : Kd.R d e w b ok' v xs :=
  Kd.R_mono (Kd.R_tight hE h) (fun k hk => h'.1 k hk.symm)
theorem calls_cast {P : Program} {f : Nat} {args args' : Array Value} {w : World} {Q : Ending → World → Prop} (h : args = args') (hc : Calls P f args w Q) : Calls P f args' w Q := h ▸ hc
/-! ### szints -/
def leftI (l : List Int) (a : Int) : Int := if a - (l.length : Int) < 0 then -1 else a - (l.length : Int)
theorem szIntS_eq (l : List Int) (a : Int) (h0 : 0 ≤ a) (h1 : a ≤ 1048576) (hl : l.length ≤ 9223372036854775807) : laws_szIntS.f l a = some (leftI l a) := by
  unfold laws_szIntS.f leftI
  rw [w64 (by omega) (by omega)]
  split <;> rfl
/-! ### ints -/
theorem toIntS_l0 : ∀ (suf pre rest : List Int), (pre ++ suf).length ≤ 1048576 → rest.length = suf.length →
    Ev (fun k => laws_toIntS.l0 k (pre ++ suf) (pre ++ rest) (pre.length : Int)) (pre ++ suf) := by
  intro suf
  induction suf with
  | nil =>
    intro pre rest hb hr
    obtain rfl : rest = [] := by simpa using hr
    refine Ev.step (fun k => by rw [laws_toIntS.l0]) ?_
    exact evNeg (by simp) (Ev.now _)
  | cons x suf ih =>
    intro pre rest hb hr
    obtain ⟨r, rest, rfl⟩ : ∃ r t, rest = r :: t := by
      cases rest with
      | nil => simp at hr
      | cons r t => exact ⟨r, t, rfl⟩
    simp only [List.length_append, List.length_cons] at hb hr
    refine Ev.step (fun k => by rw [laws_toIntS.l0]) ?_
    refine evPos (by simp only [List.length_append, List.length_cons]; omega) (evPos (by omega) (evPos (by simp only [List.length_append, List.length_cons]; omega) ?_))
    rw [rd_mid, set_mid, wsucc (by omega)]
    have h := ih (pre ++ [x]) rest (by simp; omega) (by omega)
    simpa using h
theorem toIntS_ev (l : List Int) (hl : l.length ≤ 1048576) : Ev (fun k => laws_toIntS.f k l) l := by
  unfold laws_toIntS.f
  refine evPos (by omega) (evPos (by omega) ?_)
  have h := toIntS_l0 l [] (List.replicate l.length 0) (by simpa using hl) (by simp)
  simpa using h
theorem eqIntS_l0 : ∀ (suf pre : List Int), (pre ++ suf).length ≤ 1048576 →
    Ev (fun k => laws_eqIntS.l0 k (pre ++ suf) (pre ++ suf) (pre.length : Int)) true := by
  intro suf
  induction suf with
  | nil =>
    intro pre hb
    refine Ev.step (fun k => by rw [laws_eqIntS.l0]) ?_
    exact evNeg (by simp) (Ev.now _)
  | cons x suf ih =>
    intro pre hb
    simp only [List.length_append, List.length_cons] at hb
    refine Ev.step (fun k => by rw [laws_eqIntS.l0]) ?_
    refine evPos (by simp only [List.length_append, List.length_cons]; omega) (evPos (by omega) (evPos (by simp only [List.length_append, List.length_cons]; omega) (evPos rfl ?_)))
    rw [wsucc (by omega)]
    have h := ih (pre ++ [x]) (by simp; omega)
    simpa using h
theorem eqIntS_ev (l : List Int) (hl : l.length ≤ 1048576) : Ev (fun k => laws_eqIntS.f k l l) true := by
  unfold laws_eqIntS.f
  refine evPos rfl ?_
  have h := eqIntS_l0 l [] (by simpa using hl)
  simpa using h
/-! ### seens -/
def leftL {α : Type} (l : List α) (a : Int) : Int := if a - (l.length : Int) < 0 then -1 else a - (l.length : Int)
theorem szSeenS_eq (l : List S135) (a : Int) (h0 : 0 ≤ a) (h1 : a ≤ 1048576) (hl : l.length ≤ 9223372036854775807) : laws_szSeenS.f l a = some (leftL l a) := by
  unfold laws_szSeenS.f leftL
  rw [w64 (by omega) (by omega)]
  split <;> rfl
theorem leftL_ok {α : Type} {l : List α} (h : 0 ≤ leftL l 1048576) : l.length ≤ 1048576 := by
  unfold leftL at h
  split at h <;> omega
def cvSeen (x : S135) : S67 := ⟨x.f0, x.f1, x.f2, x.f3, x.f4⟩
theorem toSeenS_l0 : ∀ (suf pre : List S135) (rest : List S67), (pre ++ suf).length ≤ 1048576 → rest.length = suf.length →
    Ev (fun k => laws_toSeenS.l0 k (pre ++ suf) (pre.map cvSeen ++ rest) (pre.length : Int)) ((pre ++ suf).map cvSeen) := by
  intro suf
  induction suf with
  | nil =>
    intro pre rest hb hr
    obtain rfl : rest = [] := by simpa using hr
    refine Ev.step (fun k => by rw [laws_toSeenS.l0]) ?_
    refine evNeg (by simp) (evEq ?_ (Ev.now _))
    simp
  | cons x suf ih =>
    intro pre rest hb hr
    obtain ⟨r, rest, rfl⟩ : ∃ r t, rest = r :: t := by
      cases rest with
      | nil => simp at hr
      | cons r t => exact ⟨r, t, rfl⟩
    simp only [List.length_append, List.length_cons] at hb hr
    refine Ev.step (fun k => by rw [laws_toSeenS.l0]) ?_
    refine evPos (by simp only [List.length_append, List.length_cons]; omega) (evPos (by omega) ?_)
    simp only [rd_T135, getD_mid]
    refine evSome rfl (evPos (by simp only [List.length_append, List.length_cons, List.length_map]; omega) ?_)
    rw [wsucc (by omega)]
    have h := ih (pre ++ [x]) rest (by simp; omega) (by omega)
    refine evEq ?_ (Ev.congr (fun k => ?_) h)
    · simp
    · have e : (pre.length : Int) = ((pre.map cvSeen).length : Int) := by simp
      rw [e, set_mid]
      simp [cvSeen]
theorem toSeenS_ev (l : List S135) (hl : l.length ≤ 1048576) : Ev (fun k => laws_toSeenS.f k l) (l.map cvSeen) := by
  unfold laws_toSeenS.f
  refine evPos (by omega) (evPos (by omega) ?_)
  have h := toSeenS_l0 l [] (List.replicate l.length z67) (by simpa using hl) (by simp)
  simpa using h
theorem eqSeen_eq (x : S67) : laws_eqSeen.f x.f0 x.f1 x.f2 x.f3 x.f4 x.f0 x.f1 x.f2 x.f3 x.f4 = some true := by
  simp [laws_eqSeen.f]
theorem eqSeenS_l0 : ∀ (suf pre : List S67), (pre ++ suf).length ≤ 1048576 →
    Ev (fun k => laws_eqSeenS.l0 k (pre ++ suf) (pre ++ suf) (pre.length : Int)) true := by
  intro suf
  induction suf with
  | nil =>
    intro pre hb
    refine Ev.step (fun k => by rw [laws_eqSeenS.l0]) ?_
    exact evNeg (by simp) (Ev.now _)
  | cons x suf ih =>
    intro pre hb
    simp only [List.length_append, List.length_cons] at hb
    refine Ev.step (fun k => by rw [laws_eqSeenS.l0]) ?_
    refine evPos (by simp only [List.length_append, List.length_cons]; omega) (evPos (by omega) (evPos (by simp only [List.length_append, List.length_cons]; omega) ?_))
    simp only [rd_T67, getD_mid]
    refine evSome (eqSeen_eq x) (evPos rfl ?_)
    rw [wsucc (by omega)]
    have h := ih (pre ++ [x]) (by simp; omega)
    simpa using h
theorem eqSeenS_ev (l : List S67) (hl : l.length ≤ 1048576) : Ev (fun k => laws_eqSeenS.f k l l) true := by
  unfold laws_eqSeenS.f
  refine evPos rfl ?_
  have h := eqSeenS_l0 l [] (by simpa using hl)
  simpa using h
/-! ### world -/
def okP (l : List S131) : Prop := l.length ≤ 1048576 ∧ ∀ p ∈ l, p.f2.length ≤ 1048576
def cvLink (x : S153) : S87 := ⟨x.f0, x.f1⟩
def cvProbe (x : S131) : S97 := ⟨x.f0, x.f1, x.f2⟩
theorem szLinkS_eq (l : List S153) (a : Int) (h0 : 0 ≤ a) (h1 : a ≤ 1048576) (hl : l.length ≤ 9223372036854775807) : laws_szLinkS.f l a = some (leftL l a) := by
  unfold laws_szLinkS.f leftL
  rw [w64 (by omega) (by omega)]
  split <;> rfl
theorem leftL_neg {α : Type} {l : List α} {a : Int} (h : leftL l a < 0) : leftL l a = -1 := by
  unfold leftL at h ⊢
  split <;> omega
theorem leftL_le {α : Type} (l : List α) {a : Int} (h0 : 0 ≤ a) : leftL l a ≤ a := by
  unfold leftL
  split <;> omega
theorem leftL_ok' {α : Type} {l : List α} {a : Int} (ha : a ≤ 1048576) (h : 0 ≤ leftL l a) : l.length ≤ 1048576 := by
  unfold leftL at h
  split at h <;> omega
theorem leftI_eq (l : List Int) (a : Int) : leftI l a = leftL l a := rfl
theorem szNet_eq (n : Int) (l : List S153) (a : Int) (h0 : 0 ≤ a) (h1 : a ≤ 1048576) (hl : l.length ≤ 9223372036854775807) : laws_szNet.f n l a = some (leftL l a) := by
  unfold laws_szNet.f
  rw [szLinkS_eq l a h0 h1 hl, Option.bind_some]
  split
  · rename_i h
    rw [leftL_neg h]
  · rfl
theorem szProbe_eq (x y : Int) (l : List Int) (a : Int) (h0 : 0 ≤ a) (h1 : a ≤ 1048576) (hl : l.length ≤ 9223372036854775807) : laws_szProbe.f x y l a = some (leftL l a) := by
  unfold laws_szProbe.f
  rw [szIntS_eq l a h0 h1 hl, Option.bind_some, leftI_eq]
  split
  · rename_i h
    rw [leftL_neg h]
  · rfl
theorem szProbeS_l0 : ∀ (suf pre : List S131) (a : Int), (pre ++ suf).length ≤ 1048576 → 0 ≤ a → a ≤ 1048576 → (∀ p ∈ suf, p.f2.length ≤ 9223372036854775807) →
    ∃ r, Ev (fun k => laws_szProbeS.l0 k (pre ++ suf) a (pre.length : Int)) r ∧ r ≤ 1048576 ∧ (0 ≤ r → ∀ p ∈ suf, p.f2.length ≤ 1048576) := by
  intro suf
  induction suf with
  | nil =>
    intro pre a hb h0 h1 hr
    refine ⟨a, Ev.step (fun k => by rw [laws_szProbeS.l0]) (evNeg (by simp) (Ev.now _)), h1, by simp⟩
  | cons x suf ih =>
    intro pre a hb h0 h1 hr
    simp only [List.length_append, List.length_cons] at hb
    have hx := szProbe_eq x.f0 x.f1 x.f2 a h0 h1 (hr x (by simp))
    have hle := leftL_le x.f2 h0
    by_cases hn : leftL x.f2 a < 0
    · refine ⟨-1, Ev.step (fun k => by rw [laws_szProbeS.l0]) ?_, by omega, fun h => by omega⟩
      refine evPos (by simp only [List.length_append, List.length_cons]; omega) (evPos (by omega) ?_)
      simp only [rd_T131, getD_mid]
      exact evSome hx (evPos hn (Ev.now _))
    · obtain ⟨r, he, hr1, hr2⟩ := ih (pre ++ [x]) (leftL x.f2 a) (by simp; omega) (by omega) (by omega) (fun p h => hr p (by simp [h]))
      refine ⟨r, Ev.step (fun k => by rw [laws_szProbeS.l0]) ?_, hr1, fun h p hp => ?_⟩
      · refine evPos (by simp only [List.length_append, List.length_cons]; omega) (evPos (by omega) ?_)
        simp only [rd_T131, getD_mid]
        refine evSome hx (evNeg hn ?_)
        rw [wsucc (by omega)]
        simpa using he
      · rcases List.mem_cons.1 hp with rfl | hp
        · exact leftL_ok' h1 (by omega)
        · exact hr2 h p hp
theorem szProbeS_ev (l : List S131) (a : Int) (h0 : 0 ≤ a) (h1 : a ≤ 1048576) (hl : l.length ≤ 9223372036854775807) (hr : ∀ p ∈ l, p.f2.length ≤ 9223372036854775807) :
    ∃ r, Ev (fun k => laws_szProbeS.f k l a) r ∧ r ≤ 1048576 ∧ (0 ≤ r → okP l) := by
  by_cases h : a - (l.length : Int) < 0
  · refine ⟨-1, ?_, by omega, fun h => by omega⟩
    unfold laws_szProbeS.f
    rw [w64 (by omega) (by omega)]
    exact evPos h (Ev.now _)
  · obtain ⟨r, he, hr1, hr2⟩ := szProbeS_l0 l [] (a - (l.length : Int)) (by simp; omega) (by omega) (by omega) hr
    refine ⟨r, ?_, hr1, fun h2 => ⟨by omega, hr2 h2⟩⟩
    unfold laws_szProbeS.f
    rw [w64 (by omega) (by omega)]
    exact evNeg h he
def okW (lk : List S153) (de dn : List Int) (pr : List S131) (ow li : List Int) (se : List S135) : Prop :=
  lk.length ≤ 1048576 ∧ de.length ≤ 1048576 ∧ dn.length ≤ 1048576 ∧ okP pr ∧ ow.length ≤ 1048576 ∧ li.length ≤ 1048576 ∧ se.length ≤ 1048576
theorem toLinkS_l0 : ∀ (suf pre : List S153) (rest : List S87), (pre ++ suf).length ≤ 1048576 → rest.length = suf.length → 
    Ev (fun k => laws_toLinkS.l0 k (pre ++ suf) (pre.map cvLink ++ rest) (pre.length : Int)) ((pre ++ suf).map cvLink) := by
  intro suf
  induction suf with
  | nil =>
    intro pre rest hb hr
    obtain rfl : rest = [] := by simpa using hr
    refine Ev.step (fun k => by rw [laws_toLinkS.l0]) ?_
    refine evNeg (by simp) (evEq ?_ (Ev.now _))
    simp
  | cons x suf ih =>
    intro pre rest hb hr
    obtain ⟨r, rest, rfl⟩ : ∃ r t, rest = r :: t := by
      cases rest with
      | nil => simp at hr
      | cons r t => exact ⟨r, t, rfl⟩
    simp only [List.length_append, List.length_cons] at hb hr
    refine Ev.step (fun k => by rw [laws_toLinkS.l0]) ?_
    refine evPos (by simp only [List.length_append, List.length_cons]; omega) (evPos (by omega) ?_)
    simp only [rd_T153, getD_mid]
    refine evSome rfl (evPos (by simp only [List.length_append, List.length_cons, List.length_map]; omega) ?_)
    rw [wsucc (by omega)]
    have h := ih (pre ++ [x]) rest (by simp; omega) (by omega)
    refine evEq ?_ (Ev.congr (fun k => ?_) h)
    · simp
    · have e : (pre.length : Int) = ((pre.map cvLink).length : Int) := by simp
      rw [e, set_mid]
      simp [cvLink]
theorem toLinkS_ev (l : List S153) (hl : l.length ≤ 1048576) : Ev (fun k => laws_toLinkS.f k l) (l.map cvLink) := by
  unfold laws_toLinkS.f
  refine evPos (by omega) (evPos (by omega) ?_)
  have h := toLinkS_l0 l [] (List.replicate l.length z87) (by simpa using hl) (by simp)
  simpa using h
theorem toProbe_ev (x : S131) (h : x.f2.length ≤ 1048576) : Ev (fun k => laws_toProbe.f k x.f0 x.f1 x.f2) (x.f0, x.f1, x.f2) := by
  unfold laws_toProbe.f
  exact Ev.bind (toIntS_ev x.f2 h) (Ev.now _)
theorem toProbeS_l0 : ∀ (suf pre : List S131) (rest : List S97), (pre ++ suf).length ≤ 1048576 → rest.length = suf.length → (∀ p ∈ suf, p.f2.length ≤ 1048576) →
    Ev (fun k => laws_toProbeS.l0 k (pre ++ suf) (pre.map cvProbe ++ rest) (pre.length : Int)) ((pre ++ suf).map cvProbe) := by
  intro suf
  induction suf with
  | nil =>
    intro pre rest hb hr hq
    obtain rfl : rest = [] := by simpa using hr
    refine Ev.step (fun k => by rw [laws_toProbeS.l0]) ?_
    refine evNeg (by simp) (evEq ?_ (Ev.now _))
    simp
  | cons x suf ih =>
    intro pre rest hb hr hq
    obtain ⟨r, rest, rfl⟩ : ∃ r t, rest = r :: t := by
      cases rest with
      | nil => simp at hr
      | cons r t => exact ⟨r, t, rfl⟩
    simp only [List.length_append, List.length_cons] at hb hr
    refine Ev.step (fun k => by rw [laws_toProbeS.l0]) ?_
    refine evPos (by simp only [List.length_append, List.length_cons]; omega) (evPos (by omega) ?_)
    simp only [rd_T131, getD_mid]
    refine Ev.bind (toProbe_ev x (hq x (by simp))) (evPos (by simp only [List.length_append, List.length_cons, List.length_map]; omega) ?_)
    rw [wsucc (by omega)]
    have h := ih (pre ++ [x]) rest (by simp; omega) (by omega) (fun p h => hq p (by simp [h]))
    refine evEq ?_ (Ev.congr (fun k => ?_) h)
    · simp
    · have e : (pre.length : Int) = ((pre.map cvProbe).length : Int) := by simp
      rw [e, set_mid]
      simp [cvProbe]
theorem toProbeS_ev (l : List S131) (hl : okP l) : Ev (fun k => laws_toProbeS.f k l) (l.map cvProbe) := by
  have hl1 := hl.1
  unfold laws_toProbeS.f
  refine evPos (by omega) (evPos (by omega) ?_)
  have h := toProbeS_l0 l [] (List.replicate l.length z97) (by simpa using hl.1) (by simp) hl.2
  simpa using h
theorem eqLink_eq (x : S87) : laws_eqLink.f x.f0 x.f1 x.f0 x.f1 = some true := by
  simp [laws_eqLink.f]
theorem eqLinkS_l0 : ∀ (suf pre : List S87), (pre ++ suf).length ≤ 1048576 → 
    Ev (fun k => laws_eqLinkS.l0 k (pre ++ suf) (pre ++ suf) (pre.length : Int)) true := by
  intro suf
  induction suf with
  | nil =>
    intro pre hb
    refine Ev.step (fun k => by rw [laws_eqLinkS.l0]) ?_
    exact evNeg (by simp) (Ev.now _)
  | cons x suf ih =>
    intro pre hb
    simp only [List.length_append, List.length_cons] at hb
    refine Ev.step (fun k => by rw [laws_eqLinkS.l0]) ?_
    refine evPos (by simp only [List.length_append, List.length_cons]; omega) (evPos (by omega) (evPos (by simp only [List.length_append, List.length_cons]; omega) ?_))
    simp only [rd_T87, getD_mid]
    refine evSome (eqLink_eq x) (evPos rfl ?_)
    rw [wsucc (by omega)]
    have h := ih (pre ++ [x]) (by simp; omega)
    simpa using h
theorem eqLinkS_ev (l : List S87) (hl : l.length ≤ 1048576) : Ev (fun k => laws_eqLinkS.f k l l) true := by
  unfold laws_eqLinkS.f
  refine evPos rfl ?_
  have h := eqLinkS_l0 l [] (by simpa using hl)
  simpa using h
def okP' (l : List S97) : Prop := l.length ≤ 1048576 ∧ ∀ p ∈ l, p.f2.length ≤ 1048576
theorem eqProbe_ev (x : S97) (h : x.f2.length ≤ 1048576) : Ev (fun k => laws_eqProbe.f k x.f0 x.f1 x.f2 x.f0 x.f1 x.f2) true := by
  unfold laws_eqProbe.f
  exact evPos rfl (evPos rfl (Ev.bind (eqIntS_ev x.f2 h) (evPos rfl (Ev.now _))))
theorem eqProbeS_l0 : ∀ (suf pre : List S97), (pre ++ suf).length ≤ 1048576 → (∀ p ∈ suf, p.f2.length ≤ 1048576) →
    Ev (fun k => laws_eqProbeS.l0 k (pre ++ suf) (pre ++ suf) (pre.length : Int)) true := by
  intro suf
  induction suf with
  | nil =>
    intro pre hb hq
    refine Ev.step (fun k => by rw [laws_eqProbeS.l0]) ?_
    exact evNeg (by simp) (Ev.now _)
  | cons x suf ih =>
    intro pre hb hq
    simp only [List.length_append, List.length_cons] at hb
    refine Ev.step (fun k => by rw [laws_eqProbeS.l0]) ?_
    refine evPos (by simp only [List.length_append, List.length_cons]; omega) (evPos (by omega) (evPos (by simp only [List.length_append, List.length_cons]; omega) ?_))
    simp only [rd_T97, getD_mid]
    refine Ev.bind (eqProbe_ev x (hq x (by simp))) (evPos rfl ?_)
    rw [wsucc (by omega)]
    have h := ih (pre ++ [x]) (by simp; omega) (fun p h => hq p (by simp [h]))
    simpa using h
theorem eqProbeS_ev (l : List S97) (hl : okP' l) : Ev (fun k => laws_eqProbeS.f k l l) true := by
  unfold laws_eqProbeS.f
  refine evPos rfl ?_
  have h := eqProbeS_l0 l [] (by simpa using hl.1) hl.2
  simpa using h
def okW' (lk : List S87) (de dn : List Int) (pr : List S97) (ow li : List Int) (se : List S67) : Prop :=
  lk.length ≤ 1048576 ∧ de.length ≤ 1048576 ∧ dn.length ≤ 1048576 ∧ okP' pr ∧ ow.length ≤ 1048576 ∧ li.length ≤ 1048576 ∧ se.length ≤ 1048576
theorem okW_cv {lk : List S153} {de dn : List Int} {pr : List S131} {ow li : List Int} {se : List S135} (h : okW lk de dn pr ow li se) :
    okW' (lk.map cvLink) de dn (pr.map cvProbe) ow li (se.map cvSeen) := by
  obtain ⟨h1, h2, h3, h4, h5, h6, h7⟩ := h
  refine ⟨by simpa using h1, h2, h3, ⟨by simpa using h4.1, fun p hp => ?_⟩, h5, h6, by simpa using h7⟩
  obtain ⟨q, hq, rfl⟩ := List.mem_map.1 hp
  exact h4.2 q hq
theorem eqBucket_eq (a b c d : Int) : laws_eqBucket.f a b c d a b c d = some true := by
  simp [laws_eqBucket.f]
theorem eqNet_ev (nd : Int) (lk : List S87) (h : lk.length ≤ 1048576) : Ev (fun k => laws_eqNet.f k nd lk nd lk) true := by
  unfold laws_eqNet.f
  exact evPos rfl (Ev.bind (eqLinkS_ev lk h) (evPos rfl (Ev.now _)))
/-! ### wkit -/
/-- A world's data (impl.World). -/
structure IW where
  d0 : Int
  l1 : List S87
  l2 : List Int
  l3 : List Int
  l4 : List S97
  l5 : List Int
  l6 : List Int
  d7 : Int
  d8 : Int
  d9 : Int
  d10 : Int
  l11 : List S67
  d12 : Int
/-- Where its rows lie. -/
structure IP where
  A1 : Option Addr
  c1 : Nat
  A2 : Option Addr
  c2 : Nat
  A3 : Option Addr
  c3 : Nat
  A4 : Option Addr
  c4 : Nat
  A5 : Option Addr
  c5 : Nat
  A6 : Option Addr
  c6 : Nat
  A11 : Option Addr
  c11 : Nat
abbrev IW.cells (x : IW) (p : IP) : Array Value := #[.int .i64 x.d0, .slice p.A1 x.l1.length p.c1, .slice p.A2 x.l2.length p.c2, .slice p.A3 x.l3.length p.c3, .slice p.A4 x.l4.length p.c4, .slice p.A5 x.l5.length p.c5, .slice p.A6 x.l6.length p.c6, .int .i64 x.d7, .int .i64 x.d8, .int .i64 x.d9, .int .i64 x.d10, .slice p.A11 x.l11.length p.c11, .int .i64 x.d12]
structure IW.Rd (x : IW) (p : IP) (w : World) : Prop where
  r1 : Kd.C k87 w p.A1 x.l1.length x.l1
  h1 : x.l1.length ≤ p.c1
  r2 : Kd.C (Kd.int .i64) w p.A2 x.l2.length x.l2
  h2 : x.l2.length ≤ p.c2
  r3 : Kd.C (Kd.int .i64) w p.A3 x.l3.length x.l3
  h3 : x.l3.length ≤ p.c3
  r4 : Kd.C k97 w p.A4 x.l4.length x.l4
  h4 : x.l4.length ≤ p.c4
  r5 : Kd.C (Kd.int .i64) w p.A5 x.l5.length x.l5
  h5 : x.l5.length ≤ p.c5
  r6 : Kd.C (Kd.int .i64) w p.A6 x.l6.length x.l6
  h6 : x.l6.length ≤ p.c6
  r11 : Kd.C k67 w p.A11 x.l11.length x.l11
  h11 : x.l11.length ≤ p.c11
theorem IW.Rd.below {x : IW} {p : IP} {w w1 : World} (h : x.Rd p w) (hb : Below w.heap.size w w1) : x.Rd p w1 := ⟨Kd.C_below h.r1 hb, h.h1, Kd.C_below h.r2 hb, h.h2, Kd.C_below h.r3 hb, h.h3, Kd.C_below h.r4 hb, h.h4, Kd.C_below h.r5 hb, h.h5, Kd.C_below h.r6 hb, h.h6, Kd.C_below h.r11 hb, h.h11⟩
theorem IW.at_ {x : IW} {p : IP} {w : World} {g t : Nat} (h : w.heap[g]? = some (.cells (x.cells p) t (0, 0))) : w.cell? ⟨g, 0, none⟩ = some (.int .i64 x.d0) ∧ w.cell? ⟨g, 1, none⟩ = some (.slice p.A1 x.l1.length p.c1) ∧ w.cell? ⟨g, 2, none⟩ = some (.slice p.A2 x.l2.length p.c2) ∧ w.cell? ⟨g, 3, none⟩ = some (.slice p.A3 x.l3.length p.c3) ∧ w.cell? ⟨g, 4, none⟩ = some (.slice p.A4 x.l4.length p.c4) ∧ w.cell? ⟨g, 5, none⟩ = some (.slice p.A5 x.l5.length p.c5) ∧ w.cell? ⟨g, 6, none⟩ = some (.slice p.A6 x.l6.length p.c6) ∧ w.cell? ⟨g, 7, none⟩ = some (.int .i64 x.d7) ∧ w.cell? ⟨g, 8, none⟩ = some (.int .i64 x.d8) ∧ w.cell? ⟨g, 9, none⟩ = some (.int .i64 x.d9) ∧ w.cell? ⟨g, 10, none⟩ = some (.int .i64 x.d10) ∧ w.cell? ⟨g, 11, none⟩ = some (.slice p.A11 x.l11.length p.c11) ∧ w.cell? ⟨g, 12, none⟩ = some (.int .i64 x.d12) := ⟨(blk_cell h 0).trans rfl, (blk_cell h 1).trans rfl, (blk_cell h 2).trans rfl, (blk_cell h 3).trans rfl, (blk_cell h 4).trans rfl, (blk_cell h 5).trans rfl, (blk_cell h 6).trans rfl, (blk_cell h 7).trans rfl, (blk_cell h 8).trans rfl, (blk_cell h 9).trans rfl, (blk_cell h 10).trans rfl, (blk_cell h 11).trans rfl, (blk_cell h 12).trans rfl⟩
structure IW.Md (x : IW) (p : IP) (w : World) (base : Nat) (ok : Nat → Prop) : Prop where
  m1 : Kd.R k87 87 w base (fun k_ => ok k_) (.slice p.A1 x.l1.length p.c1) x.l1
  m2 : Kd.R (Kd.int .i64) 3 w base (fun k_ => ok k_ ∧ some k_ ≠ (.slice p.A3 x.l3.length p.c3 : Value).ownBlock ∧ some k_ ≠ (.slice p.A5 x.l5.length p.c5 : Value).ownBlock ∧ some k_ ≠ (.slice p.A6 x.l6.length p.c6 : Value).ownBlock) (.slice p.A2 x.l2.length p.c2) x.l2
  m3 : Kd.R (Kd.int .i64) 3 w base (fun k_ => ok k_ ∧ some k_ ≠ (.slice p.A2 x.l2.length p.c2 : Value).ownBlock ∧ some k_ ≠ (.slice p.A5 x.l5.length p.c5 : Value).ownBlock ∧ some k_ ≠ (.slice p.A6 x.l6.length p.c6 : Value).ownBlock) (.slice p.A3 x.l3.length p.c3) x.l3
  m4 : Kd.S k97 97 w base (fun k_ => ok k_ ∧ some k_ ≠ (.slice p.A2 x.l2.length p.c2 : Value).ownBlock ∧ some k_ ≠ (.slice p.A3 x.l3.length p.c3 : Value).ownBlock ∧ some k_ ≠ (.slice p.A5 x.l5.length p.c5 : Value).ownBlock ∧ some k_ ≠ (.slice p.A6 x.l6.length p.c6 : Value).ownBlock) (.slice p.A4 x.l4.length p.c4) x.l4
  m5 : Kd.R (Kd.int .i64) 3 w base (fun k_ => ok k_ ∧ some k_ ≠ (.slice p.A2 x.l2.length p.c2 : Value).ownBlock ∧ some k_ ≠ (.slice p.A3 x.l3.length p.c3 : Value).ownBlock ∧ some k_ ≠ (.slice p.A6 x.l6.length p.c6 : Value).ownBlock) (.slice p.A5 x.l5.length p.c5) x.l5
  m6 : Kd.R (Kd.int .i64) 3 w base (fun k_ => ok k_ ∧ some k_ ≠ (.slice p.A2 x.l2.length p.c2 : Value).ownBlock ∧ some k_ ≠ (.slice p.A3 x.l3.length p.c3 : Value).ownBlock ∧ some k_ ≠ (.slice p.A5 x.l5.length p.c5 : Value).ownBlock) (.slice p.A6 x.l6.length p.c6) x.l6
  m11 : Kd.R k67 67 w base (fun k_ => ok k_) (.slice p.A11 x.l11.length p.c11) x.l11
theorem IW.Md.rd {x : IW} {p : IP} {w : World} {base : Nat} {ok : Nat → Prop} (h : x.Md p w base ok) : x.Rd p w := ⟨(Kd.R_reads' h.m1).2.2, (Kd.R_reads' h.m1).2.1, (Kd.R_reads' h.m2).2.2, (Kd.R_reads' h.m2).2.1, (Kd.R_reads' h.m3).2.2, (Kd.R_reads' h.m3).2.1, (Kd.S_reads' h.m4).2.2, (Kd.S_reads' h.m4).2.1, (Kd.R_reads' h.m5).2.2, (Kd.R_reads' h.m5).2.1, (Kd.R_reads' h.m6).2.2, (Kd.R_reads' h.m6).2.1, (Kd.R_reads' h.m11).2.2, (Kd.R_reads' h.m11).2.1⟩
theorem IW.Md.step {x : IW} {p : IP} {w w1 : World} {base : Nat} {ok : Nat → Prop} (h : x.Md p w base ok) (hm : ∀ k, ok k → k < w.heap.size → w1.heap[k]? = w.heap[k]?) : x.Md p w1 base ok := ⟨Kd.R_step h.m1 (fun k hk hl => hm k hk hl), Kd.R_step h.m2 (fun k hk hl => hm k hk.1 hl), Kd.R_step h.m3 (fun k hk hl => hm k hk.1 hl), Kd.S_step h.m4 (fun k hk hl => hm k hk.1 hl), Kd.R_step h.m5 (fun k hk hl => hm k hk.1 hl), Kd.R_step h.m6 (fun k hk hl => hm k hk.1 hl), Kd.R_step h.m11 (fun k hk hl => hm k hk hl)⟩
theorem IW.Md.below {x : IW} {p : IP} {w w1 : World} {base : Nat} {ok : Nat → Prop} (h : x.Md p w base ok) (hb : Below w.heap.size w w1) : x.Md p w1 base ok := h.step (fun k _ hl => hb.block k hl)
theorem IW.Md.kept {x : IW} {p : IP} {w w1 : World} {base : Nat} {ok S : Nat → Prop} (h : x.Md p w base ok) (hk : Kept w w1 S) (hne : ∀ k, ok k → ¬ S k) : x.Md p w1 base ok := h.step (fun k ho hl => hk.2 k hl (hne k ho))
theorem IW.Md.lower {x : IW} {p : IP} {w : World} {base base' : Nat} {ok : Nat → Prop} (h : x.Md p w base ok) (hb : base' ≤ base) : x.Md p w base' ok := ⟨Kd.R_lower h.m1 hb, Kd.R_lower h.m2 hb, Kd.R_lower h.m3 hb, Kd.S_lower h.m4 hb, Kd.R_lower h.m5 hb, Kd.R_lower h.m6 hb, Kd.R_lower h.m11 hb⟩
theorem IW.Md.mono {x : IW} {p : IP} {w : World} {base : Nat} {ok ok' : Nat → Prop} (h : x.Md p w base ok) (hok : ∀ k, ok k → ok' k) : x.Md p w base ok' := ⟨Kd.R_mono h.m1 (fun k hk => hok k hk), Kd.R_mono h.m2 (fun k hk => ⟨hok k hk.1, hk.2⟩), Kd.R_mono h.m3 (fun k hk => ⟨hok k hk.1, hk.2⟩), Kd.S_mono h.m4 (fun k hk => ⟨hok k hk.1, hk.2⟩), Kd.R_mono h.m5 (fun k hk => ⟨hok k hk.1, hk.2⟩), Kd.R_mono h.m6 (fun k hk => ⟨hok k hk.1, hk.2⟩), Kd.R_mono h.m11 (fun k hk => hok k hk)⟩
/-- A world's data (laws.World). -/
structure LW where
  d0 : Int
  l1 : List S153
  l2 : List Int
  l3 : List Int
  l4 : List S131
  l5 : List Int
  l6 : List Int
  d7 : Int
  d8 : Int
  d9 : Int
  d10 : Int
  l11 : List S135
  d12 : Int
/-- Where its rows lie. -/
structure LP where
  A1 : Option Addr
  c1 : Nat
  A2 : Option Addr
  c2 : Nat
  A3 : Option Addr
  c3 : Nat
  A4 : Option Addr
  c4 : Nat
  A5 : Option Addr
  c5 : Nat
  A6 : Option Addr
  c6 : Nat
  A11 : Option Addr
  c11 : Nat
abbrev LW.cells (x : LW) (p : LP) : Array Value := #[.int .i64 x.d0, .slice p.A1 x.l1.length p.c1, .slice p.A2 x.l2.length p.c2, .slice p.A3 x.l3.length p.c3, .slice p.A4 x.l4.length p.c4, .slice p.A5 x.l5.length p.c5, .slice p.A6 x.l6.length p.c6, .int .i64 x.d7, .int .i64 x.d8, .int .i64 x.d9, .int .i64 x.d10, .slice p.A11 x.l11.length p.c11, .int .i64 x.d12]
structure LW.Rd (x : LW) (p : LP) (w : World) : Prop where
  r1 : Kd.C k153 w p.A1 x.l1.length x.l1
  h1 : x.l1.length ≤ p.c1
  r2 : Kd.C (Kd.int .i64) w p.A2 x.l2.length x.l2
  h2 : x.l2.length ≤ p.c2
  r3 : Kd.C (Kd.int .i64) w p.A3 x.l3.length x.l3
  h3 : x.l3.length ≤ p.c3
  r4 : Kd.C k131 w p.A4 x.l4.length x.l4
  h4 : x.l4.length ≤ p.c4
  r5 : Kd.C (Kd.int .i64) w p.A5 x.l5.length x.l5
  h5 : x.l5.length ≤ p.c5
  r6 : Kd.C (Kd.int .i64) w p.A6 x.l6.length x.l6
  h6 : x.l6.length ≤ p.c6
  r11 : Kd.C k135 w p.A11 x.l11.length x.l11
  h11 : x.l11.length ≤ p.c11
theorem LW.Rd.below {x : LW} {p : LP} {w w1 : World} (h : x.Rd p w) (hb : Below w.heap.size w w1) : x.Rd p w1 := ⟨Kd.C_below h.r1 hb, h.h1, Kd.C_below h.r2 hb, h.h2, Kd.C_below h.r3 hb, h.h3, Kd.C_below h.r4 hb, h.h4, Kd.C_below h.r5 hb, h.h5, Kd.C_below h.r6 hb, h.h6, Kd.C_below h.r11 hb, h.h11⟩
theorem LW.at_ {x : LW} {p : LP} {w : World} {g t : Nat} (h : w.heap[g]? = some (.cells (x.cells p) t (0, 0))) : w.cell? ⟨g, 0, none⟩ = some (.int .i64 x.d0) ∧ w.cell? ⟨g, 1, none⟩ = some (.slice p.A1 x.l1.length p.c1) ∧ w.cell? ⟨g, 2, none⟩ = some (.slice p.A2 x.l2.length p.c2) ∧ w.cell? ⟨g, 3, none⟩ = some (.slice p.A3 x.l3.length p.c3) ∧ w.cell? ⟨g, 4, none⟩ = some (.slice p.A4 x.l4.length p.c4) ∧ w.cell? ⟨g, 5, none⟩ = some (.slice p.A5 x.l5.length p.c5) ∧ w.cell? ⟨g, 6, none⟩ = some (.slice p.A6 x.l6.length p.c6) ∧ w.cell? ⟨g, 7, none⟩ = some (.int .i64 x.d7) ∧ w.cell? ⟨g, 8, none⟩ = some (.int .i64 x.d8) ∧ w.cell? ⟨g, 9, none⟩ = some (.int .i64 x.d9) ∧ w.cell? ⟨g, 10, none⟩ = some (.int .i64 x.d10) ∧ w.cell? ⟨g, 11, none⟩ = some (.slice p.A11 x.l11.length p.c11) ∧ w.cell? ⟨g, 12, none⟩ = some (.int .i64 x.d12) := ⟨(blk_cell h 0).trans rfl, (blk_cell h 1).trans rfl, (blk_cell h 2).trans rfl, (blk_cell h 3).trans rfl, (blk_cell h 4).trans rfl, (blk_cell h 5).trans rfl, (blk_cell h 6).trans rfl, (blk_cell h 7).trans rfl, (blk_cell h 8).trans rfl, (blk_cell h 9).trans rfl, (blk_cell h 10).trans rfl, (blk_cell h 11).trans rfl, (blk_cell h 12).trans rfl⟩
def cvW (y : LW) : IW := ⟨y.d0, y.l1.map cvLink, y.l2, y.l3, y.l4.map cvProbe, y.l5, y.l6, y.d7, y.d8, y.d9, y.d10, y.l11.map cvSeen, y.d12⟩
def LW.Ok (y : LW) : Prop := okW y.l1 y.l2 y.l3 y.l4 y.l5 y.l6 y.l11
def IW.Ok (x : IW) : Prop := okW' x.l1 x.l2 x.l3 x.l4 x.l5 x.l6 x.l11
theorem cvW_ok {y : LW} (h : y.Ok) : (cvW y).Ok := okW_cv h
/-! ### weq -/
set_option maxHeartbeats 4000000 in
set_option maxRecDepth 100000 in
theorem eqWorld_c (x : IW) (p q : IP) (w : World) (hp : x.Rd p w) (hq : x.Rd q w) (ho : x.Ok) :
    Calls Try.prog 19 #[.agg (x.cells p), .agg (x.cells q)] w fun e w' => e = .returned (.bool true) ∧ Below w.heap.size w w' := by
  have hu := Try.underlying41
  have hu2 := Try.underlying36
  have hu3 := Try.underlying38
  obtain ⟨k1, hk⟩ := (eqNet_ev x.d0 x.l1 ho.1).rounds
  have K1 := Aside0.mk hk
  clear hk
  obtain ⟨k2, hk⟩ := (eqIntS_ev x.l2 ho.2.1).rounds
  have K2 := Aside0.mk hk
  clear hk
  obtain ⟨k3, hk⟩ := (eqIntS_ev x.l3 ho.2.2.1).rounds
  have K3 := Aside0.mk hk
  clear hk
  obtain ⟨k4, hk⟩ := (eqProbeS_ev x.l4 ho.2.2.2.1).rounds
  have K4 := Aside0.mk hk
  clear hk
  obtain ⟨k5, hk⟩ := (eqIntS_ev x.l5 ho.2.2.2.2.1).rounds
  have K5 := Aside0.mk hk
  clear hk
  obtain ⟨k6, hk⟩ := (eqIntS_ev x.l6 ho.2.2.2.2.2.1).rounds
  have K6 := Aside0.mk hk
  clear hk
  obtain ⟨k11, hk⟩ := (eqSeenS_ev x.l11 ho.2.2.2.2.2.2).rounds
  have K11 := Aside0.mk hk
  clear hk
  have HP := Aside0.mk hp
  have HQ := Aside0.mk hq
  clear hp hq ho
  go_enter Try.func19, Try.ntmps19
  go_wp2_with fail
  go_at_call 81; (with_reducible refine (laws_eqNet.calls k1 x.d0 p.A1 p.c1 x.l1 x.d0 q.A1 q.c1 x.l1 true _ ?s0 HP.out.h1 ?s1 HQ.out.h1 K1.out ⟨rfl⟩).mono ?_); (case s0 => exact (HP.out.below (by repeat (first | (with_reducible first | exact Below.refl _ _ | apply below_alloc | apply pw_below_drewN | apply below_drew1) | exact Below.refl _ _))).r1); (case s1 => exact (HQ.out.below (by repeat (first | (with_reducible first | exact Below.refl _ _ | apply below_alloc | apply pw_below_drewN | apply below_drew1) | exact Below.refl _ _))).r1); rintro e w1 ⟨rfl, hb⟩
  have HB := Aside0.mk (below_step (w := w) (by repeat (first | (with_reducible first | exact Below.refl _ _ | apply below_alloc | apply pw_below_drewN | apply below_drew1) | exact Below.refl _ _)) hb)
  have BP := Aside0.mk (show w1.heap[w.heap.size]? = some (.cells (x.cells p) 41 (0, 0)) from blk_below (by repeat (first | exact blk_new _ _ | refine blk_drewN ?_ _ | refine blk_alloc ?_ _)) hb)
  have BQ := Aside0.mk (show w1.heap[w.heap.size + 1]? = some (.cells (x.cells q) 41 (0, 0)) from blk_below (by have h_ := blk_new (w.alloc (.cells (x.cells p) 41)) (.cells (x.cells q) 41); simpa using h_) hb)
  clear hb
  obtain ⟨hp0, hp1, hp2, hp3, hp4, hp5, hp6, hp7, hp8, hp9, hp10, hp11, hp12⟩ := IW.at_ BP.out
  obtain ⟨hq0, hq1, hq2, hq3, hq4, hq5, hq6, hq7, hq8, hq9, hq10, hq11, hq12⟩ := IW.at_ BQ.out
  go_wp2_with fail
  go_at_call 25; (with_reducible refine (laws_eqIntS.calls k2 p.A2 p.c2 x.l2 q.A2 q.c2 x.l2 true _ ?s0 HP.out.h2 ?s1 HQ.out.h2 K2.out ⟨rfl⟩).mono ?_); (case s0 => exact (HP.out.below (below_step HB.out (by repeat (first | (with_reducible first | exact Below.refl _ _ | apply below_alloc | apply pw_below_drewN | apply below_drew1) | exact Below.refl _ _)))).r2); (case s1 => exact (HQ.out.below (below_step HB.out (by repeat (first | (with_reducible first | exact Below.refl _ _ | apply below_alloc | apply pw_below_drewN | apply below_drew1) | exact Below.refl _ _)))).r2); rintro e w' ⟨rfl, ⟨nd, rfl⟩⟩
  clear hp0 hp1 hp2 hp3 hp4 hp5 hp6 hp7 hp8 hp9 hp10 hp11 hp12 hq0 hq1 hq2 hq3 hq4 hq5 hq6 hq7 hq8 hq9 hq10 hq11 hq12
  obtain ⟨hp0, hp1, hp2, hp3, hp4, hp5, hp6, hp7, hp8, hp9, hp10, hp11, hp12⟩ := IW.at_ BP.out
  obtain ⟨hq0, hq1, hq2, hq3, hq4, hq5, hq6, hq7, hq8, hq9, hq10, hq11, hq12⟩ := IW.at_ BQ.out
  go_wp2_with fail
  go_at_call 25; (with_reducible refine (laws_eqIntS.calls k3 p.A3 p.c3 x.l3 q.A3 q.c3 x.l3 true _ ?s0 HP.out.h3 ?s1 HQ.out.h3 K3.out ⟨rfl⟩).mono ?_); (case s0 => exact (HP.out.below (below_step HB.out (by repeat (first | (with_reducible first | exact Below.refl _ _ | apply below_alloc | apply pw_below_drewN | apply below_drew1) | exact Below.refl _ _)))).r3); (case s1 => exact (HQ.out.below (below_step HB.out (by repeat (first | (with_reducible first | exact Below.refl _ _ | apply below_alloc | apply pw_below_drewN | apply below_drew1) | exact Below.refl _ _)))).r3); rintro e w' ⟨rfl, ⟨nd, rfl⟩⟩
  clear hp0 hp1 hp2 hp3 hp4 hp5 hp6 hp7 hp8 hp9 hp10 hp11 hp12 hq0 hq1 hq2 hq3 hq4 hq5 hq6 hq7 hq8 hq9 hq10 hq11 hq12
  obtain ⟨hp0, hp1, hp2, hp3, hp4, hp5, hp6, hp7, hp8, hp9, hp10, hp11, hp12⟩ := IW.at_ BP.out
  obtain ⟨hq0, hq1, hq2, hq3, hq4, hq5, hq6, hq7, hq8, hq9, hq10, hq11, hq12⟩ := IW.at_ BQ.out
  go_wp2_with fail
  go_at_call 82; (with_reducible refine (laws_eqProbeS.calls k4 p.A4 p.c4 x.l4 q.A4 q.c4 x.l4 true _ ?s0 HP.out.h4 ?s1 HQ.out.h4 K4.out ⟨rfl⟩).mono ?_); (case s0 => exact (HP.out.below (below_step HB.out (by repeat (first | (with_reducible first | exact Below.refl _ _ | apply below_alloc | apply pw_below_drewN | apply below_drew1) | exact Below.refl _ _)))).r4); (case s1 => exact (HQ.out.below (below_step HB.out (by repeat (first | (with_reducible first | exact Below.refl _ _ | apply below_alloc | apply pw_below_drewN | apply below_drew1) | exact Below.refl _ _)))).r4); rintro e w4 ⟨rfl, hb⟩
  have hs := below_step (w := w1) (by repeat (first | (with_reducible first | exact Below.refl _ _ | apply below_alloc | apply pw_below_drewN | apply below_drew1) | exact Below.refl _ _)) hb
  have HB2 := Aside0.mk (below_step HB.out hs)
  have BP2 := Aside0.mk (blk_below BP.out hs)
  have BQ2 := Aside0.mk (blk_below BQ.out hs)
  clear HB BP BQ hb hs hp0 hp1 hp2 hp3 hp4 hp5 hp6 hp7 hp8 hp9 hp10 hp11 hp12 hq0 hq1 hq2 hq3 hq4 hq5 hq6 hq7 hq8 hq9 hq10 hq11 hq12
  have HB := HB2
  have BP := BP2
  have BQ := BQ2
  clear HB2 BP2 BQ2
  obtain ⟨hp0, hp1, hp2, hp3, hp4, hp5, hp6, hp7, hp8, hp9, hp10, hp11, hp12⟩ := IW.at_ BP.out
  obtain ⟨hq0, hq1, hq2, hq3, hq4, hq5, hq6, hq7, hq8, hq9, hq10, hq11, hq12⟩ := IW.at_ BQ.out
  go_wp2_with fail
  go_at_call 25; (with_reducible refine (laws_eqIntS.calls k5 p.A5 p.c5 x.l5 q.A5 q.c5 x.l5 true _ ?s0 HP.out.h5 ?s1 HQ.out.h5 K5.out ⟨rfl⟩).mono ?_); (case s0 => exact (HP.out.below (below_step HB.out (by repeat (first | (with_reducible first | exact Below.refl _ _ | apply below_alloc | apply pw_below_drewN | apply below_drew1) | exact Below.refl _ _)))).r5); (case s1 => exact (HQ.out.below (below_step HB.out (by repeat (first | (with_reducible first | exact Below.refl _ _ | apply below_alloc | apply pw_below_drewN | apply below_drew1) | exact Below.refl _ _)))).r5); rintro e w' ⟨rfl, ⟨nd, rfl⟩⟩
  clear hp0 hp1 hp2 hp3 hp4 hp5 hp6 hp7 hp8 hp9 hp10 hp11 hp12 hq0 hq1 hq2 hq3 hq4 hq5 hq6 hq7 hq8 hq9 hq10 hq11 hq12
  obtain ⟨hp0, hp1, hp2, hp3, hp4, hp5, hp6, hp7, hp8, hp9, hp10, hp11, hp12⟩ := IW.at_ BP.out
  obtain ⟨hq0, hq1, hq2, hq3, hq4, hq5, hq6, hq7, hq8, hq9, hq10, hq11, hq12⟩ := IW.at_ BQ.out
  go_wp2_with fail
  go_at_call 25; (with_reducible refine (laws_eqIntS.calls k6 p.A6 p.c6 x.l6 q.A6 q.c6 x.l6 true _ ?s0 HP.out.h6 ?s1 HQ.out.h6 K6.out ⟨rfl⟩).mono ?_); (case s0 => exact (HP.out.below (below_step HB.out (by repeat (first | (with_reducible first | exact Below.refl _ _ | apply below_alloc | apply pw_below_drewN | apply below_drew1) | exact Below.refl _ _)))).r6); (case s1 => exact (HQ.out.below (below_step HB.out (by repeat (first | (with_reducible first | exact Below.refl _ _ | apply below_alloc | apply pw_below_drewN | apply below_drew1) | exact Below.refl _ _)))).r6); rintro e w' ⟨rfl, ⟨nd, rfl⟩⟩
  clear hp0 hp1 hp2 hp3 hp4 hp5 hp6 hp7 hp8 hp9 hp10 hp11 hp12 hq0 hq1 hq2 hq3 hq4 hq5 hq6 hq7 hq8 hq9 hq10 hq11 hq12
  obtain ⟨hp0, hp1, hp2, hp3, hp4, hp5, hp6, hp7, hp8, hp9, hp10, hp11, hp12⟩ := IW.at_ BP.out
  obtain ⟨hq0, hq1, hq2, hq3, hq4, hq5, hq6, hq7, hq8, hq9, hq10, hq11, hq12⟩ := IW.at_ BQ.out
  go_wp2_with fail
  go_at_call 83; (with_reducible refine (laws_eqBucket.calls x.d7 x.d8 x.d9 x.d10 x.d7 x.d8 x.d9 x.d10 true _ (eqBucket_eq _ _ _ _) ⟨rfl⟩).mono ?_); rintro e w7 ⟨rfl, hb⟩
  have hs := below_step (w := w4) (by repeat (first | (with_reducible first | exact Below.refl _ _ | apply below_alloc | apply pw_below_drewN | apply below_drew1) | exact Below.refl _ _)) hb
  have HB2 := Aside0.mk (below_step HB.out hs)
  have BP2 := Aside0.mk (blk_below BP.out hs)
  have BQ2 := Aside0.mk (blk_below BQ.out hs)
  clear HB BP BQ hb hs hp0 hp1 hp2 hp3 hp4 hp5 hp6 hp7 hp8 hp9 hp10 hp11 hp12 hq0 hq1 hq2 hq3 hq4 hq5 hq6 hq7 hq8 hq9 hq10 hq11 hq12
  have HB := HB2
  have BP := BP2
  have BQ := BQ2
  clear HB2 BP2 BQ2
  obtain ⟨hp0, hp1, hp2, hp3, hp4, hp5, hp6, hp7, hp8, hp9, hp10, hp11, hp12⟩ := IW.at_ BP.out
  obtain ⟨hq0, hq1, hq2, hq3, hq4, hq5, hq6, hq7, hq8, hq9, hq10, hq11, hq12⟩ := IW.at_ BQ.out
  go_wp2_with fail
  go_at_call 84; (with_reducible refine (laws_eqSeenS.calls k11 p.A11 p.c11 x.l11 q.A11 q.c11 x.l11 true _ ?s0 HP.out.h11 ?s1 HQ.out.h11 K11.out ⟨rfl⟩).mono ?_); (case s0 => exact (HP.out.below (below_step HB.out (by repeat (first | (with_reducible first | exact Below.refl _ _ | apply below_alloc | apply pw_below_drewN | apply below_drew1) | exact Below.refl _ _)))).r11); (case s1 => exact (HQ.out.below (below_step HB.out (by repeat (first | (with_reducible first | exact Below.refl _ _ | apply below_alloc | apply pw_below_drewN | apply below_drew1) | exact Below.refl _ _)))).r11); rintro e w8 ⟨rfl, hb⟩
  have hs := below_step (w := w7) (by repeat (first | (with_reducible first | exact Below.refl _ _ | apply below_alloc | apply pw_below_drewN | apply below_drew1) | exact Below.refl _ _)) hb
  have HB2 := Aside0.mk (below_step HB.out hs)
  have BP2 := Aside0.mk (blk_below BP.out hs)
  have BQ2 := Aside0.mk (blk_below BQ.out hs)
  clear HB BP BQ hb hs hp0 hp1 hp2 hp3 hp4 hp5 hp6 hp7 hp8 hp9 hp10 hp11 hp12 hq0 hq1 hq2 hq3 hq4 hq5 hq6 hq7 hq8 hq9 hq10 hq11 hq12
  have HB := HB2
  have BP := BP2
  have BQ := BQ2
  clear HB2 BP2 BQ2
  obtain ⟨hp0, hp1, hp2, hp3, hp4, hp5, hp6, hp7, hp8, hp9, hp10, hp11, hp12⟩ := IW.at_ BP.out
  obtain ⟨hq0, hq1, hq2, hq3, hq4, hq5, hq6, hq7, hq8, hq9, hq10, hq11, hq12⟩ := IW.at_ BQ.out
  go_wp2
  go_ret
  exact ⟨rfl, below_step HB.out (by repeat (first | (with_reducible first | exact Below.refl _ _ | apply below_alloc | apply pw_below_drewN | apply below_drew1) | exact Below.refl _ _))⟩
/-! ### cgen -/
theorem calls_gen {P : Program} {f : Nat} {args : Array Value} {w : World} {Q : Ending → World → Prop} (R : World → Prop) (hR : R w) (h : ∀ w', R w' → Calls P f args w' Q) : Calls P f args w Q := h w hR
/-! ### wto -/
theorem R_iv {α : Type} {d : Kd α} {e : Nat} {W w2 : World} {b : Nat} {ok : Nat → Prop} {v : Value} {xs : List α} (hb : b ≤ W.heap.size) (ho : Kd.R d e w2 W.heap.size ok v xs) : Kd.R d e w2 b (fun k => W.heap.size ≤ k ∧ k < w2.heap.size) v xs := Kd.R_lower (Kd.R_mono (Kd.R_bound ho) (fun k hk => ⟨hk.2.1, hk.2.2.1⟩)) hb
theorem S_iv {α : Type} {d : Kd α} {e : Nat} {W w2 : World} {b : Nat} {ok : Nat → Prop} {v : Value} {xs : List α} (hb : b ≤ W.heap.size) (ho : Kd.S d e w2 W.heap.size ok v xs) : Kd.S d e w2 b (fun k => W.heap.size ≤ k ∧ k < w2.heap.size) v xs := Kd.S_lower (Kd.S_mono (Kd.S_bound ho) (fun k hk => ⟨hk.2.1, hk.2.2.1⟩)) hb
set_option maxHeartbeats 8000000 in
set_option maxRecDepth 100000 in
theorem toWorld_c (y : LW) (q : LP) (w : World) (hq : y.Rd q w) (ho : y.Ok) :
    Calls Try.prog 17 #[.agg (y.cells q)] w fun e w' => ∃ p : IP, e = .returned (.agg ((cvW y).cells p)) ∧ (cvW y).Md p w' w.heap.size (fun k => w.heap.size ≤ k ∧ k < w'.heap.size) ∧ Below w.heap.size w w' := by
  have hu := Try.underlying41
  have hu2 := Try.underlying36
  have hu3 := Try.underlying38
  have hv := Try.underlying31
  have hv2 := Try.underlying24
  have hv3 := Try.underlying28
  obtain ⟨k1, hk⟩ := (show Ev (fun k => laws_toNet.f k y.d0 y.l1) (y.d0, y.l1.map cvLink) from by unfold laws_toNet.f; exact Ev.bind (toLinkS_ev y.l1 ho.1) (Ev.now _)).rounds
  obtain ⟨x1, hx1⟩ : ∃ x_, x_ = y.l1.map cvLink := ⟨_, rfl⟩
  rw [← hx1] at hk
  have HX1 := Aside0.mk hx1
  clear hx1
  have K1 := Aside0.mk hk
  clear hk
  obtain ⟨k2, hk⟩ := (toIntS_ev y.l2 ho.2.1).rounds
  have K2 := Aside0.mk hk
  clear hk
  obtain ⟨k3, hk⟩ := (toIntS_ev y.l3 ho.2.2.1).rounds
  have K3 := Aside0.mk hk
  clear hk
  obtain ⟨k4, hk⟩ := (toProbeS_ev y.l4 ho.2.2.2.1).rounds
  obtain ⟨x4, hx4⟩ : ∃ x_, x_ = y.l4.map cvProbe := ⟨_, rfl⟩
  rw [← hx4] at hk
  have HX4 := Aside0.mk hx4
  clear hx4
  have K4 := Aside0.mk hk
  clear hk
  obtain ⟨k5, hk⟩ := (toIntS_ev y.l5 ho.2.2.2.2.1).rounds
  have K5 := Aside0.mk hk
  clear hk
  obtain ⟨k6, hk⟩ := (toIntS_ev y.l6 ho.2.2.2.2.2.1).rounds
  have K6 := Aside0.mk hk
  clear hk
  obtain ⟨k11, hk⟩ := (toSeenS_ev y.l11 ho.2.2.2.2.2.2).rounds
  obtain ⟨x11, hx11⟩ : ∃ x_, x_ = y.l11.map cvSeen := ⟨_, rfl⟩
  rw [← hx11] at hk
  have HX11 := Aside0.mk hx11
  clear hx11
  have K11 := Aside0.mk hk
  clear hk
  have HQ := Aside0.mk hq
  clear hq ho
  go_enter Try.func17, Try.ntmps17
  go_wp2_with fail
  refine calls_gen (fun W' => W'.heap[w.heap.size]? = some (.cells (y.cells q) 31 (0, 0)) ∧ W'.heap[w.heap.size + 1]? = some (.cells #[.int .i64 0, .slice none 0 0, .slice none 0 0, .slice none 0 0, .slice none 0 0, .slice none 0 0, .slice none 0 0, .int .i64 0, .int .i64 0, .int .i64 0, .int .i64 0, .slice none 0 0, .int .i64 0] 41 (0, 0)) ∧ W'.heap[w.heap.size + 1 + 1]? = some (.cells #[.int .i64 0, .slice none 0 0, .slice none 0 0, .slice none 0 0, .slice none 0 0, .slice none 0 0, .slice none 0 0, .int .i64 0, .int .i64 0, .int .i64 0, .int .i64 0, .slice none 0 0, .int .i64 0] 41 (0, 0)) ∧ Below w.heap.size w W') ⟨?i0, ?i1, ?i2, (by repeat (first | (with_reducible first | exact Below.refl _ _ | apply below_alloc | apply pw_below_drewN | apply below_drew1) | exact Below.refl _ _))⟩ ?_
  case i0 => (repeat (refine blk_drewN ?_ _)); exact blk_alloc (blk_alloc (blk_new w _) _) _
  case i1 => (repeat (refine blk_drewN ?_ _)); have h_ := blk_alloc (blk_new (w.alloc (.cells (y.cells q) 31)) (.cells #[.int .i64 0, .slice none 0 0, .slice none 0 0, .slice none 0 0, .slice none 0 0, .slice none 0 0, .slice none 0 0, .int .i64 0, .int .i64 0, .int .i64 0, .int .i64 0, .slice none 0 0, .int .i64 0] 41)) (.cells #[.int .i64 0, .slice none 0 0, .slice none 0 0, .slice none 0 0, .slice none 0 0, .slice none 0 0, .slice none 0 0, .int .i64 0, .int .i64 0, .int .i64 0, .int .i64 0, .slice none 0 0, .int .i64 0] 41); simpa using h_
  case i2 => (repeat (refine blk_drewN ?_ _)); have h_ := blk_new ((w.alloc (.cells (y.cells q) 31)).alloc (.cells #[.int .i64 0, .slice none 0 0, .slice none 0 0, .slice none 0 0, .slice none 0 0, .slice none 0 0, .slice none 0 0, .int .i64 0, .int .i64 0, .int .i64 0, .int .i64 0, .slice none 0 0, .int .i64 0] 41)) (.cells #[.int .i64 0, .slice none 0 0, .slice none 0 0, .slice none 0 0, .slice none 0 0, .slice none 0 0, .slice none 0 0, .int .i64 0, .int .i64 0, .int .i64 0, .int .i64 0, .slice none 0 0, .int .i64 0] 41); simpa using h_
  rintro W0 ⟨hby, hbr, hbo, hbw⟩
  go_at_call 72; (with_reducible refine (laws_toNet.calls k1 y.d0 q.A1 q.c1 y.l1 y.d0 x1 _ ?s0 HQ.out.h1 K1.out).mono ?_); (case s0 => exact (HQ.out.below hbw).r1); rintro e w1 ⟨v, rfl, ho, hb⟩
  have NN1 := Aside0.mk (R_iv (b := w.heap.size) hbw.size ho)
  obtain ⟨A1, c1, rfl⟩ := Kd.R_slice ho
  have HS := Aside0.mk (And.intro (show w.heap.size + 2 < W0.heap.size from blk_lt hbo) (show W0.heap.size ≤ w1.heap.size from hb.size))
  have HB2 := Aside0.mk (below_step hbw hb)
  have BY2 := Aside0.mk (blk_below hby hb)
  have BR2 := Aside0.mk (blk_below hbr hb)
  have BO2 := Aside0.mk (blk_below hbo hb)
  clear hby hbr hbo hbw hb ho
  have HB := HB2; clear HB2
  have BY := BY2; clear BY2
  have BR := BR2; clear BR2
  have BO := BO2; clear BO2
  have M1 := NN1; clear NN1
  obtain ⟨hy0, hy1, hy2, hy3, hy4, hy5, hy6, hy7, hy8, hy9, hy10, hy11, hy12⟩ := LW.at_ BY.out
  have hf0 := blk_frozen BO.out 0; have hc0 := (blk_cell BO.out 0).trans rfl
  have hf1 := blk_frozen BO.out 1; have hc1 := (blk_cell BO.out 1).trans rfl
  go_wp2_with fail
  refine calls_gen (fun W' => Kept w1 W' (fun k => k = w.heap.size + 1 + 1) ∧ W'.heap[w.heap.size + 1 + 1]? = some (.cells #[.int .i64 y.d0, .slice A1 x1.length c1, .slice none 0 0, .slice none 0 0, .slice none 0 0, .slice none 0 0, .slice none 0 0, .int .i64 0, .int .i64 0, .int .i64 0, .int .i64 0, .slice none 0 0, .int .i64 0] 41 (0, 0)) ∧ Below w.heap.size w W') ⟨?i0, ?i1, ?i2⟩ ?_
  case i0 => repeat (first | exact Kept.refl _ _ | refine Kept.setCell ?_ (by exact Or.inl rfl) _ | apply Kept.drewN | apply Kept.alloc)
  case i1 => exact blk_set (blk_set (BO.out) 0 _) 1 _
  case i2 => repeat (first | exact HB.out | refine below_set ?_ (by omega) | apply below_alloc | apply pw_below_drewN)
  rintro W1 ⟨hk, hbo, hbw⟩
  have hby := blk_kept BY.out hk (by intro h; omega)
  have hbr := blk_kept BR.out hk (by intro h; omega)
  go_at_call 23; (with_reducible refine (laws_toIntS.calls k2 q.A2 q.c2 y.l2 y.l2 _ ?s0 HQ.out.h2 K2.out).mono ?_); (case s0 => exact (HQ.out.below hbw).r2); rintro e w2 ⟨v, rfl, ho, hb⟩
  have N1 := Aside0.mk (Kd.R_below (Kd.R_kept M1.out hk (fun k h h' => by have := HS.out; omega)) hb)
  have NN2 := Aside0.mk (R_iv (b := w.heap.size) hbw.size ho)
  obtain ⟨A2, c2, rfl⟩ := Kd.R_slice ho
  replace HS := Aside0.mk (And.intro HS.out (And.intro (show w1.heap.size ≤ W1.heap.size from hk.1) (show W1.heap.size ≤ w2.heap.size from hb.size)))
  have HB2 := Aside0.mk (below_step hbw hb)
  have BY2 := Aside0.mk (blk_below hby hb)
  have BR2 := Aside0.mk (blk_below hbr hb)
  have BO2 := Aside0.mk (blk_below hbo hb)
  clear HB BY BR BO hy0 hy1 hy2 hy3 hy4 hy5 hy6 hy7 hy8 hy9 hy10 hy11 hy12 hk hf0 hc0 hf1 hc1 M1 hby hbr hbo hbw hb ho
  have HB := HB2; clear HB2
  have BY := BY2; clear BY2
  have BR := BR2; clear BR2
  have BO := BO2; clear BO2
  have M1 := N1; clear N1
  have M2 := NN2; clear NN2
  obtain ⟨hy0, hy1, hy2, hy3, hy4, hy5, hy6, hy7, hy8, hy9, hy10, hy11, hy12⟩ := LW.at_ BY.out
  have hf2 := blk_frozen BO.out 2; have hc2 := (blk_cell BO.out 2).trans rfl
  go_wp2_with fail
  refine calls_gen (fun W' => Kept w2 W' (fun k => k = w.heap.size + 1 + 1) ∧ W'.heap[w.heap.size + 1 + 1]? = some (.cells #[.int .i64 y.d0, .slice A1 x1.length c1, .slice A2 y.l2.length c2, .slice none 0 0, .slice none 0 0, .slice none 0 0, .slice none 0 0, .int .i64 0, .int .i64 0, .int .i64 0, .int .i64 0, .slice none 0 0, .int .i64 0] 41 (0, 0)) ∧ Below w.heap.size w W') ⟨?i0, ?i1, ?i2⟩ ?_
  case i0 => repeat (first | exact Kept.refl _ _ | refine Kept.setCell ?_ (by exact Or.inl rfl) _ | apply Kept.drewN | apply Kept.alloc)
  case i1 => exact blk_set (BO.out) 2 _
  case i2 => repeat (first | exact HB.out | refine below_set ?_ (by omega) | apply below_alloc | apply pw_below_drewN)
  rintro W2 ⟨hk, hbo, hbw⟩
  have hby := blk_kept BY.out hk (by intro h; omega)
  have hbr := blk_kept BR.out hk (by intro h; omega)
  go_at_call 23; (with_reducible refine (laws_toIntS.calls k3 q.A3 q.c3 y.l3 y.l3 _ ?s0 HQ.out.h3 K3.out).mono ?_); (case s0 => exact (HQ.out.below hbw).r3); rintro e w3 ⟨v, rfl, ho, hb⟩
  have N1 := Aside0.mk (Kd.R_below (Kd.R_kept M1.out hk (fun k h h' => by have := HS.out; omega)) hb)
  have N2 := Aside0.mk (Kd.R_below (Kd.R_kept M2.out hk (fun k h h' => by have := HS.out; omega)) hb)
  have NN3 := Aside0.mk (R_iv (b := w.heap.size) hbw.size ho)
  obtain ⟨A3, c3, rfl⟩ := Kd.R_slice ho
  replace HS := Aside0.mk (And.intro HS.out (And.intro (show w2.heap.size ≤ W2.heap.size from hk.1) (show W2.heap.size ≤ w3.heap.size from hb.size)))
  have HB2 := Aside0.mk (below_step hbw hb)
  have BY2 := Aside0.mk (blk_below hby hb)
  have BR2 := Aside0.mk (blk_below hbr hb)
  have BO2 := Aside0.mk (blk_below hbo hb)
  clear HB BY BR BO hy0 hy1 hy2 hy3 hy4 hy5 hy6 hy7 hy8 hy9 hy10 hy11 hy12 hk hf2 hc2 M1 M2 hby hbr hbo hbw hb ho
  have HB := HB2; clear HB2
  have BY := BY2; clear BY2
  have BR := BR2; clear BR2
  have BO := BO2; clear BO2
  have M1 := N1; clear N1
  have M2 := N2; clear N2
  have M3 := NN3; clear NN3
  obtain ⟨hy0, hy1, hy2, hy3, hy4, hy5, hy6, hy7, hy8, hy9, hy10, hy11, hy12⟩ := LW.at_ BY.out
  have hf3 := blk_frozen BO.out 3; have hc3 := (blk_cell BO.out 3).trans rfl
  go_wp2_with fail
  refine calls_gen (fun W' => Kept w3 W' (fun k => k = w.heap.size + 1 + 1) ∧ W'.heap[w.heap.size + 1 + 1]? = some (.cells #[.int .i64 y.d0, .slice A1 x1.length c1, .slice A2 y.l2.length c2, .slice A3 y.l3.length c3, .slice none 0 0, .slice none 0 0, .slice none 0 0, .int .i64 0, .int .i64 0, .int .i64 0, .int .i64 0, .slice none 0 0, .int .i64 0] 41 (0, 0)) ∧ Below w.heap.size w W') ⟨?i0, ?i1, ?i2⟩ ?_
  case i0 => repeat (first | exact Kept.refl _ _ | refine Kept.setCell ?_ (by exact Or.inl rfl) _ | apply Kept.drewN | apply Kept.alloc)
  case i1 => exact blk_set (BO.out) 3 _
  case i2 => repeat (first | exact HB.out | refine below_set ?_ (by omega) | apply below_alloc | apply pw_below_drewN)
  rintro W3 ⟨hk, hbo, hbw⟩
  have hby := blk_kept BY.out hk (by intro h; omega)
  have hbr := blk_kept BR.out hk (by intro h; omega)
  go_at_call 73; (with_reducible refine (laws_toProbeS.calls k4 q.A4 q.c4 y.l4 (x4) _ ?s0 HQ.out.h4 K4.out).mono ?_); (case s0 => exact (HQ.out.below hbw).r4); rintro e w4 ⟨v, rfl, ho, hb⟩
  have N1 := Aside0.mk (Kd.R_below (Kd.R_kept M1.out hk (fun k h h' => by have := HS.out; omega)) hb)
  have N2 := Aside0.mk (Kd.R_below (Kd.R_kept M2.out hk (fun k h h' => by have := HS.out; omega)) hb)
  have N3 := Aside0.mk (Kd.R_below (Kd.R_kept M3.out hk (fun k h h' => by have := HS.out; omega)) hb)
  have NN4 := Aside0.mk (S_iv (b := w.heap.size) hbw.size ho)
  obtain ⟨A4, c4, rfl⟩ := Kd.S_slice ho
  replace HS := Aside0.mk (And.intro HS.out (And.intro (show w3.heap.size ≤ W3.heap.size from hk.1) (show W3.heap.size ≤ w4.heap.size from hb.size)))
  have HB2 := Aside0.mk (below_step hbw hb)
  have BY2 := Aside0.mk (blk_below hby hb)
  have BR2 := Aside0.mk (blk_below hbr hb)
  have BO2 := Aside0.mk (blk_below hbo hb)
  clear HB BY BR BO hy0 hy1 hy2 hy3 hy4 hy5 hy6 hy7 hy8 hy9 hy10 hy11 hy12 hk hf3 hc3 M1 M2 M3 hby hbr hbo hbw hb ho
  have HB := HB2; clear HB2
  have BY := BY2; clear BY2
  have BR := BR2; clear BR2
  have BO := BO2; clear BO2
  have M1 := N1; clear N1
  have M2 := N2; clear N2
  have M3 := N3; clear N3
  have M4 := NN4; clear NN4
  obtain ⟨hy0, hy1, hy2, hy3, hy4, hy5, hy6, hy7, hy8, hy9, hy10, hy11, hy12⟩ := LW.at_ BY.out
  have hf4 := blk_frozen BO.out 4; have hc4 := (blk_cell BO.out 4).trans rfl
  go_wp2_with fail
  refine calls_gen (fun W' => Kept w4 W' (fun k => k = w.heap.size + 1 + 1) ∧ W'.heap[w.heap.size + 1 + 1]? = some (.cells #[.int .i64 y.d0, .slice A1 x1.length c1, .slice A2 y.l2.length c2, .slice A3 y.l3.length c3, .slice A4 x4.length c4, .slice none 0 0, .slice none 0 0, .int .i64 0, .int .i64 0, .int .i64 0, .int .i64 0, .slice none 0 0, .int .i64 0] 41 (0, 0)) ∧ Below w.heap.size w W') ⟨?i0, ?i1, ?i2⟩ ?_
  case i0 => repeat (first | exact Kept.refl _ _ | refine Kept.setCell ?_ (by exact Or.inl rfl) _ | apply Kept.drewN | apply Kept.alloc)
  case i1 => exact blk_set (BO.out) 4 _
  case i2 => repeat (first | exact HB.out | refine below_set ?_ (by omega) | apply below_alloc | apply pw_below_drewN)
  rintro W4 ⟨hk, hbo, hbw⟩
  have hby := blk_kept BY.out hk (by intro h; omega)
  have hbr := blk_kept BR.out hk (by intro h; omega)
  go_at_call 23; (with_reducible refine (laws_toIntS.calls k5 q.A5 q.c5 y.l5 y.l5 _ ?s0 HQ.out.h5 K5.out).mono ?_); (case s0 => exact (HQ.out.below hbw).r5); rintro e w5 ⟨v, rfl, ho, hb⟩
  have N1 := Aside0.mk (Kd.R_below (Kd.R_kept M1.out hk (fun k h h' => by have := HS.out; omega)) hb)
  have N2 := Aside0.mk (Kd.R_below (Kd.R_kept M2.out hk (fun k h h' => by have := HS.out; omega)) hb)
  have N3 := Aside0.mk (Kd.R_below (Kd.R_kept M3.out hk (fun k h h' => by have := HS.out; omega)) hb)
  have N4 := Aside0.mk (Kd.S_below (Kd.S_kept M4.out hk (fun k h h' => by have := HS.out; omega)) hb)
  have NN5 := Aside0.mk (R_iv (b := w.heap.size) hbw.size ho)
  obtain ⟨A5, c5, rfl⟩ := Kd.R_slice ho
  replace HS := Aside0.mk (And.intro HS.out (And.intro (show w4.heap.size ≤ W4.heap.size from hk.1) (show W4.heap.size ≤ w5.heap.size from hb.size)))
  have HB2 := Aside0.mk (below_step hbw hb)
  have BY2 := Aside0.mk (blk_below hby hb)
  have BR2 := Aside0.mk (blk_below hbr hb)
  have BO2 := Aside0.mk (blk_below hbo hb)
  clear HB BY BR BO hy0 hy1 hy2 hy3 hy4 hy5 hy6 hy7 hy8 hy9 hy10 hy11 hy12 hk hf4 hc4 M1 M2 M3 M4 hby hbr hbo hbw hb ho
  have HB := HB2; clear HB2
  have BY := BY2; clear BY2
  have BR := BR2; clear BR2
  have BO := BO2; clear BO2
  have M1 := N1; clear N1
  have M2 := N2; clear N2
  have M3 := N3; clear N3
  have M4 := N4; clear N4
  have M5 := NN5; clear NN5
  obtain ⟨hy0, hy1, hy2, hy3, hy4, hy5, hy6, hy7, hy8, hy9, hy10, hy11, hy12⟩ := LW.at_ BY.out
  have hf5 := blk_frozen BO.out 5; have hc5 := (blk_cell BO.out 5).trans rfl
  go_wp2_with fail
  refine calls_gen (fun W' => Kept w5 W' (fun k => k = w.heap.size + 1 + 1) ∧ W'.heap[w.heap.size + 1 + 1]? = some (.cells #[.int .i64 y.d0, .slice A1 x1.length c1, .slice A2 y.l2.length c2, .slice A3 y.l3.length c3, .slice A4 x4.length c4, .slice A5 y.l5.length c5, .slice none 0 0, .int .i64 0, .int .i64 0, .int .i64 0, .int .i64 0, .slice none 0 0, .int .i64 0] 41 (0, 0)) ∧ Below w.heap.size w W') ⟨?i0, ?i1, ?i2⟩ ?_
  case i0 => repeat (first | exact Kept.refl _ _ | refine Kept.setCell ?_ (by exact Or.inl rfl) _ | apply Kept.drewN | apply Kept.alloc)
  case i1 => exact blk_set (BO.out) 5 _
  case i2 => repeat (first | exact HB.out | refine below_set ?_ (by omega) | apply below_alloc | apply pw_below_drewN)
  rintro W5 ⟨hk, hbo, hbw⟩
  have hby := blk_kept BY.out hk (by intro h; omega)
  have hbr := blk_kept BR.out hk (by intro h; omega)
  go_at_call 23; (with_reducible refine (laws_toIntS.calls k6 q.A6 q.c6 y.l6 y.l6 _ ?s0 HQ.out.h6 K6.out).mono ?_); (case s0 => exact (HQ.out.below hbw).r6); rintro e w6 ⟨v, rfl, ho, hb⟩
  have N1 := Aside0.mk (Kd.R_below (Kd.R_kept M1.out hk (fun k h h' => by have := HS.out; omega)) hb)
  have N2 := Aside0.mk (Kd.R_below (Kd.R_kept M2.out hk (fun k h h' => by have := HS.out; omega)) hb)
  have N3 := Aside0.mk (Kd.R_below (Kd.R_kept M3.out hk (fun k h h' => by have := HS.out; omega)) hb)
  have N4 := Aside0.mk (Kd.S_below (Kd.S_kept M4.out hk (fun k h h' => by have := HS.out; omega)) hb)
  have N5 := Aside0.mk (Kd.R_below (Kd.R_kept M5.out hk (fun k h h' => by have := HS.out; omega)) hb)
  have NN6 := Aside0.mk (R_iv (b := w.heap.size) hbw.size ho)
  obtain ⟨A6, c6, rfl⟩ := Kd.R_slice ho
  replace HS := Aside0.mk (And.intro HS.out (And.intro (show w5.heap.size ≤ W5.heap.size from hk.1) (show W5.heap.size ≤ w6.heap.size from hb.size)))
  have HB2 := Aside0.mk (below_step hbw hb)
  have BY2 := Aside0.mk (blk_below hby hb)
  have BR2 := Aside0.mk (blk_below hbr hb)
  have BO2 := Aside0.mk (blk_below hbo hb)
  clear HB BY BR BO hy0 hy1 hy2 hy3 hy4 hy5 hy6 hy7 hy8 hy9 hy10 hy11 hy12 hk hf5 hc5 M1 M2 M3 M4 M5 hby hbr hbo hbw hb ho
  have HB := HB2; clear HB2
  have BY := BY2; clear BY2
  have BR := BR2; clear BR2
  have BO := BO2; clear BO2
  have M1 := N1; clear N1
  have M2 := N2; clear N2
  have M3 := N3; clear N3
  have M4 := N4; clear N4
  have M5 := N5; clear N5
  have M6 := NN6; clear NN6
  obtain ⟨hy0, hy1, hy2, hy3, hy4, hy5, hy6, hy7, hy8, hy9, hy10, hy11, hy12⟩ := LW.at_ BY.out
  have hf6 := blk_frozen BO.out 6; have hc6 := (blk_cell BO.out 6).trans rfl
  go_wp2_with fail
  refine calls_gen (fun W' => Kept w6 W' (fun k => k = w.heap.size + 1 + 1) ∧ W'.heap[w.heap.size + 1 + 1]? = some (.cells #[.int .i64 y.d0, .slice A1 x1.length c1, .slice A2 y.l2.length c2, .slice A3 y.l3.length c3, .slice A4 x4.length c4, .slice A5 y.l5.length c5, .slice A6 y.l6.length c6, .int .i64 0, .int .i64 0, .int .i64 0, .int .i64 0, .slice none 0 0, .int .i64 0] 41 (0, 0)) ∧ Below w.heap.size w W') ⟨?i0, ?i1, ?i2⟩ ?_
  case i0 => repeat (first | exact Kept.refl _ _ | refine Kept.setCell ?_ (by exact Or.inl rfl) _ | apply Kept.drewN | apply Kept.alloc)
  case i1 => exact blk_set (BO.out) 6 _
  case i2 => repeat (first | exact HB.out | refine below_set ?_ (by omega) | apply below_alloc | apply pw_below_drewN)
  rintro W6 ⟨hk, hbo, hbw⟩
  have hby := blk_kept BY.out hk (by intro h; omega)
  have hbr := blk_kept BR.out hk (by intro h; omega)
  go_at_call 74; (with_reducible refine (laws_toBucket.calls y.d7 y.d8 y.d9 y.d10 y.d7 y.d8 y.d9 y.d10 _ rfl).mono ?_); rintro e w7 ⟨rfl, hb⟩
  have N1 := Aside0.mk (Kd.R_below (Kd.R_kept M1.out hk (fun k h h' => by have := HS.out; omega)) hb)
  have N2 := Aside0.mk (Kd.R_below (Kd.R_kept M2.out hk (fun k h h' => by have := HS.out; omega)) hb)
  have N3 := Aside0.mk (Kd.R_below (Kd.R_kept M3.out hk (fun k h h' => by have := HS.out; omega)) hb)
  have N4 := Aside0.mk (Kd.S_below (Kd.S_kept M4.out hk (fun k h h' => by have := HS.out; omega)) hb)
  have N5 := Aside0.mk (Kd.R_below (Kd.R_kept M5.out hk (fun k h h' => by have := HS.out; omega)) hb)
  have N6 := Aside0.mk (Kd.R_below (Kd.R_kept M6.out hk (fun k h h' => by have := HS.out; omega)) hb)
  replace HS := Aside0.mk (And.intro HS.out (And.intro (show w6.heap.size ≤ W6.heap.size from hk.1) (show W6.heap.size ≤ w7.heap.size from hb.size)))
  have HB2 := Aside0.mk (below_step hbw hb)
  have BY2 := Aside0.mk (blk_below hby hb)
  have BR2 := Aside0.mk (blk_below hbr hb)
  have BO2 := Aside0.mk (blk_below hbo hb)
  clear HB BY BR BO hy0 hy1 hy2 hy3 hy4 hy5 hy6 hy7 hy8 hy9 hy10 hy11 hy12 hk hf6 hc6 M1 M2 M3 M4 M5 M6 hby hbr hbo hbw hb
  have HB := HB2; clear HB2
  have BY := BY2; clear BY2
  have BR := BR2; clear BR2
  have BO := BO2; clear BO2
  have M1 := N1; clear N1
  have M2 := N2; clear N2
  have M3 := N3; clear N3
  have M4 := N4; clear N4
  have M5 := N5; clear N5
  have M6 := N6; clear N6
  obtain ⟨hy0, hy1, hy2, hy3, hy4, hy5, hy6, hy7, hy8, hy9, hy10, hy11, hy12⟩ := LW.at_ BY.out
  have hf7 := blk_frozen BO.out 7; have hc7 := (blk_cell BO.out 7).trans rfl
  have hf8 := blk_frozen BO.out 8; have hc8 := (blk_cell BO.out 8).trans rfl
  have hf9 := blk_frozen BO.out 9; have hc9 := (blk_cell BO.out 9).trans rfl
  have hf10 := blk_frozen BO.out 10; have hc10 := (blk_cell BO.out 10).trans rfl
  go_wp2_with fail
  refine calls_gen (fun W' => Kept w7 W' (fun k => k = w.heap.size + 1 + 1) ∧ W'.heap[w.heap.size + 1 + 1]? = some (.cells #[.int .i64 y.d0, .slice A1 x1.length c1, .slice A2 y.l2.length c2, .slice A3 y.l3.length c3, .slice A4 x4.length c4, .slice A5 y.l5.length c5, .slice A6 y.l6.length c6, .int .i64 y.d7, .int .i64 y.d8, .int .i64 y.d9, .int .i64 y.d10, .slice none 0 0, .int .i64 0] 41 (0, 0)) ∧ Below w.heap.size w W') ⟨?i0, ?i1, ?i2⟩ ?_
  case i0 => repeat (first | exact Kept.refl _ _ | refine Kept.setCell ?_ (by exact Or.inl rfl) _ | apply Kept.drewN | apply Kept.alloc)
  case i1 => exact blk_set (blk_set (blk_set (blk_set (BO.out) 7 _) 8 _) 9 _) 10 _
  case i2 => repeat (first | exact HB.out | refine below_set ?_ (by omega) | apply below_alloc | apply pw_below_drewN)
  rintro W7 ⟨hk, hbo, hbw⟩
  have hby := blk_kept BY.out hk (by intro h; omega)
  have hbr := blk_kept BR.out hk (by intro h; omega)
  go_at_call 75; (with_reducible refine (laws_toSeenS.calls k11 q.A11 q.c11 y.l11 (x11) _ ?s0 HQ.out.h11 K11.out).mono ?_); (case s0 => exact (HQ.out.below hbw).r11); rintro e w8 ⟨v, rfl, ho, hb⟩
  have N1 := Aside0.mk (Kd.R_below (Kd.R_kept M1.out hk (fun k h h' => by have := HS.out; omega)) hb)
  have N2 := Aside0.mk (Kd.R_below (Kd.R_kept M2.out hk (fun k h h' => by have := HS.out; omega)) hb)
  have N3 := Aside0.mk (Kd.R_below (Kd.R_kept M3.out hk (fun k h h' => by have := HS.out; omega)) hb)
  have N4 := Aside0.mk (Kd.S_below (Kd.S_kept M4.out hk (fun k h h' => by have := HS.out; omega)) hb)
  have N5 := Aside0.mk (Kd.R_below (Kd.R_kept M5.out hk (fun k h h' => by have := HS.out; omega)) hb)
  have N6 := Aside0.mk (Kd.R_below (Kd.R_kept M6.out hk (fun k h h' => by have := HS.out; omega)) hb)
  have NN11 := Aside0.mk (R_iv (b := w.heap.size) hbw.size ho)
  obtain ⟨A11, c11, rfl⟩ := Kd.R_slice ho
  replace HS := Aside0.mk (And.intro HS.out (And.intro (show w7.heap.size ≤ W7.heap.size from hk.1) (show W7.heap.size ≤ w8.heap.size from hb.size)))
  have HB2 := Aside0.mk (below_step hbw hb)
  have BY2 := Aside0.mk (blk_below hby hb)
  have BR2 := Aside0.mk (blk_below hbr hb)
  have BO2 := Aside0.mk (blk_below hbo hb)
  clear HB BY BR BO hy0 hy1 hy2 hy3 hy4 hy5 hy6 hy7 hy8 hy9 hy10 hy11 hy12 hk hf7 hc7 hf8 hc8 hf9 hc9 hf10 hc10 M1 M2 M3 M4 M5 M6 hby hbr hbo hbw hb ho
  have HB := HB2; clear HB2
  have BY := BY2; clear BY2
  have BR := BR2; clear BR2
  have BO := BO2; clear BO2
  have M1 := N1; clear N1
  have M2 := N2; clear N2
  have M3 := N3; clear N3
  have M4 := N4; clear N4
  have M5 := N5; clear N5
  have M6 := N6; clear N6
  have M11 := NN11; clear NN11
  obtain ⟨hy0, hy1, hy2, hy3, hy4, hy5, hy6, hy7, hy8, hy9, hy10, hy11, hy12⟩ := LW.at_ BY.out
  have hw0 := HB.out.size
  have hf0 := blk_frozen BO.out 0; have hc0 := (blk_cell BO.out 0).trans rfl; have hg0 := blk_frozen BR.out 0; have hd0 := (blk_cell BR.out 0).trans rfl
  have hf1 := blk_frozen BO.out 1; have hc1 := (blk_cell BO.out 1).trans rfl; have hg1 := blk_frozen BR.out 1; have hd1 := (blk_cell BR.out 1).trans rfl
  have hf2 := blk_frozen BO.out 2; have hc2 := (blk_cell BO.out 2).trans rfl; have hg2 := blk_frozen BR.out 2; have hd2 := (blk_cell BR.out 2).trans rfl
  have hf3 := blk_frozen BO.out 3; have hc3 := (blk_cell BO.out 3).trans rfl; have hg3 := blk_frozen BR.out 3; have hd3 := (blk_cell BR.out 3).trans rfl
  have hf4 := blk_frozen BO.out 4; have hc4 := (blk_cell BO.out 4).trans rfl; have hg4 := blk_frozen BR.out 4; have hd4 := (blk_cell BR.out 4).trans rfl
  have hf5 := blk_frozen BO.out 5; have hc5 := (blk_cell BO.out 5).trans rfl; have hg5 := blk_frozen BR.out 5; have hd5 := (blk_cell BR.out 5).trans rfl
  have hf6 := blk_frozen BO.out 6; have hc6 := (blk_cell BO.out 6).trans rfl; have hg6 := blk_frozen BR.out 6; have hd6 := (blk_cell BR.out 6).trans rfl
  have hf7 := blk_frozen BO.out 7; have hc7 := (blk_cell BO.out 7).trans rfl; have hg7 := blk_frozen BR.out 7; have hd7 := (blk_cell BR.out 7).trans rfl
  have hf8 := blk_frozen BO.out 8; have hc8 := (blk_cell BO.out 8).trans rfl; have hg8 := blk_frozen BR.out 8; have hd8 := (blk_cell BR.out 8).trans rfl
  have hf9 := blk_frozen BO.out 9; have hc9 := (blk_cell BO.out 9).trans rfl; have hg9 := blk_frozen BR.out 9; have hd9 := (blk_cell BR.out 9).trans rfl
  have hf10 := blk_frozen BO.out 10; have hc10 := (blk_cell BO.out 10).trans rfl; have hg10 := blk_frozen BR.out 10; have hd10 := (blk_cell BR.out 10).trans rfl
  have hf11 := blk_frozen BO.out 11; have hc11 := (blk_cell BO.out 11).trans rfl; have hg11 := blk_frozen BR.out 11; have hd11 := (blk_cell BR.out 11).trans rfl
  have hf12 := blk_frozen BO.out 12; have hc12 := (blk_cell BO.out 12).trans rfl; have hg12 := blk_frozen BR.out 12; have hd12 := (blk_cell BR.out 12).trans rfl
  go_wp2
  refine bodyPost_ret (results_cell_row rfl _ _ (w.heap.size + 1) 41 #[.int .i64 y.d0, .slice A1 x1.length c1, .slice A2 y.l2.length c2, .slice A3 y.l3.length c3, .slice A4 x4.length c4, .slice A5 y.l5.length c5, .slice A6 y.l6.length c6, .int .i64 y.d7, .int .i64 y.d8, .int .i64 y.d9, .int .i64 y.d10, .slice A11 x11.length c11, .int .i64 y.d12] (0, 0) _ rfl (blk_put (cs' := #[.int .i64 y.d0, .slice A1 x1.length c1, .slice A2 y.l2.length c2, .slice A3 y.l3.length c3, .slice A4 x4.length c4, .slice A5 y.l5.length c5, .slice A6 y.l6.length c6, .int .i64 y.d7, .int .i64 y.d8, .int .i64 y.d9, .int .i64 y.d10, .slice A11 x11.length c11, .int .i64 y.d12]) (blk_put (cs' := #[.int .i64 y.d0, .slice A1 x1.length c1, .slice A2 y.l2.length c2, .slice A3 y.l3.length c3, .slice A4 x4.length c4, .slice A5 y.l5.length c5, .slice A6 y.l6.length c6, .int .i64 y.d7, .int .i64 y.d8, .int .i64 y.d9, .int .i64 y.d10, .slice A11 x11.length c11, .int .i64 0]) (blk_put (cs' := #[.int .i64 y.d0, .slice A1 x1.length c1, .slice A2 y.l2.length c2, .slice A3 y.l3.length c3, .slice A4 x4.length c4, .slice A5 y.l5.length c5, .slice A6 y.l6.length c6, .int .i64 y.d7, .int .i64 y.d8, .int .i64 y.d9, .int .i64 y.d10, .slice none 0 0, .int .i64 0]) (blk_put (cs' := #[.int .i64 y.d0, .slice A1 x1.length c1, .slice A2 y.l2.length c2, .slice A3 y.l3.length c3, .slice A4 x4.length c4, .slice A5 y.l5.length c5, .slice A6 y.l6.length c6, .int .i64 y.d7, .int .i64 y.d8, .int .i64 y.d9, .int .i64 0, .slice none 0 0, .int .i64 0]) (blk_put (cs' := #[.int .i64 y.d0, .slice A1 x1.length c1, .slice A2 y.l2.length c2, .slice A3 y.l3.length c3, .slice A4 x4.length c4, .slice A5 y.l5.length c5, .slice A6 y.l6.length c6, .int .i64 y.d7, .int .i64 y.d8, .int .i64 0, .int .i64 0, .slice none 0 0, .int .i64 0]) (blk_put (cs' := #[.int .i64 y.d0, .slice A1 x1.length c1, .slice A2 y.l2.length c2, .slice A3 y.l3.length c3, .slice A4 x4.length c4, .slice A5 y.l5.length c5, .slice A6 y.l6.length c6, .int .i64 y.d7, .int .i64 0, .int .i64 0, .int .i64 0, .slice none 0 0, .int .i64 0]) (blk_put (cs' := #[.int .i64 y.d0, .slice A1 x1.length c1, .slice A2 y.l2.length c2, .slice A3 y.l3.length c3, .slice A4 x4.length c4, .slice A5 y.l5.length c5, .slice A6 y.l6.length c6, .int .i64 0, .int .i64 0, .int .i64 0, .int .i64 0, .slice none 0 0, .int .i64 0]) (blk_put (cs' := #[.int .i64 y.d0, .slice A1 x1.length c1, .slice A2 y.l2.length c2, .slice A3 y.l3.length c3, .slice A4 x4.length c4, .slice A5 y.l5.length c5, .slice none 0 0, .int .i64 0, .int .i64 0, .int .i64 0, .int .i64 0, .slice none 0 0, .int .i64 0]) (blk_put (cs' := #[.int .i64 y.d0, .slice A1 x1.length c1, .slice A2 y.l2.length c2, .slice A3 y.l3.length c3, .slice A4 x4.length c4, .slice none 0 0, .slice none 0 0, .int .i64 0, .int .i64 0, .int .i64 0, .int .i64 0, .slice none 0 0, .int .i64 0]) (blk_put (cs' := #[.int .i64 y.d0, .slice A1 x1.length c1, .slice A2 y.l2.length c2, .slice A3 y.l3.length c3, .slice none 0 0, .slice none 0 0, .slice none 0 0, .int .i64 0, .int .i64 0, .int .i64 0, .int .i64 0, .slice none 0 0, .int .i64 0]) (blk_put (cs' := #[.int .i64 y.d0, .slice A1 x1.length c1, .slice A2 y.l2.length c2, .slice none 0 0, .slice none 0 0, .slice none 0 0, .slice none 0 0, .int .i64 0, .int .i64 0, .int .i64 0, .int .i64 0, .slice none 0 0, .int .i64 0]) (blk_put (cs' := #[.int .i64 y.d0, .slice A1 x1.length c1, .slice none 0 0, .slice none 0 0, .slice none 0 0, .slice none 0 0, .slice none 0 0, .int .i64 0, .int .i64 0, .int .i64 0, .int .i64 0, .slice none 0 0, .int .i64 0]) (blk_put (cs' := #[.int .i64 y.d0, .slice none 0 0, .slice none 0 0, .slice none 0 0, .slice none 0 0, .slice none 0 0, .slice none 0 0, .int .i64 0, .int .i64 0, .int .i64 0, .int .i64 0, .slice none 0 0, .int .i64 0]) (blk_far (blk_far BR.out (p := ⟨w.heap.size + 1 + 1, 11, none⟩) (by simp) _) (p := ⟨w.heap.size + 1 + 1, 12, none⟩) (by simp) _) 0 (.int .i64 y.d0) rfl) 1 (.slice A1 x1.length c1) rfl) 2 (.slice A2 y.l2.length c2) rfl) 3 (.slice A3 y.l3.length c3) rfl) 4 (.slice A4 x4.length c4) rfl) 5 (.slice A5 y.l5.length c5) rfl) 6 (.slice A6 y.l6.length c6) rfl) 7 (.int .i64 y.d7) rfl) 8 (.int .i64 y.d8) rfl) 9 (.int .i64 y.d9) rfl) 10 (.int .i64 y.d10) rfl) 11 (.slice A11 x11.length c11) rfl) 12 (.int .i64 y.d12) rfl) Try.underlying41 rfl (by kernel_rfl)) rfl ?_
  have hk : Kept w8 (((((((((((((((w8.setCell ⟨w.heap.size + 1 + 1, 11, none⟩ (.slice A11 x11.length c11)).setCell ⟨w.heap.size + 1 + 1, 12, none⟩ (.int .i64 y.d12)).setCell ⟨w.heap.size + 1, 0, none⟩ (.int .i64 y.d0)).setCell ⟨w.heap.size + 1, 1, none⟩ (.slice A1 x1.length c1)).setCell ⟨w.heap.size + 1, 2, none⟩ (.slice A2 y.l2.length c2)).setCell ⟨w.heap.size + 1, 3, none⟩ (.slice A3 y.l3.length c3)).setCell ⟨w.heap.size + 1, 4, none⟩ (.slice A4 x4.length c4)).setCell ⟨w.heap.size + 1, 5, none⟩ (.slice A5 y.l5.length c5)).setCell ⟨w.heap.size + 1, 6, none⟩ (.slice A6 y.l6.length c6)).setCell ⟨w.heap.size + 1, 7, none⟩ (.int .i64 y.d7)).setCell ⟨w.heap.size + 1, 8, none⟩ (.int .i64 y.d8)).setCell ⟨w.heap.size + 1, 9, none⟩ (.int .i64 y.d9)).setCell ⟨w.heap.size + 1, 10, none⟩ (.int .i64 y.d10)).setCell ⟨w.heap.size + 1, 11, none⟩ (.slice A11 x11.length c11)).setCell ⟨w.heap.size + 1, 12, none⟩ (.int .i64 y.d12)) (fun k => k = w.heap.size + 1 + 1 ∨ k = w.heap.size + 1) := Kept.setCell (Kept.setCell (Kept.setCell (Kept.setCell (Kept.setCell (Kept.setCell (Kept.setCell (Kept.setCell (Kept.setCell (Kept.setCell (Kept.setCell (Kept.setCell (Kept.setCell (Kept.setCell (Kept.setCell (Kept.refl _ _) (p := ⟨w.heap.size + 1 + 1, 11, none⟩) (Or.inl (Or.inl rfl)) (.slice A11 x11.length c11)) (p := ⟨w.heap.size + 1 + 1, 12, none⟩) (Or.inl (Or.inl rfl)) (.int .i64 y.d12)) (p := ⟨w.heap.size + 1, 0, none⟩) (Or.inl (Or.inr rfl)) (.int .i64 y.d0)) (p := ⟨w.heap.size + 1, 1, none⟩) (Or.inl (Or.inr rfl)) (.slice A1 x1.length c1)) (p := ⟨w.heap.size + 1, 2, none⟩) (Or.inl (Or.inr rfl)) (.slice A2 y.l2.length c2)) (p := ⟨w.heap.size + 1, 3, none⟩) (Or.inl (Or.inr rfl)) (.slice A3 y.l3.length c3)) (p := ⟨w.heap.size + 1, 4, none⟩) (Or.inl (Or.inr rfl)) (.slice A4 x4.length c4)) (p := ⟨w.heap.size + 1, 5, none⟩) (Or.inl (Or.inr rfl)) (.slice A5 y.l5.length c5)) (p := ⟨w.heap.size + 1, 6, none⟩) (Or.inl (Or.inr rfl)) (.slice A6 y.l6.length c6)) (p := ⟨w.heap.size + 1, 7, none⟩) (Or.inl (Or.inr rfl)) (.int .i64 y.d7)) (p := ⟨w.heap.size + 1, 8, none⟩) (Or.inl (Or.inr rfl)) (.int .i64 y.d8)) (p := ⟨w.heap.size + 1, 9, none⟩) (Or.inl (Or.inr rfl)) (.int .i64 y.d9)) (p := ⟨w.heap.size + 1, 10, none⟩) (Or.inl (Or.inr rfl)) (.int .i64 y.d10)) (p := ⟨w.heap.size + 1, 11, none⟩) (Or.inl (Or.inr rfl)) (.slice A11 x11.length c11)) (p := ⟨w.heap.size + 1, 12, none⟩) (Or.inl (Or.inr rfl)) (.int .i64 y.d12)
  have Z1 := (Kd.R_kept M1.out hk (fun k h h' => by have := HS.out; omega))
  have Z2 := (Kd.R_kept M2.out hk (fun k h h' => by have := HS.out; omega))
  have Z3 := (Kd.R_kept M3.out hk (fun k h h' => by have := HS.out; omega))
  have Z4 := (Kd.S_kept M4.out hk (fun k h h' => by have := HS.out; omega))
  have Z5 := (Kd.R_kept M5.out hk (fun k h h' => by have := HS.out; omega))
  have Z6 := (Kd.R_kept M6.out hk (fun k h h' => by have := HS.out; omega))
  have Z11 := (Kd.R_kept M11.out hk (fun k h h' => by have := HS.out; omega))
  have hbf : Below w.heap.size w (((((((((((((((w8.setCell ⟨w.heap.size + 1 + 1, 11, none⟩ (.slice A11 x11.length c11)).setCell ⟨w.heap.size + 1 + 1, 12, none⟩ (.int .i64 y.d12)).setCell ⟨w.heap.size + 1, 0, none⟩ (.int .i64 y.d0)).setCell ⟨w.heap.size + 1, 1, none⟩ (.slice A1 x1.length c1)).setCell ⟨w.heap.size + 1, 2, none⟩ (.slice A2 y.l2.length c2)).setCell ⟨w.heap.size + 1, 3, none⟩ (.slice A3 y.l3.length c3)).setCell ⟨w.heap.size + 1, 4, none⟩ (.slice A4 x4.length c4)).setCell ⟨w.heap.size + 1, 5, none⟩ (.slice A5 y.l5.length c5)).setCell ⟨w.heap.size + 1, 6, none⟩ (.slice A6 y.l6.length c6)).setCell ⟨w.heap.size + 1, 7, none⟩ (.int .i64 y.d7)).setCell ⟨w.heap.size + 1, 8, none⟩ (.int .i64 y.d8)).setCell ⟨w.heap.size + 1, 9, none⟩ (.int .i64 y.d9)).setCell ⟨w.heap.size + 1, 10, none⟩ (.int .i64 y.d10)).setCell ⟨w.heap.size + 1, 11, none⟩ (.slice A11 x11.length c11)).setCell ⟨w.heap.size + 1, 12, none⟩ (.int .i64 y.d12)) := below_set (below_set (below_set (below_set (below_set (below_set (below_set (below_set (below_set (below_set (below_set (below_set (below_set (below_set (below_set (HB.out) (by omega)) (by omega)) (by omega)) (by omega)) (by omega)) (by omega)) (by omega)) (by omega)) (by omega)) (by omega)) (by omega)) (by omega)) (by omega)) (by omega)) (by omega)
  have hszf := hk.1
  obtain rfl := HX1.out
  obtain rfl := HX4.out
  obtain rfl := HX11.out
  refine ⟨⟨A1, c1, A2, c2, A3, c3, A4, c4, A5, c5, A6, c6, A11, c11⟩, rfl, ⟨?z1, ?z2, ?z3, ?z4, ?z5, ?z6, ?z11⟩, hbf⟩
  case z1 => exact Kd.R_mono Z1 (fun k h => ⟨by have := HS.out; omega, by have := HS.out; omega⟩)
  case z2 => exact Kd.R_mono Z2 (fun k h => ⟨⟨by have := HS.out; omega, by have := HS.out; omega⟩, fun e_ => by have h2_ := Z3.1 k e_.symm; have := HS.out; omega, fun e_ => by have h2_ := Z5.1 k e_.symm; have := HS.out; omega, fun e_ => by have h2_ := Z6.1 k e_.symm; have := HS.out; omega⟩)
  case z3 => exact Kd.R_mono Z3 (fun k h => ⟨⟨by have := HS.out; omega, by have := HS.out; omega⟩, fun e_ => by have h2_ := Z2.1 k e_.symm; have := HS.out; omega, fun e_ => by have h2_ := Z5.1 k e_.symm; have := HS.out; omega, fun e_ => by have h2_ := Z6.1 k e_.symm; have := HS.out; omega⟩)
  case z4 => exact Kd.S_mono Z4 (fun k h => ⟨⟨by have := HS.out; omega, by have := HS.out; omega⟩, fun e_ => by have h2_ := Z2.1 k e_.symm; have := HS.out; omega, fun e_ => by have h2_ := Z3.1 k e_.symm; have := HS.out; omega, fun e_ => by have h2_ := Z5.1 k e_.symm; have := HS.out; omega, fun e_ => by have h2_ := Z6.1 k e_.symm; have := HS.out; omega⟩)
  case z5 => exact Kd.R_mono Z5 (fun k h => ⟨⟨by have := HS.out; omega, by have := HS.out; omega⟩, fun e_ => by have h2_ := Z2.1 k e_.symm; have := HS.out; omega, fun e_ => by have h2_ := Z3.1 k e_.symm; have := HS.out; omega, fun e_ => by have h2_ := Z6.1 k e_.symm; have := HS.out; omega⟩)
  case z6 => exact Kd.R_mono Z6 (fun k h => ⟨⟨by have := HS.out; omega, by have := HS.out; omega⟩, fun e_ => by have h2_ := Z2.1 k e_.symm; have := HS.out; omega, fun e_ => by have h2_ := Z3.1 k e_.symm; have := HS.out; omega, fun e_ => by have h2_ := Z5.1 k e_.symm; have := HS.out; omega⟩)
  case z11 => exact Kd.R_mono Z11 (fun k h => ⟨by have := HS.out; omega, by have := HS.out; omega⟩)
/-! ### wsz -/
set_option maxHeartbeats 8000000 in
set_option maxRecDepth 100000 in
theorem szWorld_c (y : LW) (q : LP) (w : World) (hq : y.Rd q w) (g1 : y.l1.length ≤ 9223372036854775807) (g2 : y.l2.length ≤ 9223372036854775807) (g3 : y.l3.length ≤ 9223372036854775807) (g4 : y.l4.length ≤ 9223372036854775807 ∧ ∀ p ∈ y.l4, p.f2.length ≤ 9223372036854775807) (g5 : y.l5.length ≤ 9223372036854775807) (g6 : y.l6.length ≤ 9223372036854775807) (g11 : y.l11.length ≤ 9223372036854775807) :
    Calls Try.prog 15 #[.agg (y.cells q), .int .i64 1048576] w fun e w' => ∃ r : Int, e = .returned (.int .i64 r) ∧ (0 ≤ r → y.Ok) ∧ Below w.heap.size w w' := by
  have hv := Try.underlying31
  have hv2 := Try.underlying24
  have HQ := Aside0.mk hq
  clear hq
  go_enter Try.func15, Try.ntmps15
  have h0a : 0 ≤ (1048576 : Int) := by omega
  have h1a : (1048576 : Int) ≤ 1048576 := by omega
  obtain ⟨r1, hr1⟩ : ∃ r_, r_ = leftL y.l1 1048576 := ⟨_, rfl⟩
  have hle1 : r1 ≤ 1048576 := by rw [hr1]; exact Int.le_trans (leftL_le y.l1 h0a) h1a
  have E1 := Aside0.mk (show laws_szNet.f y.d0 y.l1 1048576 = some r1 from by rw [hr1]; exact szNet_eq y.d0 y.l1 1048576 h0a h1a g1)
  have O1 := Aside0.mk (fun h => leftL_ok' h1a (by rw [← hr1]; exact h) : 0 ≤ r1 → y.l1.length ≤ 1048576); clear hr1
  clear h0a h1a
  go_wp2_with fail
  go_at_call 65; (with_reducible refine (laws_szNet.calls y.d0 q.A1 q.c1 y.l1 1048576 r1 _ ?s0 HQ.out.h1 E1.out).mono ?_); (case s0 => exact (HQ.out.below (by repeat (first | (with_reducible first | exact Below.refl _ _ | apply below_alloc | apply pw_below_drewN | apply below_drew1) | exact Below.refl _ _))).r1); rintro e w1 ⟨rfl, hb⟩
  have HB := Aside0.mk (below_step (w := w) (by repeat (first | (with_reducible first | exact Below.refl _ _ | apply below_alloc | apply pw_below_drewN | apply below_drew1) | exact Below.refl _ _)) hb); have BY := Aside0.mk (show w1.heap[w.heap.size]? = some (.cells (y.cells q) 31 (0, 0)) from blk_below (by repeat (first | exact blk_new _ _ | refine blk_drewN ?_ _ | refine blk_alloc ?_ _)) hb); clear hb
  by_cases c1 : r1 < 0
  · have d1 : decide (r1 < 0) = true := decide_eq_true c1
    go_wp2
    go_ret
    exact ⟨-1, rfl, fun h => by omega, (below_step HB.out (by repeat (first | (with_reducible first | exact Below.refl _ _ | apply below_alloc | apply pw_below_drewN | apply below_drew1) | exact Below.refl _ _)))⟩
  have d1 : decide (r1 < 0) = false := decide_eq_false c1
  obtain ⟨hy0, hy1, hy2, hy3, hy4, hy5, hy6, hy7, hy8, hy9, hy10, hy11, hy12⟩ := LW.at_ BY.out
  have h0a : 0 ≤ (r1 : Int) := by omega
  have h1a : (r1 : Int) ≤ 1048576 := by omega
  obtain ⟨r2, hr2⟩ : ∃ r_, r_ = leftL y.l2 r1 := ⟨_, rfl⟩
  have hle2 : r2 ≤ 1048576 := by rw [hr2]; exact Int.le_trans (leftL_le y.l2 h0a) h1a
  have E2 := Aside0.mk (show laws_szIntS.f y.l2 r1 = some r2 from by rw [hr2]; exact (szIntS_eq y.l2 r1 h0a h1a g2).trans (by rw [leftI_eq]))
  have O2 := Aside0.mk (fun h => leftL_ok' h1a (by rw [← hr2]; exact h) : 0 ≤ r2 → y.l2.length ≤ 1048576); clear hr2
  clear h0a h1a
  go_wp2_with fail
  go_at_call 66; (with_reducible refine (laws_szIntS.calls q.A2 q.c2 y.l2 r1 r2 _ ?s0 HQ.out.h2 E2.out).mono ?_); (case s0 => exact (HQ.out.below (below_step HB.out (by repeat (first | (with_reducible first | exact Below.refl _ _ | apply below_alloc | apply pw_below_drewN | apply below_drew1) | exact Below.refl _ _)))).r2); rintro e w' ⟨rfl, ⟨nd, rfl⟩⟩
  clear hy0 hy1 hy2 hy3 hy4 hy5 hy6 hy7 hy8 hy9 hy10 hy11 hy12
  by_cases c2 : r2 < 0
  · have d2 : decide (r2 < 0) = true := decide_eq_true c2
    go_wp2
    go_ret
    exact ⟨-1, rfl, fun h => by omega, (below_step HB.out (by repeat (first | (with_reducible first | exact Below.refl _ _ | apply below_alloc | apply pw_below_drewN | apply below_drew1) | exact Below.refl _ _)))⟩
  have d2 : decide (r2 < 0) = false := decide_eq_false c2
  obtain ⟨hy0, hy1, hy2, hy3, hy4, hy5, hy6, hy7, hy8, hy9, hy10, hy11, hy12⟩ := LW.at_ BY.out
  have h0a : 0 ≤ (r2 : Int) := by omega
  have h1a : (r2 : Int) ≤ 1048576 := by omega
  obtain ⟨r3, hr3⟩ : ∃ r_, r_ = leftL y.l3 r2 := ⟨_, rfl⟩
  have hle3 : r3 ≤ 1048576 := by rw [hr3]; exact Int.le_trans (leftL_le y.l3 h0a) h1a
  have E3 := Aside0.mk (show laws_szIntS.f y.l3 r2 = some r3 from by rw [hr3]; exact (szIntS_eq y.l3 r2 h0a h1a g3).trans (by rw [leftI_eq]))
  have O3 := Aside0.mk (fun h => leftL_ok' h1a (by rw [← hr3]; exact h) : 0 ≤ r3 → y.l3.length ≤ 1048576); clear hr3
  clear h0a h1a
  go_wp2_with fail
  go_at_call 66; (with_reducible refine (laws_szIntS.calls q.A3 q.c3 y.l3 r2 r3 _ ?s0 HQ.out.h3 E3.out).mono ?_); (case s0 => exact (HQ.out.below (below_step HB.out (by repeat (first | (with_reducible first | exact Below.refl _ _ | apply below_alloc | apply pw_below_drewN | apply below_drew1) | exact Below.refl _ _)))).r3); rintro e w' ⟨rfl, ⟨nd, rfl⟩⟩
  clear hy0 hy1 hy2 hy3 hy4 hy5 hy6 hy7 hy8 hy9 hy10 hy11 hy12
  by_cases c3 : r3 < 0
  · have d3 : decide (r3 < 0) = true := decide_eq_true c3
    go_wp2
    go_ret
    exact ⟨-1, rfl, fun h => by omega, (below_step HB.out (by repeat (first | (with_reducible first | exact Below.refl _ _ | apply below_alloc | apply pw_below_drewN | apply below_drew1) | exact Below.refl _ _)))⟩
  have d3 : decide (r3 < 0) = false := decide_eq_false c3
  obtain ⟨hy0, hy1, hy2, hy3, hy4, hy5, hy6, hy7, hy8, hy9, hy10, hy11, hy12⟩ := LW.at_ BY.out
  have h0a : 0 ≤ (r3 : Int) := by omega
  have h1a : (r3 : Int) ≤ 1048576 := by omega
  obtain ⟨r4, he4, hle4, hok4⟩ := szProbeS_ev y.l4 r3 h0a h1a g4.1 g4.2
  obtain ⟨k4, hk4⟩ := he4.rounds
  have E4 := Aside0.mk hk4; have O4 := Aside0.mk hok4; clear hk4 hok4 he4
  clear h0a h1a
  go_wp2_with fail
  go_at_call 67; (with_reducible refine (laws_szProbeS.calls k4 q.A4 q.c4 y.l4 r3 r4 _ ?s0 HQ.out.h4 E4.out).mono ?_); (case s0 => exact (HQ.out.below (below_step HB.out (by repeat (first | (with_reducible first | exact Below.refl _ _ | apply below_alloc | apply pw_below_drewN | apply below_drew1) | exact Below.refl _ _)))).r4); rintro e w4 ⟨rfl, hb⟩
  have hs := below_step (w := w1) (by repeat (first | (with_reducible first | exact Below.refl _ _ | apply below_alloc | apply pw_below_drewN | apply below_drew1) | exact Below.refl _ _)) hb; have HB2 := Aside0.mk (below_step HB.out hs); have BY2 := Aside0.mk (blk_below BY.out hs); clear HB BY hb hs hy0 hy1 hy2 hy3 hy4 hy5 hy6 hy7 hy8 hy9 hy10 hy11 hy12; have HB := HB2; have BY := BY2; clear HB2 BY2
  by_cases c4 : r4 < 0
  · have d4 : decide (r4 < 0) = true := decide_eq_true c4
    go_wp2
    go_ret
    exact ⟨-1, rfl, fun h => by omega, (below_step HB.out (by repeat (first | (with_reducible first | exact Below.refl _ _ | apply below_alloc | apply pw_below_drewN | apply below_drew1) | exact Below.refl _ _)))⟩
  have d4 : decide (r4 < 0) = false := decide_eq_false c4
  obtain ⟨hy0, hy1, hy2, hy3, hy4, hy5, hy6, hy7, hy8, hy9, hy10, hy11, hy12⟩ := LW.at_ BY.out
  have h0a : 0 ≤ (r4 : Int) := by omega
  have h1a : (r4 : Int) ≤ 1048576 := by omega
  obtain ⟨r5, hr5⟩ : ∃ r_, r_ = leftL y.l5 r4 := ⟨_, rfl⟩
  have hle5 : r5 ≤ 1048576 := by rw [hr5]; exact Int.le_trans (leftL_le y.l5 h0a) h1a
  have E5 := Aside0.mk (show laws_szIntS.f y.l5 r4 = some r5 from by rw [hr5]; exact (szIntS_eq y.l5 r4 h0a h1a g5).trans (by rw [leftI_eq]))
  have O5 := Aside0.mk (fun h => leftL_ok' h1a (by rw [← hr5]; exact h) : 0 ≤ r5 → y.l5.length ≤ 1048576); clear hr5
  clear h0a h1a
  go_wp2_with fail
  go_at_call 66; (with_reducible refine (laws_szIntS.calls q.A5 q.c5 y.l5 r4 r5 _ ?s0 HQ.out.h5 E5.out).mono ?_); (case s0 => exact (HQ.out.below (below_step HB.out (by repeat (first | (with_reducible first | exact Below.refl _ _ | apply below_alloc | apply pw_below_drewN | apply below_drew1) | exact Below.refl _ _)))).r5); rintro e w' ⟨rfl, ⟨nd, rfl⟩⟩
  clear hy0 hy1 hy2 hy3 hy4 hy5 hy6 hy7 hy8 hy9 hy10 hy11 hy12
  by_cases c5 : r5 < 0
  · have d5 : decide (r5 < 0) = true := decide_eq_true c5
    go_wp2
    go_ret
    exact ⟨-1, rfl, fun h => by omega, (below_step HB.out (by repeat (first | (with_reducible first | exact Below.refl _ _ | apply below_alloc | apply pw_below_drewN | apply below_drew1) | exact Below.refl _ _)))⟩
  have d5 : decide (r5 < 0) = false := decide_eq_false c5
  obtain ⟨hy0, hy1, hy2, hy3, hy4, hy5, hy6, hy7, hy8, hy9, hy10, hy11, hy12⟩ := LW.at_ BY.out
  have h0a : 0 ≤ (r5 : Int) := by omega
  have h1a : (r5 : Int) ≤ 1048576 := by omega
  obtain ⟨r6, hr6⟩ : ∃ r_, r_ = leftL y.l6 r5 := ⟨_, rfl⟩
  have hle6 : r6 ≤ 1048576 := by rw [hr6]; exact Int.le_trans (leftL_le y.l6 h0a) h1a
  have E6 := Aside0.mk (show laws_szIntS.f y.l6 r5 = some r6 from by rw [hr6]; exact (szIntS_eq y.l6 r5 h0a h1a g6).trans (by rw [leftI_eq]))
  have O6 := Aside0.mk (fun h => leftL_ok' h1a (by rw [← hr6]; exact h) : 0 ≤ r6 → y.l6.length ≤ 1048576); clear hr6
  clear h0a h1a
  go_wp2_with fail
  go_at_call 66; (with_reducible refine (laws_szIntS.calls q.A6 q.c6 y.l6 r5 r6 _ ?s0 HQ.out.h6 E6.out).mono ?_); (case s0 => exact (HQ.out.below (below_step HB.out (by repeat (first | (with_reducible first | exact Below.refl _ _ | apply below_alloc | apply pw_below_drewN | apply below_drew1) | exact Below.refl _ _)))).r6); rintro e w' ⟨rfl, ⟨nd, rfl⟩⟩
  clear hy0 hy1 hy2 hy3 hy4 hy5 hy6 hy7 hy8 hy9 hy10 hy11 hy12
  by_cases c6 : r6 < 0
  · have d6 : decide (r6 < 0) = true := decide_eq_true c6
    go_wp2
    go_ret
    exact ⟨-1, rfl, fun h => by omega, (below_step HB.out (by repeat (first | (with_reducible first | exact Below.refl _ _ | apply below_alloc | apply pw_below_drewN | apply below_drew1) | exact Below.refl _ _)))⟩
  have d6 : decide (r6 < 0) = false := decide_eq_false c6
  obtain ⟨hy0, hy1, hy2, hy3, hy4, hy5, hy6, hy7, hy8, hy9, hy10, hy11, hy12⟩ := LW.at_ BY.out
  have h0a : 0 ≤ (r6 : Int) := by omega
  have h1a : (r6 : Int) ≤ 1048576 := by omega
  obtain ⟨r11, hr11⟩ : ∃ r_, r_ = leftL y.l11 r6 := ⟨_, rfl⟩
  have hle11 : r11 ≤ 1048576 := by rw [hr11]; exact Int.le_trans (leftL_le y.l11 h0a) h1a
  have E11 := Aside0.mk (show laws_szSeenS.f y.l11 r6 = some r11 from by rw [hr11]; exact szSeenS_eq y.l11 r6 h0a h1a g11)
  have O11 := Aside0.mk (fun h => leftL_ok' h1a (by rw [← hr11]; exact h) : 0 ≤ r11 → y.l11.length ≤ 1048576); clear hr11
  clear h0a h1a
  go_wp2_with fail
  go_at_call 68; (with_reducible refine (laws_szSeenS.calls q.A11 q.c11 y.l11 r6 r11 _ ?s0 HQ.out.h11 E11.out).mono ?_); (case s0 => exact (HQ.out.below (below_step HB.out (by repeat (first | (with_reducible first | exact Below.refl _ _ | apply below_alloc | apply pw_below_drewN | apply below_drew1) | exact Below.refl _ _)))).r11); rintro e w' ⟨rfl, ⟨nd, rfl⟩⟩
  clear hy0 hy1 hy2 hy3 hy4 hy5 hy6 hy7 hy8 hy9 hy10 hy11 hy12
  by_cases c11 : r11 < 0
  · have d11 : decide (r11 < 0) = true := decide_eq_true c11
    go_wp2
    go_ret
    exact ⟨-1, rfl, fun h => by omega, (below_step HB.out (by repeat (first | (with_reducible first | exact Below.refl _ _ | apply below_alloc | apply pw_below_drewN | apply below_drew1) | exact Below.refl _ _)))⟩
  have d11 : decide (r11 < 0) = false := decide_eq_false c11
  go_wp2
  go_ret
  exact ⟨r11, rfl, fun _ => ⟨O1.out (by omega), O2.out (by omega), O3.out (by omega), O4.out (by omega), O5.out (by omega), O6.out (by omega), O11.out (by omega)⟩, (below_step HB.out (by repeat (first | (with_reducible first | exact Below.refl _ _ | apply below_alloc | apply pw_below_drewN | apply below_drew1) | exact Below.refl _ _)))⟩
/-! ### wsza -/
set_option maxHeartbeats 8000000 in
set_option maxRecDepth 100000 in
theorem szWorldA_c (y : LW) (q : LP) (w : World) (hq : y.Rd q w) (g1 : y.l1.length ≤ 9223372036854775807) (g2 : y.l2.length ≤ 9223372036854775807) (g3 : y.l3.length ≤ 9223372036854775807) (g4 : y.l4.length ≤ 9223372036854775807 ∧ ∀ p ∈ y.l4, p.f2.length ≤ 9223372036854775807) (g5 : y.l5.length ≤ 9223372036854775807) (g6 : y.l6.length ≤ 9223372036854775807) (g11 : y.l11.length ≤ 9223372036854775807) (a0 : Int) (ha0 : 0 ≤ a0) (ha1 : a0 ≤ 1048576) :
    Calls Try.prog 15 #[.agg (y.cells q), .int .i64 a0] w fun e w' => ∃ r : Int, e = .returned (.int .i64 r) ∧ (0 ≤ r → y.Ok) ∧ r ≤ 1048576 ∧ Below w.heap.size w w' := by
  have hv := Try.underlying31
  have hv2 := Try.underlying24
  have HQ := Aside0.mk hq
  clear hq
  go_enter Try.func15, Try.ntmps15
  have h0a : 0 ≤ (a0 : Int) := by omega
  have h1a : (a0 : Int) ≤ 1048576 := by omega
  obtain ⟨r1, hr1⟩ : ∃ r_, r_ = leftL y.l1 a0 := ⟨_, rfl⟩
  have hle1 : r1 ≤ 1048576 := by rw [hr1]; exact Int.le_trans (leftL_le y.l1 h0a) h1a
  have E1 := Aside0.mk (show laws_szNet.f y.d0 y.l1 a0 = some r1 from by rw [hr1]; exact szNet_eq y.d0 y.l1 a0 h0a h1a g1)
  have O1 := Aside0.mk (fun h => leftL_ok' h1a (by rw [← hr1]; exact h) : 0 ≤ r1 → y.l1.length ≤ 1048576); clear hr1
  clear h0a h1a
  go_wp2_with fail
  go_at_call 65; (with_reducible refine (laws_szNet.calls y.d0 q.A1 q.c1 y.l1 a0 r1 _ ?s0 HQ.out.h1 E1.out).mono ?_); (case s0 => exact (HQ.out.below (by repeat (first | (with_reducible first | exact Below.refl _ _ | apply below_alloc | apply pw_below_drewN | apply below_drew1) | exact Below.refl _ _))).r1); rintro e w1 ⟨rfl, hb⟩
  have HB := Aside0.mk (below_step (w := w) (by repeat (first | (with_reducible first | exact Below.refl _ _ | apply below_alloc | apply pw_below_drewN | apply below_drew1) | exact Below.refl _ _)) hb); have BY := Aside0.mk (show w1.heap[w.heap.size]? = some (.cells (y.cells q) 31 (0, 0)) from blk_below (by repeat (first | exact blk_new _ _ | refine blk_drewN ?_ _ | refine blk_alloc ?_ _)) hb); clear hb
  by_cases c1 : r1 < 0
  · have d1 : decide (r1 < 0) = true := decide_eq_true c1
    go_wp2
    go_ret
    exact ⟨-1, rfl, fun h => by omega, by omega, (below_step HB.out (by repeat (first | (with_reducible first | exact Below.refl _ _ | apply below_alloc | apply pw_below_drewN | apply below_drew1) | exact Below.refl _ _)))⟩
  have d1 : decide (r1 < 0) = false := decide_eq_false c1
  obtain ⟨hy0, hy1, hy2, hy3, hy4, hy5, hy6, hy7, hy8, hy9, hy10, hy11, hy12⟩ := LW.at_ BY.out
  have h0a : 0 ≤ (r1 : Int) := by omega
  have h1a : (r1 : Int) ≤ 1048576 := by omega
  obtain ⟨r2, hr2⟩ : ∃ r_, r_ = leftL y.l2 r1 := ⟨_, rfl⟩
  have hle2 : r2 ≤ 1048576 := by rw [hr2]; exact Int.le_trans (leftL_le y.l2 h0a) h1a
  have E2 := Aside0.mk (show laws_szIntS.f y.l2 r1 = some r2 from by rw [hr2]; exact (szIntS_eq y.l2 r1 h0a h1a g2).trans (by rw [leftI_eq]))
  have O2 := Aside0.mk (fun h => leftL_ok' h1a (by rw [← hr2]; exact h) : 0 ≤ r2 → y.l2.length ≤ 1048576); clear hr2
  clear h0a h1a
  go_wp2_with fail
  go_at_call 66; (with_reducible refine (laws_szIntS.calls q.A2 q.c2 y.l2 r1 r2 _ ?s0 HQ.out.h2 E2.out).mono ?_); (case s0 => exact (HQ.out.below (below_step HB.out (by repeat (first | (with_reducible first | exact Below.refl _ _ | apply below_alloc | apply pw_below_drewN | apply below_drew1) | exact Below.refl _ _)))).r2); rintro e w' ⟨rfl, ⟨nd, rfl⟩⟩
  clear hy0 hy1 hy2 hy3 hy4 hy5 hy6 hy7 hy8 hy9 hy10 hy11 hy12
  by_cases c2 : r2 < 0
  · have d2 : decide (r2 < 0) = true := decide_eq_true c2
    go_wp2
    go_ret
    exact ⟨-1, rfl, fun h => by omega, by omega, (below_step HB.out (by repeat (first | (with_reducible first | exact Below.refl _ _ | apply below_alloc | apply pw_below_drewN | apply below_drew1) | exact Below.refl _ _)))⟩
  have d2 : decide (r2 < 0) = false := decide_eq_false c2
  obtain ⟨hy0, hy1, hy2, hy3, hy4, hy5, hy6, hy7, hy8, hy9, hy10, hy11, hy12⟩ := LW.at_ BY.out
  have h0a : 0 ≤ (r2 : Int) := by omega
  have h1a : (r2 : Int) ≤ 1048576 := by omega
  obtain ⟨r3, hr3⟩ : ∃ r_, r_ = leftL y.l3 r2 := ⟨_, rfl⟩
  have hle3 : r3 ≤ 1048576 := by rw [hr3]; exact Int.le_trans (leftL_le y.l3 h0a) h1a
  have E3 := Aside0.mk (show laws_szIntS.f y.l3 r2 = some r3 from by rw [hr3]; exact (szIntS_eq y.l3 r2 h0a h1a g3).trans (by rw [leftI_eq]))
  have O3 := Aside0.mk (fun h => leftL_ok' h1a (by rw [← hr3]; exact h) : 0 ≤ r3 → y.l3.length ≤ 1048576); clear hr3
  clear h0a h1a
  go_wp2_with fail
  go_at_call 66; (with_reducible refine (laws_szIntS.calls q.A3 q.c3 y.l3 r2 r3 _ ?s0 HQ.out.h3 E3.out).mono ?_); (case s0 => exact (HQ.out.below (below_step HB.out (by repeat (first | (with_reducible first | exact Below.refl _ _ | apply below_alloc | apply pw_below_drewN | apply below_drew1) | exact Below.refl _ _)))).r3); rintro e w' ⟨rfl, ⟨nd, rfl⟩⟩
  clear hy0 hy1 hy2 hy3 hy4 hy5 hy6 hy7 hy8 hy9 hy10 hy11 hy12
  by_cases c3 : r3 < 0
  · have d3 : decide (r3 < 0) = true := decide_eq_true c3
    go_wp2
    go_ret
    exact ⟨-1, rfl, fun h => by omega, by omega, (below_step HB.out (by repeat (first | (with_reducible first | exact Below.refl _ _ | apply below_alloc | apply pw_below_drewN | apply below_drew1) | exact Below.refl _ _)))⟩
  have d3 : decide (r3 < 0) = false := decide_eq_false c3
  obtain ⟨hy0, hy1, hy2, hy3, hy4, hy5, hy6, hy7, hy8, hy9, hy10, hy11, hy12⟩ := LW.at_ BY.out
  have h0a : 0 ≤ (r3 : Int) := by omega
  have h1a : (r3 : Int) ≤ 1048576 := by omega
  obtain ⟨r4, he4, hle4, hok4⟩ := szProbeS_ev y.l4 r3 h0a h1a g4.1 g4.2
  obtain ⟨k4, hk4⟩ := he4.rounds
  have E4 := Aside0.mk hk4; have O4 := Aside0.mk hok4; clear hk4 hok4 he4
  clear h0a h1a
  go_wp2_with fail
  go_at_call 67; (with_reducible refine (laws_szProbeS.calls k4 q.A4 q.c4 y.l4 r3 r4 _ ?s0 HQ.out.h4 E4.out).mono ?_); (case s0 => exact (HQ.out.below (below_step HB.out (by repeat (first | (with_reducible first | exact Below.refl _ _ | apply below_alloc | apply pw_below_drewN | apply below_drew1) | exact Below.refl _ _)))).r4); rintro e w4 ⟨rfl, hb⟩
  have hs := below_step (w := w1) (by repeat (first | (with_reducible first | exact Below.refl _ _ | apply below_alloc | apply pw_below_drewN | apply below_drew1) | exact Below.refl _ _)) hb; have HB2 := Aside0.mk (below_step HB.out hs); have BY2 := Aside0.mk (blk_below BY.out hs); clear HB BY hb hs hy0 hy1 hy2 hy3 hy4 hy5 hy6 hy7 hy8 hy9 hy10 hy11 hy12; have HB := HB2; have BY := BY2; clear HB2 BY2
  by_cases c4 : r4 < 0
  · have d4 : decide (r4 < 0) = true := decide_eq_true c4
    go_wp2
    go_ret
    exact ⟨-1, rfl, fun h => by omega, by omega, (below_step HB.out (by repeat (first | (with_reducible first | exact Below.refl _ _ | apply below_alloc | apply pw_below_drewN | apply below_drew1) | exact Below.refl _ _)))⟩
  have d4 : decide (r4 < 0) = false := decide_eq_false c4
  obtain ⟨hy0, hy1, hy2, hy3, hy4, hy5, hy6, hy7, hy8, hy9, hy10, hy11, hy12⟩ := LW.at_ BY.out
  have h0a : 0 ≤ (r4 : Int) := by omega
  have h1a : (r4 : Int) ≤ 1048576 := by omega
  obtain ⟨r5, hr5⟩ : ∃ r_, r_ = leftL y.l5 r4 := ⟨_, rfl⟩
  have hle5 : r5 ≤ 1048576 := by rw [hr5]; exact Int.le_trans (leftL_le y.l5 h0a) h1a
  have E5 := Aside0.mk (show laws_szIntS.f y.l5 r4 = some r5 from by rw [hr5]; exact (szIntS_eq y.l5 r4 h0a h1a g5).trans (by rw [leftI_eq]))
  have O5 := Aside0.mk (fun h => leftL_ok' h1a (by rw [← hr5]; exact h) : 0 ≤ r5 → y.l5.length ≤ 1048576); clear hr5
  clear h0a h1a
  go_wp2_with fail
  go_at_call 66; (with_reducible refine (laws_szIntS.calls q.A5 q.c5 y.l5 r4 r5 _ ?s0 HQ.out.h5 E5.out).mono ?_); (case s0 => exact (HQ.out.below (below_step HB.out (by repeat (first | (with_reducible first | exact Below.refl _ _ | apply below_alloc | apply pw_below_drewN | apply below_drew1) | exact Below.refl _ _)))).r5); rintro e w' ⟨rfl, ⟨nd, rfl⟩⟩
  clear hy0 hy1 hy2 hy3 hy4 hy5 hy6 hy7 hy8 hy9 hy10 hy11 hy12
  by_cases c5 : r5 < 0
  · have d5 : decide (r5 < 0) = true := decide_eq_true c5
    go_wp2
    go_ret
    exact ⟨-1, rfl, fun h => by omega, by omega, (below_step HB.out (by repeat (first | (with_reducible first | exact Below.refl _ _ | apply below_alloc | apply pw_below_drewN | apply below_drew1) | exact Below.refl _ _)))⟩
  have d5 : decide (r5 < 0) = false := decide_eq_false c5
  obtain ⟨hy0, hy1, hy2, hy3, hy4, hy5, hy6, hy7, hy8, hy9, hy10, hy11, hy12⟩ := LW.at_ BY.out
  have h0a : 0 ≤ (r5 : Int) := by omega
  have h1a : (r5 : Int) ≤ 1048576 := by omega
  obtain ⟨r6, hr6⟩ : ∃ r_, r_ = leftL y.l6 r5 := ⟨_, rfl⟩
  have hle6 : r6 ≤ 1048576 := by rw [hr6]; exact Int.le_trans (leftL_le y.l6 h0a) h1a
  have E6 := Aside0.mk (show laws_szIntS.f y.l6 r5 = some r6 from by rw [hr6]; exact (szIntS_eq y.l6 r5 h0a h1a g6).trans (by rw [leftI_eq]))
  have O6 := Aside0.mk (fun h => leftL_ok' h1a (by rw [← hr6]; exact h) : 0 ≤ r6 → y.l6.length ≤ 1048576); clear hr6
  clear h0a h1a
  go_wp2_with fail
  go_at_call 66; (with_reducible refine (laws_szIntS.calls q.A6 q.c6 y.l6 r5 r6 _ ?s0 HQ.out.h6 E6.out).mono ?_); (case s0 => exact (HQ.out.below (below_step HB.out (by repeat (first | (with_reducible first | exact Below.refl _ _ | apply below_alloc | apply pw_below_drewN | apply below_drew1) | exact Below.refl _ _)))).r6); rintro e w' ⟨rfl, ⟨nd, rfl⟩⟩
  clear hy0 hy1 hy2 hy3 hy4 hy5 hy6 hy7 hy8 hy9 hy10 hy11 hy12
  by_cases c6 : r6 < 0
  · have d6 : decide (r6 < 0) = true := decide_eq_true c6
    go_wp2
    go_ret
    exact ⟨-1, rfl, fun h => by omega, by omega, (below_step HB.out (by repeat (first | (with_reducible first | exact Below.refl _ _ | apply below_alloc | apply pw_below_drewN | apply below_drew1) | exact Below.refl _ _)))⟩
  have d6 : decide (r6 < 0) = false := decide_eq_false c6
  obtain ⟨hy0, hy1, hy2, hy3, hy4, hy5, hy6, hy7, hy8, hy9, hy10, hy11, hy12⟩ := LW.at_ BY.out
  have h0a : 0 ≤ (r6 : Int) := by omega
  have h1a : (r6 : Int) ≤ 1048576 := by omega
  obtain ⟨r11, hr11⟩ : ∃ r_, r_ = leftL y.l11 r6 := ⟨_, rfl⟩
  have hle11 : r11 ≤ 1048576 := by rw [hr11]; exact Int.le_trans (leftL_le y.l11 h0a) h1a
  have E11 := Aside0.mk (show laws_szSeenS.f y.l11 r6 = some r11 from by rw [hr11]; exact szSeenS_eq y.l11 r6 h0a h1a g11)
  have O11 := Aside0.mk (fun h => leftL_ok' h1a (by rw [← hr11]; exact h) : 0 ≤ r11 → y.l11.length ≤ 1048576); clear hr11
  clear h0a h1a
  go_wp2_with fail
  go_at_call 68; (with_reducible refine (laws_szSeenS.calls q.A11 q.c11 y.l11 r6 r11 _ ?s0 HQ.out.h11 E11.out).mono ?_); (case s0 => exact (HQ.out.below (below_step HB.out (by repeat (first | (with_reducible first | exact Below.refl _ _ | apply below_alloc | apply pw_below_drewN | apply below_drew1) | exact Below.refl _ _)))).r11); rintro e w' ⟨rfl, ⟨nd, rfl⟩⟩
  clear hy0 hy1 hy2 hy3 hy4 hy5 hy6 hy7 hy8 hy9 hy10 hy11 hy12
  by_cases c11 : r11 < 0
  · have d11 : decide (r11 < 0) = true := decide_eq_true c11
    go_wp2
    go_ret
    exact ⟨-1, rfl, fun h => by omega, by omega, (below_step HB.out (by repeat (first | (with_reducible first | exact Below.refl _ _ | apply below_alloc | apply pw_below_drewN | apply below_drew1) | exact Below.refl _ _)))⟩
  have d11 : decide (r11 < 0) = false := decide_eq_false c11
  go_wp2
  go_ret
  exact ⟨r11, rfl, fun _ => ⟨O1.out (by omega), O2.out (by omega), O3.out (by omega), O4.out (by omega), O5.out (by omega), O6.out (by omega), O11.out (by omega)⟩, by omega, (below_step HB.out (by repeat (first | (with_reducible first | exact Below.refl _ _ | apply below_alloc | apply pw_below_drewN | apply below_drew1) | exact Below.refl _ _)))⟩
/-! ### small -/
theorem spec_l1In_eq (a b c : Int) : spec_l1In.f a b c = some (decide (b ≤ a ∧ a ≤ c)) := by
  unfold spec_l1In.f
  by_cases h : a ≥ b
  · rw [if_pos h]
    simp [show b ≤ a from h]
  · rw [if_neg h]
    have : ¬ b ≤ a := h
    simp [this]
/-! ### eqworlds -/
def eqLst {α : Type} (e : α → α → Bool) : List α → List α → Bool
  | [], [] => true
  | x :: xs, y :: ys => e x y && eqLst e xs ys
  | _, _ => false
theorem eqLst_len {α : Type} (e : α → α → Bool) : ∀ (xs ys : List α), ¬ (xs.length : Int) = (ys.length : Int) → eqLst e xs ys = false
  | [], [], h => by simp at h
  | [], _ :: _, _ => rfl
  | _ :: _, [], _ => rfl
  | x :: xs, y :: ys, h => by
    rw [eqLst, eqLst_len e xs ys (by simpa using h)]
    simp
theorem ev_eqdrop {α : Type} (e : α → α → Bool) (L : Nat → Int → Option Bool) (xs ys : List α) (R : Bool) (hl : (xs.length : Int) = (ys.length : Int)) (hend : Ev (fun k => L k (xs.length : Int)) R)
    (hstep : ∀ (i : Nat) (hi : i < xs.length) (hy : i < ys.length) (r : Bool), Ev (fun k => L k ((i + 1 : Nat) : Int)) r → Ev (fun k => L k (i : Int)) (e xs[i] ys[i] && r)) :
    ∀ (n i : Nat), xs.length - i = n → i ≤ xs.length → Ev (fun k => L k (i : Int)) (eqLst e (xs.drop i) (ys.drop i) && R) := by
  intro n
  induction n with
  | zero =>
    intro i hn hi
    have : i = xs.length := by omega
    subst this
    rw [List.drop_length, List.drop_eq_nil_of_le (by omega), eqLst]
    simpa using hend
  | succ n ih =>
    intro i hn hi
    have h := hstep i (by omega) (by omega) _ (ih (i + 1) (by omega) (by omega))
    rw [List.drop_eq_getElem_cons (show i < xs.length by omega), List.drop_eq_getElem_cons (show i < ys.length by omega), eqLst, Bool.and_assoc]
    exact h
theorem ev_eqloop {α : Type} (e : α → α → Bool) (L : Nat → Int → Option Bool) (xs ys : List α) (R : Bool) (hl : (xs.length : Int) = (ys.length : Int)) (hend : Ev (fun k => L k (xs.length : Int)) R)
    (hstep : ∀ (i : Nat) (hi : i < xs.length) (hy : i < ys.length) (r : Bool), Ev (fun k => L k ((i + 1 : Nat) : Int)) r → Ev (fun k => L k (i : Int)) (e xs[i] ys[i] && r)) :
    Ev (fun k => L k 0) (eqLst e xs ys && R) := ev_eqdrop e L xs ys R hl hend hstep _ 0 rfl (Nat.zero_le _)
def eI (x y : Int) : Bool := decide (x = y)
def eL (x y : S87) : Bool := !((!(x.f0 == y.f0)) || (!(x.f1 == y.f1)))
def eP (x y : S97) : Bool := decide (x.f0 = y.f0) && (decide (x.f1 = y.f1) && eqLst eI x.f2 y.f2)
def eS (x y : S67) : Bool := !(!(x.f0 == y.f0) || (!(x.f1 == y.f1) || (!(x.f2 == y.f2) || (!(x.f3 == y.f3) || (!(x.f4 == y.f4))))))
theorem rdP_at (l : List S97) (i : Nat) (h : i < l.length) : rd_T97 l (i : Int) = l[i] := getD_at l _ i h
theorem rdS_at (l : List S67) (i : Nat) (h : i < l.length) : rd_T67 l (i : Int) = l[i] := getD_at l _ i h
theorem rdL_at (l : List S87) (i : Nat) (h : i < l.length) : rd_T87 l (i : Int) = l[i] := getD_at l _ i h
theorem spec_l29Seen_ev (l m : List S67) (hl : l.length ≤ 1048576) : Ev (fun k => spec_l29Seen.f k l m) (eqLst eS l m) := by
  unfold spec_l29Seen.f
  by_cases h : (l.length : Int) = (m.length : Int)
  · refine evPos h ?_
    rw [← Bool.and_true (eqLst eS l m)]
    refine ev_eqloop eS (fun k i => spec_l29Seen.l0 k l m i) l m true h (Ev.step (fun k => by rw [spec_l29Seen.l0]) (evNeg (by omega) (Ev.now _))) ?_
    intro i hi hy r hr
    refine Ev.step (fun k => by rw [spec_l29Seen.l0]) (evPos (by omega) (evPos (by omega) (evPos (by omega) ?_)))
    rw [rdS_at l i hi, rdS_at m i hy, wsucc (by omega), eS]
    by_cases hc : (!(l[i].f0 == m[i].f0) || (!(l[i].f1 == m[i].f1) || (!(l[i].f2 == m[i].f2) || (!(l[i].f3 == m[i].f3) || (!(l[i].f4 == m[i].f4)))))) = true
    · exact evPos hc (evEq (by rw [hc]; rfl) (Ev.now _))
    · exact evNeg hc (evEq (by rw [Bool.not_eq_true] at hc; rw [hc]; rfl) hr)
  · exact evNeg h (evEq (eqLst_len _ _ _ h).symm (Ev.now _))
theorem slices_EqualSeen_ev (l m : List S67) (hl : l.length ≤ 1048576) : Ev (fun k => impl_Seen_80.f k l m) (eqLst eS l m) := by
  unfold impl_Seen_80.f
  by_cases h : (l.length : Int) = (m.length : Int)
  · refine evPos h ?_
    rw [← Bool.and_true (eqLst eS l m)]
    refine ev_eqloop eS (fun k i => impl_Seen_80.l0 k l m (l.length : Int) i) l m true h (Ev.step (fun k => by rw [impl_Seen_80.l0]) (evNeg (by omega) (Ev.now _))) ?_
    intro i hi hy r hr
    refine Ev.step (fun k => by rw [impl_Seen_80.l0]) (evPos (by omega) (evPos (by omega) (evPos (by omega) (evPos (by omega) ?_))))
    rw [rdS_at l i hi, rdS_at m i hy, wsucc (by omega), eS]
    by_cases hc : (!(l[i].f0 == m[i].f0) || (!(l[i].f1 == m[i].f1) || (!(l[i].f2 == m[i].f2) || (!(l[i].f3 == m[i].f3) || (!(l[i].f4 == m[i].f4)))))) = true
    · exact evPos hc (evEq (by rw [hc]; rfl) (Ev.now _))
    · exact evNeg hc (evEq (by rw [Bool.not_eq_true] at hc; rw [hc]; rfl) hr)
  · exact evNeg h (evEq (eqLst_len _ _ _ h).symm (Ev.now _))
/-! ### probeok -/
theorem probe_ok {pr : List S97} (h : okP' pr) (p : Int) : (pr.getD p.toNat z97).f2.length ≤ 1048576 := by
  rw [List.getD_eq_getElem?_getD]
  rcases e : pr[p.toNat]? with _ | q
  · simp [z97]
  · exact h.2 q (List.mem_of_getElem? e)
/-! ### at -/
theorem impl_at_eq (a n : Int) : impl_at.f a n = some (decide (0 ≤ a ∧ a < n)) := by
  unfold impl_at.f
  by_cases h : a ≥ 0
  · rw [if_pos h]
    simp [show 0 ≤ a from h]
  · rw [if_neg h]
    have : ¬ 0 ≤ a := h
    simp [this]
/-! ### truedelay -/
def delayF (de : List Int) : Int → List Int → Int
  | s, [] => s
  | s, k :: ks => delayF de (if 0 ≤ k ∧ k < (de.length : Int) then wrap64 (s + rd de k) else s) ks
def trueDelayV (de : List Int) (pr : List S97) (p : Int) : Int := if 0 ≤ p ∧ p < (pr.length : Int) then delayF de 0 (pr.getD p.toNat z97).f2 else -1
theorem impl_TrueDelay_l0 (nd : Int) (lk : List S87) (de dn : List Int) (pr : List S97) (ow li : List Int) (b0 b1 b2 b3 : Int) (se : List S67) (nw : Int) (hd : de.length ≤ 1048576) :
    ∀ (suf pre : List Int) (s : Int), (pre ++ suf).length ≤ 1048576 →
    Ev (fun k => impl_TrueDelay.l0 k s (pre ++ suf) ((pre ++ suf).length : Int) (pre.length : Int) nd lk de dn pr ow li b0 b1 b2 b3 se nw) (delayF de s suf) := by
  intro suf
  induction suf with
  | nil =>
    intro pre s hb
    refine Ev.step (fun k => by rw [impl_TrueDelay.l0]) ?_
    exact evNeg (by simp) (Ev.now _)
  | cons x suf ih =>
    intro pre s hb
    simp only [List.length_append, List.length_cons] at hb
    refine Ev.step (fun k => by rw [impl_TrueDelay.l0]) ?_
    refine evPos (by simp only [List.length_append, List.length_cons]; omega) (evPos (by omega) (evPos (by simp only [List.length_append, List.length_cons]; omega) ?_))
    rw [rd_mid, wsucc (by omega)]
    refine evSome (impl_at_eq _ _) ?_
    have h := fun s => ih (pre ++ [x]) s (by simp; omega)
    by_cases hx : 0 ≤ x ∧ x < (de.length : Int)
    · refine evPos (by simpa using hx) (evPos hx.1 (evPos hx.2 (evEq ?_ (Ev.congr (fun k => ?_) (h (wrap64 (s + rd de x)))))))
      · rw [delayF, if_pos hx]
      · simp
    · refine evNeg (by simpa using hx) (evEq ?_ (Ev.congr (fun k => ?_) (h s)))
      · rw [delayF, if_neg hx]
      · simp
theorem impl_TrueDelay_ev (nd : Int) (lk : List S87) (de dn : List Int) (pr : List S97) (ow li : List Int) (b0 b1 b2 b3 : Int) (se : List S67) (nw p : Int) (h : okW' lk de dn pr ow li se) :
    Ev (fun k => impl_TrueDelay.f k nd lk de dn pr ow li b0 b1 b2 b3 se nw p) (trueDelayV de pr p) := by
  unfold impl_TrueDelay.f
  refine evSome (impl_at_eq _ _) ?_
  by_cases hp : 0 ≤ p ∧ p < (pr.length : Int)
  · refine evPos (by simpa using hp) (evPos hp.1 (evPos hp.2 ?_))
    have h2 := impl_TrueDelay_l0 nd lk de dn pr ow li b0 b1 b2 b3 se nw h.2.1 (pr.getD p.toNat z97).f2 [] 0 (by simpa using probe_ok h.2.2.2.1 p)
    refine evEq ?_ h2
    rw [trueDelayV, if_pos hp]
  · refine evNeg (by simpa using hp) (evEq ?_ (Ev.now _))
    rw [trueDelayV, if_neg hp]
theorem spec_TrueDelay_l0 (nd : Int) (lk : List S87) (de dn : List Int) (pr : List S97) (ow li : List Int) (b0 b1 b2 b3 : Int) (se : List S67) (nw : Int) (hd : de.length ≤ 1048576) :
    ∀ (suf pre : List Int) (s : Int), (pre ++ suf).length ≤ 1048576 →
    Ev (fun k => spec_TrueDelay.l0 k s (pre ++ suf) (pre.length : Int) nd lk de dn pr ow li b0 b1 b2 b3 se nw) (delayF de s suf) := by
  intro suf
  induction suf with
  | nil =>
    intro pre s hb
    refine Ev.step (fun k => by rw [spec_TrueDelay.l0]) ?_
    exact evNeg (by simp) (Ev.now _)
  | cons x suf ih =>
    intro pre s hb
    simp only [List.length_append, List.length_cons] at hb
    refine Ev.step (fun k => by rw [spec_TrueDelay.l0]) ?_
    refine evPos (by simp only [List.length_append, List.length_cons]; omega) (evPos (by omega) ?_)
    rw [rd_mid, wsucc (by omega), w64 (n := (de.length : Int) - 1) (by omega) (by omega)]
    refine evSome (spec_l1In_eq _ _ _) ?_
    have h := fun s => ih (pre ++ [x]) s (by simp; omega)
    by_cases hx : 0 ≤ x ∧ x < (de.length : Int)
    · refine evPos (by simp; omega) (evPos hx.1 (evPos hx.2 (evEq ?_ (Ev.congr (fun k => ?_) (h (wrap64 (s + rd de x)))))))
      · rw [delayF, if_pos hx]
      · simp
    · refine evNeg (by simp; omega) (evEq ?_ (Ev.congr (fun k => ?_) (h s)))
      · rw [delayF, if_neg hx]
      · simp
theorem spec_TrueDelay_ev (nd : Int) (lk : List S87) (de dn : List Int) (pr : List S97) (ow li : List Int) (b0 b1 b2 b3 : Int) (se : List S67) (nw p : Int) (h : okW' lk de dn pr ow li se) :
    Ev (fun k => spec_TrueDelay.f k nd lk de dn pr ow li b0 b1 b2 b3 se nw p) (trueDelayV de pr p) := by
  have h4 := h.2.2.2.1.1
  unfold spec_TrueDelay.f
  rw [w64 (by omega) (by omega)]
  refine evSome (spec_l1In_eq _ _ _) ?_
  by_cases hp : 0 ≤ p ∧ p < (pr.length : Int)
  · refine evPos (by simp; omega) (evPos hp.1 (evPos hp.2 ?_))
    have h2 := spec_TrueDelay_l0 nd lk de dn pr ow li b0 b1 b2 b3 se nw h.2.1 (pr.getD p.toNat z97).f2 [] 0 (by simpa using probe_ok h.2.2.2.1 p)
    refine evEq ?_ h2
    rw [trueDelayV, if_pos hp]
  · refine evNeg (by simp; omega) (evEq ?_ (Ev.now _))
    rw [trueDelayV, if_neg hp]
/-! ### idxf -/
/-- The first place (counted from n) at which p holds, or -1. -/
def firstP {α : Type} (p : α → Bool) : List α → Nat → Int
  | [], _ => -1
  | x :: xs, n => if p x = true then (n : Int) else firstP p xs (n + 1)
theorem firstP_any {α : Type} (p : α → Bool) : ∀ (l : List α) (n : Nat), decide (0 ≤ firstP p l n) = l.any p
  | [], _ => by simp [firstP]
  | x :: xs, n => by
    rw [firstP, List.any_cons]
    cases hp : p x with
    | true => simp
    | false => simpa [hp] using firstP_any p xs (n + 1)
/-! ### lookalike -/
set_option maxHeartbeats 8000000 in
set_option maxRecDepth 100000 in
theorem LA1_c (ga gb : Nat) (a0_0 : Int) (A0_1 : Option Addr) (c0_1 : Nat) (l0_1 : (List S87)) (A0_2 : Option Addr) (c0_2 : Nat) (l0_2 : (List Int)) (A0_3 : Option Addr) (c0_3 : Nat) (l0_3 : (List Int)) (A0_4 : Option Addr) (c0_4 : Nat) (l0_4 : (List S97)) (A0_5 : Option Addr) (c0_5 : Nat) (l0_5 : (List Int)) (A0_6 : Option Addr) (c0_6 : Nat) (l0_6 : (List Int)) (a0_7 : Int) (a0_8 : Int) (a0_9 : Int) (a0_10 : Int) (A0_11 : Option Addr) (c0_11 : Nat) (l0_11 : (List S67)) (a0_12 : Int) (a1_0 : Int) (A1_1 : Option Addr) (c1_1 : Nat) (l1_1 : (List S87)) (A1_2 : Option Addr) (c1_2 : Nat) (l1_2 : (List Int)) (A1_3 : Option Addr) (c1_3 : Nat) (l1_3 : (List Int)) (A1_4 : Option Addr) (c1_4 : Nat) (l1_4 : (List S97)) (A1_5 : Option Addr) (c1_5 : Nat) (l1_5 : (List Int)) (A1_6 : Option Addr) (c1_6 : Nat) (l1_6 : (List Int)) (a1_7 : Int) (a1_8 : Int) (a1_9 : Int) (a1_10 : Int) (A1_11 : Option Addr) (c1_11 : Nat) (l1_11 : (List S67)) (a1_12 : Int) (x : S67) (ta tb : Int) (w : World) (hboxa : w.heap[ga]? = some (.cells #[.int .i64 a0_0, .slice A0_1 l0_1.length c0_1, .slice A0_2 l0_2.length c0_2, .slice A0_3 l0_3.length c0_3, .slice A0_4 l0_4.length c0_4, .slice A0_5 l0_5.length c0_5, .slice A0_6 l0_6.length c0_6, .int .i64 a0_7, .int .i64 a0_8, .int .i64 a0_9, .int .i64 a0_10, .slice A0_11 l0_11.length c0_11, .int .i64 a0_12] 41 (0, 0))) (hboxb : w.heap[gb]? = some (.cells #[.int .i64 a1_0, .slice A1_1 l1_1.length c1_1, .slice A1_2 l1_2.length c1_2, .slice A1_3 l1_3.length c1_3, .slice A1_4 l1_4.length c1_4, .slice A1_5 l1_5.length c1_5, .slice A1_6 l1_6.length c1_6, .int .i64 a1_7, .int .i64 a1_8, .int .i64 a1_9, .int .i64 a1_10, .slice A1_11 l1_11.length c1_11, .int .i64 a1_12] 41 (0, 0))) (hr0_1 : Kd.C k87 w A0_1 l0_1.length l0_1) (hc0_1 : l0_1.length ≤ c0_1) (hr0_2 : Kd.C (Kd.int .i64) w A0_2 l0_2.length l0_2) (hc0_2 : l0_2.length ≤ c0_2) (hr0_3 : Kd.C (Kd.int .i64) w A0_3 l0_3.length l0_3) (hc0_3 : l0_3.length ≤ c0_3) (hr0_4 : Kd.C k97 w A0_4 l0_4.length l0_4) (hc0_4 : l0_4.length ≤ c0_4) (hr0_5 : Kd.C (Kd.int .i64) w A0_5 l0_5.length l0_5) (hc0_5 : l0_5.length ≤ c0_5) (hr0_6 : Kd.C (Kd.int .i64) w A0_6 l0_6.length l0_6) (hc0_6 : l0_6.length ≤ c0_6) (hr0_11 : Kd.C k67 w A0_11 l0_11.length l0_11) (hc0_11 : l0_11.length ≤ c0_11) (hr1_1 : Kd.C k87 w A1_1 l1_1.length l1_1) (hc1_1 : l1_1.length ≤ c1_1) (hr1_2 : Kd.C (Kd.int .i64) w A1_2 l1_2.length l1_2) (hc1_2 : l1_2.length ≤ c1_2) (hr1_3 : Kd.C (Kd.int .i64) w A1_3 l1_3.length l1_3) (hc1_3 : l1_3.length ≤ c1_3) (hr1_4 : Kd.C k97 w A1_4 l1_4.length l1_4) (hc1_4 : l1_4.length ≤ c1_4) (hr1_5 : Kd.C (Kd.int .i64) w A1_5 l1_5.length l1_5) (hc1_5 : l1_5.length ≤ c1_5) (hr1_6 : Kd.C (Kd.int .i64) w A1_6 l1_6.length l1_6) (hc1_6 : l1_6.length ≤ c1_6) (hr1_11 : Kd.C k67 w A1_11 l1_11.length l1_11) (hc1_11 : l1_11.length ≤ c1_11)
    (ha : ∃ k, impl_TrueDelay.f k a0_0 l0_1 l0_2 l0_3 l0_4 l0_5 l0_6 a0_7 a0_8 a0_9 a0_10 l0_11 a0_12 x.f0 = some ta) (hb : ∃ k, impl_TrueDelay.f k a1_0 l1_1 l1_2 l1_3 l1_4 l1_5 l1_6 a1_7 a1_8 a1_9 a1_10 l1_11 a1_12 x.f0 = some tb) :
    Calls Try.prog 87 #[.agg #[.int .i64 x.f0, .int .i64 x.f1, .int .i64 x.f2, .int .i64 x.f3, .bool x.f4], .pointer (some ⟨ga, 0, none⟩), .pointer (some ⟨gb, 0, none⟩)] w fun e w' => e = .returned (.bool (!x.f4 && (ta != tb))) ∧ Below w.heap.size w w' := by
  have hu := Try.underlying41
  have hu2 := Try.underlying67
  have HR0_1 := Aside0.mk hr0_1; have HC0_1 := Aside0.mk hc0_1; clear hr0_1 hc0_1; have HR0_2 := Aside0.mk hr0_2; have HC0_2 := Aside0.mk hc0_2; clear hr0_2 hc0_2; have HR0_3 := Aside0.mk hr0_3; have HC0_3 := Aside0.mk hc0_3; clear hr0_3 hc0_3; have HR0_4 := Aside0.mk hr0_4; have HC0_4 := Aside0.mk hc0_4; clear hr0_4 hc0_4; have HR0_5 := Aside0.mk hr0_5; have HC0_5 := Aside0.mk hc0_5; clear hr0_5 hc0_5; have HR0_6 := Aside0.mk hr0_6; have HC0_6 := Aside0.mk hc0_6; clear hr0_6 hc0_6; have HR0_11 := Aside0.mk hr0_11; have HC0_11 := Aside0.mk hc0_11; clear hr0_11 hc0_11
  have HR1_1 := Aside0.mk hr1_1; have HC1_1 := Aside0.mk hc1_1; clear hr1_1 hc1_1; have HR1_2 := Aside0.mk hr1_2; have HC1_2 := Aside0.mk hc1_2; clear hr1_2 hc1_2; have HR1_3 := Aside0.mk hr1_3; have HC1_3 := Aside0.mk hc1_3; clear hr1_3 hc1_3; have HR1_4 := Aside0.mk hr1_4; have HC1_4 := Aside0.mk hc1_4; clear hr1_4 hc1_4; have HR1_5 := Aside0.mk hr1_5; have HC1_5 := Aside0.mk hc1_5; clear hr1_5 hc1_5; have HR1_6 := Aside0.mk hr1_6; have HC1_6 := Aside0.mk hc1_6; clear hr1_6 hc1_6; have HR1_11 := Aside0.mk hr1_11; have HC1_11 := Aside0.mk hc1_11; clear hr1_11 hc1_11
  obtain ⟨ka, hka⟩ := ha
  obtain ⟨kb, hkb⟩ := hb
  have KA := Aside0.mk hka
  have KB := Aside0.mk hkb
  have BA := Aside0.mk hboxa
  have BB := Aside0.mk hboxb
  clear hka hkb hboxa hboxb
  obtain ⟨x0, x1, x2, x3, x4⟩ := x
  simp only [] at KA KB ⊢
  cases x4 with
  | true =>
    rw [show (!true && (ta != tb)) = false from rfl]
    go_enter Try.func87, Try.ntmps87
    go_upto_region 1 with fail
    have HBX := Aside0.mk (show Below w.heap.size w (w.alloc (.cells #[.int .i64 x0, .int .i64 x1, .int .i64 x2, .int .i64 x3, .bool true] 67)) from (by repeat (first | (with_reducible first | exact Below.refl _ _ | apply below_alloc | apply pw_below_drewN | apply below_drew1) | exact Below.refl _ _)))
    have BX := Aside0.mk (show (w.alloc (.cells #[.int .i64 x0, .int .i64 x1, .int .i64 x2, .int .i64 x3, .bool true] 67)).heap[w.heap.size]? = some (.cells #[.int .i64 x0, .int .i64 x1, .int .i64 x2, .int .i64 x3, .bool true] 67 (0, 0)) from blk_new _ _)
    generalize hWX : w.alloc (.cells #[.int .i64 x0, .int .i64 x1, .int .i64 x2, .int .i64 x3, .bool true] 67) = wx at HBX BX ⊢
    clear hWX
    have hc0 := (blk_cell BX.out 0).trans rfl
    have hc4 := (blk_cell BX.out 4).trans rfl
    go_wp2
    repeat (go_quiet (fail); try go_wp2)
    all_goals go_ret
    all_goals exact ⟨rfl, below_step HBX.out (by repeat (first | (with_reducible first | exact Below.refl _ _ | apply below_alloc | apply pw_below_drewN | apply below_drew1) | exact Below.refl _ _))⟩
  | false =>
    rw [show (!false && (ta != tb)) = (ta != tb) from rfl]
    go_enter Try.func87, Try.ntmps87
    go_upto_region 1 with fail
    have HBX := Aside0.mk (show Below w.heap.size w (w.alloc (.cells #[.int .i64 x0, .int .i64 x1, .int .i64 x2, .int .i64 x3, .bool false] 67)) from (by repeat (first | (with_reducible first | exact Below.refl _ _ | apply below_alloc | apply pw_below_drewN | apply below_drew1) | exact Below.refl _ _)))
    have BX := Aside0.mk (show (w.alloc (.cells #[.int .i64 x0, .int .i64 x1, .int .i64 x2, .int .i64 x3, .bool false] 67)).heap[w.heap.size]? = some (.cells #[.int .i64 x0, .int .i64 x1, .int .i64 x2, .int .i64 x3, .bool false] 67 (0, 0)) from blk_new _ _)
    generalize hWX : w.alloc (.cells #[.int .i64 x0, .int .i64 x1, .int .i64 x2, .int .i64 x3, .bool false] 67) = wx at HBX BX ⊢
    clear hWX
    have BA2 := Aside0.mk (blk_below BA.out HBX.out); have BB2 := Aside0.mk (blk_below BB.out HBX.out); clear BA BB
    go_region_held3 (fun w' => Below wx.heap.size wx w' ∧ w'.cell? ⟨w.heap.size, 0, none⟩ = some (.int .i64 x0) ∧ w'.cell? ⟨w.heap.size, 4, none⟩ = some (.bool false) ∧ (w'.cell? ⟨ga, 0, none⟩ = some (.int .i64 a0_0) ∧ w'.cell? ⟨ga, 1, none⟩ = some (.slice A0_1 l0_1.length c0_1) ∧ w'.cell? ⟨ga, 2, none⟩ = some (.slice A0_2 l0_2.length c0_2) ∧ w'.cell? ⟨ga, 3, none⟩ = some (.slice A0_3 l0_3.length c0_3) ∧ w'.cell? ⟨ga, 4, none⟩ = some (.slice A0_4 l0_4.length c0_4) ∧ w'.cell? ⟨ga, 5, none⟩ = some (.slice A0_5 l0_5.length c0_5) ∧ w'.cell? ⟨ga, 6, none⟩ = some (.slice A0_6 l0_6.length c0_6) ∧ w'.cell? ⟨ga, 7, none⟩ = some (.int .i64 a0_7) ∧ w'.cell? ⟨ga, 8, none⟩ = some (.int .i64 a0_8) ∧ w'.cell? ⟨ga, 9, none⟩ = some (.int .i64 a0_9) ∧ w'.cell? ⟨ga, 10, none⟩ = some (.int .i64 a0_10) ∧ w'.cell? ⟨ga, 11, none⟩ = some (.slice A0_11 l0_11.length c0_11) ∧ w'.cell? ⟨ga, 12, none⟩ = some (.int .i64 a0_12)) ∧ (w'.cell? ⟨gb, 0, none⟩ = some (.int .i64 a1_0) ∧ w'.cell? ⟨gb, 1, none⟩ = some (.slice A1_1 l1_1.length c1_1) ∧ w'.cell? ⟨gb, 2, none⟩ = some (.slice A1_2 l1_2.length c1_2) ∧ w'.cell? ⟨gb, 3, none⟩ = some (.slice A1_3 l1_3.length c1_3) ∧ w'.cell? ⟨gb, 4, none⟩ = some (.slice A1_4 l1_4.length c1_4) ∧ w'.cell? ⟨gb, 5, none⟩ = some (.slice A1_5 l1_5.length c1_5) ∧ w'.cell? ⟨gb, 6, none⟩ = some (.slice A1_6 l1_6.length c1_6) ∧ w'.cell? ⟨gb, 7, none⟩ = some (.int .i64 a1_7) ∧ w'.cell? ⟨gb, 8, none⟩ = some (.int .i64 a1_8) ∧ w'.cell? ⟨gb, 9, none⟩ = some (.int .i64 a1_9) ∧ w'.cell? ⟨gb, 10, none⟩ = some (.int .i64 a1_10) ∧ w'.cell? ⟨gb, 11, none⟩ = some (.slice A1_11 l1_11.length c1_11) ∧ w'.cell? ⟨gb, 12, none⟩ = some (.int .i64 a1_12))) (first | exact ⟨(below_step (below_step (w := wx) (by repeat (first | (with_reducible first | exact Below.refl _ _ | apply below_alloc | apply pw_below_drewN | apply below_drew1) | exact Below.refl _ _)) hb1) (below_step (by repeat (first | (with_reducible first | exact Below.refl _ _ | apply below_alloc | apply pw_below_drewN | apply below_drew1) | exact Below.refl _ _)) hb2)), (blk_cell (blk_below BX.out (below_step (below_step (w := wx) (by repeat (first | (with_reducible first | exact Below.refl _ _ | apply below_alloc | apply pw_below_drewN | apply below_drew1) | exact Below.refl _ _)) hb1) (below_step (by repeat (first | (with_reducible first | exact Below.refl _ _ | apply below_alloc | apply pw_below_drewN | apply below_drew1) | exact Below.refl _ _)) hb2))) 0).trans rfl, (blk_cell (blk_below BX.out (below_step (below_step (w := wx) (by repeat (first | (with_reducible first | exact Below.refl _ _ | apply below_alloc | apply pw_below_drewN | apply below_drew1) | exact Below.refl _ _)) hb1) (below_step (by repeat (first | (with_reducible first | exact Below.refl _ _ | apply below_alloc | apply pw_below_drewN | apply below_drew1) | exact Below.refl _ _)) hb2))) 4).trans rfl, cells13 (blk_below BA2.out (below_step (below_step (w := wx) (by repeat (first | (with_reducible first | exact Below.refl _ _ | apply below_alloc | apply pw_below_drewN | apply below_drew1) | exact Below.refl _ _)) hb1) (below_step (by repeat (first | (with_reducible first | exact Below.refl _ _ | apply below_alloc | apply pw_below_drewN | apply below_drew1) | exact Below.refl _ _)) hb2))), cells13 (blk_below BB2.out (below_step (below_step (w := wx) (by repeat (first | (with_reducible first | exact Below.refl _ _ | apply below_alloc | apply pw_below_drewN | apply below_drew1) | exact Below.refl _ _)) hb1) (below_step (by repeat (first | (with_reducible first | exact Below.refl _ _ | apply below_alloc | apply pw_below_drewN | apply below_drew1) | exact Below.refl _ _)) hb2)))⟩ | exact ⟨(below_step (w := wx) (by repeat (first | (with_reducible first | exact Below.refl _ _ | apply below_alloc | apply pw_below_drewN | apply below_drew1) | exact Below.refl _ _)) hb1), (blk_cell (blk_below BX.out (below_step (w := wx) (by repeat (first | (with_reducible first | exact Below.refl _ _ | apply below_alloc | apply pw_below_drewN | apply below_drew1) | exact Below.refl _ _)) hb1)) 0).trans rfl, (blk_cell (blk_below BX.out (below_step (w := wx) (by repeat (first | (with_reducible first | exact Below.refl _ _ | apply below_alloc | apply pw_below_drewN | apply below_drew1) | exact Below.refl _ _)) hb1)) 4).trans rfl, cells13 (blk_below BA2.out (below_step (w := wx) (by repeat (first | (with_reducible first | exact Below.refl _ _ | apply below_alloc | apply pw_below_drewN | apply below_drew1) | exact Below.refl _ _)) hb1)), cells13 (blk_below BB2.out (below_step (w := wx) (by repeat (first | (with_reducible first | exact Below.refl _ _ | apply below_alloc | apply pw_below_drewN | apply below_drew1) | exact Below.refl _ _)) hb1))⟩ | exact ⟨(by repeat (first | (with_reducible first | exact Below.refl _ _ | apply below_alloc | apply pw_below_drewN | apply below_drew1) | exact Below.refl _ _)), (blk_cell (blk_below BX.out (by repeat (first | (with_reducible first | exact Below.refl _ _ | apply below_alloc | apply pw_below_drewN | apply below_drew1) | exact Below.refl _ _))) 0).trans rfl, (blk_cell (blk_below BX.out (by repeat (first | (with_reducible first | exact Below.refl _ _ | apply below_alloc | apply pw_below_drewN | apply below_drew1) | exact Below.refl _ _))) 4).trans rfl, cells13 (blk_below BA2.out (by repeat (first | (with_reducible first | exact Below.refl _ _ | apply below_alloc | apply pw_below_drewN | apply below_drew1) | exact Below.refl _ _))), cells13 (blk_below BB2.out (by repeat (first | (with_reducible first | exact Below.refl _ _ | apply below_alloc | apply pw_below_drewN | apply below_drew1) | exact Below.refl _ _)))⟩)
      (first | (have h_ := hb1; clear h_; go_at_call 88; (refine (impl_TrueDelay.calls kb a1_0 A1_1 c1_1 l1_1 A1_2 c1_2 l1_2 A1_3 c1_3 l1_3 A1_4 c1_4 l1_4 A1_5 c1_5 l1_5 A1_6 c1_6 l1_6 a1_7 a1_8 a1_9 a1_10 A1_11 c1_11 l1_11 a1_12 x0 tb _ (Kd.C_below HR1_1.out (below_step HBX.out (below_step (w := wx) (by repeat (first | (with_reducible first | exact Below.refl _ _ | apply below_alloc | apply pw_below_drewN | apply below_drew1) | exact Below.refl _ _)) hb1))) HC1_1.out (Kd.C_below HR1_2.out (below_step HBX.out (below_step (w := wx) (by repeat (first | (with_reducible first | exact Below.refl _ _ | apply below_alloc | apply pw_below_drewN | apply below_drew1) | exact Below.refl _ _)) hb1))) HC1_2.out (Kd.C_below HR1_3.out (below_step HBX.out (below_step (w := wx) (by repeat (first | (with_reducible first | exact Below.refl _ _ | apply below_alloc | apply pw_below_drewN | apply below_drew1) | exact Below.refl _ _)) hb1))) HC1_3.out (Kd.C_below HR1_4.out (below_step HBX.out (below_step (w := wx) (by repeat (first | (with_reducible first | exact Below.refl _ _ | apply below_alloc | apply pw_below_drewN | apply below_drew1) | exact Below.refl _ _)) hb1))) HC1_4.out (Kd.C_below HR1_5.out (below_step HBX.out (below_step (w := wx) (by repeat (first | (with_reducible first | exact Below.refl _ _ | apply below_alloc | apply pw_below_drewN | apply below_drew1) | exact Below.refl _ _)) hb1))) HC1_5.out (Kd.C_below HR1_6.out (below_step HBX.out (below_step (w := wx) (by repeat (first | (with_reducible first | exact Below.refl _ _ | apply below_alloc | apply pw_below_drewN | apply below_drew1) | exact Below.refl _ _)) hb1))) HC1_6.out (Kd.C_below HR1_11.out (below_step HBX.out (below_step (w := wx) (by repeat (first | (with_reducible first | exact Below.refl _ _ | apply below_alloc | apply pw_below_drewN | apply below_drew1) | exact Below.refl _ _)) hb1))) HC1_11.out KB.out).mono ?_); rintro e w2_ ⟨rfl, hb2⟩) | (go_at_call 88; (refine (impl_TrueDelay.calls ka a0_0 A0_1 c0_1 l0_1 A0_2 c0_2 l0_2 A0_3 c0_3 l0_3 A0_4 c0_4 l0_4 A0_5 c0_5 l0_5 A0_6 c0_6 l0_6 a0_7 a0_8 a0_9 a0_10 A0_11 c0_11 l0_11 a0_12 x0 ta _ (Kd.C_below HR0_1.out (below_step HBX.out (by repeat (first | (with_reducible first | exact Below.refl _ _ | apply below_alloc | apply pw_below_drewN | apply below_drew1) | exact Below.refl _ _)))) HC0_1.out (Kd.C_below HR0_2.out (below_step HBX.out (by repeat (first | (with_reducible first | exact Below.refl _ _ | apply below_alloc | apply pw_below_drewN | apply below_drew1) | exact Below.refl _ _)))) HC0_2.out (Kd.C_below HR0_3.out (below_step HBX.out (by repeat (first | (with_reducible first | exact Below.refl _ _ | apply below_alloc | apply pw_below_drewN | apply below_drew1) | exact Below.refl _ _)))) HC0_3.out (Kd.C_below HR0_4.out (below_step HBX.out (by repeat (first | (with_reducible first | exact Below.refl _ _ | apply below_alloc | apply pw_below_drewN | apply below_drew1) | exact Below.refl _ _)))) HC0_4.out (Kd.C_below HR0_5.out (below_step HBX.out (by repeat (first | (with_reducible first | exact Below.refl _ _ | apply below_alloc | apply pw_below_drewN | apply below_drew1) | exact Below.refl _ _)))) HC0_5.out (Kd.C_below HR0_6.out (below_step HBX.out (by repeat (first | (with_reducible first | exact Below.refl _ _ | apply below_alloc | apply pw_below_drewN | apply below_drew1) | exact Below.refl _ _)))) HC0_6.out (Kd.C_below HR0_11.out (below_step HBX.out (by repeat (first | (with_reducible first | exact Below.refl _ _ | apply below_alloc | apply pw_below_drewN | apply below_drew1) | exact Below.refl _ _)))) HC0_11.out KA.out).mono ?_); rintro e w1_ ⟨rfl, hb1⟩) | fail)
    all_goals go_wp2
    all_goals go_ret
    all_goals exact ⟨rfl, below_step HBX.out (below_step (below_step (below_step (w := wx) (by repeat (first | (with_reducible first | exact Below.refl _ _ | apply below_alloc | apply pw_below_drewN | apply below_drew1) | exact Below.refl _ _)) hb1) (below_step (by repeat (first | (with_reducible first | exact Below.refl _ _ | apply below_alloc | apply pw_below_drewN | apply below_drew1) | exact Below.refl _ _)) hb2)) (by repeat (first | (with_reducible first | exact Below.refl _ _ | apply below_alloc | apply pw_below_drewN | apply below_drew1) | exact Below.refl _ _)))⟩
/-! ### lookalike2 -/
set_option maxHeartbeats 4000000 in
set_option maxRecDepth 100000 in
theorem idxf_LA (p : S67 → Bool) (lb : Array Value) (A0 : Option Addr) (c0 : Nat) (l0 : List S67) (w : World) (hr0 : Kd.C k67 w A0 l0.length l0) (hl : l0.length ≤ 1048576)
    (hp : ∀ x W, Below w.heap.size w W → x ∈ l0 → Calls Try.prog 87 (#[.agg #[.int .i64 x.f0, .int .i64 x.f1, .int .i64 x.f2, .int .i64 x.f3, .bool x.f4]] ++ lb) W fun e w' => e = .returned (.bool (p x)) ∧ Below W.heap.size W w') :
    Calls Try.prog 142 #[.slice A0 l0.length c0, .func (.func 87) #[] lb] w fun e w' => e = .returned (.int .i64 (firstP p l0 0)) ∧ Below w.heap.size w w' := by
  have hu := Try.underlying67
  have HR0 := Aside0.mk hr0
  have HP := Aside0.mk hp
  have eg : ∀ args w, (callFunc 87 args).run Try.prog w = .ok (.enter 87 args) w := by
    intro args w
    have h1 : Try.f87.name ≠ "runtime.NumGoroutine" := by decide
    obtain ⟨c_, hb⟩ : ∃ c_, Try.f87.body = some c_ := ⟨_, rfl⟩
    simp [callFunc, Try.func87, h1, hb, mark]
  clear hr0 hp
  go_enter Try.func142, Try.ntmps142
  go_wp2
  go_loopg [8] l0.length (fun gg v8 wr => ∃ (pre suf : List S67), gg = suf.length ∧ Aside0 (l0 = pre ++ suf) ∧ v8 = .int .i64 (pre.length : Int) ∧ Aside0 (firstP p suf pre.length = firstP p l0 0) ∧ Aside0 (Below w.heap.size w wr))
  case atStart => exact ⟨[], l0, rfl, ⟨rfl⟩, rfl, ⟨rfl⟩, ⟨by repeat (first | (with_reducible first | exact Below.refl _ _ | apply below_alloc | apply pw_below_drewN | apply below_drew1) | exact Below.refl _ _)⟩⟩
  case round =>
    obtain ⟨pre, suf, hgg, HE, rfl, HA, HB⟩ := hrel
    cases suf with
    | nil =>
      have hlt : ¬ (pre.length : Int) < (l0.length : Int) := by rw [HE.out]; simp
      go_wp2
      go_ret
      exact ⟨by rw [← HA.out]; rfl, HB.out⟩
    | cons x suf =>
      have hlt : (pre.length : Int) < (l0.length : Int) := by rw [HE.out]; simp; omega
      have ex : rd_T67 l0 (pre.length : Int) = x := by rw [rd_T67, HE.out, getD_mid]
      obtain ⟨ad, e3, hx0, hx1, hx2, hx3, hx4⟩ := at_T67 HR0.out (pre.length : Int) (by omega) hlt
      rw [ex] at hx0 hx1 hx2 hx3 hx4
      cases e3
      replace hx0 := (HB.out.cell (World.block_lt_of_cell? w _ hx0)).trans hx0
      replace hx1 := (HB.out.cell (World.block_lt_of_cell? w _ hx1)).trans hx1
      replace hx2 := (HB.out.cell (World.block_lt_of_cell? w _ hx2)).trans hx2
      replace hx3 := (HB.out.cell (World.block_lt_of_cell? w _ hx3)).trans hx3
      replace hx4 := (HB.out.cell (World.block_lt_of_cell? w _ hx4)).trans hx4
      simp only [Int.toNat_natCast] at hx0 hx1 hx2 hx3 hx4
      have HCALL := Aside0.mk (HP.out x)
      have HM := Aside0.mk (show x ∈ l0 by rw [HE.out]; simp)
      clear ex
      cases hp : p x with
      | true =>
        rw [hp] at HCALL
        go_wp2_with fail
        go_at_call 87; (refine (HCALL.out _ ?hbel HM.out).mono ?_); (case hbel => repeat (first | (with_reducible first | exact HB.out | apply below_alloc | apply pw_below_drewN | apply below_drew1) | exact HB.out)); rintro e w' ⟨rfl, hb'⟩
        have HB2 := Aside0.mk (below_step (w := w) (by repeat (first | (with_reducible first | exact HB.out | apply below_alloc | apply pw_below_drewN | apply below_drew1) | exact HB.out)) hb')
        clear hb'
        go_wp2
        go_ret
        exact ⟨by rw [← HA.out, firstP, if_pos hp]; rfl, HB2.out⟩
      | false =>
        rw [hp] at HCALL
        go_wp2_with fail
        go_at_call 87; (refine (HCALL.out _ ?hbel HM.out).mono ?_); (case hbel => repeat (first | (with_reducible first | exact HB.out | apply below_alloc | apply pw_below_drewN | apply below_drew1) | exact HB.out)); rintro e w' ⟨rfl, hb'⟩
        have HB2 := Aside0.mk (below_step (w := w) (by repeat (first | (with_reducible first | exact HB.out | apply below_alloc | apply pw_below_drewN | apply below_drew1) | exact HB.out)) hb')
        clear hb'
        have HL := Aside0.mk hl
        have HLT := Aside0.mk hlt
        clear hl hlt
        go_wp2_with fail
        go_roundg suf.length
        case measure => rw [hgg]; simp
        case rel => exact ⟨pre ++ [x], suf, rfl, ⟨by rw [HE.out]; simp⟩, by rw [wsucc (by have := HL.out; have := HLT.out; omega)]; simp, ⟨by rw [← HA.out, firstP, if_neg (by rw [hp]; decide)]; simp⟩, ⟨HB2.out⟩⟩
set_option maxHeartbeats 2000000 in
theorem containsf_LA (p : S67 → Bool) (lb : Array Value) (A0 : Option Addr) (c0 : Nat) (l0 : List S67) (w : World) (hr0 : Kd.C k67 w A0 l0.length l0) (hl : l0.length ≤ 1048576)
    (hp : ∀ x W, Below w.heap.size w W → x ∈ l0 → Calls Try.prog 87 (#[.agg #[.int .i64 x.f0, .int .i64 x.f1, .int .i64 x.f2, .int .i64 x.f3, .bool x.f4]] ++ lb) W fun e w' => e = .returned (.bool (p x)) ∧ Below W.heap.size W w') :
    Calls Try.prog 86 #[.slice A0 l0.length c0, .func (.func 87) #[] lb] w fun e w' => e = .returned (.bool (l0.any p)) ∧ Below w.heap.size w w' := by
  have H := Aside0.mk (idxf_LA p lb A0 c0 l0 w hr0 hl hp)
  rw [← firstP_any p l0 0]
  clear hr0 hp
  go_enter Try.func86, Try.ntmps86
  go_wp2_with fail
  go_at_call 142; (with_reducible refine (H.out).mono ?_); rintro e w' ⟨rfl, hb⟩
  have HB := Aside0.mk hb
  clear hb
  go_wp2
  go_ret
  exact ⟨rfl, HB.out⟩
theorem blk_new2 (w : World) (a b : Obj) : ((w.alloc a).alloc b).heap[w.heap.size + 1]? = some b := by
  have h := blk_new (w.alloc a) b
  rw [show (w.alloc a).heap.size = w.heap.size + 1 from Array.size_push _] at h
  exact h
set_option maxHeartbeats 8000000 in
set_option maxRecDepth 100000 in
theorem LA_c (a0_0 : Int) (A0_1 : Option Addr) (c0_1 : Nat) (l0_1 : (List S87)) (A0_2 : Option Addr) (c0_2 : Nat) (l0_2 : (List Int)) (A0_3 : Option Addr) (c0_3 : Nat) (l0_3 : (List Int)) (A0_4 : Option Addr) (c0_4 : Nat) (l0_4 : (List S97)) (A0_5 : Option Addr) (c0_5 : Nat) (l0_5 : (List Int)) (A0_6 : Option Addr) (c0_6 : Nat) (l0_6 : (List Int)) (a0_7 : Int) (a0_8 : Int) (a0_9 : Int) (a0_10 : Int) (A0_11 : Option Addr) (c0_11 : Nat) (l0_11 : (List S67)) (a0_12 : Int) (a1_0 : Int) (A1_1 : Option Addr) (c1_1 : Nat) (l1_1 : (List S87)) (A1_2 : Option Addr) (c1_2 : Nat) (l1_2 : (List Int)) (A1_3 : Option Addr) (c1_3 : Nat) (l1_3 : (List Int)) (A1_4 : Option Addr) (c1_4 : Nat) (l1_4 : (List S97)) (A1_5 : Option Addr) (c1_5 : Nat) (l1_5 : (List Int)) (A1_6 : Option Addr) (c1_6 : Nat) (l1_6 : (List Int)) (a1_7 : Int) (a1_8 : Int) (a1_9 : Int) (a1_10 : Int) (A1_11 : Option Addr) (c1_11 : Nat) (l1_11 : (List S67)) (a1_12 : Int) (bs : Bool) (ta tb : Int → Int) (w : World) (hr0_1 : Kd.C k87 w A0_1 l0_1.length l0_1) (hc0_1 : l0_1.length ≤ c0_1) (hr0_2 : Kd.C (Kd.int .i64) w A0_2 l0_2.length l0_2) (hc0_2 : l0_2.length ≤ c0_2) (hr0_3 : Kd.C (Kd.int .i64) w A0_3 l0_3.length l0_3) (hc0_3 : l0_3.length ≤ c0_3) (hr0_4 : Kd.C k97 w A0_4 l0_4.length l0_4) (hc0_4 : l0_4.length ≤ c0_4) (hr0_5 : Kd.C (Kd.int .i64) w A0_5 l0_5.length l0_5) (hc0_5 : l0_5.length ≤ c0_5) (hr0_6 : Kd.C (Kd.int .i64) w A0_6 l0_6.length l0_6) (hc0_6 : l0_6.length ≤ c0_6) (hr0_11 : Kd.C k67 w A0_11 l0_11.length l0_11) (hc0_11 : l0_11.length ≤ c0_11) (hr1_1 : Kd.C k87 w A1_1 l1_1.length l1_1) (hc1_1 : l1_1.length ≤ c1_1) (hr1_2 : Kd.C (Kd.int .i64) w A1_2 l1_2.length l1_2) (hc1_2 : l1_2.length ≤ c1_2) (hr1_3 : Kd.C (Kd.int .i64) w A1_3 l1_3.length l1_3) (hc1_3 : l1_3.length ≤ c1_3) (hr1_4 : Kd.C k97 w A1_4 l1_4.length l1_4) (hc1_4 : l1_4.length ≤ c1_4) (hr1_5 : Kd.C (Kd.int .i64) w A1_5 l1_5.length l1_5) (hc1_5 : l1_5.length ≤ c1_5) (hr1_6 : Kd.C (Kd.int .i64) w A1_6 l1_6.length l1_6) (hc1_6 : l1_6.length ≤ c1_6) (hr1_11 : Kd.C k67 w A1_11 l1_11.length l1_11) (hc1_11 : l1_11.length ≤ c1_11) (hs : ∃ k, impl_Seen_80.f k l0_11 l1_11 = some bs) (hl : l0_11.length ≤ 1048576)
    (hta : ∀ p, ∃ k, impl_TrueDelay.f k a0_0 l0_1 l0_2 l0_3 l0_4 l0_5 l0_6 a0_7 a0_8 a0_9 a0_10 l0_11 a0_12 p = some (ta p)) (htb : ∀ p, ∃ k, impl_TrueDelay.f k a1_0 l1_1 l1_2 l1_3 l1_4 l1_5 l1_6 a1_7 a1_8 a1_9 a1_10 l1_11 a1_12 p = some (tb p)) :
    Calls Try.prog 21 #[.agg #[.int .i64 a0_0, .slice A0_1 l0_1.length c0_1, .slice A0_2 l0_2.length c0_2, .slice A0_3 l0_3.length c0_3, .slice A0_4 l0_4.length c0_4, .slice A0_5 l0_5.length c0_5, .slice A0_6 l0_6.length c0_6, .int .i64 a0_7, .int .i64 a0_8, .int .i64 a0_9, .int .i64 a0_10, .slice A0_11 l0_11.length c0_11, .int .i64 a0_12], .agg #[.int .i64 a1_0, .slice A1_1 l1_1.length c1_1, .slice A1_2 l1_2.length c1_2, .slice A1_3 l1_3.length c1_3, .slice A1_4 l1_4.length c1_4, .slice A1_5 l1_5.length c1_5, .slice A1_6 l1_6.length c1_6, .int .i64 a1_7, .int .i64 a1_8, .int .i64 a1_9, .int .i64 a1_10, .slice A1_11 l1_11.length c1_11, .int .i64 a1_12]] w fun e w' => e = .returned (.bool (bs && !(l0_11.any fun x => !x.f4 && (ta x.f0 != tb x.f0)))) ∧ Below w.heap.size w w' := by
  have hu := Try.underlying41
  have HR0_1 := Aside0.mk hr0_1; have HC0_1 := Aside0.mk hc0_1; clear hr0_1 hc0_1; have HR0_2 := Aside0.mk hr0_2; have HC0_2 := Aside0.mk hc0_2; clear hr0_2 hc0_2; have HR0_3 := Aside0.mk hr0_3; have HC0_3 := Aside0.mk hc0_3; clear hr0_3 hc0_3; have HR0_4 := Aside0.mk hr0_4; have HC0_4 := Aside0.mk hc0_4; clear hr0_4 hc0_4; have HR0_5 := Aside0.mk hr0_5; have HC0_5 := Aside0.mk hc0_5; clear hr0_5 hc0_5; have HR0_6 := Aside0.mk hr0_6; have HC0_6 := Aside0.mk hc0_6; clear hr0_6 hc0_6; have HR0_11 := Aside0.mk hr0_11; have HC0_11 := Aside0.mk hc0_11; clear hr0_11 hc0_11
  have HR1_1 := Aside0.mk hr1_1; have HC1_1 := Aside0.mk hc1_1; clear hr1_1 hc1_1; have HR1_2 := Aside0.mk hr1_2; have HC1_2 := Aside0.mk hc1_2; clear hr1_2 hc1_2; have HR1_3 := Aside0.mk hr1_3; have HC1_3 := Aside0.mk hc1_3; clear hr1_3 hc1_3; have HR1_4 := Aside0.mk hr1_4; have HC1_4 := Aside0.mk hc1_4; clear hr1_4 hc1_4; have HR1_5 := Aside0.mk hr1_5; have HC1_5 := Aside0.mk hc1_5; clear hr1_5 hc1_5; have HR1_6 := Aside0.mk hr1_6; have HC1_6 := Aside0.mk hc1_6; clear hr1_6 hc1_6; have HR1_11 := Aside0.mk hr1_11; have HC1_11 := Aside0.mk hc1_11; clear hr1_11 hc1_11
  obtain ⟨k, hk⟩ := hs
  have K := Aside0.mk hk
  have HTA := Aside0.mk hta
  have HTB := Aside0.mk htb
  have HL := Aside0.mk hl
  clear hk hta htb hl
  go_enter Try.func21, Try.ntmps21
  go_wp2_with fail
  refine calls_gen (fun W' => Below w.heap.size w W' ∧ W'.heap[w.heap.size]? = some (.cells #[.int .i64 a0_0, .slice A0_1 l0_1.length c0_1, .slice A0_2 l0_2.length c0_2, .slice A0_3 l0_3.length c0_3, .slice A0_4 l0_4.length c0_4, .slice A0_5 l0_5.length c0_5, .slice A0_6 l0_6.length c0_6, .int .i64 a0_7, .int .i64 a0_8, .int .i64 a0_9, .int .i64 a0_10, .slice A0_11 l0_11.length c0_11, .int .i64 a0_12] 41 (0, 0)) ∧ W'.heap[w.heap.size + 1]? = some (.cells #[.int .i64 a1_0, .slice A1_1 l1_1.length c1_1, .slice A1_2 l1_2.length c1_2, .slice A1_3 l1_3.length c1_3, .slice A1_4 l1_4.length c1_4, .slice A1_5 l1_5.length c1_5, .slice A1_6 l1_6.length c1_6, .int .i64 a1_7, .int .i64 a1_8, .int .i64 a1_9, .int .i64 a1_10, .slice A1_11 l1_11.length c1_11, .int .i64 a1_12] 41 (0, 0))) ⟨?gb, ?gx, ?gy⟩ ?_
  case gb => repeat (first | (with_reducible exact Below.refl _ _) | refine below_set ?_ (Nat.le_refl _) | apply below_alloc | apply pw_below_drewN | exact Below.refl _ _)
  case gx => (repeat (refine blk_drewN ?_ _)); exact (blk_alloc (blk_new w _) _)
  case gy => (repeat (refine blk_drewN ?_ _)); exact (blk_new2 w _ _)
  rintro W ⟨hbw, hgx, hgy⟩
  have HBW := Aside0.mk hbw
  have BX := Aside0.mk hgx
  have BY := Aside0.mk hgy
  clear hbw hgx hgy
  cases bs with
  | false =>
    go_at_call 80; (refine (impl_Seen_80.calls k _ _ l0_11 _ _ l1_11 _ W (Kd.C_below HR0_11.out HBW.out) HC0_11.out (Kd.C_below HR1_11.out HBW.out) HC1_11.out K.out).mono ?_); rintro e w2 ⟨rfl, hd⟩
    have hb : Below W.heap.size W w2 := by obtain ⟨nd, rfl⟩ := hd; exact (by repeat (first | (with_reducible first | exact Below.refl _ _ | apply below_alloc | apply pw_below_drewN | apply below_drew1) | exact Below.refl _ _))
    have HB2 := Aside0.mk (below_step HBW.out hb)
    clear hd hb
    go_wp2
    go_ret
    exact ⟨rfl, below_step HB2.out (by repeat (first | (with_reducible first | exact Below.refl _ _ | apply below_alloc | apply pw_below_drewN | apply below_drew1) | exact Below.refl _ _))⟩
  | true =>
    go_at_call 80; (refine (impl_Seen_80.calls k _ _ l0_11 _ _ l1_11 _ W (Kd.C_below HR0_11.out HBW.out) HC0_11.out (Kd.C_below HR1_11.out HBW.out) HC1_11.out K.out).mono ?_); rintro e w2 ⟨rfl, hd⟩
    have hb : Below W.heap.size W w2 := by obtain ⟨nd, rfl⟩ := hd; exact (by repeat (first | (with_reducible first | exact Below.refl _ _ | apply below_alloc | apply pw_below_drewN | apply below_drew1) | exact Below.refl _ _))
    have HB2 := Aside0.mk (below_step HBW.out hb)
    have BX2 := Aside0.mk (blk_below BX.out hb)
    have BY2 := Aside0.mk (blk_below BY.out hb)
    clear hd hb
    obtain ⟨x0, x1, x2, x3, x4, x5, x6, x7, x8, x9, x10, x11, x12⟩ := cells13 BX2.out
    go_wp2_with fail
    refine calls_gen (fun W' => Below w2.heap.size w2 W') ?gb ?_
    case gb => repeat (first | (with_reducible exact Below.refl _ _) | refine below_set ?_ (Nat.le_refl _) | apply below_alloc | apply pw_below_drewN | exact Below.refl _ _)
    rintro W3 hbw
    have HB3 := Aside0.mk (below_step HB2.out hbw)
    have BX3 := Aside0.mk (blk_below BX2.out hbw)
    have BY3 := Aside0.mk (blk_below BY2.out hbw)
    clear hbw x0 x1 x2 x3 x4 x5 x6 x7 x8 x9 x10 x11 x12
    go_at_call 86; (refine (containsf_LA (fun x => !x.f4 && (ta x.f0 != tb x.f0)) #[.pointer (some ⟨w.heap.size, 0, none⟩), .pointer (some ⟨w.heap.size + 1, 0, none⟩)] _ _ l0_11 W3 (Kd.C_below HR0_11.out HB3.out) HL.out ?s1).mono ?_)
    case s1 =>
      intro x Z hZ _
      have h2 := below_step HB3.out hZ
      exact LA1_c w.heap.size (w.heap.size + 1) a0_0 A0_1 c0_1 l0_1 A0_2 c0_2 l0_2 A0_3 c0_3 l0_3 A0_4 c0_4 l0_4 A0_5 c0_5 l0_5 A0_6 c0_6 l0_6 a0_7 a0_8 a0_9 a0_10 A0_11 c0_11 l0_11 a0_12 a1_0 A1_1 c1_1 l1_1 A1_2 c1_2 l1_2 A1_3 c1_3 l1_3 A1_4 c1_4 l1_4 A1_5 c1_5 l1_5 A1_6 c1_6 l1_6 a1_7 a1_8 a1_9 a1_10 A1_11 c1_11 l1_11 a1_12 x (ta x.f0) (tb x.f0) Z (blk_below BX3.out hZ) (blk_below BY3.out hZ) (Kd.C_below HR0_1.out h2) HC0_1.out (Kd.C_below HR0_2.out h2) HC0_2.out (Kd.C_below HR0_3.out h2) HC0_3.out (Kd.C_below HR0_4.out h2) HC0_4.out (Kd.C_below HR0_5.out h2) HC0_5.out (Kd.C_below HR0_6.out h2) HC0_6.out (Kd.C_below HR0_11.out h2) HC0_11.out (Kd.C_below HR1_1.out h2) HC1_1.out (Kd.C_below HR1_2.out h2) HC1_2.out (Kd.C_below HR1_3.out h2) HC1_3.out (Kd.C_below HR1_4.out h2) HC1_4.out (Kd.C_below HR1_5.out h2) HC1_5.out (Kd.C_below HR1_6.out h2) HC1_6.out (Kd.C_below HR1_11.out h2) HC1_11.out (HTA.out x.f0) (HTB.out x.f0)
    rintro e w4 ⟨rfl, hb⟩
    have HB4 := Aside0.mk (below_step HB3.out hb)
    clear hb
    go_wp2
    go_ret
    exact ⟨rfl, below_step HB4.out (by repeat (first | (with_reducible first | exact Below.refl _ _ | apply below_alloc | apply pw_below_drewN | apply below_drew1) | exact Below.refl _ _))⟩
/-! ### lookalikec -/
def laQ (da : List Int) (pa : List S97) (db : List Int) (pb : List S97) (x : S67) : Bool := !x.f4 && (trueDelayV da pa x.f0 != trueDelayV db pb x.f0)
def laV (a0_0 : Int) (l0_1 : (List S87)) (l0_2 : (List Int)) (l0_3 : (List Int)) (l0_4 : (List S97)) (l0_5 : (List Int)) (l0_6 : (List Int)) (a0_7 : Int) (a0_8 : Int) (a0_9 : Int) (a0_10 : Int) (l0_11 : (List S67)) (a0_12 : Int) (a1_0 : Int) (l1_1 : (List S87)) (l1_2 : (List Int)) (l1_3 : (List Int)) (l1_4 : (List S97)) (l1_5 : (List Int)) (l1_6 : (List Int)) (a1_7 : Int) (a1_8 : Int) (a1_9 : Int) (a1_10 : Int) (l1_11 : (List S67)) (a1_12 : Int) : Bool := eqLst eS l0_11 l1_11 && !(l0_11.any (laQ l0_2 l0_4 l1_2 l1_4))
theorem spec_LooksAlike_l0 (a0_0 : Int) (l0_1 : (List S87)) (l0_2 : (List Int)) (l0_3 : (List Int)) (l0_4 : (List S97)) (l0_5 : (List Int)) (l0_6 : (List Int)) (a0_7 : Int) (a0_8 : Int) (a0_9 : Int) (a0_10 : Int) (l0_11 : (List S67)) (a0_12 : Int) (a1_0 : Int) (l1_1 : (List S87)) (l1_2 : (List Int)) (l1_3 : (List Int)) (l1_4 : (List S97)) (l1_5 : (List Int)) (l1_6 : (List Int)) (a1_7 : Int) (a1_8 : Int) (a1_9 : Int) (a1_10 : Int) (l1_11 : (List S67)) (a1_12 : Int) (h : okW' l0_1 l0_2 l0_3 l0_4 l0_5 l0_6 l0_11) (h' : okW' l1_1 l1_2 l1_3 l1_4 l1_5 l1_6 l1_11) :
    ∀ (n i : Nat), l0_11.length - i = n → i ≤ l0_11.length → Ev (fun k => spec_LooksAlike.l0 k (i : Int) a0_0 l0_1 l0_2 l0_3 l0_4 l0_5 l0_6 a0_7 a0_8 a0_9 a0_10 l0_11 a0_12 a1_0 l1_1 l1_2 l1_3 l1_4 l1_5 l1_6 a1_7 a1_8 a1_9 a1_10 l1_11 a1_12) (!((l0_11.drop i).any (laQ l0_2 l0_4 l1_2 l1_4))) := by
  have o11 := h.2.2.2.2.2.2
  intro n
  induction n with
  | zero =>
    intro i hn hi
    have e : i = l0_11.length := by omega
    subst e
    rw [List.drop_length]
    refine evEq (r := true) rfl (Ev.step (fun k => by rw [spec_LooksAlike.l0]) ?_)
    refine evNeg (by omega) ?_
    exact Ev.now _
  | succ n ih =>
    intro i hn hi
    have hlt : i < l0_11.length := by omega
    have hr := ih (i + 1) (by omega) (by omega)
    rw [List.drop_eq_getElem_cons hlt, List.any_cons]
    refine Ev.step (fun k => by rw [spec_LooksAlike.l0]) (evPos (by omega) (evPos (by omega) ?_))
    rw [rdS_at l0_11 i hlt, wsucc (by omega)]
    by_cases h4 : l0_11[i].f4 = true
    · refine evPos h4 (evEq ?_ hr)
      rw [laQ, h4]
      rfl
    · refine evNeg h4 (Ev.bind (spec_TrueDelay_ev _ _ _ _ _ _ _ _ _ _ _ _ _ _ h) (Ev.bind (spec_TrueDelay_ev _ _ _ _ _ _ _ _ _ _ _ _ _ _ h') ?_))
      have h4' : l0_11[i].f4 = false := by simpa using h4
      by_cases ht : trueDelayV l0_2 l0_4 l0_11[i].f0 = trueDelayV l1_2 l1_4 l0_11[i].f0
      · refine evPos ht (evEq ?_ hr)
        rw [laQ, h4', ht]
        simp
      · refine evNeg ht (evEq ?_ (Ev.now _))
        rw [laQ, h4', bne_iff_ne.mpr ht]
        simp
theorem spec_LooksAlike_ev (a0_0 : Int) (l0_1 : (List S87)) (l0_2 : (List Int)) (l0_3 : (List Int)) (l0_4 : (List S97)) (l0_5 : (List Int)) (l0_6 : (List Int)) (a0_7 : Int) (a0_8 : Int) (a0_9 : Int) (a0_10 : Int) (l0_11 : (List S67)) (a0_12 : Int) (a1_0 : Int) (l1_1 : (List S87)) (l1_2 : (List Int)) (l1_3 : (List Int)) (l1_4 : (List S97)) (l1_5 : (List Int)) (l1_6 : (List Int)) (a1_7 : Int) (a1_8 : Int) (a1_9 : Int) (a1_10 : Int) (l1_11 : (List S67)) (a1_12 : Int) (h : okW' l0_1 l0_2 l0_3 l0_4 l0_5 l0_6 l0_11) (h' : okW' l1_1 l1_2 l1_3 l1_4 l1_5 l1_6 l1_11) :
    Ev (fun k => spec_LooksAlike.f k a0_0 l0_1 l0_2 l0_3 l0_4 l0_5 l0_6 a0_7 a0_8 a0_9 a0_10 l0_11 a0_12 a1_0 l1_1 l1_2 l1_3 l1_4 l1_5 l1_6 a1_7 a1_8 a1_9 a1_10 l1_11 a1_12) (laV a0_0 l0_1 l0_2 l0_3 l0_4 l0_5 l0_6 a0_7 a0_8 a0_9 a0_10 l0_11 a0_12 a1_0 l1_1 l1_2 l1_3 l1_4 l1_5 l1_6 a1_7 a1_8 a1_9 a1_10 l1_11 a1_12) := by
  unfold spec_LooksAlike.f
  refine Ev.bind (spec_l29Seen_ev l0_11 l1_11 h.2.2.2.2.2.2) ?_
  rw [laV]
  cases eqLst eS l0_11 l1_11 with
  | true => exact evPos rfl (spec_LooksAlike_l0 a0_0 l0_1 l0_2 l0_3 l0_4 l0_5 l0_6 a0_7 a0_8 a0_9 a0_10 l0_11 a0_12 a1_0 l1_1 l1_2 l1_3 l1_4 l1_5 l1_6 a1_7 a1_8 a1_9 a1_10 l1_11 a1_12 h h' _ 0 rfl (Nat.zero_le _))
  | false => exact evNeg (by decide) (Ev.now _)
theorem impl_LooksAlike.calls (a0_0 : Int) (A0_1 : Option Addr) (c0_1 : Nat) (l0_1 : (List S87)) (A0_2 : Option Addr) (c0_2 : Nat) (l0_2 : (List Int)) (A0_3 : Option Addr) (c0_3 : Nat) (l0_3 : (List Int)) (A0_4 : Option Addr) (c0_4 : Nat) (l0_4 : (List S97)) (A0_5 : Option Addr) (c0_5 : Nat) (l0_5 : (List Int)) (A0_6 : Option Addr) (c0_6 : Nat) (l0_6 : (List Int)) (a0_7 : Int) (a0_8 : Int) (a0_9 : Int) (a0_10 : Int) (A0_11 : Option Addr) (c0_11 : Nat) (l0_11 : (List S67)) (a0_12 : Int) (a1_0 : Int) (A1_1 : Option Addr) (c1_1 : Nat) (l1_1 : (List S87)) (A1_2 : Option Addr) (c1_2 : Nat) (l1_2 : (List Int)) (A1_3 : Option Addr) (c1_3 : Nat) (l1_3 : (List Int)) (A1_4 : Option Addr) (c1_4 : Nat) (l1_4 : (List S97)) (A1_5 : Option Addr) (c1_5 : Nat) (l1_5 : (List Int)) (A1_6 : Option Addr) (c1_6 : Nat) (l1_6 : (List Int)) (a1_7 : Int) (a1_8 : Int) (a1_9 : Int) (a1_10 : Int) (A1_11 : Option Addr) (c1_11 : Nat) (l1_11 : (List S67)) (a1_12 : Int) (r : Bool) (w : World) (hr0_1 : Kd.C k87 w A0_1 l0_1.length l0_1) (hc0_1 : l0_1.length ≤ c0_1) (hr0_2 : Kd.C (Kd.int .i64) w A0_2 l0_2.length l0_2) (hc0_2 : l0_2.length ≤ c0_2) (hr0_3 : Kd.C (Kd.int .i64) w A0_3 l0_3.length l0_3) (hc0_3 : l0_3.length ≤ c0_3) (hr0_4 : Kd.C k97 w A0_4 l0_4.length l0_4) (hc0_4 : l0_4.length ≤ c0_4) (hr0_5 : Kd.C (Kd.int .i64) w A0_5 l0_5.length l0_5) (hc0_5 : l0_5.length ≤ c0_5) (hr0_6 : Kd.C (Kd.int .i64) w A0_6 l0_6.length l0_6) (hc0_6 : l0_6.length ≤ c0_6) (hr0_11 : Kd.C k67 w A0_11 l0_11.length l0_11) (hc0_11 : l0_11.length ≤ c0_11) (hr1_1 : Kd.C k87 w A1_1 l1_1.length l1_1) (hc1_1 : l1_1.length ≤ c1_1) (hr1_2 : Kd.C (Kd.int .i64) w A1_2 l1_2.length l1_2) (hc1_2 : l1_2.length ≤ c1_2) (hr1_3 : Kd.C (Kd.int .i64) w A1_3 l1_3.length l1_3) (hc1_3 : l1_3.length ≤ c1_3) (hr1_4 : Kd.C k97 w A1_4 l1_4.length l1_4) (hc1_4 : l1_4.length ≤ c1_4) (hr1_5 : Kd.C (Kd.int .i64) w A1_5 l1_5.length l1_5) (hc1_5 : l1_5.length ≤ c1_5) (hr1_6 : Kd.C (Kd.int .i64) w A1_6 l1_6.length l1_6) (hc1_6 : l1_6.length ≤ c1_6) (hr1_11 : Kd.C k67 w A1_11 l1_11.length l1_11) (hc1_11 : l1_11.length ≤ c1_11) (h : laV a0_0 l0_1 l0_2 l0_3 l0_4 l0_5 l0_6 a0_7 a0_8 a0_9 a0_10 l0_11 a0_12 a1_0 l1_1 l1_2 l1_3 l1_4 l1_5 l1_6 a1_7 a1_8 a1_9 a1_10 l1_11 a1_12 = r ∧ okW' l0_1 l0_2 l0_3 l0_4 l0_5 l0_6 l0_11 ∧ okW' l1_1 l1_2 l1_3 l1_4 l1_5 l1_6 l1_11) :
    Calls Try.prog 21 #[.agg #[.int .i64 a0_0, .slice A0_1 l0_1.length c0_1, .slice A0_2 l0_2.length c0_2, .slice A0_3 l0_3.length c0_3, .slice A0_4 l0_4.length c0_4, .slice A0_5 l0_5.length c0_5, .slice A0_6 l0_6.length c0_6, .int .i64 a0_7, .int .i64 a0_8, .int .i64 a0_9, .int .i64 a0_10, .slice A0_11 l0_11.length c0_11, .int .i64 a0_12], .agg #[.int .i64 a1_0, .slice A1_1 l1_1.length c1_1, .slice A1_2 l1_2.length c1_2, .slice A1_3 l1_3.length c1_3, .slice A1_4 l1_4.length c1_4, .slice A1_5 l1_5.length c1_5, .slice A1_6 l1_6.length c1_6, .int .i64 a1_7, .int .i64 a1_8, .int .i64 a1_9, .int .i64 a1_10, .slice A1_11 l1_11.length c1_11, .int .i64 a1_12]] w fun e w' => e = .returned (.bool r) ∧ Below w.heap.size w w' := by
  obtain ⟨rfl, h, h'⟩ := h
  exact LA_c a0_0 A0_1 c0_1 l0_1 A0_2 c0_2 l0_2 A0_3 c0_3 l0_3 A0_4 c0_4 l0_4 A0_5 c0_5 l0_5 A0_6 c0_6 l0_6 a0_7 a0_8 a0_9 a0_10 A0_11 c0_11 l0_11 a0_12 a1_0 A1_1 c1_1 l1_1 A1_2 c1_2 l1_2 A1_3 c1_3 l1_3 A1_4 c1_4 l1_4 A1_5 c1_5 l1_5 A1_6 c1_6 l1_6 a1_7 a1_8 a1_9 a1_10 A1_11 c1_11 l1_11 a1_12 _ (fun p => trueDelayV l0_2 l0_4 p) (fun p => trueDelayV l1_2 l1_4 p) w hr0_1 hc0_1 hr0_2 hc0_2 hr0_3 hc0_3 hr0_4 hc0_4 hr0_5 hc0_5 hr0_6 hc0_6 hr0_11 hc0_11 hr1_1 hc1_1 hr1_2 hc1_2 hr1_3 hc1_3 hr1_4 hc1_4 hr1_5 hc1_5 hr1_6 hc1_6 hr1_11 hc1_11 (slices_EqualSeen_ev _ _ h.2.2.2.2.2.2).rounds h.2.2.2.2.2.2 (fun p => (impl_TrueDelay_ev _ _ _ _ _ _ _ _ _ _ _ _ _ p h).rounds) (fun p => (impl_TrueDelay_ev _ _ _ _ _ _ _ _ _ _ _ _ _ p h').rounds)
/-! ### zw_FnExactLooksAlike -/
set_option maxHeartbeats 8000000 in
set_option maxRecDepth 100000 in
theorem FnExactLooksAlike_calls' (y : LW) (q : LP)  (yb : LW) (qb : LP) (w : World) (hqb : yb.Rd qb w) (hq : y.Rd q w) (g1 : y.l1.length ≤ 9223372036854775807) (g2 : y.l2.length ≤ 9223372036854775807) (g3 : y.l3.length ≤ 9223372036854775807) (g4 : y.l4.length ≤ 9223372036854775807 ∧ ∀ p ∈ y.l4, p.f2.length ≤ 9223372036854775807) (g5 : y.l5.length ≤ 9223372036854775807) (g6 : y.l6.length ≤ 9223372036854775807) (g11 : y.l11.length ≤ 9223372036854775807) (gb1 : yb.l1.length ≤ 9223372036854775807) (gb2 : yb.l2.length ≤ 9223372036854775807) (gb3 : yb.l3.length ≤ 9223372036854775807) (gb4 : yb.l4.length ≤ 9223372036854775807 ∧ ∀ p ∈ yb.l4, p.f2.length ≤ 9223372036854775807) (gb5 : yb.l5.length ≤ 9223372036854775807) (gb6 : yb.l6.length ≤ 9223372036854775807) (gb11 : yb.l11.length ≤ 9223372036854775807) :
    Calls Try.prog 4 #[.agg (y.cells q), .agg (yb.cells qb)] w fun e w' => e = .returned (.bool true) ∧ Below w.heap.size w w' := by
  have hv := Try.underlying31
  have hu := Try.underlying41
  have HQb := Aside0.mk hqb; clear hqb
  have HQ := Aside0.mk hq; clear hq
  go_enter Try.func4, Try.ntmps4
  have HBW0 := Aside0.mk (Below.refl w.heap.size w)
  go_wp2_with fail
  refine calls_gen (fun W' => Below w.heap.size w W' ∧ W'.heap[w.heap.size]? = some (.cells (y.cells q) 31 (0, 0)) ∧ W'.heap[w.heap.size + 1]? = some (.cells (yb.cells qb) 31 (0, 0))) ⟨?gb, ?gn, ?gm⟩ ?_
  case gb => repeat (first | (with_reducible exact Below.refl _ _) | refine below_set ?_ (Nat.le_refl _) | apply below_alloc | apply pw_below_drewN)
  case gn => (repeat (refine blk_drewN ?_ _)); exact blk_alloc (blk_new _ _) _
  case gm => (repeat (refine blk_drewN ?_ _)); exact blk_new2 _ _ _
  rintro W1 ⟨hbw, hbn, hbm⟩
  have hrd := HQ.out.below (below_step HBW0.out hbw)
  go_at_call 15; (refine (szWorldA_c y q W1 hrd g1 g2 g3 g4 g5 g6 g11 1048576 (by omega) (by omega)).mono ?_); rintro e w3 ⟨r, rfl, hok, hle, hb⟩
  clear hrd
  have hs := below_step hbw hb
  have HB4 := Aside0.mk (below_step HBW0.out hs)
  clear HBW0
  have BX5 := Aside0.mk (blk_below hbn hb)
  clear hbn
  have BX6 := Aside0.mk (blk_below hbm hb)
  clear hbm
  have HS := Aside0.mk (hs.size : w.heap.size ≤ w3.heap.size)
  by_cases hc : r < 0
  · have hcd : decide (r < 0) = true := decide_eq_true hc
    go_wp2
    go_ret
    exact ⟨rfl, below_step HB4.out (by repeat (first | (with_reducible first | exact Below.refl _ _ | apply below_alloc | apply pw_below_drewN | apply below_drew1) | exact Below.refl _ _))⟩
  have hcd : decide (r < 0) = false := decide_eq_false hc
  have OK := Aside0.mk (hok (by omega)); clear hok hb hs hbw
  obtain ⟨z7, z8, z9, z10, z11, z12, z13, z14, z15, z16, z17, z18, z19⟩ := LW.at_ BX5.out
  obtain ⟨z20, z21, z22, z23, z24, z25, z26, z27, z28, z29, z30, z31, z32⟩ := LW.at_ BX6.out
  go_wp2_with fail
  refine calls_gen (fun W' => Below w3.heap.size w3 W') ?gb ?_
  case gb => repeat (first | (with_reducible exact Below.refl _ _) | refine below_set ?_ (Nat.le_refl _) | apply below_alloc | apply pw_below_drewN)
  rintro W33 hbw
  clear z7 z8 z9 z10 z11 z12 z13 z14 z15 z16 z17 z18 z19 z20 z21 z22 z23 z24 z25 z26 z27 z28 z29 z30 z31 z32
  have hrd := HQb.out.below (below_step HB4.out hbw)
  go_at_call 15; (refine (szWorldA_c yb qb W33 hrd gb1 gb2 gb3 gb4 gb5 gb6 gb11 r (by omega) (by omega)).mono ?_); rintro e w35 ⟨rb, rfl, hok, hleb, hb⟩
  clear hrd
  have hs := below_step hbw hb
  have HB36 := Aside0.mk (below_step HB4.out hs)
  clear HB4
  have BX37 := Aside0.mk (blk_below BX5.out hs); clear BX5
  have BX38 := Aside0.mk (blk_below BX6.out hs); clear BX6
  replace HS := Aside0.mk (And.intro HS.out (hs.size : w3.heap.size ≤ w35.heap.size))
  by_cases hcb : rb < 0
  · have hcd : decide (rb < 0) = true := decide_eq_true hcb
    go_wp2
    go_ret
    exact ⟨rfl, below_step HB36.out (by repeat (first | (with_reducible first | exact Below.refl _ _ | apply below_alloc | apply pw_below_drewN | apply below_drew1) | exact Below.refl _ _))⟩
  have hcdb : decide (rb < 0) = false := decide_eq_false hcb
  have OKb := Aside0.mk (hok (by omega)); clear hok hb hs hbw
  clear hle hleb
  obtain ⟨x, hxe⟩ : ∃ x, x = cvW y := ⟨_, rfl⟩
  have HXE := Aside0.mk hxe
  have OKX := Aside0.mk (show x.Ok from by rw [hxe]; exact cvW_ok OK.out)
  obtain ⟨xb, hxeb⟩ : ∃ x, x = cvW yb := ⟨_, rfl⟩
  have HXEb := Aside0.mk hxeb
  have OKXb := Aside0.mk (show xb.Ok from by rw [hxeb]; exact cvW_ok OKb.out)
  obtain ⟨b, hbv⟩ : ∃ b, b = laV x.d0 x.l1 x.l2 x.l3 x.l4 x.l5 x.l6 x.d7 x.d8 x.d9 x.d10 x.l11 x.d12 xb.d0 xb.l1 xb.l2 xb.l3 xb.l4 xb.l5 xb.l6 xb.d7 xb.d8 xb.d9 xb.d10 xb.l11 xb.d12 := ⟨_, rfl⟩
  obtain ⟨ks, hks⟩ := (spec_LooksAlike_ev x.d0 x.l1 x.l2 x.l3 x.l4 x.l5 x.l6 x.d7 x.d8 x.d9 x.d10 x.l11 x.d12 xb.d0 xb.l1 xb.l2 xb.l3 xb.l4 xb.l5 xb.l6 xb.d7 xb.d8 xb.d9 xb.d10 xb.l11 xb.d12 OKX.out OKXb.out).rounds
  rw [← hbv] at hks
  have KS := Aside0.mk hks
  have KI := Aside0.mk (And.intro hbv.symm (And.intro OKX.out OKXb.out))
  clear hks hbv hxe hxeb
  go_upto_region 8 with fail
  (try simp only [Act.put, List.setIfInBounds_toArray, List.set_cons_zero, List.set_cons_succ])
  go_cut [6] (fun v6 wc39 => v6 = .bool b ∧ Below w35.heap.size w35 wc39)
  case first =>
    go_region_held3 (fun w' => Below w35.heap.size w35 w' ∧ (w'.cell? ⟨w.heap.size, 0, none⟩ = some (.int .i64 y.d0) ∧ w'.cell? ⟨w.heap.size, 1, none⟩ = some (.slice q.A1 y.l1.length q.c1) ∧ w'.cell? ⟨w.heap.size, 2, none⟩ = some (.slice q.A2 y.l2.length q.c2) ∧ w'.cell? ⟨w.heap.size, 3, none⟩ = some (.slice q.A3 y.l3.length q.c3) ∧ w'.cell? ⟨w.heap.size, 4, none⟩ = some (.slice q.A4 y.l4.length q.c4) ∧ w'.cell? ⟨w.heap.size, 5, none⟩ = some (.slice q.A5 y.l5.length q.c5) ∧ w'.cell? ⟨w.heap.size, 6, none⟩ = some (.slice q.A6 y.l6.length q.c6) ∧ w'.cell? ⟨w.heap.size, 7, none⟩ = some (.int .i64 y.d7) ∧ w'.cell? ⟨w.heap.size, 8, none⟩ = some (.int .i64 y.d8) ∧ w'.cell? ⟨w.heap.size, 9, none⟩ = some (.int .i64 y.d9) ∧ w'.cell? ⟨w.heap.size, 10, none⟩ = some (.int .i64 y.d10) ∧ w'.cell? ⟨w.heap.size, 11, none⟩ = some (.slice q.A11 y.l11.length q.c11) ∧ w'.cell? ⟨w.heap.size, 12, none⟩ = some (.int .i64 y.d12)) ∧ (w'.cell? ⟨(w.heap.size + 1), 0, none⟩ = some (.int .i64 yb.d0) ∧ w'.cell? ⟨(w.heap.size + 1), 1, none⟩ = some (.slice qb.A1 yb.l1.length qb.c1) ∧ w'.cell? ⟨(w.heap.size + 1), 2, none⟩ = some (.slice qb.A2 yb.l2.length qb.c2) ∧ w'.cell? ⟨(w.heap.size + 1), 3, none⟩ = some (.slice qb.A3 yb.l3.length qb.c3) ∧ w'.cell? ⟨(w.heap.size + 1), 4, none⟩ = some (.slice qb.A4 yb.l4.length qb.c4) ∧ w'.cell? ⟨(w.heap.size + 1), 5, none⟩ = some (.slice qb.A5 yb.l5.length qb.c5) ∧ w'.cell? ⟨(w.heap.size + 1), 6, none⟩ = some (.slice qb.A6 yb.l6.length qb.c6) ∧ w'.cell? ⟨(w.heap.size + 1), 7, none⟩ = some (.int .i64 yb.d7) ∧ w'.cell? ⟨(w.heap.size + 1), 8, none⟩ = some (.int .i64 yb.d8) ∧ w'.cell? ⟨(w.heap.size + 1), 9, none⟩ = some (.int .i64 yb.d9) ∧ w'.cell? ⟨(w.heap.size + 1), 10, none⟩ = some (.int .i64 yb.d10) ∧ w'.cell? ⟨(w.heap.size + 1), 11, none⟩ = some (.slice qb.A11 yb.l11.length qb.c11) ∧ w'.cell? ⟨(w.heap.size + 1), 12, none⟩ = some (.int .i64 yb.d12))) (first | exact ⟨(below_step (below_step (below_step (w := w35) (by repeat (first | (with_reducible first | exact Below.refl _ _ | apply below_alloc | apply pw_below_drewN | apply below_drew1) | exact Below.refl _ _)) hb1) (below_step (by repeat (first | (with_reducible first | exact Below.refl _ _ | apply below_alloc | apply pw_below_drewN | apply below_drew1) | exact Below.refl _ _)) hb2)) (below_step (by repeat (first | (with_reducible first | exact Below.refl _ _ | apply below_alloc | apply pw_below_drewN | apply below_drew1) | exact Below.refl _ _)) hb3)), LW.at_ (blk_below BX37.out (below_step (below_step (below_step (w := w35) (by repeat (first | (with_reducible first | exact Below.refl _ _ | apply below_alloc | apply pw_below_drewN | apply below_drew1) | exact Below.refl _ _)) hb1) (below_step (by repeat (first | (with_reducible first | exact Below.refl _ _ | apply below_alloc | apply pw_below_drewN | apply below_drew1) | exact Below.refl _ _)) hb2)) (below_step (by repeat (first | (with_reducible first | exact Below.refl _ _ | apply below_alloc | apply pw_below_drewN | apply below_drew1) | exact Below.refl _ _)) hb3))), LW.at_ (blk_below BX38.out (below_step (below_step (below_step (w := w35) (by repeat (first | (with_reducible first | exact Below.refl _ _ | apply below_alloc | apply pw_below_drewN | apply below_drew1) | exact Below.refl _ _)) hb1) (below_step (by repeat (first | (with_reducible first | exact Below.refl _ _ | apply below_alloc | apply pw_below_drewN | apply below_drew1) | exact Below.refl _ _)) hb2)) (below_step (by repeat (first | (with_reducible first | exact Below.refl _ _ | apply below_alloc | apply pw_below_drewN | apply below_drew1) | exact Below.refl _ _)) hb3)))⟩ | exact ⟨(below_step (below_step (w := w35) (by repeat (first | (with_reducible first | exact Below.refl _ _ | apply below_alloc | apply pw_below_drewN | apply below_drew1) | exact Below.refl _ _)) hb1) (below_step (by repeat (first | (with_reducible first | exact Below.refl _ _ | apply below_alloc | apply pw_below_drewN | apply below_drew1) | exact Below.refl _ _)) hb2)), LW.at_ (blk_below BX37.out (below_step (below_step (w := w35) (by repeat (first | (with_reducible first | exact Below.refl _ _ | apply below_alloc | apply pw_below_drewN | apply below_drew1) | exact Below.refl _ _)) hb1) (below_step (by repeat (first | (with_reducible first | exact Below.refl _ _ | apply below_alloc | apply pw_below_drewN | apply below_drew1) | exact Below.refl _ _)) hb2))), LW.at_ (blk_below BX38.out (below_step (below_step (w := w35) (by repeat (first | (with_reducible first | exact Below.refl _ _ | apply below_alloc | apply pw_below_drewN | apply below_drew1) | exact Below.refl _ _)) hb1) (below_step (by repeat (first | (with_reducible first | exact Below.refl _ _ | apply below_alloc | apply pw_below_drewN | apply below_drew1) | exact Below.refl _ _)) hb2)))⟩ | exact ⟨(below_step (w := w35) (by repeat (first | (with_reducible first | exact Below.refl _ _ | apply below_alloc | apply pw_below_drewN | apply below_drew1) | exact Below.refl _ _)) hb1), LW.at_ (blk_below BX37.out (below_step (w := w35) (by repeat (first | (with_reducible first | exact Below.refl _ _ | apply below_alloc | apply pw_below_drewN | apply below_drew1) | exact Below.refl _ _)) hb1)), LW.at_ (blk_below BX38.out (below_step (w := w35) (by repeat (first | (with_reducible first | exact Below.refl _ _ | apply below_alloc | apply pw_below_drewN | apply below_drew1) | exact Below.refl _ _)) hb1))⟩ | exact ⟨(by repeat (first | (with_reducible first | exact Below.refl _ _ | apply below_alloc | apply pw_below_drewN | apply below_drew1) | exact Below.refl _ _)), LW.at_ (blk_below BX37.out (by repeat (first | (with_reducible first | exact Below.refl _ _ | apply below_alloc | apply pw_below_drewN | apply below_drew1) | exact Below.refl _ _))), LW.at_ (blk_below BX38.out (by repeat (first | (with_reducible first | exact Below.refl _ _ | apply below_alloc | apply pw_below_drewN | apply below_drew1) | exact Below.refl _ _)))⟩)
      (first | (go_at_call 20; (refine (spec_LooksAlike.calls ks x.d0 p1_.A1 p1_.c1 x.l1 p1_.A2 p1_.c2 x.l2 p1_.A3 p1_.c3 x.l3 p1_.A4 p1_.c4 x.l4 p1_.A5 p1_.c5 x.l5 p1_.A6 p1_.c6 x.l6 x.d7 x.d8 x.d9 x.d10 p1_.A11 p1_.c11 x.l11 x.d12 xb.d0 p2_.A1 p2_.c1 xb.l1 p2_.A2 p2_.c2 xb.l2 p2_.A3 p2_.c3 xb.l3 p2_.A4 p2_.c4 xb.l4 p2_.A5 p2_.c5 xb.l5 p2_.A6 p2_.c6 xb.l6 xb.d7 xb.d8 xb.d9 xb.d10 p2_.A11 p2_.c11 xb.l11 xb.d12 b _ (hm1.rd.below (below_step (by repeat (first | (with_reducible first | exact Below.refl _ _ | apply below_alloc | apply pw_below_drewN | apply below_drew1) | exact Below.refl _ _)) (below_step hb2 (by repeat (first | (with_reducible first | exact Below.refl _ _ | apply below_alloc | apply pw_below_drewN | apply below_drew1) | exact Below.refl _ _))))).r1 (hm1.rd.below (below_step (by repeat (first | (with_reducible first | exact Below.refl _ _ | apply below_alloc | apply pw_below_drewN | apply below_drew1) | exact Below.refl _ _)) (below_step hb2 (by repeat (first | (with_reducible first | exact Below.refl _ _ | apply below_alloc | apply pw_below_drewN | apply below_drew1) | exact Below.refl _ _))))).h1 (hm1.rd.below (below_step (by repeat (first | (with_reducible first | exact Below.refl _ _ | apply below_alloc | apply pw_below_drewN | apply below_drew1) | exact Below.refl _ _)) (below_step hb2 (by repeat (first | (with_reducible first | exact Below.refl _ _ | apply below_alloc | apply pw_below_drewN | apply below_drew1) | exact Below.refl _ _))))).r2 (hm1.rd.below (below_step (by repeat (first | (with_reducible first | exact Below.refl _ _ | apply below_alloc | apply pw_below_drewN | apply below_drew1) | exact Below.refl _ _)) (below_step hb2 (by repeat (first | (with_reducible first | exact Below.refl _ _ | apply below_alloc | apply pw_below_drewN | apply below_drew1) | exact Below.refl _ _))))).h2 (hm1.rd.below (below_step (by repeat (first | (with_reducible first | exact Below.refl _ _ | apply below_alloc | apply pw_below_drewN | apply below_drew1) | exact Below.refl _ _)) (below_step hb2 (by repeat (first | (with_reducible first | exact Below.refl _ _ | apply below_alloc | apply pw_below_drewN | apply below_drew1) | exact Below.refl _ _))))).r3 (hm1.rd.below (below_step (by repeat (first | (with_reducible first | exact Below.refl _ _ | apply below_alloc | apply pw_below_drewN | apply below_drew1) | exact Below.refl _ _)) (below_step hb2 (by repeat (first | (with_reducible first | exact Below.refl _ _ | apply below_alloc | apply pw_below_drewN | apply below_drew1) | exact Below.refl _ _))))).h3 (hm1.rd.below (below_step (by repeat (first | (with_reducible first | exact Below.refl _ _ | apply below_alloc | apply pw_below_drewN | apply below_drew1) | exact Below.refl _ _)) (below_step hb2 (by repeat (first | (with_reducible first | exact Below.refl _ _ | apply below_alloc | apply pw_below_drewN | apply below_drew1) | exact Below.refl _ _))))).r4 (hm1.rd.below (below_step (by repeat (first | (with_reducible first | exact Below.refl _ _ | apply below_alloc | apply pw_below_drewN | apply below_drew1) | exact Below.refl _ _)) (below_step hb2 (by repeat (first | (with_reducible first | exact Below.refl _ _ | apply below_alloc | apply pw_below_drewN | apply below_drew1) | exact Below.refl _ _))))).h4 (hm1.rd.below (below_step (by repeat (first | (with_reducible first | exact Below.refl _ _ | apply below_alloc | apply pw_below_drewN | apply below_drew1) | exact Below.refl _ _)) (below_step hb2 (by repeat (first | (with_reducible first | exact Below.refl _ _ | apply below_alloc | apply pw_below_drewN | apply below_drew1) | exact Below.refl _ _))))).r5 (hm1.rd.below (below_step (by repeat (first | (with_reducible first | exact Below.refl _ _ | apply below_alloc | apply pw_below_drewN | apply below_drew1) | exact Below.refl _ _)) (below_step hb2 (by repeat (first | (with_reducible first | exact Below.refl _ _ | apply below_alloc | apply pw_below_drewN | apply below_drew1) | exact Below.refl _ _))))).h5 (hm1.rd.below (below_step (by repeat (first | (with_reducible first | exact Below.refl _ _ | apply below_alloc | apply pw_below_drewN | apply below_drew1) | exact Below.refl _ _)) (below_step hb2 (by repeat (first | (with_reducible first | exact Below.refl _ _ | apply below_alloc | apply pw_below_drewN | apply below_drew1) | exact Below.refl _ _))))).r6 (hm1.rd.below (below_step (by repeat (first | (with_reducible first | exact Below.refl _ _ | apply below_alloc | apply pw_below_drewN | apply below_drew1) | exact Below.refl _ _)) (below_step hb2 (by repeat (first | (with_reducible first | exact Below.refl _ _ | apply below_alloc | apply pw_below_drewN | apply below_drew1) | exact Below.refl _ _))))).h6 (hm1.rd.below (below_step (by repeat (first | (with_reducible first | exact Below.refl _ _ | apply below_alloc | apply pw_below_drewN | apply below_drew1) | exact Below.refl _ _)) (below_step hb2 (by repeat (first | (with_reducible first | exact Below.refl _ _ | apply below_alloc | apply pw_below_drewN | apply below_drew1) | exact Below.refl _ _))))).r11 (hm1.rd.below (below_step (by repeat (first | (with_reducible first | exact Below.refl _ _ | apply below_alloc | apply pw_below_drewN | apply below_drew1) | exact Below.refl _ _)) (below_step hb2 (by repeat (first | (with_reducible first | exact Below.refl _ _ | apply below_alloc | apply pw_below_drewN | apply below_drew1) | exact Below.refl _ _))))).h11 (hm2.rd.below (by repeat (first | (with_reducible first | exact Below.refl _ _ | apply below_alloc | apply pw_below_drewN | apply below_drew1) | exact Below.refl _ _))).r1 (hm2.rd.below (by repeat (first | (with_reducible first | exact Below.refl _ _ | apply below_alloc | apply pw_below_drewN | apply below_drew1) | exact Below.refl _ _))).h1 (hm2.rd.below (by repeat (first | (with_reducible first | exact Below.refl _ _ | apply below_alloc | apply pw_below_drewN | apply below_drew1) | exact Below.refl _ _))).r2 (hm2.rd.below (by repeat (first | (with_reducible first | exact Below.refl _ _ | apply below_alloc | apply pw_below_drewN | apply below_drew1) | exact Below.refl _ _))).h2 (hm2.rd.below (by repeat (first | (with_reducible first | exact Below.refl _ _ | apply below_alloc | apply pw_below_drewN | apply below_drew1) | exact Below.refl _ _))).r3 (hm2.rd.below (by repeat (first | (with_reducible first | exact Below.refl _ _ | apply below_alloc | apply pw_below_drewN | apply below_drew1) | exact Below.refl _ _))).h3 (hm2.rd.below (by repeat (first | (with_reducible first | exact Below.refl _ _ | apply below_alloc | apply pw_below_drewN | apply below_drew1) | exact Below.refl _ _))).r4 (hm2.rd.below (by repeat (first | (with_reducible first | exact Below.refl _ _ | apply below_alloc | apply pw_below_drewN | apply below_drew1) | exact Below.refl _ _))).h4 (hm2.rd.below (by repeat (first | (with_reducible first | exact Below.refl _ _ | apply below_alloc | apply pw_below_drewN | apply below_drew1) | exact Below.refl _ _))).r5 (hm2.rd.below (by repeat (first | (with_reducible first | exact Below.refl _ _ | apply below_alloc | apply pw_below_drewN | apply below_drew1) | exact Below.refl _ _))).h5 (hm2.rd.below (by repeat (first | (with_reducible first | exact Below.refl _ _ | apply below_alloc | apply pw_below_drewN | apply below_drew1) | exact Below.refl _ _))).r6 (hm2.rd.below (by repeat (first | (with_reducible first | exact Below.refl _ _ | apply below_alloc | apply pw_below_drewN | apply below_drew1) | exact Below.refl _ _))).h6 (hm2.rd.below (by repeat (first | (with_reducible first | exact Below.refl _ _ | apply below_alloc | apply pw_below_drewN | apply below_drew1) | exact Below.refl _ _))).r11 (hm2.rd.below (by repeat (first | (with_reducible first | exact Below.refl _ _ | apply below_alloc | apply pw_below_drewN | apply below_drew1) | exact Below.refl _ _))).h11 KS.out).mono ?_); rintro e w3_ ⟨rfl, hb3⟩) | (have h_ := hb1; clear h_; go_at_call 17; (refine (toWorld_c yb qb _ (HQb.out.below (below_step HB36.out (below_step (w := w35) (by repeat (first | (with_reducible first | exact Below.refl _ _ | apply below_alloc | apply pw_below_drewN | apply below_drew1) | exact Below.refl _ _)) hb1))) OKb.out).mono ?_); rintro e w2_ ⟨p2_, rfl, hm2, hb2⟩; rw [← HXEb.out] at hm2 ⊢) | (go_at_call 17; (refine (toWorld_c y q _ (HQ.out.below (below_step HB36.out (by repeat (first | (with_reducible first | exact Below.refl _ _ | apply below_alloc | apply pw_below_drewN | apply below_drew1) | exact Below.refl _ _)))) OK.out).mono ?_); rintro e w1_ ⟨p1_, rfl, hm1, hb1⟩; rw [← HXE.out] at hm1 ⊢) | fail)
    all_goals (try go_wp2_with fail)
    all_goals go_meet
    all_goals exact ⟨rfl, below_step (below_step (below_step (below_step (w := w35) (by repeat (first | (with_reducible first | exact Below.refl _ _ | apply below_alloc | apply pw_below_drewN | apply below_drew1) | exact Below.refl _ _)) hb1) (below_step (by repeat (first | (with_reducible first | exact Below.refl _ _ | apply below_alloc | apply pw_below_drewN | apply below_drew1) | exact Below.refl _ _)) hb2)) (below_step (by repeat (first | (with_reducible first | exact Below.refl _ _ | apply below_alloc | apply pw_below_drewN | apply below_drew1) | exact Below.refl _ _)) hb3)) (by repeat (first | (with_reducible first | exact Below.refl _ _ | apply below_alloc | apply pw_below_drewN | apply below_drew1) | exact Below.refl _ _))⟩
  case rest =>
    obtain ⟨rfl, hbw⟩ := hcut
    obtain ⟨wc39, hw9⟩ : ∃ w9, w9 = wc := ⟨_, rfl⟩
    subst hw9
    have hs := hbw
    have HB40 := Aside0.mk (below_step HB36.out hs)
    clear HB36
    have BX41 := Aside0.mk (blk_below BX37.out hs); clear BX37
    have BX42 := Aside0.mk (blk_below BX38.out hs); clear BX38
    replace HS := Aside0.mk (And.intro HS.out (hs.size : w35.heap.size ≤ wc39.heap.size))
    clear hs hbw
    obtain ⟨z43, z44, z45, z46, z47, z48, z49, z50, z51, z52, z53, z54, z55⟩ := LW.at_ BX41.out
    obtain ⟨z56, z57, z58, z59, z60, z61, z62, z63, z64, z65, z66, z67, z68⟩ := LW.at_ BX42.out
    go_wp2_with fail
    refine calls_gen (fun W' => Below wc39.heap.size wc39 W') ?gb ?_
    case gb => repeat (first | (with_reducible exact Below.refl _ _) | refine below_set ?_ (Nat.le_refl _) | apply below_alloc | apply pw_below_drewN)
    rintro W69 hbw
    clear z43 z44 z45 z46 z47 z48 z49 z50 z51 z52 z53 z54 z55 z56 z57 z58 z59 z60 z61 z62 z63 z64 z65 z66 z67 z68
    have hrd := HQ.out.below (below_step HB40.out hbw)
    go_at_call 17; (refine (toWorld_c y q W69 hrd OK.out).mono ?_); rintro e w71 ⟨p72, rfl, hm, hb⟩
    rw [← HXE.out] at hm ⊢
    have HO73 := Aside0.mk ((hm.lower (Nat.le_trans HB40.out.size hbw.size)).mono (ok' := fun k => wc39.heap.size ≤ k ∧ k < w71.heap.size) (fun k h => ⟨Nat.le_trans hbw.size h.1, h.2⟩))
    have hs := below_step hbw hb
    have HB74 := Aside0.mk (below_step HB40.out hs)
    clear HB40
    have BX75 := Aside0.mk (blk_below BX41.out hs); clear BX41
    have BX76 := Aside0.mk (blk_below BX42.out hs); clear BX42
    replace HS := Aside0.mk (And.intro HS.out (hs.size : wc39.heap.size ≤ w71.heap.size))
    clear hm hb hs hbw hrd
    obtain ⟨z77, z78, z79, z80, z81, z82, z83, z84, z85, z86, z87, z88, z89⟩ := LW.at_ BX75.out
    obtain ⟨z90, z91, z92, z93, z94, z95, z96, z97, z98, z99, z100, z101, z102⟩ := LW.at_ BX76.out
    go_upto_region 10 with fail
    generalize hWX : w71.alloc (.cells (x.cells p72) 41) = w103
    have hbw : Below w71.heap.size w71 w103 := by rw [← hWX]; exact (by repeat (first | (with_reducible first | exact Below.refl _ _ | apply below_alloc | apply pw_below_drewN | apply below_drew1) | exact Below.refl _ _))
    have hbn : w103.heap[w71.heap.size]? = some (.cells (x.cells p72) 41 (0, 0)) := by rw [← hWX]; exact blk_new _ _
    clear hWX z77 z78 z79 z80 z81 z82 z83 z84 z85 z86 z87 z88 z89 z90 z91 z92 z93 z94 z95 z96 z97 z98 z99 z100 z101 z102
    have hs := hbw
    have HB104 := Aside0.mk (below_step HB74.out hs)
    clear HB74
    have HO105 := Aside0.mk (HO73.out.below hs); clear HO73
    have BX106 := Aside0.mk (blk_below BX75.out hs); clear BX75
    have BX107 := Aside0.mk (blk_below BX76.out hs); clear BX76
    have BX108 := Aside0.mk (hbn)
    clear hbn
    replace HS := Aside0.mk (And.intro HS.out (hs.size : w71.heap.size ≤ w103.heap.size))
    clear hs hbw
    obtain ⟨z109, z110, z111, z112, z113, z114, z115, z116, z117, z118, z119, z120, z121⟩ := LW.at_ BX106.out
    obtain ⟨z122, z123, z124, z125, z126, z127, z128, z129, z130, z131, z132, z133, z134⟩ := LW.at_ BX107.out
    obtain ⟨z135, z136, z137, z138, z139, z140, z141, z142, z143, z144, z145, z146, z147⟩ := IW.at_ BX108.out
    go_wp2_with fail
    refine calls_gen (fun W' => Below w103.heap.size w103 W') ?gb ?_
    case gb => repeat (first | (with_reducible exact Below.refl _ _) | refine below_set ?_ (Nat.le_refl _) | apply below_alloc | apply pw_below_drewN)
    rintro W148 hbw
    clear z109 z110 z111 z112 z113 z114 z115 z116 z117 z118 z119 z120 z121 z122 z123 z124 z125 z126 z127 z128 z129 z130 z131 z132 z133 z134 z135 z136 z137 z138 z139 z140 z141 z142 z143 z144 z145 z146 z147
    have hrd := HQb.out.below (below_step HB104.out hbw)
    go_at_call 17; (refine (toWorld_c yb qb W148 hrd OKb.out).mono ?_); rintro e w150 ⟨p151, rfl, hm, hb⟩
    rw [← HXEb.out] at hm ⊢
    have HO152 := Aside0.mk ((hm.lower (Nat.le_trans HB104.out.size hbw.size)).mono (ok' := fun k => w103.heap.size ≤ k ∧ k < w150.heap.size) (fun k h => ⟨Nat.le_trans hbw.size h.1, h.2⟩))
    have hs := below_step hbw hb
    have HB153 := Aside0.mk (below_step HB104.out hs)
    clear HB104
    have HO154 := Aside0.mk (HO105.out.below hs); clear HO105
    have BX155 := Aside0.mk (blk_below BX106.out hs); clear BX106
    have BX156 := Aside0.mk (blk_below BX107.out hs); clear BX107
    have BX157 := Aside0.mk (blk_below BX108.out hs); clear BX108
    replace HS := Aside0.mk (And.intro HS.out (hs.size : w103.heap.size ≤ w150.heap.size))
    clear hm hb hs hbw hrd
    obtain ⟨z158, z159, z160, z161, z162, z163, z164, z165, z166, z167, z168, z169, z170⟩ := LW.at_ BX155.out
    obtain ⟨z171, z172, z173, z174, z175, z176, z177, z178, z179, z180, z181, z182, z183⟩ := LW.at_ BX156.out
    obtain ⟨z184, z185, z186, z187, z188, z189, z190, z191, z192, z193, z194, z195, z196⟩ := IW.at_ BX157.out
    go_upto_region 11 with fail
    generalize hWX : w150.alloc (.cells (xb.cells p151) 41) = w197
    have hbw : Below w150.heap.size w150 w197 := by rw [← hWX]; exact (by repeat (first | (with_reducible first | exact Below.refl _ _ | apply below_alloc | apply pw_below_drewN | apply below_drew1) | exact Below.refl _ _))
    have hbn : w197.heap[w150.heap.size]? = some (.cells (xb.cells p151) 41 (0, 0)) := by rw [← hWX]; exact blk_new _ _
    clear hWX z158 z159 z160 z161 z162 z163 z164 z165 z166 z167 z168 z169 z170 z171 z172 z173 z174 z175 z176 z177 z178 z179 z180 z181 z182 z183 z184 z185 z186 z187 z188 z189 z190 z191 z192 z193 z194 z195 z196
    have hs := hbw
    have HB198 := Aside0.mk (below_step HB153.out hs)
    clear HB153
    have HO199 := Aside0.mk (HO154.out.below hs); clear HO154
    have HO200 := Aside0.mk (HO152.out.below hs); clear HO152
    have BX201 := Aside0.mk (blk_below BX155.out hs); clear BX155
    have BX202 := Aside0.mk (blk_below BX156.out hs); clear BX156
    have BX203 := Aside0.mk (blk_below BX157.out hs); clear BX157
    have BX204 := Aside0.mk (hbn)
    clear hbn
    replace HS := Aside0.mk (And.intro HS.out (hs.size : w150.heap.size ≤ w197.heap.size))
    clear hs hbw
    obtain ⟨z205, z206, z207, z208, z209, z210, z211, z212, z213, z214, z215, z216, z217⟩ := LW.at_ BX201.out
    obtain ⟨z218, z219, z220, z221, z222, z223, z224, z225, z226, z227, z228, z229, z230⟩ := LW.at_ BX202.out
    obtain ⟨z231, z232, z233, z234, z235, z236, z237, z238, z239, z240, z241, z242, z243⟩ := IW.at_ BX203.out
    obtain ⟨z244, z245, z246, z247, z248, z249, z250, z251, z252, z253, z254, z255, z256⟩ := IW.at_ BX204.out
    go_wp2_with fail
    refine calls_gen (fun W' => Below w197.heap.size w197 W') ?gb ?_
    case gb => repeat (first | (with_reducible exact Below.refl _ _) | refine below_set ?_ (Nat.le_refl _) | apply below_alloc | apply pw_below_drewN)
    rintro W257 hbw
    clear z205 z206 z207 z208 z209 z210 z211 z212 z213 z214 z215 z216 z217 z218 z219 z220 z221 z222 z223 z224 z225 z226 z227 z228 z229 z230 z231 z232 z233 z234 z235 z236 z237 z238 z239 z240 z241 z242 z243 z244 z245 z246 z247 z248 z249 z250 z251 z252 z253 z254 z255 z256
    have h260 := (HO199.out.rd).below hbw
    have h261 := (HO200.out.rd).below hbw
    go_at_call 21; (refine (impl_LooksAlike.calls  x.d0 p72.A1 p72.c1 x.l1 p72.A2 p72.c2 x.l2 p72.A3 p72.c3 x.l3 p72.A4 p72.c4 x.l4 p72.A5 p72.c5 x.l5 p72.A6 p72.c6 x.l6 x.d7 x.d8 x.d9 x.d10 p72.A11 p72.c11 x.l11 x.d12 xb.d0 p151.A1 p151.c1 xb.l1 p151.A2 p151.c2 xb.l2 p151.A3 p151.c3 xb.l3 p151.A4 p151.c4 xb.l4 p151.A5 p151.c5 xb.l5 p151.A6 p151.c6 xb.l6 xb.d7 xb.d8 xb.d9 xb.d10 p151.A11 p151.c11 xb.l11 xb.d12 (b) W257 h260.r1 h260.h1 h260.r2 h260.h2 h260.r3 h260.h3 h260.r4 h260.h4 h260.r5 h260.h5 h260.r6 h260.h6 h260.r11 h260.h11 h261.r1 h261.h1 h261.r2 h261.h2 h261.r3 h261.h3 h261.r4 h261.h4 h261.r5 h261.h5 h261.r6 h261.h6 h261.r11 h261.h11 KI.out).mono ?_); rintro e w259 ⟨rfl, hb⟩
    have hs := below_step hbw hb
    have HB262 := Aside0.mk (below_step HB198.out hs)
    clear HB198
    have HO263 := Aside0.mk (HO199.out.below hs); clear HO199
    have HO264 := Aside0.mk (HO200.out.below hs); clear HO200
    have BX265 := Aside0.mk (blk_below BX201.out hs); clear BX201
    have BX266 := Aside0.mk (blk_below BX202.out hs); clear BX202
    have BX267 := Aside0.mk (blk_below BX203.out hs); clear BX203
    have BX268 := Aside0.mk (blk_below BX204.out hs); clear BX204
    replace HS := Aside0.mk (And.intro HS.out (hs.size : w197.heap.size ≤ w259.heap.size))
    clear hb hs hbw h260 h261
    go_upto_region 14 with fail
    (try simp only [Act.put, List.setIfInBounds_toArray, List.set_cons_zero, List.set_cons_succ])
    go_cut [39] (fun v39 wc269 => v39 = .bool false ∧ Below w259.heap.size w259 wc269)
    case first =>
      go_region_held3 (fun w' => Below w259.heap.size w259 w' ∧ (w'.cell? ⟨w71.heap.size, 0, none⟩ = some (.int .i64 x.d0) ∧ w'.cell? ⟨w71.heap.size, 1, none⟩ = some (.slice p72.A1 x.l1.length p72.c1) ∧ w'.cell? ⟨w71.heap.size, 2, none⟩ = some (.slice p72.A2 x.l2.length p72.c2) ∧ w'.cell? ⟨w71.heap.size, 3, none⟩ = some (.slice p72.A3 x.l3.length p72.c3) ∧ w'.cell? ⟨w71.heap.size, 4, none⟩ = some (.slice p72.A4 x.l4.length p72.c4) ∧ w'.cell? ⟨w71.heap.size, 5, none⟩ = some (.slice p72.A5 x.l5.length p72.c5) ∧ w'.cell? ⟨w71.heap.size, 6, none⟩ = some (.slice p72.A6 x.l6.length p72.c6) ∧ w'.cell? ⟨w71.heap.size, 7, none⟩ = some (.int .i64 x.d7) ∧ w'.cell? ⟨w71.heap.size, 8, none⟩ = some (.int .i64 x.d8) ∧ w'.cell? ⟨w71.heap.size, 9, none⟩ = some (.int .i64 x.d9) ∧ w'.cell? ⟨w71.heap.size, 10, none⟩ = some (.int .i64 x.d10) ∧ w'.cell? ⟨w71.heap.size, 11, none⟩ = some (.slice p72.A11 x.l11.length p72.c11) ∧ w'.cell? ⟨w71.heap.size, 12, none⟩ = some (.int .i64 x.d12)) ∧ (w'.cell? ⟨w.heap.size, 0, none⟩ = some (.int .i64 y.d0) ∧ w'.cell? ⟨w.heap.size, 1, none⟩ = some (.slice q.A1 y.l1.length q.c1) ∧ w'.cell? ⟨w.heap.size, 2, none⟩ = some (.slice q.A2 y.l2.length q.c2) ∧ w'.cell? ⟨w.heap.size, 3, none⟩ = some (.slice q.A3 y.l3.length q.c3) ∧ w'.cell? ⟨w.heap.size, 4, none⟩ = some (.slice q.A4 y.l4.length q.c4) ∧ w'.cell? ⟨w.heap.size, 5, none⟩ = some (.slice q.A5 y.l5.length q.c5) ∧ w'.cell? ⟨w.heap.size, 6, none⟩ = some (.slice q.A6 y.l6.length q.c6) ∧ w'.cell? ⟨w.heap.size, 7, none⟩ = some (.int .i64 y.d7) ∧ w'.cell? ⟨w.heap.size, 8, none⟩ = some (.int .i64 y.d8) ∧ w'.cell? ⟨w.heap.size, 9, none⟩ = some (.int .i64 y.d9) ∧ w'.cell? ⟨w.heap.size, 10, none⟩ = some (.int .i64 y.d10) ∧ w'.cell? ⟨w.heap.size, 11, none⟩ = some (.slice q.A11 y.l11.length q.c11) ∧ w'.cell? ⟨w.heap.size, 12, none⟩ = some (.int .i64 y.d12))) (first | exact ⟨(below_step (below_step (w := w259) (by repeat (first | (with_reducible first | exact Below.refl _ _ | apply below_alloc | apply pw_below_drewN | apply below_drew1) | exact Below.refl _ _)) hb1) (below_step (by repeat (first | (with_reducible first | exact Below.refl _ _ | apply below_alloc | apply pw_below_drewN | apply below_drew1) | exact Below.refl _ _)) hb2)), IW.at_ (blk_below BX267.out (below_step (below_step (w := w259) (by repeat (first | (with_reducible first | exact Below.refl _ _ | apply below_alloc | apply pw_below_drewN | apply below_drew1) | exact Below.refl _ _)) hb1) (below_step (by repeat (first | (with_reducible first | exact Below.refl _ _ | apply below_alloc | apply pw_below_drewN | apply below_drew1) | exact Below.refl _ _)) hb2))), LW.at_ (blk_below BX265.out (below_step (below_step (w := w259) (by repeat (first | (with_reducible first | exact Below.refl _ _ | apply below_alloc | apply pw_below_drewN | apply below_drew1) | exact Below.refl _ _)) hb1) (below_step (by repeat (first | (with_reducible first | exact Below.refl _ _ | apply below_alloc | apply pw_below_drewN | apply below_drew1) | exact Below.refl _ _)) hb2)))⟩ | exact ⟨(below_step (w := w259) (by repeat (first | (with_reducible first | exact Below.refl _ _ | apply below_alloc | apply pw_below_drewN | apply below_drew1) | exact Below.refl _ _)) hb1), IW.at_ (blk_below BX267.out (below_step (w := w259) (by repeat (first | (with_reducible first | exact Below.refl _ _ | apply below_alloc | apply pw_below_drewN | apply below_drew1) | exact Below.refl _ _)) hb1)), LW.at_ (blk_below BX265.out (below_step (w := w259) (by repeat (first | (with_reducible first | exact Below.refl _ _ | apply below_alloc | apply pw_below_drewN | apply below_drew1) | exact Below.refl _ _)) hb1))⟩ | exact ⟨(by repeat (first | (with_reducible first | exact Below.refl _ _ | apply below_alloc | apply pw_below_drewN | apply below_drew1) | exact Below.refl _ _)), IW.at_ (blk_below BX267.out (by repeat (first | (with_reducible first | exact Below.refl _ _ | apply below_alloc | apply pw_below_drewN | apply below_drew1) | exact Below.refl _ _))), LW.at_ (blk_below BX265.out (by repeat (first | (with_reducible first | exact Below.refl _ _ | apply below_alloc | apply pw_below_drewN | apply below_drew1) | exact Below.refl _ _)))⟩)
        (first | (go_at_call 17; (refine (toWorld_c y q _ (HQ.out.below (below_step HB262.out (by repeat (first | (with_reducible first | exact Below.refl _ _ | apply below_alloc | apply pw_below_drewN | apply below_drew1) | exact Below.refl _ _)))) OK.out).mono ?_); rintro e w1_ ⟨p_, rfl, hm, hb1⟩; rw [← HXE.out] at hm ⊢) | (go_at_call 19; (refine (eqWorld_c x p72 p_ _ ((HO263.out.rd).below (below_step (w := w259) (by repeat (first | (with_reducible first | exact Below.refl _ _ | apply below_alloc | apply pw_below_drewN | apply below_drew1) | exact Below.refl _ _)) hb1)) (hm.rd.below (by repeat (first | (with_reducible first | exact Below.refl _ _ | apply below_alloc | apply pw_below_drewN | apply below_drew1) | exact Below.refl _ _))) OKX.out).mono ?_); rintro e w2_ ⟨rfl, hb2⟩) | fail)
      all_goals (try go_wp2_with fail)
      all_goals go_meet
      all_goals exact ⟨rfl, below_step (below_step (below_step (w := w259) (by repeat (first | (with_reducible first | exact Below.refl _ _ | apply below_alloc | apply pw_below_drewN | apply below_drew1) | exact Below.refl _ _)) hb1) (below_step (by repeat (first | (with_reducible first | exact Below.refl _ _ | apply below_alloc | apply pw_below_drewN | apply below_drew1) | exact Below.refl _ _)) hb2)) (by repeat (first | (with_reducible first | exact Below.refl _ _ | apply below_alloc | apply pw_below_drewN | apply below_drew1) | exact Below.refl _ _))⟩
    case rest =>
      obtain ⟨rfl, hbw⟩ := hcut
      obtain ⟨wc269, hw9⟩ : ∃ w9, w9 = wc := ⟨_, rfl⟩
      subst hw9
      have hs := hbw
      have HB270 := Aside0.mk (below_step HB262.out hs)
      clear HB262
      have HO271 := Aside0.mk (HO263.out.below hs); clear HO263
      have HO272 := Aside0.mk (HO264.out.below hs); clear HO264
      have BX273 := Aside0.mk (blk_below BX265.out hs); clear BX265
      have BX274 := Aside0.mk (blk_below BX266.out hs); clear BX266
      have BX275 := Aside0.mk (blk_below BX267.out hs); clear BX267
      have BX276 := Aside0.mk (blk_below BX268.out hs); clear BX268
      replace HS := Aside0.mk (And.intro HS.out (hs.size : w259.heap.size ≤ wc269.heap.size))
      clear hs hbw
      go_upto_region 16 with fail
      (try simp only [Act.put, List.setIfInBounds_toArray, List.set_cons_zero, List.set_cons_succ])
      go_cut [44] (fun v44 wc277 => v44 = .bool false ∧ Below wc269.heap.size wc269 wc277)
      case first =>
        go_region_held3 (fun w' => Below wc269.heap.size wc269 w' ∧ (w'.cell? ⟨w150.heap.size, 0, none⟩ = some (.int .i64 xb.d0) ∧ w'.cell? ⟨w150.heap.size, 1, none⟩ = some (.slice p151.A1 xb.l1.length p151.c1) ∧ w'.cell? ⟨w150.heap.size, 2, none⟩ = some (.slice p151.A2 xb.l2.length p151.c2) ∧ w'.cell? ⟨w150.heap.size, 3, none⟩ = some (.slice p151.A3 xb.l3.length p151.c3) ∧ w'.cell? ⟨w150.heap.size, 4, none⟩ = some (.slice p151.A4 xb.l4.length p151.c4) ∧ w'.cell? ⟨w150.heap.size, 5, none⟩ = some (.slice p151.A5 xb.l5.length p151.c5) ∧ w'.cell? ⟨w150.heap.size, 6, none⟩ = some (.slice p151.A6 xb.l6.length p151.c6) ∧ w'.cell? ⟨w150.heap.size, 7, none⟩ = some (.int .i64 xb.d7) ∧ w'.cell? ⟨w150.heap.size, 8, none⟩ = some (.int .i64 xb.d8) ∧ w'.cell? ⟨w150.heap.size, 9, none⟩ = some (.int .i64 xb.d9) ∧ w'.cell? ⟨w150.heap.size, 10, none⟩ = some (.int .i64 xb.d10) ∧ w'.cell? ⟨w150.heap.size, 11, none⟩ = some (.slice p151.A11 xb.l11.length p151.c11) ∧ w'.cell? ⟨w150.heap.size, 12, none⟩ = some (.int .i64 xb.d12)) ∧ (w'.cell? ⟨(w.heap.size + 1), 0, none⟩ = some (.int .i64 yb.d0) ∧ w'.cell? ⟨(w.heap.size + 1), 1, none⟩ = some (.slice qb.A1 yb.l1.length qb.c1) ∧ w'.cell? ⟨(w.heap.size + 1), 2, none⟩ = some (.slice qb.A2 yb.l2.length qb.c2) ∧ w'.cell? ⟨(w.heap.size + 1), 3, none⟩ = some (.slice qb.A3 yb.l3.length qb.c3) ∧ w'.cell? ⟨(w.heap.size + 1), 4, none⟩ = some (.slice qb.A4 yb.l4.length qb.c4) ∧ w'.cell? ⟨(w.heap.size + 1), 5, none⟩ = some (.slice qb.A5 yb.l5.length qb.c5) ∧ w'.cell? ⟨(w.heap.size + 1), 6, none⟩ = some (.slice qb.A6 yb.l6.length qb.c6) ∧ w'.cell? ⟨(w.heap.size + 1), 7, none⟩ = some (.int .i64 yb.d7) ∧ w'.cell? ⟨(w.heap.size + 1), 8, none⟩ = some (.int .i64 yb.d8) ∧ w'.cell? ⟨(w.heap.size + 1), 9, none⟩ = some (.int .i64 yb.d9) ∧ w'.cell? ⟨(w.heap.size + 1), 10, none⟩ = some (.int .i64 yb.d10) ∧ w'.cell? ⟨(w.heap.size + 1), 11, none⟩ = some (.slice qb.A11 yb.l11.length qb.c11) ∧ w'.cell? ⟨(w.heap.size + 1), 12, none⟩ = some (.int .i64 yb.d12))) (first | exact ⟨(below_step (below_step (w := wc269) (by repeat (first | (with_reducible first | exact Below.refl _ _ | apply below_alloc | apply pw_below_drewN | apply below_drew1) | exact Below.refl _ _)) hb1) (below_step (by repeat (first | (with_reducible first | exact Below.refl _ _ | apply below_alloc | apply pw_below_drewN | apply below_drew1) | exact Below.refl _ _)) hb2)), IW.at_ (blk_below BX276.out (below_step (below_step (w := wc269) (by repeat (first | (with_reducible first | exact Below.refl _ _ | apply below_alloc | apply pw_below_drewN | apply below_drew1) | exact Below.refl _ _)) hb1) (below_step (by repeat (first | (with_reducible first | exact Below.refl _ _ | apply below_alloc | apply pw_below_drewN | apply below_drew1) | exact Below.refl _ _)) hb2))), LW.at_ (blk_below BX274.out (below_step (below_step (w := wc269) (by repeat (first | (with_reducible first | exact Below.refl _ _ | apply below_alloc | apply pw_below_drewN | apply below_drew1) | exact Below.refl _ _)) hb1) (below_step (by repeat (first | (with_reducible first | exact Below.refl _ _ | apply below_alloc | apply pw_below_drewN | apply below_drew1) | exact Below.refl _ _)) hb2)))⟩ | exact ⟨(below_step (w := wc269) (by repeat (first | (with_reducible first | exact Below.refl _ _ | apply below_alloc | apply pw_below_drewN | apply below_drew1) | exact Below.refl _ _)) hb1), IW.at_ (blk_below BX276.out (below_step (w := wc269) (by repeat (first | (with_reducible first | exact Below.refl _ _ | apply below_alloc | apply pw_below_drewN | apply below_drew1) | exact Below.refl _ _)) hb1)), LW.at_ (blk_below BX274.out (below_step (w := wc269) (by repeat (first | (with_reducible first | exact Below.refl _ _ | apply below_alloc | apply pw_below_drewN | apply below_drew1) | exact Below.refl _ _)) hb1))⟩ | exact ⟨(by repeat (first | (with_reducible first | exact Below.refl _ _ | apply below_alloc | apply pw_below_drewN | apply below_drew1) | exact Below.refl _ _)), IW.at_ (blk_below BX276.out (by repeat (first | (with_reducible first | exact Below.refl _ _ | apply below_alloc | apply pw_below_drewN | apply below_drew1) | exact Below.refl _ _))), LW.at_ (blk_below BX274.out (by repeat (first | (with_reducible first | exact Below.refl _ _ | apply below_alloc | apply pw_below_drewN | apply below_drew1) | exact Below.refl _ _)))⟩)
          (first | (go_at_call 17; (refine (toWorld_c yb qb _ (HQb.out.below (below_step HB270.out (by repeat (first | (with_reducible first | exact Below.refl _ _ | apply below_alloc | apply pw_below_drewN | apply below_drew1) | exact Below.refl _ _)))) OKb.out).mono ?_); rintro e w1_ ⟨p_, rfl, hm, hb1⟩; rw [← HXEb.out] at hm ⊢) | (go_at_call 19; (refine (eqWorld_c xb p151 p_ _ ((HO272.out.rd).below (below_step (w := wc269) (by repeat (first | (with_reducible first | exact Below.refl _ _ | apply below_alloc | apply pw_below_drewN | apply below_drew1) | exact Below.refl _ _)) hb1)) (hm.rd.below (by repeat (first | (with_reducible first | exact Below.refl _ _ | apply below_alloc | apply pw_below_drewN | apply below_drew1) | exact Below.refl _ _))) OKXb.out).mono ?_); rintro e w2_ ⟨rfl, hb2⟩) | fail)
        all_goals (try go_wp2_with fail)
        all_goals go_meet
        all_goals exact ⟨rfl, below_step (below_step (below_step (w := wc269) (by repeat (first | (with_reducible first | exact Below.refl _ _ | apply below_alloc | apply pw_below_drewN | apply below_drew1) | exact Below.refl _ _)) hb1) (below_step (by repeat (first | (with_reducible first | exact Below.refl _ _ | apply below_alloc | apply pw_below_drewN | apply below_drew1) | exact Below.refl _ _)) hb2)) (by repeat (first | (with_reducible first | exact Below.refl _ _ | apply below_alloc | apply pw_below_drewN | apply below_drew1) | exact Below.refl _ _))⟩
      case rest =>
        obtain ⟨rfl, hbw⟩ := hcut
        obtain ⟨wc277, hw9⟩ : ∃ w9, w9 = wc := ⟨_, rfl⟩
        subst hw9
        have hs := hbw
        have HB278 := Aside0.mk (below_step HB270.out hs)
        clear HB270
        have HO279 := Aside0.mk (HO271.out.below hs); clear HO271
        have HO280 := Aside0.mk (HO272.out.below hs); clear HO272
        have BX281 := Aside0.mk (blk_below BX273.out hs); clear BX273
        have BX282 := Aside0.mk (blk_below BX274.out hs); clear BX274
        have BX283 := Aside0.mk (blk_below BX275.out hs); clear BX275
        have BX284 := Aside0.mk (blk_below BX276.out hs); clear BX276
        replace HS := Aside0.mk (And.intro HS.out (hs.size : wc269.heap.size ≤ wc277.heap.size))
        clear hs hbw
        go_wp2
        go_ret
        exact ⟨rfl, below_step HB278.out (by repeat (first | (with_reducible first | exact Below.refl _ _ | apply below_alloc | apply pw_below_drewN | apply below_drew1) | exact Below.refl _ _))⟩
theorem FnExactLooksAlike_calls (a0_0 : Int) (A0_1 : Option Addr) (c0_1 : Nat) (l0_1 : (List S153)) (A0_2 : Option Addr) (c0_2 : Nat) (l0_2 : (List Int)) (A0_3 : Option Addr) (c0_3 : Nat) (l0_3 : (List Int)) (A0_4 : Option Addr) (c0_4 : Nat) (l0_4 : (List S131)) (A0_5 : Option Addr) (c0_5 : Nat) (l0_5 : (List Int)) (A0_6 : Option Addr) (c0_6 : Nat) (l0_6 : (List Int)) (a0_7 : Int) (a0_8 : Int) (a0_9 : Int) (a0_10 : Int) (A0_11 : Option Addr) (c0_11 : Nat) (l0_11 : (List S135)) (a0_12 : Int) (a1_0 : Int) (A1_1 : Option Addr) (c1_1 : Nat) (l1_1 : (List S153)) (A1_2 : Option Addr) (c1_2 : Nat) (l1_2 : (List Int)) (A1_3 : Option Addr) (c1_3 : Nat) (l1_3 : (List Int)) (A1_4 : Option Addr) (c1_4 : Nat) (l1_4 : (List S131)) (A1_5 : Option Addr) (c1_5 : Nat) (l1_5 : (List Int)) (A1_6 : Option Addr) (c1_6 : Nat) (l1_6 : (List Int)) (a1_7 : Int) (a1_8 : Int) (a1_9 : Int) (a1_10 : Int) (A1_11 : Option Addr) (c1_11 : Nat) (l1_11 : (List S135)) (a1_12 : Int) (w : World) (hr0_1 : Kd.C k153 w A0_1 l0_1.length l0_1) (hc0_1 : l0_1.length ≤ c0_1) (hr0_2 : Kd.C (Kd.int .i64) w A0_2 l0_2.length l0_2) (hc0_2 : l0_2.length ≤ c0_2) (hr0_3 : Kd.C (Kd.int .i64) w A0_3 l0_3.length l0_3) (hc0_3 : l0_3.length ≤ c0_3) (hr0_4 : Kd.C k131 w A0_4 l0_4.length l0_4) (hc0_4 : l0_4.length ≤ c0_4) (hr0_5 : Kd.C (Kd.int .i64) w A0_5 l0_5.length l0_5) (hc0_5 : l0_5.length ≤ c0_5) (hr0_6 : Kd.C (Kd.int .i64) w A0_6 l0_6.length l0_6) (hc0_6 : l0_6.length ≤ c0_6) (hr0_11 : Kd.C k135 w A0_11 l0_11.length l0_11) (hc0_11 : l0_11.length ≤ c0_11) (hr1_1 : Kd.C k153 w A1_1 l1_1.length l1_1) (hc1_1 : l1_1.length ≤ c1_1) (hr1_2 : Kd.C (Kd.int .i64) w A1_2 l1_2.length l1_2) (hc1_2 : l1_2.length ≤ c1_2) (hr1_3 : Kd.C (Kd.int .i64) w A1_3 l1_3.length l1_3) (hc1_3 : l1_3.length ≤ c1_3) (hr1_4 : Kd.C k131 w A1_4 l1_4.length l1_4) (hc1_4 : l1_4.length ≤ c1_4) (hr1_5 : Kd.C (Kd.int .i64) w A1_5 l1_5.length l1_5) (hc1_5 : l1_5.length ≤ c1_5) (hr1_6 : Kd.C (Kd.int .i64) w A1_6 l1_6.length l1_6) (hc1_6 : l1_6.length ≤ c1_6) (hr1_11 : Kd.C k135 w A1_11 l1_11.length l1_11) (hc1_11 : l1_11.length ≤ c1_11) (g0_0 : (Lit.int .i64 a0_0).wf = true) (g0_1 : (l0_1.length ≤ 9223372036854775807 ∧ ∀ y0_ ∈ l0_1, Wf153 y0_)) (g0_2 : (l0_2.length ≤ 9223372036854775807 ∧ ∀ y0_ ∈ l0_2, (Lit.int .i64 y0_).wf = true)) (g0_3 : (l0_3.length ≤ 9223372036854775807 ∧ ∀ y0_ ∈ l0_3, (Lit.int .i64 y0_).wf = true)) (g0_4 : (l0_4.length ≤ 9223372036854775807 ∧ ∀ y0_ ∈ l0_4, Wf131 y0_)) (g0_5 : (l0_5.length ≤ 9223372036854775807 ∧ ∀ y0_ ∈ l0_5, (Lit.int .i64 y0_).wf = true)) (g0_6 : (l0_6.length ≤ 9223372036854775807 ∧ ∀ y0_ ∈ l0_6, (Lit.int .i64 y0_).wf = true)) (g0_7 : (Lit.int .i64 a0_7).wf = true) (g0_8 : (Lit.int .i64 a0_8).wf = true) (g0_9 : (Lit.int .i64 a0_9).wf = true) (g0_10 : (Lit.int .i64 a0_10).wf = true) (g0_11 : (l0_11.length ≤ 9223372036854775807 ∧ ∀ y0_ ∈ l0_11, Wf135 y0_)) (g0_12 : (Lit.int .i64 a0_12).wf = true) (g1_0 : (Lit.int .i64 a1_0).wf = true) (g1_1 : (l1_1.length ≤ 9223372036854775807 ∧ ∀ y0_ ∈ l1_1, Wf153 y0_)) (g1_2 : (l1_2.length ≤ 9223372036854775807 ∧ ∀ y0_ ∈ l1_2, (Lit.int .i64 y0_).wf = true)) (g1_3 : (l1_3.length ≤ 9223372036854775807 ∧ ∀ y0_ ∈ l1_3, (Lit.int .i64 y0_).wf = true)) (g1_4 : (l1_4.length ≤ 9223372036854775807 ∧ ∀ y0_ ∈ l1_4, Wf131 y0_)) (g1_5 : (l1_5.length ≤ 9223372036854775807 ∧ ∀ y0_ ∈ l1_5, (Lit.int .i64 y0_).wf = true)) (g1_6 : (l1_6.length ≤ 9223372036854775807 ∧ ∀ y0_ ∈ l1_6, (Lit.int .i64 y0_).wf = true)) (g1_7 : (Lit.int .i64 a1_7).wf = true) (g1_8 : (Lit.int .i64 a1_8).wf = true) (g1_9 : (Lit.int .i64 a1_9).wf = true) (g1_10 : (Lit.int .i64 a1_10).wf = true) (g1_11 : (l1_11.length ≤ 9223372036854775807 ∧ ∀ y0_ ∈ l1_11, Wf135 y0_)) (g1_12 : (Lit.int .i64 a1_12).wf = true) :
    Calls Try.prog 4 #[.agg #[.int .i64 a0_0, .slice A0_1 l0_1.length c0_1, .slice A0_2 l0_2.length c0_2, .slice A0_3 l0_3.length c0_3, .slice A0_4 l0_4.length c0_4, .slice A0_5 l0_5.length c0_5, .slice A0_6 l0_6.length c0_6, .int .i64 a0_7, .int .i64 a0_8, .int .i64 a0_9, .int .i64 a0_10, .slice A0_11 l0_11.length c0_11, .int .i64 a0_12], .agg #[.int .i64 a1_0, .slice A1_1 l1_1.length c1_1, .slice A1_2 l1_2.length c1_2, .slice A1_3 l1_3.length c1_3, .slice A1_4 l1_4.length c1_4, .slice A1_5 l1_5.length c1_5, .slice A1_6 l1_6.length c1_6, .int .i64 a1_7, .int .i64 a1_8, .int .i64 a1_9, .int .i64 a1_10, .slice A1_11 l1_11.length c1_11, .int .i64 a1_12]] w fun e w' => e = .returned (.bool true) ∧ Below w.heap.size w w' :=
  FnExactLooksAlike_calls' ⟨a0_0, l0_1, l0_2, l0_3, l0_4, l0_5, l0_6, a0_7, a0_8, a0_9, a0_10, l0_11, a0_12⟩ ⟨A0_1, c0_1, A0_2, c0_2, A0_3, c0_3, A0_4, c0_4, A0_5, c0_5, A0_6, c0_6, A0_11, c0_11⟩ ⟨a1_0, l1_1, l1_2, l1_3, l1_4, l1_5, l1_6, a1_7, a1_8, a1_9, a1_10, l1_11, a1_12⟩ ⟨A1_1, c1_1, A1_2, c1_2, A1_3, c1_3, A1_4, c1_4, A1_5, c1_5, A1_6, c1_6, A1_11, c1_11⟩ w ⟨hr1_1, hc1_1, hr1_2, hc1_2, hr1_3, hc1_3, hr1_4, hc1_4, hr1_5, hc1_5, hr1_6, hc1_6, hr1_11, hc1_11⟩ ⟨hr0_1, hc0_1, hr0_2, hc0_2, hr0_3, hc0_3, hr0_4, hc0_4, hr0_5, hc0_5, hr0_6, hc0_6, hr0_11, hc0_11⟩ g0_1.1 g0_2.1 g0_3.1 ⟨g0_4.1, fun p hp => (g0_4.2 p hp).2.2.1⟩ g0_5.1 g0_6.1 g0_11.1 g1_1.1 g1_2.1 g1_3.1 ⟨g1_4.1, fun p hp => (g1_4.2 p hp).2.2.1⟩ g1_5.1 g1_6.1 g1_11.1
end Go.Proofs.Ytkimiekgghfoiaa.Pure
