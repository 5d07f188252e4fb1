/- Lemmas: zw_FnExactEqualWorlds -/
import Derived.Test.YtkimiekgghfoiaaPFnExactEqualWorldsx0
import Derived.Test.YtkimiekgghfoiaaPFnExactEqualWorldsx1
import Derived.Test.YtkimiekgghfoiaaPFnExactEqualWorldsx2
import Derived.Test.YtkimiekgghfoiaaPFnExactEqualWorldsx3
import Derived.Test.YtkimiekgghfoiaaPFnExactEqualWorldsx4
import Derived.Test.YtkimiekgghfoiaaPFnExactEqualWorldsx5
import Derived.Test.YtkimiekgghfoiaaPFnExactEqualWorldsx6
import Derived.Test.YtkimiekgghfoiaaPFnExactEqualWorldsx7
import Derived.Test.YtkimiekgghfoiaaPFnExactEqualWorldsx8
import Derived.Test.YtkimiekgghfoiaaPFnExactEqualWorldsx9
import Derived.Test.YtkimiekgghfoiaaPFnExactEqualWorldsx10
import Derived.Test.YtkimiekgghfoiaaPFnExactEqualWorldsx11
import Derived.Test.YtkimiekgghfoiaaPFnExactEqualWorldsx12
import Derived.Test.YtkimiekgghfoiaaRFnExactEqualWorlds
import Derived.Test.YtkimiekgghfoiaaBase
namespace Go.Proofs.Ytkimiekgghfoiaa.Pure
open Go.RowKit Go.Proofs.Ytkimiekgghfoiaa.Base Go.Proofs.Ytkimiekgghfoiaa.PFnExactEqualWorlds Go.Proofs.YtkimiekgghfoiaaW.PrintWords Go.Proofs.YtkimiekgghfoiaaW.PrintLast Go.Proofs.YtkimiekgghfoiaaW.PrintMore
set_option linter.unusedVariables false
set_option linter.unusedSimpArgs false
/-! ### own -/
/-- A row that a call made: its blocks are those between the two worlds. -/
theorem S_fresh {α : Type} {d : Kd α} {e : Nat} {w w2 W w3 : World} {v : Value} {xs : List α} (h0 : Below w.heap.size w w2) (h1 : Below w2.heap.size w2 W) (ho : Kd.S d e w3 W.heap.size (fun _ => True) v xs) (hb : Below W.heap.size W w3) : Kd.S d e w3 w.heap.size (fun k => w2.heap.size ≤ k ∧ k < w3.heap.size) v xs :=
  Kd.S_lower (Kd.S_mono (Kd.S_bound ho) (fun k hk => ⟨Nat.le_trans h1.size hk.2.1, hk.2.2.1⟩)) (Nat.le_trans h0.size h1.size)
theorem R_fresh {α : Type} {d : Kd α} {e : Nat} {w w2 W w3 : World} {v : Value} {xs : List α} (h0 : Below w.heap.size w w2) (h1 : Below w2.heap.size w2 W) (ho : Kd.R d e w3 W.heap.size (fun _ => True) v xs) (hb : Below W.heap.size W w3) : Kd.R d e w3 w.heap.size (fun k => w2.heap.size ≤ k ∧ k < w3.heap.size) v xs :=
  Kd.R_lower (Kd.R_mono (Kd.R_bound ho) (fun k hk => ⟨Nat.le_trans h1.size hk.2.1, hk.2.2.1⟩)) (Nat.le_trans h0.size h1.size)
/-- A flat row that was written and comes back: its blocks are the same. -/
theorem R_tight' {α β : Type} {d : Kd α} {d' : Kd β} {e e' : Nat} {w w' : World} {b b' : Nat} {ok ok' : Nat → Prop} {v : Value} {xs : List α} {ys : List β} (hE : d.E = []) (h : Kd.R d e w b ok v xs) (h' : Kd.R d' e' w' b' ok' v ys) : Kd.R d e w b ok' v xs :=
  Kd.R_mono (Kd.R_tight hE h) (fun k hk => h'.1 k hk.symm)
theorem calls_cast {P : Program} {f : Nat} {args args' : Array Value} {w : World} {Q : Ending → World → Prop} (h : args = args') (hc : Calls P f args w Q) : Calls P f args' w Q := h ▸ hc
/-! ### szints -/
def leftI (l : List Int) (a : Int) : Int := if a - (l.length : Int) < 0 then -1 else a - (l.length : Int)
theorem szIntS_eq (l : List Int) (a : Int) (h0 : 0 ≤ a) (h1 : a ≤ 1048576) (hl : l.length ≤ 9223372036854775807) : laws_szIntS.f l a = some (leftI l a) := by
  unfold laws_szIntS.f leftI
  rw [w64 (by omega) (by omega)]
  split <;> rfl
/-! ### ints -/
theorem toIntS_l0 : ∀ (suf pre rest : List Int), (pre ++ suf).length ≤ 1048576 → rest.length = suf.length →
    Ev (fun k => laws_toIntS.l0 k (pre ++ suf) (pre ++ rest) (pre.length : Int)) (pre ++ suf) := by
  intro suf
  induction suf with
  | nil =>
    intro pre rest hb hr
    obtain rfl : rest = [] := by simpa using hr
    refine Ev.step (fun k => by rw [laws_toIntS.l0]) ?_
    exact evNeg (by simp) (Ev.now _)
  | cons x suf ih =>
    intro pre rest hb hr
    obtain ⟨r, rest, rfl⟩ : ∃ r t, rest = r :: t := by
      cases rest with
      | nil => simp at hr
      | cons r t => exact ⟨r, t, rfl⟩
    simp only [List.length_append, List.length_cons] at hb hr
    refine Ev.step (fun k => by rw [laws_toIntS.l0]) ?_
    refine evPos (by simp only [List.length_append, List.length_cons]; omega) (evPos (by omega) (evPos (by simp only [List.length_append, List.length_cons]; omega) ?_))
    rw [rd_mid, set_mid, wsucc (by omega)]
    have h := ih (pre ++ [x]) rest (by simp; omega) (by omega)
    simpa using h
theorem toIntS_ev (l : List Int) (hl : l.length ≤ 1048576) : Ev (fun k => laws_toIntS.f k l) l := by
  unfold laws_toIntS.f
  refine evPos (by omega) (evPos (by omega) ?_)
  have h := toIntS_l0 l [] (List.replicate l.length 0) (by simpa using hl) (by simp)
  simpa using h
theorem eqIntS_l0 : ∀ (suf pre : List Int), (pre ++ suf).length ≤ 1048576 →
    Ev (fun k => laws_eqIntS.l0 k (pre ++ suf) (pre ++ suf) (pre.length : Int)) true := by
  intro suf
  induction suf with
  | nil =>
    intro pre hb
    refine Ev.step (fun k => by rw [laws_eqIntS.l0]) ?_
    exact evNeg (by simp) (Ev.now _)
  | cons x suf ih =>
    intro pre hb
    simp only [List.length_append, List.length_cons] at hb
    refine Ev.step (fun k => by rw [laws_eqIntS.l0]) ?_
    refine evPos (by simp only [List.length_append, List.length_cons]; omega) (evPos (by omega) (evPos (by simp only [List.length_append, List.length_cons]; omega) (evPos rfl ?_)))
    rw [wsucc (by omega)]
    have h := ih (pre ++ [x]) (by simp; omega)
    simpa using h
theorem eqIntS_ev (l : List Int) (hl : l.length ≤ 1048576) : Ev (fun k => laws_eqIntS.f k l l) true := by
  unfold laws_eqIntS.f
  refine evPos rfl ?_
  have h := eqIntS_l0 l [] (by simpa using hl)
  simpa using h
/-! ### seens -/
def leftL {α : Type} (l : List α) (a : Int) : Int := if a - (l.length : Int) < 0 then -1 else a - (l.length : Int)
theorem szSeenS_eq (l : List S135) (a : Int) (h0 : 0 ≤ a) (h1 : a ≤ 1048576) (hl : l.length ≤ 9223372036854775807) : laws_szSeenS.f l a = some (leftL l a) := by
  unfold laws_szSeenS.f leftL
  rw [w64 (by omega) (by omega)]
  split <;> rfl
theorem leftL_ok {α : Type} {l : List α} (h : 0 ≤ leftL l 1048576) : l.length ≤ 1048576 := by
  unfold leftL at h
  split at h <;> omega
def cvSeen (x : S135) : S67 := ⟨x.f0, x.f1, x.f2, x.f3, x.f4⟩
theorem toSeenS_l0 : ∀ (suf pre : List S135) (rest : List S67), (pre ++ suf).length ≤ 1048576 → rest.length = suf.length →
    Ev (fun k => laws_toSeenS.l0 k (pre ++ suf) (pre.map cvSeen ++ rest) (pre.length : Int)) ((pre ++ suf).map cvSeen) := by
  intro suf
  induction suf with
  | nil =>
    intro pre rest hb hr
    obtain rfl : rest = [] := by simpa using hr
    refine Ev.step (fun k => by rw [laws_toSeenS.l0]) ?_
    refine evNeg (by simp) (evEq ?_ (Ev.now _))
    simp
  | cons x suf ih =>
    intro pre rest hb hr
    obtain ⟨r, rest, rfl⟩ : ∃ r t, rest = r :: t := by
      cases rest with
      | nil => simp at hr
      | cons r t => exact ⟨r, t, rfl⟩
    simp only [List.length_append, List.length_cons] at hb hr
    refine Ev.step (fun k => by rw [laws_toSeenS.l0]) ?_
    refine evPos (by simp only [List.length_append, List.length_cons]; omega) (evPos (by omega) ?_)
    simp only [rd_T135, getD_mid]
    refine evSome rfl (evPos (by simp only [List.length_append, List.length_cons, List.length_map]; omega) ?_)
    rw [wsucc (by omega)]
    have h := ih (pre ++ [x]) rest (by simp; omega) (by omega)
    refine evEq ?_ (Ev.congr (fun k => ?_) h)
    · simp
    · have e : (pre.length : Int) = ((pre.map cvSeen).length : Int) := by simp
      rw [e, set_mid]
      simp [cvSeen]
theorem toSeenS_ev (l : List S135) (hl : l.length ≤ 1048576) : Ev (fun k => laws_toSeenS.f k l) (l.map cvSeen) := by
  unfold laws_toSeenS.f
  refine evPos (by omega) (evPos (by omega) ?_)
  have h := toSeenS_l0 l [] (List.replicate l.length z67) (by simpa using hl) (by simp)
  simpa using h
theorem eqSeen_eq (x : S67) : laws_eqSeen.f x.f0 x.f1 x.f2 x.f3 x.f4 x.f0 x.f1 x.f2 x.f3 x.f4 = some true := by
  simp [laws_eqSeen.f]
theorem eqSeenS_l0 : ∀ (suf pre : List S67), (pre ++ suf).length ≤ 1048576 →
    Ev (fun k => laws_eqSeenS.l0 k (pre ++ suf) (pre ++ suf) (pre.length : Int)) true := by
  intro suf
  induction suf with
  | nil =>
    intro pre hb
    refine Ev.step (fun k => by rw [laws_eqSeenS.l0]) ?_
    exact evNeg (by simp) (Ev.now _)
  | cons x suf ih =>
    intro pre hb
    simp only [List.length_append, List.length_cons] at hb
    refine Ev.step (fun k => by rw [laws_eqSeenS.l0]) ?_
    refine evPos (by simp only [List.length_append, List.length_cons]; omega) (evPos (by omega) (evPos (by simp only [List.length_append, List.length_cons]; omega) ?_))
    simp only [rd_T67, getD_mid]
    refine evSome (eqSeen_eq x) (evPos rfl ?_)
    rw [wsucc (by omega)]
    have h := ih (pre ++ [x]) (by simp; omega)
    simpa using h
theorem eqSeenS_ev (l : List S67) (hl : l.length ≤ 1048576) : Ev (fun k => laws_eqSeenS.f k l l) true := by
  unfold laws_eqSeenS.f
  refine evPos rfl ?_
  have h := eqSeenS_l0 l [] (by simpa using hl)
  simpa using h
/-! ### world -/
def okP (l : List S131) : Prop := l.length ≤ 1048576 ∧ ∀ p ∈ l, p.f2.length ≤ 1048576
def cvLink (x : S153) : S87 := ⟨x.f0, x.f1⟩
def cvProbe (x : S131) : S97 := ⟨x.f0, x.f1, x.f2⟩
theorem szLinkS_eq (l : List S153) (a : Int) (h0 : 0 ≤ a) (h1 : a ≤ 1048576) (hl : l.length ≤ 9223372036854775807) : laws_szLinkS.f l a = some (leftL l a) := by
  unfold laws_szLinkS.f leftL
  rw [w64 (by omega) (by omega)]
  split <;> rfl
theorem leftL_neg {α : Type} {l : List α} {a : Int} (h : leftL l a < 0) : leftL l a = -1 := by
  unfold leftL at h ⊢
  split <;> omega
theorem leftL_le {α : Type} (l : List α) {a : Int} (h0 : 0 ≤ a) : leftL l a ≤ a := by
  unfold leftL
  split <;> omega
theorem leftL_ok' {α : Type} {l : List α} {a : Int} (ha : a ≤ 1048576) (h : 0 ≤ leftL l a) : l.length ≤ 1048576 := by
  unfold leftL at h
  split at h <;> omega
theorem leftI_eq (l : List Int) (a : Int) : leftI l a = leftL l a := rfl
theorem szNet_eq (n : Int) (l : List S153) (a : Int) (h0 : 0 ≤ a) (h1 : a ≤ 1048576) (hl : l.length ≤ 9223372036854775807) : laws_szNet.f n l a = some (leftL l a) := by
  unfold laws_szNet.f
  rw [szLinkS_eq l a h0 h1 hl, Option.bind_some]
  split
  · rename_i h
    rw [leftL_neg h]
  · rfl
theorem szProbe_eq (x y : Int) (l : List Int) (a : Int) (h0 : 0 ≤ a) (h1 : a ≤ 1048576) (hl : l.length ≤ 9223372036854775807) : laws_szProbe.f x y l a = some (leftL l a) := by
  unfold laws_szProbe.f
  rw [szIntS_eq l a h0 h1 hl, Option.bind_some, leftI_eq]
  split
  · rename_i h
    rw [leftL_neg h]
  · rfl
theorem szProbeS_l0 : ∀ (suf pre : List S131) (a : Int), (pre ++ suf).length ≤ 1048576 → 0 ≤ a → a ≤ 1048576 → (∀ p ∈ suf, p.f2.length ≤ 9223372036854775807) →
    ∃ r, Ev (fun k => laws_szProbeS.l0 k (pre ++ suf) a (pre.length : Int)) r ∧ r ≤ 1048576 ∧ (0 ≤ r → ∀ p ∈ suf, p.f2.length ≤ 1048576) := by
  intro suf
  induction suf with
  | nil =>
    intro pre a hb h0 h1 hr
    refine ⟨a, Ev.step (fun k => by rw [laws_szProbeS.l0]) (evNeg (by simp) (Ev.now _)), h1, by simp⟩
  | cons x suf ih =>
    intro pre a hb h0 h1 hr
    simp only [List.length_append, List.length_cons] at hb
    have hx := szProbe_eq x.f0 x.f1 x.f2 a h0 h1 (hr x (by simp))
    have hle := leftL_le x.f2 h0
    by_cases hn : leftL x.f2 a < 0
    · refine ⟨-1, Ev.step (fun k => by rw [laws_szProbeS.l0]) ?_, by omega, fun h => by omega⟩
      refine evPos (by simp only [List.length_append, List.length_cons]; omega) (evPos (by omega) ?_)
      simp only [rd_T131, getD_mid]
      exact evSome hx (evPos hn (Ev.now _))
    · obtain ⟨r, he, hr1, hr2⟩ := ih (pre ++ [x]) (leftL x.f2 a) (by simp; omega) (by omega) (by omega) (fun p h => hr p (by simp [h]))
      refine ⟨r, Ev.step (fun k => by rw [laws_szProbeS.l0]) ?_, hr1, fun h p hp => ?_⟩
      · refine evPos (by simp only [List.length_append, List.length_cons]; omega) (evPos (by omega) ?_)
        simp only [rd_T131, getD_mid]
        refine evSome hx (evNeg hn ?_)
        rw [wsucc (by omega)]
        simpa using he
      · rcases List.mem_cons.1 hp with rfl | hp
        · exact leftL_ok' h1 (by omega)
        · exact hr2 h p hp
theorem szProbeS_ev (l : List S131) (a : Int) (h0 : 0 ≤ a) (h1 : a ≤ 1048576) (hl : l.length ≤ 9223372036854775807) (hr : ∀ p ∈ l, p.f2.length ≤ 9223372036854775807) :
    ∃ r, Ev (fun k => laws_szProbeS.f k l a) r ∧ r ≤ 1048576 ∧ (0 ≤ r → okP l) := by
  by_cases h : a - (l.length : Int) < 0
  · refine ⟨-1, ?_, by omega, fun h => by omega⟩
    unfold laws_szProbeS.f
    rw [w64 (by omega) (by omega)]
    exact evPos h (Ev.now _)
  · obtain ⟨r, he, hr1, hr2⟩ := szProbeS_l0 l [] (a - (l.length : Int)) (by simp; omega) (by omega) (by omega) hr
    refine ⟨r, ?_, hr1, fun h2 => ⟨by omega, hr2 h2⟩⟩
    unfold laws_szProbeS.f
    rw [w64 (by omega) (by omega)]
    exact evNeg h he
def okW (lk : List S153) (de dn : List Int) (pr : List S131) (ow li : List Int) (se : List S135) : Prop :=
  lk.length ≤ 1048576 ∧ de.length ≤ 1048576 ∧ dn.length ≤ 1048576 ∧ okP pr ∧ ow.length ≤ 1048576 ∧ li.length ≤ 1048576 ∧ se.length ≤ 1048576
theorem toLinkS_l0 : ∀ (suf pre : List S153) (rest : List S87), (pre ++ suf).length ≤ 1048576 → rest.length = suf.length → 
    Ev (fun k => laws_toLinkS.l0 k (pre ++ suf) (pre.map cvLink ++ rest) (pre.length : Int)) ((pre ++ suf).map cvLink) := by
  intro suf
  induction suf with
  | nil =>
    intro pre rest hb hr
    obtain rfl : rest = [] := by simpa using hr
    refine Ev.step (fun k => by rw [laws_toLinkS.l0]) ?_
    refine evNeg (by simp) (evEq ?_ (Ev.now _))
    simp
  | cons x suf ih =>
    intro pre rest hb hr
    obtain ⟨r, rest, rfl⟩ : ∃ r t, rest = r :: t := by
      cases rest with
      | nil => simp at hr
      | cons r t => exact ⟨r, t, rfl⟩
    simp only [List.length_append, List.length_cons] at hb hr
    refine Ev.step (fun k => by rw [laws_toLinkS.l0]) ?_
    refine evPos (by simp only [List.length_append, List.length_cons]; omega) (evPos (by omega) ?_)
    simp only [rd_T153, getD_mid]
    refine evSome rfl (evPos (by simp only [List.length_append, List.length_cons, List.length_map]; omega) ?_)
    rw [wsucc (by omega)]
    have h := ih (pre ++ [x]) rest (by simp; omega) (by omega)
    refine evEq ?_ (Ev.congr (fun k => ?_) h)
    · simp
    · have e : (pre.length : Int) = ((pre.map cvLink).length : Int) := by simp
      rw [e, set_mid]
      simp [cvLink]
theorem toLinkS_ev (l : List S153) (hl : l.length ≤ 1048576) : Ev (fun k => laws_toLinkS.f k l) (l.map cvLink) := by
  unfold laws_toLinkS.f
  refine evPos (by omega) (evPos (by omega) ?_)
  have h := toLinkS_l0 l [] (List.replicate l.length z87) (by simpa using hl) (by simp)
  simpa using h
theorem toProbe_ev (x : S131) (h : x.f2.length ≤ 1048576) : Ev (fun k => laws_toProbe.f k x.f0 x.f1 x.f2) (x.f0, x.f1, x.f2) := by
  unfold laws_toProbe.f
  exact Ev.bind (toIntS_ev x.f2 h) (Ev.now _)
theorem toProbeS_l0 : ∀ (suf pre : List S131) (rest : List S97), (pre ++ suf).length ≤ 1048576 → rest.length = suf.length → (∀ p ∈ suf, p.f2.length ≤ 1048576) →
    Ev (fun k => laws_toProbeS.l0 k (pre ++ suf) (pre.map cvProbe ++ rest) (pre.length : Int)) ((pre ++ suf).map cvProbe) := by
  intro suf
  induction suf with
  | nil =>
    intro pre rest hb hr hq
    obtain rfl : rest = [] := by simpa using hr
    refine Ev.step (fun k => by rw [laws_toProbeS.l0]) ?_
    refine evNeg (by simp) (evEq ?_ (Ev.now _))
    simp
  | cons x suf ih =>
    intro pre rest hb hr hq
    obtain ⟨r, rest, rfl⟩ : ∃ r t, rest = r :: t := by
      cases rest with
      | nil => simp at hr
      | cons r t => exact ⟨r, t, rfl⟩
    simp only [List.length_append, List.length_cons] at hb hr
    refine Ev.step (fun k => by rw [laws_toProbeS.l0]) ?_
    refine evPos (by simp only [List.length_append, List.length_cons]; omega) (evPos (by omega) ?_)
    simp only [rd_T131, getD_mid]
    refine Ev.bind (toProbe_ev x (hq x (by simp))) (evPos (by simp only [List.length_append, List.length_cons, List.length_map]; omega) ?_)
    rw [wsucc (by omega)]
    have h := ih (pre ++ [x]) rest (by simp; omega) (by omega) (fun p h => hq p (by simp [h]))
    refine evEq ?_ (Ev.congr (fun k => ?_) h)
    · simp
    · have e : (pre.length : Int) = ((pre.map cvProbe).length : Int) := by simp
      rw [e, set_mid]
      simp [cvProbe]
theorem toProbeS_ev (l : List S131) (hl : okP l) : Ev (fun k => laws_toProbeS.f k l) (l.map cvProbe) := by
  have hl1 := hl.1
  unfold laws_toProbeS.f
  refine evPos (by omega) (evPos (by omega) ?_)
  have h := toProbeS_l0 l [] (List.replicate l.length z97) (by simpa using hl.1) (by simp) hl.2
  simpa using h
theorem eqLink_eq (x : S87) : laws_eqLink.f x.f0 x.f1 x.f0 x.f1 = some true := by
  simp [laws_eqLink.f]
theorem eqLinkS_l0 : ∀ (suf pre : List S87), (pre ++ suf).length ≤ 1048576 → 
    Ev (fun k => laws_eqLinkS.l0 k (pre ++ suf) (pre ++ suf) (pre.length : Int)) true := by
  intro suf
  induction suf with
  | nil =>
    intro pre hb
    refine Ev.step (fun k => by rw [laws_eqLinkS.l0]) ?_
    exact evNeg (by simp) (Ev.now _)
  | cons x suf ih =>
    intro pre hb
    simp only [List.length_append, List.length_cons] at hb
    refine Ev.step (fun k => by rw [laws_eqLinkS.l0]) ?_
    refine evPos (by simp only [List.length_append, List.length_cons]; omega) (evPos (by omega) (evPos (by simp only [List.length_append, List.length_cons]; omega) ?_))
    simp only [rd_T87, getD_mid]
    refine evSome (eqLink_eq x) (evPos rfl ?_)
    rw [wsucc (by omega)]
    have h := ih (pre ++ [x]) (by simp; omega)
    simpa using h
theorem eqLinkS_ev (l : List S87) (hl : l.length ≤ 1048576) : Ev (fun k => laws_eqLinkS.f k l l) true := by
  unfold laws_eqLinkS.f
  refine evPos rfl ?_
  have h := eqLinkS_l0 l [] (by simpa using hl)
  simpa using h
def okP' (l : List S97) : Prop := l.length ≤ 1048576 ∧ ∀ p ∈ l, p.f2.length ≤ 1048576
theorem eqProbe_ev (x : S97) (h : x.f2.length ≤ 1048576) : Ev (fun k => laws_eqProbe.f k x.f0 x.f1 x.f2 x.f0 x.f1 x.f2) true := by
  unfold laws_eqProbe.f
  exact evPos rfl (evPos rfl (Ev.bind (eqIntS_ev x.f2 h) (evPos rfl (Ev.now _))))
theorem eqProbeS_l0 : ∀ (suf pre : List S97), (pre ++ suf).length ≤ 1048576 → (∀ p ∈ suf, p.f2.length ≤ 1048576) →
    Ev (fun k => laws_eqProbeS.l0 k (pre ++ suf) (pre ++ suf) (pre.length : Int)) true := by
  intro suf
  induction suf with
  | nil =>
    intro pre hb hq
    refine Ev.step (fun k => by rw [laws_eqProbeS.l0]) ?_
    exact evNeg (by simp) (Ev.now _)
  | cons x suf ih =>
    intro pre hb hq
    simp only [List.length_append, List.length_cons] at hb
    refine Ev.step (fun k => by rw [laws_eqProbeS.l0]) ?_
    refine evPos (by simp only [List.length_append, List.length_cons]; omega) (evPos (by omega) (evPos (by simp only [List.length_append, List.length_cons]; omega) ?_))
    simp only [rd_T97, getD_mid]
    refine Ev.bind (eqProbe_ev x (hq x (by simp))) (evPos rfl ?_)
    rw [wsucc (by omega)]
    have h := ih (pre ++ [x]) (by simp; omega) (fun p h => hq p (by simp [h]))
    simpa using h
theorem eqProbeS_ev (l : List S97) (hl : okP' l) : Ev (fun k => laws_eqProbeS.f k l l) true := by
  unfold laws_eqProbeS.f
  refine evPos rfl ?_
  have h := eqProbeS_l0 l [] (by simpa using hl.1) hl.2
  simpa using h
def okW' (lk : List S87) (de dn : List Int) (pr : List S97) (ow li : List Int) (se : List S67) : Prop :=
  lk.length ≤ 1048576 ∧ de.length ≤ 1048576 ∧ dn.length ≤ 1048576 ∧ okP' pr ∧ ow.length ≤ 1048576 ∧ li.length ≤ 1048576 ∧ se.length ≤ 1048576
theorem okW_cv {lk : List S153} {de dn : List Int} {pr : List S131} {ow li : List Int} {se : List S135} (h : okW lk de dn pr ow li se) :
    okW' (lk.map cvLink) de dn (pr.map cvProbe) ow li (se.map cvSeen) := by
  obtain ⟨h1, h2, h3, h4, h5, h6, h7⟩ := h
  refine ⟨by simpa using h1, h2, h3, ⟨by simpa using h4.1, fun p hp => ?_⟩, h5, h6, by simpa using h7⟩
  obtain ⟨q, hq, rfl⟩ := List.mem_map.1 hp
  exact h4.2 q hq
theorem eqBucket_eq (a b c d : Int) : laws_eqBucket.f a b c d a b c d = some true := by
  simp [laws_eqBucket.f]
theorem eqNet_ev (nd : Int) (lk : List S87) (h : lk.length ≤ 1048576) : Ev (fun k => laws_eqNet.f k nd lk nd lk) true := by
  unfold laws_eqNet.f
  exact evPos rfl (Ev.bind (eqLinkS_ev lk h) (evPos rfl (Ev.now _)))
/-! ### wkit -/
/-- A world's data (impl.World). -/
structure IW where
  d0 : Int
  l1 : List S87
  l2 : List Int
  l3 : List Int
  l4 : List S97
  l5 : List Int
  l6 : List Int
  d7 : Int
  d8 : Int
  d9 : Int
  d10 : Int
  l11 : List S67
  d12 : Int
/-- Where its rows lie. -/
structure IP where
  A1 : Option Addr
  c1 : Nat
  A2 : Option Addr
  c2 : Nat
  A3 : Option Addr
  c3 : Nat
  A4 : Option Addr
  c4 : Nat
  A5 : Option Addr
  c5 : Nat
  A6 : Option Addr
  c6 : Nat
  A11 : Option Addr
  c11 : Nat
abbrev IW.cells (x : IW) (p : IP) : Array Value := #[.int .i64 x.d0, .slice p.A1 x.l1.length p.c1, .slice p.A2 x.l2.length p.c2, .slice p.A3 x.l3.length p.c3, .slice p.A4 x.l4.length p.c4, .slice p.A5 x.l5.length p.c5, .slice p.A6 x.l6.length p.c6, .int .i64 x.d7, .int .i64 x.d8, .int .i64 x.d9, .int .i64 x.d10, .slice p.A11 x.l11.length p.c11, .int .i64 x.d12]
structure IW.Rd (x : IW) (p : IP) (w : World) : Prop where
  r1 : Kd.C k87 w p.A1 x.l1.length x.l1
  h1 : x.l1.length ≤ p.c1
  r2 : Kd.C (Kd.int .i64) w p.A2 x.l2.length x.l2
  h2 : x.l2.length ≤ p.c2
  r3 : Kd.C (Kd.int .i64) w p.A3 x.l3.length x.l3
  h3 : x.l3.length ≤ p.c3
  r4 : Kd.C k97 w p.A4 x.l4.length x.l4
  h4 : x.l4.length ≤ p.c4
  r5 : Kd.C (Kd.int .i64) w p.A5 x.l5.length x.l5
  h5 : x.l5.length ≤ p.c5
  r6 : Kd.C (Kd.int .i64) w p.A6 x.l6.length x.l6
  h6 : x.l6.length ≤ p.c6
  r11 : Kd.C k67 w p.A11 x.l11.length x.l11
  h11 : x.l11.length ≤ p.c11
theorem IW.Rd.below {x : IW} {p : IP} {w w1 : World} (h : x.Rd p w) (hb : Below w.heap.size w w1) : x.Rd p w1 := ⟨Kd.C_below h.r1 hb, h.h1, Kd.C_below h.r2 hb, h.h2, Kd.C_below h.r3 hb, h.h3, Kd.C_below h.r4 hb, h.h4, Kd.C_below h.r5 hb, h.h5, Kd.C_below h.r6 hb, h.h6, Kd.C_below h.r11 hb, h.h11⟩
theorem IW.at_ {x : IW} {p : IP} {w : World} {g t : Nat} (h : w.heap[g]? = some (.cells (x.cells p) t (0, 0))) : w.cell? ⟨g, 0, none⟩ = some (.int .i64 x.d0) ∧ w.cell? ⟨g, 1, none⟩ = some (.slice p.A1 x.l1.length p.c1) ∧ w.cell? ⟨g, 2, none⟩ = some (.slice p.A2 x.l2.length p.c2) ∧ w.cell? ⟨g, 3, none⟩ = some (.slice p.A3 x.l3.length p.c3) ∧ w.cell? ⟨g, 4, none⟩ = some (.slice p.A4 x.l4.length p.c4) ∧ w.cell? ⟨g, 5, none⟩ = some (.slice p.A5 x.l5.length p.c5) ∧ w.cell? ⟨g, 6, none⟩ = some (.slice p.A6 x.l6.length p.c6) ∧ w.cell? ⟨g, 7, none⟩ = some (.int .i64 x.d7) ∧ w.cell? ⟨g, 8, none⟩ = some (.int .i64 x.d8) ∧ w.cell? ⟨g, 9, none⟩ = some (.int .i64 x.d9) ∧ w.cell? ⟨g, 10, none⟩ = some (.int .i64 x.d10) ∧ w.cell? ⟨g, 11, none⟩ = some (.slice p.A11 x.l11.length p.c11) ∧ w.cell? ⟨g, 12, none⟩ = some (.int .i64 x.d12) := ⟨(blk_cell h 0).trans rfl, (blk_cell h 1).trans rfl, (blk_cell h 2).trans rfl, (blk_cell h 3).trans rfl, (blk_cell h 4).trans rfl, (blk_cell h 5).trans rfl, (blk_cell h 6).trans rfl, (blk_cell h 7).trans rfl, (blk_cell h 8).trans rfl, (blk_cell h 9).trans rfl, (blk_cell h 10).trans rfl, (blk_cell h 11).trans rfl, (blk_cell h 12).trans rfl⟩
structure IW.Md (x : IW) (p : IP) (w : World) (base : Nat) (ok : Nat → Prop) : Prop where
  m1 : Kd.R k87 87 w base (fun k_ => ok k_) (.slice p.A1 x.l1.length p.c1) x.l1
  m2 : Kd.R (Kd.int .i64) 3 w base (fun k_ => ok k_ ∧ some k_ ≠ (.slice p.A3 x.l3.length p.c3 : Value).ownBlock ∧ some k_ ≠ (.slice p.A5 x.l5.length p.c5 : Value).ownBlock ∧ some k_ ≠ (.slice p.A6 x.l6.length p.c6 : Value).ownBlock) (.slice p.A2 x.l2.length p.c2) x.l2
  m3 : Kd.R (Kd.int .i64) 3 w base (fun k_ => ok k_ ∧ some k_ ≠ (.slice p.A2 x.l2.length p.c2 : Value).ownBlock ∧ some k_ ≠ (.slice p.A5 x.l5.length p.c5 : Value).ownBlock ∧ some k_ ≠ (.slice p.A6 x.l6.length p.c6 : Value).ownBlock) (.slice p.A3 x.l3.length p.c3) x.l3
  m4 : Kd.S k97 97 w base (fun k_ => ok k_ ∧ some k_ ≠ (.slice p.A2 x.l2.length p.c2 : Value).ownBlock ∧ some k_ ≠ (.slice p.A3 x.l3.length p.c3 : Value).ownBlock ∧ some k_ ≠ (.slice p.A5 x.l5.length p.c5 : Value).ownBlock ∧ some k_ ≠ (.slice p.A6 x.l6.length p.c6 : Value).ownBlock) (.slice p.A4 x.l4.length p.c4) x.l4
  m5 : Kd.R (Kd.int .i64) 3 w base (fun k_ => ok k_ ∧ some k_ ≠ (.slice p.A2 x.l2.length p.c2 : Value).ownBlock ∧ some k_ ≠ (.slice p.A3 x.l3.length p.c3 : Value).ownBlock ∧ some k_ ≠ (.slice p.A6 x.l6.length p.c6 : Value).ownBlock) (.slice p.A5 x.l5.length p.c5) x.l5
  m6 : Kd.R (Kd.int .i64) 3 w base (fun k_ => ok k_ ∧ some k_ ≠ (.slice p.A2 x.l2.length p.c2 : Value).ownBlock ∧ some k_ ≠ (.slice p.A3 x.l3.length p.c3 : Value).ownBlock ∧ some k_ ≠ (.slice p.A5 x.l5.length p.c5 : Value).ownBlock) (.slice p.A6 x.l6.length p.c6) x.l6
  m11 : Kd.R k67 67 w base (fun k_ => ok k_) (.slice p.A11 x.l11.length p.c11) x.l11
theorem IW.Md.rd {x : IW} {p : IP} {w : World} {base : Nat} {ok : Nat → Prop} (h : x.Md p w base ok) : x.Rd p w := ⟨(Kd.R_reads' h.m1).2.2, (Kd.R_reads' h.m1).2.1, (Kd.R_reads' h.m2).2.2, (Kd.R_reads' h.m2).2.1, (Kd.R_reads' h.m3).2.2, (Kd.R_reads' h.m3).2.1, (Kd.S_reads' h.m4).2.2, (Kd.S_reads' h.m4).2.1, (Kd.R_reads' h.m5).2.2, (Kd.R_reads' h.m5).2.1, (Kd.R_reads' h.m6).2.2, (Kd.R_reads' h.m6).2.1, (Kd.R_reads' h.m11).2.2, (Kd.R_reads' h.m11).2.1⟩
theorem IW.Md.step {x : IW} {p : IP} {w w1 : World} {base : Nat} {ok : Nat → Prop} (h : x.Md p w base ok) (hm : ∀ k, ok k → k < w.heap.size → w1.heap[k]? = w.heap[k]?) : x.Md p w1 base ok := ⟨Kd.R_step h.m1 (fun k hk hl => hm k hk hl), Kd.R_step h.m2 (fun k hk hl => hm k hk.1 hl), Kd.R_step h.m3 (fun k hk hl => hm k hk.1 hl), Kd.S_step h.m4 (fun k hk hl => hm k hk.1 hl), Kd.R_step h.m5 (fun k hk hl => hm k hk.1 hl), Kd.R_step h.m6 (fun k hk hl => hm k hk.1 hl), Kd.R_step h.m11 (fun k hk hl => hm k hk hl)⟩
theorem IW.Md.below {x : IW} {p : IP} {w w1 : World} {base : Nat} {ok : Nat → Prop} (h : x.Md p w base ok) (hb : Below w.heap.size w w1) : x.Md p w1 base ok := h.step (fun k _ hl => hb.block k hl)
theorem IW.Md.kept {x : IW} {p : IP} {w w1 : World} {base : Nat} {ok S : Nat → Prop} (h : x.Md p w base ok) (hk : Kept w w1 S) (hne : ∀ k, ok k → ¬ S k) : x.Md p w1 base ok := h.step (fun k ho hl => hk.2 k hl (hne k ho))
theorem IW.Md.lower {x : IW} {p : IP} {w : World} {base base' : Nat} {ok : Nat → Prop} (h : x.Md p w base ok) (hb : base' ≤ base) : x.Md p w base' ok := ⟨Kd.R_lower h.m1 hb, Kd.R_lower h.m2 hb, Kd.R_lower h.m3 hb, Kd.S_lower h.m4 hb, Kd.R_lower h.m5 hb, Kd.R_lower h.m6 hb, Kd.R_lower h.m11 hb⟩
theorem IW.Md.mono {x : IW} {p : IP} {w : World} {base : Nat} {ok ok' : Nat → Prop} (h : x.Md p w base ok) (hok : ∀ k, ok k → ok' k) : x.Md p w base ok' := ⟨Kd.R_mono h.m1 (fun k hk => hok k hk), Kd.R_mono h.m2 (fun k hk => ⟨hok k hk.1, hk.2⟩), Kd.R_mono h.m3 (fun k hk => ⟨hok k hk.1, hk.2⟩), Kd.S_mono h.m4 (fun k hk => ⟨hok k hk.1, hk.2⟩), Kd.R_mono h.m5 (fun k hk => ⟨hok k hk.1, hk.2⟩), Kd.R_mono h.m6 (fun k hk => ⟨hok k hk.1, hk.2⟩), Kd.R_mono h.m11 (fun k hk => hok k hk)⟩
/-- A world's data (laws.World). -/
structure LW where
  d0 : Int
  l1 : List S153
  l2 : List Int
  l3 : List Int
  l4 : List S131
  l5 : List Int
  l6 : List Int
  d7 : Int
  d8 : Int
  d9 : Int
  d10 : Int
  l11 : List S135
  d12 : Int
/-- Where its rows lie. -/
structure LP where
  A1 : Option Addr
  c1 : Nat
  A2 : Option Addr
  c2 : Nat
  A3 : Option Addr
  c3 : Nat
  A4 : Option Addr
  c4 : Nat
  A5 : Option Addr
  c5 : Nat
  A6 : Option Addr
  c6 : Nat
  A11 : Option Addr
  c11 : Nat
abbrev LW.cells (x : LW) (p : LP) : Array Value := #[.int .i64 x.d0, .slice p.A1 x.l1.length p.c1, .slice p.A2 x.l2.length p.c2, .slice p.A3 x.l3.length p.c3, .slice p.A4 x.l4.length p.c4, .slice p.A5 x.l5.length p.c5, .slice p.A6 x.l6.length p.c6, .int .i64 x.d7, .int .i64 x.d8, .int .i64 x.d9, .int .i64 x.d10, .slice p.A11 x.l11.length p.c11, .int .i64 x.d12]
structure LW.Rd (x : LW) (p : LP) (w : World) : Prop where
  r1 : Kd.C k153 w p.A1 x.l1.length x.l1
  h1 : x.l1.length ≤ p.c1
  r2 : Kd.C (Kd.int .i64) w p.A2 x.l2.length x.l2
  h2 : x.l2.length ≤ p.c2
  r3 : Kd.C (Kd.int .i64) w p.A3 x.l3.length x.l3
  h3 : x.l3.length ≤ p.c3
  r4 : Kd.C k131 w p.A4 x.l4.length x.l4
  h4 : x.l4.length ≤ p.c4
  r5 : Kd.C (Kd.int .i64) w p.A5 x.l5.length x.l5
  h5 : x.l5.length ≤ p.c5
  r6 : Kd.C (Kd.int .i64) w p.A6 x.l6.length x.l6
  h6 : x.l6.length ≤ p.c6
  r11 : Kd.C k135 w p.A11 x.l11.length x.l11
  h11 : x.l11.length ≤ p.c11
theorem LW.Rd.below {x : LW} {p : LP} {w w1 : World} (h : x.Rd p w) (hb : Below w.heap.size w w1) : x.Rd p w1 := ⟨Kd.C_below h.r1 hb, h.h1, Kd.C_below h.r2 hb, h.h2, Kd.C_below h.r3 hb, h.h3, Kd.C_below h.r4 hb, h.h4, Kd.C_below h.r5 hb, h.h5, Kd.C_below h.r6 hb, h.h6, Kd.C_below h.r11 hb, h.h11⟩
theorem LW.at_ {x : LW} {p : LP} {w : World} {g t : Nat} (h : w.heap[g]? = some (.cells (x.cells p) t (0, 0))) : w.cell? ⟨g, 0, none⟩ = some (.int .i64 x.d0) ∧ w.cell? ⟨g, 1, none⟩ = some (.slice p.A1 x.l1.length p.c1) ∧ w.cell? ⟨g, 2, none⟩ = some (.slice p.A2 x.l2.length p.c2) ∧ w.cell? ⟨g, 3, none⟩ = some (.slice p.A3 x.l3.length p.c3) ∧ w.cell? ⟨g, 4, none⟩ = some (.slice p.A4 x.l4.length p.c4) ∧ w.cell? ⟨g, 5, none⟩ = some (.slice p.A5 x.l5.length p.c5) ∧ w.cell? ⟨g, 6, none⟩ = some (.slice p.A6 x.l6.length p.c6) ∧ w.cell? ⟨g, 7, none⟩ = some (.int .i64 x.d7) ∧ w.cell? ⟨g, 8, none⟩ = some (.int .i64 x.d8) ∧ w.cell? ⟨g, 9, none⟩ = some (.int .i64 x.d9) ∧ w.cell? ⟨g, 10, none⟩ = some (.int .i64 x.d10) ∧ w.cell? ⟨g, 11, none⟩ = some (.slice p.A11 x.l11.length p.c11) ∧ w.cell? ⟨g, 12, none⟩ = some (.int .i64 x.d12) := ⟨(blk_cell h 0).trans rfl, (blk_cell h 1).trans rfl, (blk_cell h 2).trans rfl, (blk_cell h 3).trans rfl, (blk_cell h 4).trans rfl, (blk_cell h 5).trans rfl, (blk_cell h 6).trans rfl, (blk_cell h 7).trans rfl, (blk_cell h 8).trans rfl, (blk_cell h 9).trans rfl, (blk_cell h 10).trans rfl, (blk_cell h 11).trans rfl, (blk_cell h 12).trans rfl⟩
def cvW (y : LW) : IW := ⟨y.d0, y.l1.map cvLink, y.l2, y.l3, y.l4.map cvProbe, y.l5, y.l6, y.d7, y.d8, y.d9, y.d10, y.l11.map cvSeen, y.d12⟩
def LW.Ok (y : LW) : Prop := okW y.l1 y.l2 y.l3 y.l4 y.l5 y.l6 y.l11
def IW.Ok (x : IW) : Prop := okW' x.l1 x.l2 x.l3 x.l4 x.l5 x.l6 x.l11
theorem cvW_ok {y : LW} (h : y.Ok) : (cvW y).Ok := okW_cv h
/-! ### weq -/
set_option maxHeartbeats 4000000 in
set_option maxRecDepth 100000 in
theorem eqWorld_c (x : IW) (p q : IP) (w : World) (hp : x.Rd p w) (hq : x.Rd q w) (ho : x.Ok) :
    Calls Try.prog 19 #[.agg (x.cells p), .agg (x.cells q)] w fun e w' => e = .returned (.bool true) ∧ Below w.heap.size w w' := by
  have hu := Try.underlying41
  have hu2 := Try.underlying36
  have hu3 := Try.underlying38
  obtain ⟨k1, hk⟩ := (eqNet_ev x.d0 x.l1 ho.1).rounds
  have K1 := Aside0.mk hk
  clear hk
  obtain ⟨k2, hk⟩ := (eqIntS_ev x.l2 ho.2.1).rounds
  have K2 := Aside0.mk hk
  clear hk
  obtain ⟨k3, hk⟩ := (eqIntS_ev x.l3 ho.2.2.1).rounds
  have K3 := Aside0.mk hk
  clear hk
  obtain ⟨k4, hk⟩ := (eqProbeS_ev x.l4 ho.2.2.2.1).rounds
  have K4 := Aside0.mk hk
  clear hk
  obtain ⟨k5, hk⟩ := (eqIntS_ev x.l5 ho.2.2.2.2.1).rounds
  have K5 := Aside0.mk hk
  clear hk
  obtain ⟨k6, hk⟩ := (eqIntS_ev x.l6 ho.2.2.2.2.2.1).rounds
  have K6 := Aside0.mk hk
  clear hk
  obtain ⟨k11, hk⟩ := (eqSeenS_ev x.l11 ho.2.2.2.2.2.2).rounds
  have K11 := Aside0.mk hk
  clear hk
  have HP := Aside0.mk hp
  have HQ := Aside0.mk hq
  clear hp hq ho
  go_enter Try.func19, Try.ntmps19
  go_wp2_with fail
  go_at_call 81; (with_reducible refine (laws_eqNet.calls k1 x.d0 p.A1 p.c1 x.l1 x.d0 q.A1 q.c1 x.l1 true _ ?s0 HP.out.h1 ?s1 HQ.out.h1 K1.out ⟨rfl⟩).mono ?_); (case s0 => exact (HP.out.below (by repeat (first | (with_reducible first | exact Below.refl _ _ | apply below_alloc | apply pw_below_drewN | apply below_drew1) | exact Below.refl _ _))).r1); (case s1 => exact (HQ.out.below (by repeat (first | (with_reducible first | exact Below.refl _ _ | apply below_alloc | apply pw_below_drewN | apply below_drew1) | exact Below.refl _ _))).r1); rintro e w1 ⟨rfl, hb⟩
  have HB := Aside0.mk (below_step (w := w) (by repeat (first | (with_reducible first | exact Below.refl _ _ | apply below_alloc | apply pw_below_drewN | apply below_drew1) | exact Below.refl _ _)) hb)
  have BP := Aside0.mk (show w1.heap[w.heap.size]? = some (.cells (x.cells p) 41 (0, 0)) from blk_below (by repeat (first | exact blk_new _ _ | refine blk_drewN ?_ _ | refine blk_alloc ?_ _)) hb)
  have BQ := Aside0.mk (show w1.heap[w.heap.size + 1]? = some (.cells (x.cells q) 41 (0, 0)) from blk_below (by have h_ := blk_new (w.alloc (.cells (x.cells p) 41)) (.cells (x.cells q) 41); simpa using h_) hb)
  clear hb
  obtain ⟨hp0, hp1, hp2, hp3, hp4, hp5, hp6, hp7, hp8, hp9, hp10, hp11, hp12⟩ := IW.at_ BP.out
  obtain ⟨hq0, hq1, hq2, hq3, hq4, hq5, hq6, hq7, hq8, hq9, hq10, hq11, hq12⟩ := IW.at_ BQ.out
  go_wp2_with fail
  go_at_call 25; (with_reducible refine (laws_eqIntS.calls k2 p.A2 p.c2 x.l2 q.A2 q.c2 x.l2 true _ ?s0 HP.out.h2 ?s1 HQ.out.h2 K2.out ⟨rfl⟩).mono ?_); (case s0 => exact (HP.out.below (below_step HB.out (by repeat (first | (with_reducible first | exact Below.refl _ _ | apply below_alloc | apply pw_below_drewN | apply below_drew1) | exact Below.refl _ _)))).r2); (case s1 => exact (HQ.out.below (below_step HB.out (by repeat (first | (with_reducible first | exact Below.refl _ _ | apply below_alloc | apply pw_below_drewN | apply below_drew1) | exact Below.refl _ _)))).r2); rintro e w' ⟨rfl, ⟨nd, rfl⟩⟩
  clear hp0 hp1 hp2 hp3 hp4 hp5 hp6 hp7 hp8 hp9 hp10 hp11 hp12 hq0 hq1 hq2 hq3 hq4 hq5 hq6 hq7 hq8 hq9 hq10 hq11 hq12
  obtain ⟨hp0, hp1, hp2, hp3, hp4, hp5, hp6, hp7, hp8, hp9, hp10, hp11, hp12⟩ := IW.at_ BP.out
  obtain ⟨hq0, hq1, hq2, hq3, hq4, hq5, hq6, hq7, hq8, hq9, hq10, hq11, hq12⟩ := IW.at_ BQ.out
  go_wp2_with fail
  go_at_call 25; (with_reducible refine (laws_eqIntS.calls k3 p.A3 p.c3 x.l3 q.A3 q.c3 x.l3 true _ ?s0 HP.out.h3 ?s1 HQ.out.h3 K3.out ⟨rfl⟩).mono ?_); (case s0 => exact (HP.out.below (below_step HB.out (by repeat (first | (with_reducible first | exact Below.refl _ _ | apply below_alloc | apply pw_below_drewN | apply below_drew1) | exact Below.refl _ _)))).r3); (case s1 => exact (HQ.out.below (below_step HB.out (by repeat (first | (with_reducible first | exact Below.refl _ _ | apply below_alloc | apply pw_below_drewN | apply below_drew1) | exact Below.refl _ _)))).r3); rintro e w' ⟨rfl, ⟨nd, rfl⟩⟩
  clear hp0 hp1 hp2 hp3 hp4 hp5 hp6 hp7 hp8 hp9 hp10 hp11 hp12 hq0 hq1 hq2 hq3 hq4 hq5 hq6 hq7 hq8 hq9 hq10 hq11 hq12
  obtain ⟨hp0, hp1, hp2, hp3, hp4, hp5, hp6, hp7, hp8, hp9, hp10, hp11, hp12⟩ := IW.at_ BP.out
  obtain ⟨hq0, hq1, hq2, hq3, hq4, hq5, hq6, hq7, hq8, hq9, hq10, hq11, hq12⟩ := IW.at_ BQ.out
  go_wp2_with fail
  go_at_call 82; (with_reducible refine (laws_eqProbeS.calls k4 p.A4 p.c4 x.l4 q.A4 q.c4 x.l4 true _ ?s0 HP.out.h4 ?s1 HQ.out.h4 K4.out ⟨rfl⟩).mono ?_); (case s0 => exact (HP.out.below (below_step HB.out (by repeat (first | (with_reducible first | exact Below.refl _ _ | apply below_alloc | apply pw_below_drewN | apply below_drew1) | exact Below.refl _ _)))).r4); (case s1 => exact (HQ.out.below (below_step HB.out (by repeat (first | (with_reducible first | exact Below.refl _ _ | apply below_alloc | apply pw_below_drewN | apply below_drew1) | exact Below.refl _ _)))).r4); rintro e w4 ⟨rfl, hb⟩
  have hs := below_step (w := w1) (by repeat (first | (with_reducible first | exact Below.refl _ _ | apply below_alloc | apply pw_below_drewN | apply below_drew1) | exact Below.refl _ _)) hb
  have HB2 := Aside0.mk (below_step HB.out hs)
  have BP2 := Aside0.mk (blk_below BP.out hs)
  have BQ2 := Aside0.mk (blk_below BQ.out hs)
  clear HB BP BQ hb hs hp0 hp1 hp2 hp3 hp4 hp5 hp6 hp7 hp8 hp9 hp10 hp11 hp12 hq0 hq1 hq2 hq3 hq4 hq5 hq6 hq7 hq8 hq9 hq10 hq11 hq12
  have HB := HB2
  have BP := BP2
  have BQ := BQ2
  clear HB2 BP2 BQ2
  obtain ⟨hp0, hp1, hp2, hp3, hp4, hp5, hp6, hp7, hp8, hp9, hp10, hp11, hp12⟩ := IW.at_ BP.out
  obtain ⟨hq0, hq1, hq2, hq3, hq4, hq5, hq6, hq7, hq8, hq9, hq10, hq11, hq12⟩ := IW.at_ BQ.out
  go_wp2_with fail
  go_at_call 25; (with_reducible refine (laws_eqIntS.calls k5 p.A5 p.c5 x.l5 q.A5 q.c5 x.l5 true _ ?s0 HP.out.h5 ?s1 HQ.out.h5 K5.out ⟨rfl⟩).mono ?_); (case s0 => exact (HP.out.below (below_step HB.out (by repeat (first | (with_reducible first | exact Below.refl _ _ | apply below_alloc | apply pw_below_drewN | apply below_drew1) | exact Below.refl _ _)))).r5); (case s1 => exact (HQ.out.below (below_step HB.out (by repeat (first | (with_reducible first | exact Below.refl _ _ | apply below_alloc | apply pw_below_drewN | apply below_drew1) | exact Below.refl _ _)))).r5); rintro e w' ⟨rfl, ⟨nd, rfl⟩⟩
  clear hp0 hp1 hp2 hp3 hp4 hp5 hp6 hp7 hp8 hp9 hp10 hp11 hp12 hq0 hq1 hq2 hq3 hq4 hq5 hq6 hq7 hq8 hq9 hq10 hq11 hq12
  obtain ⟨hp0, hp1, hp2, hp3, hp4, hp5, hp6, hp7, hp8, hp9, hp10, hp11, hp12⟩ := IW.at_ BP.out
  obtain ⟨hq0, hq1, hq2, hq3, hq4, hq5, hq6, hq7, hq8, hq9, hq10, hq11, hq12⟩ := IW.at_ BQ.out
  go_wp2_with fail
  go_at_call 25; (with_reducible refine (laws_eqIntS.calls k6 p.A6 p.c6 x.l6 q.A6 q.c6 x.l6 true _ ?s0 HP.out.h6 ?s1 HQ.out.h6 K6.out ⟨rfl⟩).mono ?_); (case s0 => exact (HP.out.below (below_step HB.out (by repeat (first | (with_reducible first | exact Below.refl _ _ | apply below_alloc | apply pw_below_drewN | apply below_drew1) | exact Below.refl _ _)))).r6); (case s1 => exact (HQ.out.below (below_step HB.out (by repeat (first | (with_reducible first | exact Below.refl _ _ | apply below_alloc | apply pw_below_drewN | apply below_drew1) | exact Below.refl _ _)))).r6); rintro e w' ⟨rfl, ⟨nd, rfl⟩⟩
  clear hp0 hp1 hp2 hp3 hp4 hp5 hp6 hp7 hp8 hp9 hp10 hp11 hp12 hq0 hq1 hq2 hq3 hq4 hq5 hq6 hq7 hq8 hq9 hq10 hq11 hq12
  obtain ⟨hp0, hp1, hp2, hp3, hp4, hp5, hp6, hp7, hp8, hp9, hp10, hp11, hp12⟩ := IW.at_ BP.out
  obtain ⟨hq0, hq1, hq2, hq3, hq4, hq5, hq6, hq7, hq8, hq9, hq10, hq11, hq12⟩ := IW.at_ BQ.out
  go_wp2_with fail
  go_at_call 83; (with_reducible refine (laws_eqBucket.calls x.d7 x.d8 x.d9 x.d10 x.d7 x.d8 x.d9 x.d10 true _ (eqBucket_eq _ _ _ _) ⟨rfl⟩).mono ?_); rintro e w7 ⟨rfl, hb⟩
  have hs := below_step (w := w4) (by repeat (first | (with_reducible first | exact Below.refl _ _ | apply below_alloc | apply pw_below_drewN | apply below_drew1) | exact Below.refl _ _)) hb
  have HB2 := Aside0.mk (below_step HB.out hs)
  have BP2 := Aside0.mk (blk_below BP.out hs)
  have BQ2 := Aside0.mk (blk_below BQ.out hs)
  clear HB BP BQ hb hs hp0 hp1 hp2 hp3 hp4 hp5 hp6 hp7 hp8 hp9 hp10 hp11 hp12 hq0 hq1 hq2 hq3 hq4 hq5 hq6 hq7 hq8 hq9 hq10 hq11 hq12
  have HB := HB2
  have BP := BP2
  have BQ := BQ2
  clear HB2 BP2 BQ2
  obtain ⟨hp0, hp1, hp2, hp3, hp4, hp5, hp6, hp7, hp8, hp9, hp10, hp11, hp12⟩ := IW.at_ BP.out
  obtain ⟨hq0, hq1, hq2, hq3, hq4, hq5, hq6, hq7, hq8, hq9, hq10, hq11, hq12⟩ := IW.at_ BQ.out
  go_wp2_with fail
  go_at_call 84; (with_reducible refine (laws_eqSeenS.calls k11 p.A11 p.c11 x.l11 q.A11 q.c11 x.l11 true _ ?s0 HP.out.h11 ?s1 HQ.out.h11 K11.out ⟨rfl⟩).mono ?_); (case s0 => exact (HP.out.below (below_step HB.out (by repeat (first | (with_reducible first | exact Below.refl _ _ | apply below_alloc | apply pw_below_drewN | apply below_drew1) | exact Below.refl _ _)))).r11); (case s1 => exact (HQ.out.below (below_step HB.out (by repeat (first | (with_reducible first | exact Below.refl _ _ | apply below_alloc | apply pw_below_drewN | apply below_drew1) | exact Below.refl _ _)))).r11); rintro e w8 ⟨rfl, hb⟩
  have hs := below_step (w := w7) (by repeat (first | (with_reducible first | exact Below.refl _ _ | apply below_alloc | apply pw_below_drewN | apply below_drew1) | exact Below.refl _ _)) hb
  have HB2 := Aside0.mk (below_step HB.out hs)
  have BP2 := Aside0.mk (blk_below BP.out hs)
  have BQ2 := Aside0.mk (blk_below BQ.out hs)
  clear HB BP BQ hb hs hp0 hp1 hp2 hp3 hp4 hp5 hp6 hp7 hp8 hp9 hp10 hp11 hp12 hq0 hq1 hq2 hq3 hq4 hq5 hq6 hq7 hq8 hq9 hq10 hq11 hq12
  have HB := HB2
  have BP := BP2
  have BQ := BQ2
  clear HB2 BP2 BQ2
  obtain ⟨hp0, hp1, hp2, hp3, hp4, hp5, hp6, hp7, hp8, hp9, hp10, hp11, hp12⟩ := IW.at_ BP.out
  obtain ⟨hq0, hq1, hq2, hq3, hq4, hq5, hq6, hq7, hq8, hq9, hq10, hq11, hq12⟩ := IW.at_ BQ.out
  go_wp2
  go_ret
  exact ⟨rfl, below_step HB.out (by repeat (first | (with_reducible first | exact Below.refl _ _ | apply below_alloc | apply pw_below_drewN | apply below_drew1) | exact Below.refl _ _))⟩
/-! ### cgen -/
theorem calls_gen {P : Program} {f : Nat} {args : Array Value} {w : World} {Q : Ending → World → Prop} (R : World → Prop) (hR : R w) (h : ∀ w', R w' → Calls P f args w' Q) : Calls P f args w Q := h w hR
/-! ### wto -/
theorem R_iv {α : Type} {d : Kd α} {e : Nat} {W w2 : World} {b : Nat} {ok : Nat → Prop} {v : Value} {xs : List α} (hb : b ≤ W.heap.size) (ho : Kd.R d e w2 W.heap.size ok v xs) : Kd.R d e w2 b (fun k => W.heap.size ≤ k ∧ k < w2.heap.size) v xs := Kd.R_lower (Kd.R_mono (Kd.R_bound ho) (fun k hk => ⟨hk.2.1, hk.2.2.1⟩)) hb
theorem S_iv {α : Type} {d : Kd α} {e : Nat} {W w2 : World} {b : Nat} {ok : Nat → Prop} {v : Value} {xs : List α} (hb : b ≤ W.heap.size) (ho : Kd.S d e w2 W.heap.size ok v xs) : Kd.S d e w2 b (fun k => W.heap.size ≤ k ∧ k < w2.heap.size) v xs := Kd.S_lower (Kd.S_mono (Kd.S_bound ho) (fun k hk => ⟨hk.2.1, hk.2.2.1⟩)) hb
set_option maxHeartbeats 8000000 in
set_option maxRecDepth 100000 in
theorem toWorld_c (y : LW) (q : LP) (w : World) (hq : y.Rd q w) (ho : y.Ok) :
    Calls Try.prog 17 #[.agg (y.cells q)] w fun e w' => ∃ p : IP, e = .returned (.agg ((cvW y).cells p)) ∧ (cvW y).Md p w' w.heap.size (fun k => w.heap.size ≤ k ∧ k < w'.heap.size) ∧ Below w.heap.size w w' := by
  have hu := Try.underlying41
  have hu2 := Try.underlying36
  have hu3 := Try.underlying38
  have hv := Try.underlying31
  have hv2 := Try.underlying24
  have hv3 := Try.underlying28
  obtain ⟨k1, hk⟩ := (show Ev (fun k => laws_toNet.f k y.d0 y.l1) (y.d0, y.l1.map cvLink) from by unfold laws_toNet.f; exact Ev.bind (toLinkS_ev y.l1 ho.1) (Ev.now _)).rounds
  obtain ⟨x1, hx1⟩ : ∃ x_, x_ = y.l1.map cvLink := ⟨_, rfl⟩
  rw [← hx1] at hk
  have HX1 := Aside0.mk hx1
  clear hx1
  have K1 := Aside0.mk hk
  clear hk
  obtain ⟨k2, hk⟩ := (toIntS_ev y.l2 ho.2.1).rounds
  have K2 := Aside0.mk hk
  clear hk
  obtain ⟨k3, hk⟩ := (toIntS_ev y.l3 ho.2.2.1).rounds
  have K3 := Aside0.mk hk
  clear hk
  obtain ⟨k4, hk⟩ := (toProbeS_ev y.l4 ho.2.2.2.1).rounds
  obtain ⟨x4, hx4⟩ : ∃ x_, x_ = y.l4.map cvProbe := ⟨_, rfl⟩
  rw [← hx4] at hk
  have HX4 := Aside0.mk hx4
  clear hx4
  have K4 := Aside0.mk hk
  clear hk
  obtain ⟨k5, hk⟩ := (toIntS_ev y.l5 ho.2.2.2.2.1).rounds
  have K5 := Aside0.mk hk
  clear hk
  obtain ⟨k6, hk⟩ := (toIntS_ev y.l6 ho.2.2.2.2.2.1).rounds
  have K6 := Aside0.mk hk
  clear hk
  obtain ⟨k11, hk⟩ := (toSeenS_ev y.l11 ho.2.2.2.2.2.2).rounds
  obtain ⟨x11, hx11⟩ : ∃ x_, x_ = y.l11.map cvSeen := ⟨_, rfl⟩
  rw [← hx11] at hk
  have HX11 := Aside0.mk hx11
  clear hx11
  have K11 := Aside0.mk hk
  clear hk
  have HQ := Aside0.mk hq
  clear hq ho
  go_enter Try.func17, Try.ntmps17
  go_wp2_with fail
  refine calls_gen (fun W' => W'.heap[w.heap.size]? = some (.cells (y.cells q) 31 (0, 0)) ∧ W'.heap[w.heap.size + 1]? = some (.cells #[.int .i64 0, .slice none 0 0, .slice none 0 0, .slice none 0 0, .slice none 0 0, .slice none 0 0, .slice none 0 0, .int .i64 0, .int .i64 0, .int .i64 0, .int .i64 0, .slice none 0 0, .int .i64 0] 41 (0, 0)) ∧ W'.heap[w.heap.size + 1 + 1]? = some (.cells #[.int .i64 0, .slice none 0 0, .slice none 0 0, .slice none 0 0, .slice none 0 0, .slice none 0 0, .slice none 0 0, .int .i64 0, .int .i64 0, .int .i64 0, .int .i64 0, .slice none 0 0, .int .i64 0] 41 (0, 0)) ∧ Below w.heap.size w W') ⟨?i0, ?i1, ?i2, (by repeat (first | (with_reducible first | exact Below.refl _ _ | apply below_alloc | apply pw_below_drewN | apply below_drew1) | exact Below.refl _ _))⟩ ?_
  case i0 => (repeat (refine blk_drewN ?_ _)); exact blk_alloc (blk_alloc (blk_new w _) _) _
  case i1 => (repeat (refine blk_drewN ?_ _)); have h_ := blk_alloc (blk_new (w.alloc (.cells (y.cells q) 31)) (.cells #[.int .i64 0, .slice none 0 0, .slice none 0 0, .slice none 0 0, .slice none 0 0, .slice none 0 0, .slice none 0 0, .int .i64 0, .int .i64 0, .int .i64 0, .int .i64 0, .slice none 0 0, .int .i64 0] 41)) (.cells #[.int .i64 0, .slice none 0 0, .slice none 0 0, .slice none 0 0, .slice none 0 0, .slice none 0 0, .slice none 0 0, .int .i64 0, .int .i64 0, .int .i64 0, .int .i64 0, .slice none 0 0, .int .i64 0] 41); simpa using h_
  case i2 => (repeat (refine blk_drewN ?_ _)); have h_ := blk_new ((w.alloc (.cells (y.cells q) 31)).alloc (.cells #[.int .i64 0, .slice none 0 0, .slice none 0 0, .slice none 0 0, .slice none 0 0, .slice none 0 0, .slice none 0 0, .int .i64 0, .int .i64 0, .int .i64 0, .int .i64 0, .slice none 0 0, .int .i64 0] 41)) (.cells #[.int .i64 0, .slice none 0 0, .slice none 0 0, .slice none 0 0, .slice none 0 0, .slice none 0 0, .slice none 0 0, .int .i64 0, .int .i64 0, .int .i64 0, .int .i64 0, .slice none 0 0, .int .i64 0] 41); simpa using h_
  rintro W0 ⟨hby, hbr, hbo, hbw⟩
  go_at_call 72; (with_reducible refine (laws_toNet.calls k1 y.d0 q.A1 q.c1 y.l1 y.d0 x1 _ ?s0 HQ.out.h1 K1.out).mono ?_); (case s0 => exact (HQ.out.below hbw).r1); rintro e w1 ⟨v, rfl, ho, hb⟩
  have NN1 := Aside0.mk (R_iv (b := w.heap.size) hbw.size ho)
  obtain ⟨A1, c1, rfl⟩ := Kd.R_slice ho
  have HS := Aside0.mk (And.intro (show w.heap.size + 2 < W0.heap.size from blk_lt hbo) (show W0.heap.size ≤ w1.heap.size from hb.size))
  have HB2 := Aside0.mk (below_step hbw hb)
  have BY2 := Aside0.mk (blk_below hby hb)
  have BR2 := Aside0.mk (blk_below hbr hb)
  have BO2 := Aside0.mk (blk_below hbo hb)
  clear hby hbr hbo hbw hb ho
  have HB := HB2; clear HB2
  have BY := BY2; clear BY2
  have BR := BR2; clear BR2
  have BO := BO2; clear BO2
  have M1 := NN1; clear NN1
  obtain ⟨hy0, hy1, hy2, hy3, hy4, hy5, hy6, hy7, hy8, hy9, hy10, hy11, hy12⟩ := LW.at_ BY.out
  have hf0 := blk_frozen BO.out 0; have hc0 := (blk_cell BO.out 0).trans rfl
  have hf1 := blk_frozen BO.out 1; have hc1 := (blk_cell BO.out 1).trans rfl
  go_wp2_with fail
  refine calls_gen (fun W' => Kept w1 W' (fun k => k = w.heap.size + 1 + 1) ∧ W'.heap[w.heap.size + 1 + 1]? = some (.cells #[.int .i64 y.d0, .slice A1 x1.length c1, .slice none 0 0, .slice none 0 0, .slice none 0 0, .slice none 0 0, .slice none 0 0, .int .i64 0, .int .i64 0, .int .i64 0, .int .i64 0, .slice none 0 0, .int .i64 0] 41 (0, 0)) ∧ Below w.heap.size w W') ⟨?i0, ?i1, ?i2⟩ ?_
  case i0 => repeat (first | exact Kept.refl _ _ | refine Kept.setCell ?_ (by exact Or.inl rfl) _ | apply Kept.drewN | apply Kept.alloc)
  case i1 => exact blk_set (blk_set (BO.out) 0 _) 1 _
  case i2 => repeat (first | exact HB.out | refine below_set ?_ (by omega) | apply below_alloc | apply pw_below_drewN)
  rintro W1 ⟨hk, hbo, hbw⟩
  have hby := blk_kept BY.out hk (by intro h; omega)
  have hbr := blk_kept BR.out hk (by intro h; omega)
  go_at_call 23; (with_reducible refine (laws_toIntS.calls k2 q.A2 q.c2 y.l2 y.l2 _ ?s0 HQ.out.h2 K2.out).mono ?_); (case s0 => exact (HQ.out.below hbw).r2); rintro e w2 ⟨v, rfl, ho, hb⟩
  have N1 := Aside0.mk (Kd.R_below (Kd.R_kept M1.out hk (fun k h h' => by have := HS.out; omega)) hb)
  have NN2 := Aside0.mk (R_iv (b := w.heap.size) hbw.size ho)
  obtain ⟨A2, c2, rfl⟩ := Kd.R_slice ho
  replace HS := Aside0.mk (And.intro HS.out (And.intro (show w1.heap.size ≤ W1.heap.size from hk.1) (show W1.heap.size ≤ w2.heap.size from hb.size)))
  have HB2 := Aside0.mk (below_step hbw hb)
  have BY2 := Aside0.mk (blk_below hby hb)
  have BR2 := Aside0.mk (blk_below hbr hb)
  have BO2 := Aside0.mk (blk_below hbo hb)
  clear HB BY BR BO hy0 hy1 hy2 hy3 hy4 hy5 hy6 hy7 hy8 hy9 hy10 hy11 hy12 hk hf0 hc0 hf1 hc1 M1 hby hbr hbo hbw hb ho
  have HB := HB2; clear HB2
  have BY := BY2; clear BY2
  have BR := BR2; clear BR2
  have BO := BO2; clear BO2
  have M1 := N1; clear N1
  have M2 := NN2; clear NN2
  obtain ⟨hy0, hy1, hy2, hy3, hy4, hy5, hy6, hy7, hy8, hy9, hy10, hy11, hy12⟩ := LW.at_ BY.out
  have hf2 := blk_frozen BO.out 2; have hc2 := (blk_cell BO.out 2).trans rfl
  go_wp2_with fail
  refine calls_gen (fun W' => Kept w2 W' (fun k => k = w.heap.size + 1 + 1) ∧ W'.heap[w.heap.size + 1 + 1]? = some (.cells #[.int .i64 y.d0, .slice A1 x1.length c1, .slice A2 y.l2.length c2, .slice none 0 0, .slice none 0 0, .slice none 0 0, .slice none 0 0, .int .i64 0, .int .i64 0, .int .i64 0, .int .i64 0, .slice none 0 0, .int .i64 0] 41 (0, 0)) ∧ Below w.heap.size w W') ⟨?i0, ?i1, ?i2⟩ ?_
  case i0 => repeat (first | exact Kept.refl _ _ | refine Kept.setCell ?_ (by exact Or.inl rfl) _ | apply Kept.drewN | apply Kept.alloc)
  case i1 => exact blk_set (BO.out) 2 _
  case i2 => repeat (first | exact HB.out | refine below_set ?_ (by omega) | apply below_alloc | apply pw_below_drewN)
  rintro W2 ⟨hk, hbo, hbw⟩
  have hby := blk_kept BY.out hk (by intro h; omega)
  have hbr := blk_kept BR.out hk (by intro h; omega)
  go_at_call 23; (with_reducible refine (laws_toIntS.calls k3 q.A3 q.c3 y.l3 y.l3 _ ?s0 HQ.out.h3 K3.out).mono ?_); (case s0 => exact (HQ.out.below hbw).r3); rintro e w3 ⟨v, rfl, ho, hb⟩
  have N1 := Aside0.mk (Kd.R_below (Kd.R_kept M1.out hk (fun k h h' => by have := HS.out; omega)) hb)
  have N2 := Aside0.mk (Kd.R_below (Kd.R_kept M2.out hk (fun k h h' => by have := HS.out; omega)) hb)
  have NN3 := Aside0.mk (R_iv (b := w.heap.size) hbw.size ho)
  obtain ⟨A3, c3, rfl⟩ := Kd.R_slice ho
  replace HS := Aside0.mk (And.intro HS.out (And.intro (show w2.heap.size ≤ W2.heap.size from hk.1) (show W2.heap.size ≤ w3.heap.size from hb.size)))
  have HB2 := Aside0.mk (below_step hbw hb)
  have BY2 := Aside0.mk (blk_below hby hb)
  have BR2 := Aside0.mk (blk_below hbr hb)
  have BO2 := Aside0.mk (blk_below hbo hb)
  clear HB BY BR BO hy0 hy1 hy2 hy3 hy4 hy5 hy6 hy7 hy8 hy9 hy10 hy11 hy12 hk hf2 hc2 M1 M2 hby hbr hbo hbw hb ho
  have HB := HB2; clear HB2
  have BY := BY2; clear BY2
  have BR := BR2; clear BR2
  have BO := BO2; clear BO2
  have M1 := N1; clear N1
  have M2 := N2; clear N2
  have M3 := NN3; clear NN3
  obtain ⟨hy0, hy1, hy2, hy3, hy4, hy5, hy6, hy7, hy8, hy9, hy10, hy11, hy12⟩ := LW.at_ BY.out
  have hf3 := blk_frozen BO.out 3; have hc3 := (blk_cell BO.out 3).trans rfl
  go_wp2_with fail
  refine calls_gen (fun W' => Kept w3 W' (fun k => k = w.heap.size + 1 + 1) ∧ W'.heap[w.heap.size + 1 + 1]? = some (.cells #[.int .i64 y.d0, .slice A1 x1.length c1, .slice A2 y.l2.length c2, .slice A3 y.l3.length c3, .slice none 0 0, .slice none 0 0, .slice none 0 0, .int .i64 0, .int .i64 0, .int .i64 0, .int .i64 0, .slice none 0 0, .int .i64 0] 41 (0, 0)) ∧ Below w.heap.size w W') ⟨?i0, ?i1, ?i2⟩ ?_
  case i0 => repeat (first | exact Kept.refl _ _ | refine Kept.setCell ?_ (by exact Or.inl rfl) _ | apply Kept.drewN | apply Kept.alloc)
  case i1 => exact blk_set (BO.out) 3 _
  case i2 => repeat (first | exact HB.out | refine below_set ?_ (by omega) | apply below_alloc | apply pw_below_drewN)
  rintro W3 ⟨hk, hbo, hbw⟩
  have hby := blk_kept BY.out hk (by intro h; omega)
  have hbr := blk_kept BR.out hk (by intro h; omega)
  go_at_call 73; (with_reducible refine (laws_toProbeS.calls k4 q.A4 q.c4 y.l4 (x4) _ ?s0 HQ.out.h4 K4.out).mono ?_); (case s0 => exact (HQ.out.below hbw).r4); rintro e w4 ⟨v, rfl, ho, hb⟩
  have N1 := Aside0.mk (Kd.R_below (Kd.R_kept M1.out hk (fun k h h' => by have := HS.out; omega)) hb)
  have N2 := Aside0.mk (Kd.R_below (Kd.R_kept M2.out hk (fun k h h' => by have := HS.out; omega)) hb)
  have N3 := Aside0.mk (Kd.R_below (Kd.R_kept M3.out hk (fun k h h' => by have := HS.out; omega)) hb)
  have NN4 := Aside0.mk (S_iv (b := w.heap.size) hbw.size ho)
  obtain ⟨A4, c4, rfl⟩ := Kd.S_slice ho
  replace HS := Aside0.mk (And.intro HS.out (And.intro (show w3.heap.size ≤ W3.heap.size from hk.1) (show W3.heap.size ≤ w4.heap.size from hb.size)))
  have HB2 := Aside0.mk (below_step hbw hb)
  have BY2 := Aside0.mk (blk_below hby hb)
  have BR2 := Aside0.mk (blk_below hbr hb)
  have BO2 := Aside0.mk (blk_below hbo hb)
  clear HB BY BR BO hy0 hy1 hy2 hy3 hy4 hy5 hy6 hy7 hy8 hy9 hy10 hy11 hy12 hk hf3 hc3 M1 M2 M3 hby hbr hbo hbw hb ho
  have HB := HB2; clear HB2
  have BY := BY2; clear BY2
  have BR := BR2; clear BR2
  have BO := BO2; clear BO2
  have M1 := N1; clear N1
  have M2 := N2; clear N2
  have M3 := N3; clear N3
  have M4 := NN4; clear NN4
  obtain ⟨hy0, hy1, hy2, hy3, hy4, hy5, hy6, hy7, hy8, hy9, hy10, hy11, hy12⟩ := LW.at_ BY.out
  have hf4 := blk_frozen BO.out 4; have hc4 := (blk_cell BO.out 4).trans rfl
  go_wp2_with fail
  refine calls_gen (fun W' => Kept w4 W' (fun k => k = w.heap.size + 1 + 1) ∧ W'.heap[w.heap.size + 1 + 1]? = some (.cells #[.int .i64 y.d0, .slice A1 x1.length c1, .slice A2 y.l2.length c2, .slice A3 y.l3.length c3, .slice A4 x4.length c4, .slice none 0 0, .slice none 0 0, .int .i64 0, .int .i64 0, .int .i64 0, .int .i64 0, .slice none 0 0, .int .i64 0] 41 (0, 0)) ∧ Below w.heap.size w W') ⟨?i0, ?i1, ?i2⟩ ?_
  case i0 => repeat (first | exact Kept.refl _ _ | refine Kept.setCell ?_ (by exact Or.inl rfl) _ | apply Kept.drewN | apply Kept.alloc)
  case i1 => exact blk_set (BO.out) 4 _
  case i2 => repeat (first | exact HB.out | refine below_set ?_ (by omega) | apply below_alloc | apply pw_below_drewN)
  rintro W4 ⟨hk, hbo, hbw⟩
  have hby := blk_kept BY.out hk (by intro h; omega)
  have hbr := blk_kept BR.out hk (by intro h; omega)
  go_at_call 23; (with_reducible refine (laws_toIntS.calls k5 q.A5 q.c5 y.l5 y.l5 _ ?s0 HQ.out.h5 K5.out).mono ?_); (case s0 => exact (HQ.out.below hbw).r5); rintro e w5 ⟨v, rfl, ho, hb⟩
  have N1 := Aside0.mk (Kd.R_below (Kd.R_kept M1.out hk (fun k h h' => by have := HS.out; omega)) hb)
  have N2 := Aside0.mk (Kd.R_below (Kd.R_kept M2.out hk (fun k h h' => by have := HS.out; omega)) hb)
  have N3 := Aside0.mk (Kd.R_below (Kd.R_kept M3.out hk (fun k h h' => by have := HS.out; omega)) hb)
  have N4 := Aside0.mk (Kd.S_below (Kd.S_kept M4.out hk (fun k h h' => by have := HS.out; omega)) hb)
  have NN5 := Aside0.mk (R_iv (b := w.heap.size) hbw.size ho)
  obtain ⟨A5, c5, rfl⟩ := Kd.R_slice ho
  replace HS := Aside0.mk (And.intro HS.out (And.intro (show w4.heap.size ≤ W4.heap.size from hk.1) (show W4.heap.size ≤ w5.heap.size from hb.size)))
  have HB2 := Aside0.mk (below_step hbw hb)
  have BY2 := Aside0.mk (blk_below hby hb)
  have BR2 := Aside0.mk (blk_below hbr hb)
  have BO2 := Aside0.mk (blk_below hbo hb)
  clear HB BY BR BO hy0 hy1 hy2 hy3 hy4 hy5 hy6 hy7 hy8 hy9 hy10 hy11 hy12 hk hf4 hc4 M1 M2 M3 M4 hby hbr hbo hbw hb ho
  have HB := HB2; clear HB2
  have BY := BY2; clear BY2
  have BR := BR2; clear BR2
  have BO := BO2; clear BO2
  have M1 := N1; clear N1
  have M2 := N2; clear N2
  have M3 := N3; clear N3
  have M4 := N4; clear N4
  have M5 := NN5; clear NN5
  obtain ⟨hy0, hy1, hy2, hy3, hy4, hy5, hy6, hy7, hy8, hy9, hy10, hy11, hy12⟩ := LW.at_ BY.out
  have hf5 := blk_frozen BO.out 5; have hc5 := (blk_cell BO.out 5).trans rfl
  go_wp2_with fail
  refine calls_gen (fun W' => Kept w5 W' (fun k => k = w.heap.size + 1 + 1) ∧ W'.heap[w.heap.size + 1 + 1]? = some (.cells #[.int .i64 y.d0, .slice A1 x1.length c1, .slice A2 y.l2.length c2, .slice A3 y.l3.length c3, .slice A4 x4.length c4, .slice A5 y.l5.length c5, .slice none 0 0, .int .i64 0, .int .i64 0, .int .i64 0, .int .i64 0, .slice none 0 0, .int .i64 0] 41 (0, 0)) ∧ Below w.heap.size w W') ⟨?i0, ?i1, ?i2⟩ ?_
  case i0 => repeat (first | exact Kept.refl _ _ | refine Kept.setCell ?_ (by exact Or.inl rfl) _ | apply Kept.drewN | apply Kept.alloc)
  case i1 => exact blk_set (BO.out) 5 _
  case i2 => repeat (first | exact HB.out | refine below_set ?_ (by omega) | apply below_alloc | apply pw_below_drewN)
  rintro W5 ⟨hk, hbo, hbw⟩
  have hby := blk_kept BY.out hk (by intro h; omega)
  have hbr := blk_kept BR.out hk (by intro h; omega)
  go_at_call 23; (with_reducible refine (laws_toIntS.calls k6 q.A6 q.c6 y.l6 y.l6 _ ?s0 HQ.out.h6 K6.out).mono ?_); (case s0 => exact (HQ.out.below hbw).r6); rintro e w6 ⟨v, rfl, ho, hb⟩
  have N1 := Aside0.mk (Kd.R_below (Kd.R_kept M1.out hk (fun k h h' => by have := HS.out; omega)) hb)
  have N2 := Aside0.mk (Kd.R_below (Kd.R_kept M2.out hk (fun k h h' => by have := HS.out; omega)) hb)
  have N3 := Aside0.mk (Kd.R_below (Kd.R_kept M3.out hk (fun k h h' => by have := HS.out; omega)) hb)
  have N4 := Aside0.mk (Kd.S_below (Kd.S_kept M4.out hk (fun k h h' => by have := HS.out; omega)) hb)
  have N5 := Aside0.mk (Kd.R_below (Kd.R_kept M5.out hk (fun k h h' => by have := HS.out; omega)) hb)
  have NN6 := Aside0.mk (R_iv (b := w.heap.size) hbw.size ho)
  obtain ⟨A6, c6, rfl⟩ := Kd.R_slice ho
  replace HS := Aside0.mk (And.intro HS.out (And.intro (show w5.heap.size ≤ W5.heap.size from hk.1) (show W5.heap.size ≤ w6.heap.size from hb.size)))
  have HB2 := Aside0.mk (below_step hbw hb)
  have BY2 := Aside0.mk (blk_below hby hb)
  have BR2 := Aside0.mk (blk_below hbr hb)
  have BO2 := Aside0.mk (blk_below hbo hb)
  clear HB BY BR BO hy0 hy1 hy2 hy3 hy4 hy5 hy6 hy7 hy8 hy9 hy10 hy11 hy12 hk hf5 hc5 M1 M2 M3 M4 M5 hby hbr hbo hbw hb ho
  have HB := HB2; clear HB2
  have BY := BY2; clear BY2
  have BR := BR2; clear BR2
  have BO := BO2; clear BO2
  have M1 := N1; clear N1
  have M2 := N2; clear N2
  have M3 := N3; clear N3
  have M4 := N4; clear N4
  have M5 := N5; clear N5
  have M6 := NN6; clear NN6
  obtain ⟨hy0, hy1, hy2, hy3, hy4, hy5, hy6, hy7, hy8, hy9, hy10, hy11, hy12⟩ := LW.at_ BY.out
  have hf6 := blk_frozen BO.out 6; have hc6 := (blk_cell BO.out 6).trans rfl
  go_wp2_with fail
  refine calls_gen (fun W' => Kept w6 W' (fun k => k = w.heap.size + 1 + 1) ∧ W'.heap[w.heap.size + 1 + 1]? = some (.cells #[.int .i64 y.d0, .slice A1 x1.length c1, .slice A2 y.l2.length c2, .slice A3 y.l3.length c3, .slice A4 x4.length c4, .slice A5 y.l5.length c5, .slice A6 y.l6.length c6, .int .i64 0, .int .i64 0, .int .i64 0, .int .i64 0, .slice none 0 0, .int .i64 0] 41 (0, 0)) ∧ Below w.heap.size w W') ⟨?i0, ?i1, ?i2⟩ ?_
  case i0 => repeat (first | exact Kept.refl _ _ | refine Kept.setCell ?_ (by exact Or.inl rfl) _ | apply Kept.drewN | apply Kept.alloc)
  case i1 => exact blk_set (BO.out) 6 _
  case i2 => repeat (first | exact HB.out | refine below_set ?_ (by omega) | apply below_alloc | apply pw_below_drewN)
  rintro W6 ⟨hk, hbo, hbw⟩
  have hby := blk_kept BY.out hk (by intro h; omega)
  have hbr := blk_kept BR.out hk (by intro h; omega)
  go_at_call 74; (with_reducible refine (laws_toBucket.calls y.d7 y.d8 y.d9 y.d10 y.d7 y.d8 y.d9 y.d10 _ rfl).mono ?_); rintro e w7 ⟨rfl, hb⟩
  have N1 := Aside0.mk (Kd.R_below (Kd.R_kept M1.out hk (fun k h h' => by have := HS.out; omega)) hb)
  have N2 := Aside0.mk (Kd.R_below (Kd.R_kept M2.out hk (fun k h h' => by have := HS.out; omega)) hb)
  have N3 := Aside0.mk (Kd.R_below (Kd.R_kept M3.out hk (fun k h h' => by have := HS.out; omega)) hb)
  have N4 := Aside0.mk (Kd.S_below (Kd.S_kept M4.out hk (fun k h h' => by have := HS.out; omega)) hb)
  have N5 := Aside0.mk (Kd.R_below (Kd.R_kept M5.out hk (fun k h h' => by have := HS.out; omega)) hb)
  have N6 := Aside0.mk (Kd.R_below (Kd.R_kept M6.out hk (fun k h h' => by have := HS.out; omega)) hb)
  replace HS := Aside0.mk (And.intro HS.out (And.intro (show w6.heap.size ≤ W6.heap.size from hk.1) (show W6.heap.size ≤ w7.heap.size from hb.size)))
  have HB2 := Aside0.mk (below_step hbw hb)
  have BY2 := Aside0.mk (blk_below hby hb)
  have BR2 := Aside0.mk (blk_below hbr hb)
  have BO2 := Aside0.mk (blk_below hbo hb)
  clear HB BY BR BO hy0 hy1 hy2 hy3 hy4 hy5 hy6 hy7 hy8 hy9 hy10 hy11 hy12 hk hf6 hc6 M1 M2 M3 M4 M5 M6 hby hbr hbo hbw hb
  have HB := HB2; clear HB2
  have BY := BY2; clear BY2
  have BR := BR2; clear BR2
  have BO := BO2; clear BO2
  have M1 := N1; clear N1
  have M2 := N2; clear N2
  have M3 := N3; clear N3
  have M4 := N4; clear N4
  have M5 := N5; clear N5
  have M6 := N6; clear N6
  obtain ⟨hy0, hy1, hy2, hy3, hy4, hy5, hy6, hy7, hy8, hy9, hy10, hy11, hy12⟩ := LW.at_ BY.out
  have hf7 := blk_frozen BO.out 7; have hc7 := (blk_cell BO.out 7).trans rfl
  have hf8 := blk_frozen BO.out 8; have hc8 := (blk_cell BO.out 8).trans rfl
  have hf9 := blk_frozen BO.out 9; have hc9 := (blk_cell BO.out 9).trans rfl
  have hf10 := blk_frozen BO.out 10; have hc10 := (blk_cell BO.out 10).trans rfl
  go_wp2_with fail
  refine calls_gen (fun W' => Kept w7 W' (fun k => k = w.heap.size + 1 + 1) ∧ W'.heap[w.heap.size + 1 + 1]? = some (.cells #[.int .i64 y.d0, .slice A1 x1.length c1, .slice A2 y.l2.length c2, .slice A3 y.l3.length c3, .slice A4 x4.length c4, .slice A5 y.l5.length c5, .slice A6 y.l6.length c6, .int .i64 y.d7, .int .i64 y.d8, .int .i64 y.d9, .int .i64 y.d10, .slice none 0 0, .int .i64 0] 41 (0, 0)) ∧ Below w.heap.size w W') ⟨?i0, ?i1, ?i2⟩ ?_
  case i0 => repeat (first | exact Kept.refl _ _ | refine Kept.setCell ?_ (by exact Or.inl rfl) _ | apply Kept.drewN | apply Kept.alloc)
  case i1 => exact blk_set (blk_set (blk_set (blk_set (BO.out) 7 _) 8 _) 9 _) 10 _
  case i2 => repeat (first | exact HB.out | refine below_set ?_ (by omega) | apply below_alloc | apply pw_below_drewN)
  rintro W7 ⟨hk, hbo, hbw⟩
  have hby := blk_kept BY.out hk (by intro h; omega)
  have hbr := blk_kept BR.out hk (by intro h; omega)
  go_at_call 75; (with_reducible refine (laws_toSeenS.calls k11 q.A11 q.c11 y.l11 (x11) _ ?s0 HQ.out.h11 K11.out).mono ?_); (case s0 => exact (HQ.out.below hbw).r11); rintro e w8 ⟨v, rfl, ho, hb⟩
  have N1 := Aside0.mk (Kd.R_below (Kd.R_kept M1.out hk (fun k h h' => by have := HS.out; omega)) hb)
  have N2 := Aside0.mk (Kd.R_below (Kd.R_kept M2.out hk (fun k h h' => by have := HS.out; omega)) hb)
  have N3 := Aside0.mk (Kd.R_below (Kd.R_kept M3.out hk (fun k h h' => by have := HS.out; omega)) hb)
  have N4 := Aside0.mk (Kd.S_below (Kd.S_kept M4.out hk (fun k h h' => by have := HS.out; omega)) hb)
  have N5 := Aside0.mk (Kd.R_below (Kd.R_kept M5.out hk (fun k h h' => by have := HS.out; omega)) hb)
  have N6 := Aside0.mk (Kd.R_below (Kd.R_kept M6.out hk (fun k h h' => by have := HS.out; omega)) hb)
  have NN11 := Aside0.mk (R_iv (b := w.heap.size) hbw.size ho)
  obtain ⟨A11, c11, rfl⟩ := Kd.R_slice ho
  replace HS := Aside0.mk (And.intro HS.out (And.intro (show w7.heap.size ≤ W7.heap.size from hk.1) (show W7.heap.size ≤ w8.heap.size from hb.size)))
  have HB2 := Aside0.mk (below_step hbw hb)
  have BY2 := Aside0.mk (blk_below hby hb)
  have BR2 := Aside0.mk (blk_below hbr hb)
  have BO2 := Aside0.mk (blk_below hbo hb)
  clear HB BY BR BO hy0 hy1 hy2 hy3 hy4 hy5 hy6 hy7 hy8 hy9 hy10 hy11 hy12 hk hf7 hc7 hf8 hc8 hf9 hc9 hf10 hc10 M1 M2 M3 M4 M5 M6 hby hbr hbo hbw hb ho
  have HB := HB2; clear HB2
  have BY := BY2; clear BY2
  have BR := BR2; clear BR2
  have BO := BO2; clear BO2
  have M1 := N1; clear N1
  have M2 := N2; clear N2
  have M3 := N3; clear N3
  have M4 := N4; clear N4
  have M5 := N5; clear N5
  have M6 := N6; clear N6
  have M11 := NN11; clear NN11
  obtain ⟨hy0, hy1, hy2, hy3, hy4, hy5, hy6, hy7, hy8, hy9, hy10, hy11, hy12⟩ := LW.at_ BY.out
  have hw0 := HB.out.size
  have hf0 := blk_frozen BO.out 0; have hc0 := (blk_cell BO.out 0).trans rfl; have hg0 := blk_frozen BR.out 0; have hd0 := (blk_cell BR.out 0).trans rfl
  have hf1 := blk_frozen BO.out 1; have hc1 := (blk_cell BO.out 1).trans rfl; have hg1 := blk_frozen BR.out 1; have hd1 := (blk_cell BR.out 1).trans rfl
  have hf2 := blk_frozen BO.out 2; have hc2 := (blk_cell BO.out 2).trans rfl; have hg2 := blk_frozen BR.out 2; have hd2 := (blk_cell BR.out 2).trans rfl
  have hf3 := blk_frozen BO.out 3; have hc3 := (blk_cell BO.out 3).trans rfl; have hg3 := blk_frozen BR.out 3; have hd3 := (blk_cell BR.out 3).trans rfl
  have hf4 := blk_frozen BO.out 4; have hc4 := (blk_cell BO.out 4).trans rfl; have hg4 := blk_frozen BR.out 4; have hd4 := (blk_cell BR.out 4).trans rfl
  have hf5 := blk_frozen BO.out 5; have hc5 := (blk_cell BO.out 5).trans rfl; have hg5 := blk_frozen BR.out 5; have hd5 := (blk_cell BR.out 5).trans rfl
  have hf6 := blk_frozen BO.out 6; have hc6 := (blk_cell BO.out 6).trans rfl; have hg6 := blk_frozen BR.out 6; have hd6 := (blk_cell BR.out 6).trans rfl
  have hf7 := blk_frozen BO.out 7; have hc7 := (blk_cell BO.out 7).trans rfl; have hg7 := blk_frozen BR.out 7; have hd7 := (blk_cell BR.out 7).trans rfl
  have hf8 := blk_frozen BO.out 8; have hc8 := (blk_cell BO.out 8).trans rfl; have hg8 := blk_frozen BR.out 8; have hd8 := (blk_cell BR.out 8).trans rfl
  have hf9 := blk_frozen BO.out 9; have hc9 := (blk_cell BO.out 9).trans rfl; have hg9 := blk_frozen BR.out 9; have hd9 := (blk_cell BR.out 9).trans rfl
  have hf10 := blk_frozen BO.out 10; have hc10 := (blk_cell BO.out 10).trans rfl; have hg10 := blk_frozen BR.out 10; have hd10 := (blk_cell BR.out 10).trans rfl
  have hf11 := blk_frozen BO.out 11; have hc11 := (blk_cell BO.out 11).trans rfl; have hg11 := blk_frozen BR.out 11; have hd11 := (blk_cell BR.out 11).trans rfl
  have hf12 := blk_frozen BO.out 12; have hc12 := (blk_cell BO.out 12).trans rfl; have hg12 := blk_frozen BR.out 12; have hd12 := (blk_cell BR.out 12).trans rfl
  go_wp2
  refine bodyPost_ret (results_cell_row rfl _ _ (w.heap.size + 1) 41 #[.int .i64 y.d0, .slice A1 x1.length c1, .slice A2 y.l2.length c2, .slice A3 y.l3.length c3, .slice A4 x4.length c4, .slice A5 y.l5.length c5, .slice A6 y.l6.length c6, .int .i64 y.d7, .int .i64 y.d8, .int .i64 y.d9, .int .i64 y.d10, .slice A11 x11.length c11, .int .i64 y.d12] (0, 0) _ rfl (blk_put (cs' := #[.int .i64 y.d0, .slice A1 x1.length c1, .slice A2 y.l2.length c2, .slice A3 y.l3.length c3, .slice A4 x4.length c4, .slice A5 y.l5.length c5, .slice A6 y.l6.length c6, .int .i64 y.d7, .int .i64 y.d8, .int .i64 y.d9, .int .i64 y.d10, .slice A11 x11.length c11, .int .i64 y.d12]) (blk_put (cs' := #[.int .i64 y.d0, .slice A1 x1.length c1, .slice A2 y.l2.length c2, .slice A3 y.l3.length c3, .slice A4 x4.length c4, .slice A5 y.l5.length c5, .slice A6 y.l6.length c6, .int .i64 y.d7, .int .i64 y.d8, .int .i64 y.d9, .int .i64 y.d10, .slice A11 x11.length c11, .int .i64 0]) (blk_put (cs' := #[.int .i64 y.d0, .slice A1 x1.length c1, .slice A2 y.l2.length c2, .slice A3 y.l3.length c3, .slice A4 x4.length c4, .slice A5 y.l5.length c5, .slice A6 y.l6.length c6, .int .i64 y.d7, .int .i64 y.d8, .int .i64 y.d9, .int .i64 y.d10, .slice none 0 0, .int .i64 0]) (blk_put (cs' := #[.int .i64 y.d0, .slice A1 x1.length c1, .slice A2 y.l2.length c2, .slice A3 y.l3.length c3, .slice A4 x4.length c4, .slice A5 y.l5.length c5, .slice A6 y.l6.length c6, .int .i64 y.d7, .int .i64 y.d8, .int .i64 y.d9, .int .i64 0, .slice none 0 0, .int .i64 0]) (blk_put (cs' := #[.int .i64 y.d0, .slice A1 x1.length c1, .slice A2 y.l2.length c2, .slice A3 y.l3.length c3, .slice A4 x4.length c4, .slice A5 y.l5.length c5, .slice A6 y.l6.length c6, .int .i64 y.d7, .int .i64 y.d8, .int .i64 0, .int .i64 0, .slice none 0 0, .int .i64 0]) (blk_put (cs' := #[.int .i64 y.d0, .slice A1 x1.length c1, .slice A2 y.l2.length c2, .slice A3 y.l3.length c3, .slice A4 x4.length c4, .slice A5 y.l5.length c5, .slice A6 y.l6.length c6, .int .i64 y.d7, .int .i64 0, .int .i64 0, .int .i64 0, .slice none 0 0, .int .i64 0]) (blk_put (cs' := #[.int .i64 y.d0, .slice A1 x1.length c1, .slice A2 y.l2.length c2, .slice A3 y.l3.length c3, .slice A4 x4.length c4, .slice A5 y.l5.length c5, .slice A6 y.l6.length c6, .int .i64 0, .int .i64 0, .int .i64 0, .int .i64 0, .slice none 0 0, .int .i64 0]) (blk_put (cs' := #[.int .i64 y.d0, .slice A1 x1.length c1, .slice A2 y.l2.length c2, .slice A3 y.l3.length c3, .slice A4 x4.length c4, .slice A5 y.l5.length c5, .slice none 0 0, .int .i64 0, .int .i64 0, .int .i64 0, .int .i64 0, .slice none 0 0, .int .i64 0]) (blk_put (cs' := #[.int .i64 y.d0, .slice A1 x1.length c1, .slice A2 y.l2.length c2, .slice A3 y.l3.length c3, .slice A4 x4.length c4, .slice none 0 0, .slice none 0 0, .int .i64 0, .int .i64 0, .int .i64 0, .int .i64 0, .slice none 0 0, .int .i64 0]) (blk_put (cs' := #[.int .i64 y.d0, .slice A1 x1.length c1, .slice A2 y.l2.length c2, .slice A3 y.l3.length c3, .slice none 0 0, .slice none 0 0, .slice none 0 0, .int .i64 0, .int .i64 0, .int .i64 0, .int .i64 0, .slice none 0 0, .int .i64 0]) (blk_put (cs' := #[.int .i64 y.d0, .slice A1 x1.length c1, .slice A2 y.l2.length c2, .slice none 0 0, .slice none 0 0, .slice none 0 0, .slice none 0 0, .int .i64 0, .int .i64 0, .int .i64 0, .int .i64 0, .slice none 0 0, .int .i64 0]) (blk_put (cs' := #[.int .i64 y.d0, .slice A1 x1.length c1, .slice none 0 0, .slice none 0 0, .slice none 0 0, .slice none 0 0, .slice none 0 0, .int .i64 0, .int .i64 0, .int .i64 0, .int .i64 0, .slice none 0 0, .int .i64 0]) (blk_put (cs' := #[.int .i64 y.d0, .slice none 0 0, .slice none 0 0, .slice none 0 0, .slice none 0 0, .slice none 0 0, .slice none 0 0, .int .i64 0, .int .i64 0, .int .i64 0, .int .i64 0, .slice none 0 0, .int .i64 0]) (blk_far (blk_far BR.out (p := ⟨w.heap.size + 1 + 1, 11, none⟩) (by simp) _) (p := ⟨w.heap.size + 1 + 1, 12, none⟩) (by simp) _) 0 (.int .i64 y.d0) rfl) 1 (.slice A1 x1.length c1) rfl) 2 (.slice A2 y.l2.length c2) rfl) 3 (.slice A3 y.l3.length c3) rfl) 4 (.slice A4 x4.length c4) rfl) 5 (.slice A5 y.l5.length c5) rfl) 6 (.slice A6 y.l6.length c6) rfl) 7 (.int .i64 y.d7) rfl) 8 (.int .i64 y.d8) rfl) 9 (.int .i64 y.d9) rfl) 10 (.int .i64 y.d10) rfl) 11 (.slice A11 x11.length c11) rfl) 12 (.int .i64 y.d12) rfl) Try.underlying41 rfl (by kernel_rfl)) rfl ?_
  have hk : Kept w8 (((((((((((((((w8.setCell ⟨w.heap.size + 1 + 1, 11, none⟩ (.slice A11 x11.length c11)).setCell ⟨w.heap.size + 1 + 1, 12, none⟩ (.int .i64 y.d12)).setCell ⟨w.heap.size + 1, 0, none⟩ (.int .i64 y.d0)).setCell ⟨w.heap.size + 1, 1, none⟩ (.slice A1 x1.length c1)).setCell ⟨w.heap.size + 1, 2, none⟩ (.slice A2 y.l2.length c2)).setCell ⟨w.heap.size + 1, 3, none⟩ (.slice A3 y.l3.length c3)).setCell ⟨w.heap.size + 1, 4, none⟩ (.slice A4 x4.length c4)).setCell ⟨w.heap.size + 1, 5, none⟩ (.slice A5 y.l5.length c5)).setCell ⟨w.heap.size + 1, 6, none⟩ (.slice A6 y.l6.length c6)).setCell ⟨w.heap.size + 1, 7, none⟩ (.int .i64 y.d7)).setCell ⟨w.heap.size + 1, 8, none⟩ (.int .i64 y.d8)).setCell ⟨w.heap.size + 1, 9, none⟩ (.int .i64 y.d9)).setCell ⟨w.heap.size + 1, 10, none⟩ (.int .i64 y.d10)).setCell ⟨w.heap.size + 1, 11, none⟩ (.slice A11 x11.length c11)).setCell ⟨w.heap.size + 1, 12, none⟩ (.int .i64 y.d12)) (fun k => k = w.heap.size + 1 + 1 ∨ k = w.heap.size + 1) := Kept.setCell (Kept.setCell (Kept.setCell (Kept.setCell (Kept.setCell (Kept.setCell (Kept.setCell (Kept.setCell (Kept.setCell (Kept.setCell (Kept.setCell (Kept.setCell (Kept.setCell (Kept.setCell (Kept.setCell (Kept.refl _ _) (p := ⟨w.heap.size + 1 + 1, 11, none⟩) (Or.inl (Or.inl rfl)) (.slice A11 x11.length c11)) (p := ⟨w.heap.size + 1 + 1, 12, none⟩) (Or.inl (Or.inl rfl)) (.int .i64 y.d12)) (p := ⟨w.heap.size + 1, 0, none⟩) (Or.inl (Or.inr rfl)) (.int .i64 y.d0)) (p := ⟨w.heap.size + 1, 1, none⟩) (Or.inl (Or.inr rfl)) (.slice A1 x1.length c1)) (p := ⟨w.heap.size + 1, 2, none⟩) (Or.inl (Or.inr rfl)) (.slice A2 y.l2.length c2)) (p := ⟨w.heap.size + 1, 3, none⟩) (Or.inl (Or.inr rfl)) (.slice A3 y.l3.length c3)) (p := ⟨w.heap.size + 1, 4, none⟩) (Or.inl (Or.inr rfl)) (.slice A4 x4.length c4)) (p := ⟨w.heap.size + 1, 5, none⟩) (Or.inl (Or.inr rfl)) (.slice A5 y.l5.length c5)) (p := ⟨w.heap.size + 1, 6, none⟩) (Or.inl (Or.inr rfl)) (.slice A6 y.l6.length c6)) (p := ⟨w.heap.size + 1, 7, none⟩) (Or.inl (Or.inr rfl)) (.int .i64 y.d7)) (p := ⟨w.heap.size + 1, 8, none⟩) (Or.inl (Or.inr rfl)) (.int .i64 y.d8)) (p := ⟨w.heap.size + 1, 9, none⟩) (Or.inl (Or.inr rfl)) (.int .i64 y.d9)) (p := ⟨w.heap.size + 1, 10, none⟩) (Or.inl (Or.inr rfl)) (.int .i64 y.d10)) (p := ⟨w.heap.size + 1, 11, none⟩) (Or.inl (Or.inr rfl)) (.slice A11 x11.length c11)) (p := ⟨w.heap.size + 1, 12, none⟩) (Or.inl (Or.inr rfl)) (.int .i64 y.d12)
  have Z1 := (Kd.R_kept M1.out hk (fun k h h' => by have := HS.out; omega))
  have Z2 := (Kd.R_kept M2.out hk (fun k h h' => by have := HS.out; omega))
  have Z3 := (Kd.R_kept M3.out hk (fun k h h' => by have := HS.out; omega))
  have Z4 := (Kd.S_kept M4.out hk (fun k h h' => by have := HS.out; omega))
  have Z5 := (Kd.R_kept M5.out hk (fun k h h' => by have := HS.out; omega))
  have Z6 := (Kd.R_kept M6.out hk (fun k h h' => by have := HS.out; omega))
  have Z11 := (Kd.R_kept M11.out hk (fun k h h' => by have := HS.out; omega))
  have hbf : Below w.heap.size w (((((((((((((((w8.setCell ⟨w.heap.size + 1 + 1, 11, none⟩ (.slice A11 x11.length c11)).setCell ⟨w.heap.size + 1 + 1, 12, none⟩ (.int .i64 y.d12)).setCell ⟨w.heap.size + 1, 0, none⟩ (.int .i64 y.d0)).setCell ⟨w.heap.size + 1, 1, none⟩ (.slice A1 x1.length c1)).setCell ⟨w.heap.size + 1, 2, none⟩ (.slice A2 y.l2.length c2)).setCell ⟨w.heap.size + 1, 3, none⟩ (.slice A3 y.l3.length c3)).setCell ⟨w.heap.size + 1, 4, none⟩ (.slice A4 x4.length c4)).setCell ⟨w.heap.size + 1, 5, none⟩ (.slice A5 y.l5.length c5)).setCell ⟨w.heap.size + 1, 6, none⟩ (.slice A6 y.l6.length c6)).setCell ⟨w.heap.size + 1, 7, none⟩ (.int .i64 y.d7)).setCell ⟨w.heap.size + 1, 8, none⟩ (.int .i64 y.d8)).setCell ⟨w.heap.size + 1, 9, none⟩ (.int .i64 y.d9)).setCell ⟨w.heap.size + 1, 10, none⟩ (.int .i64 y.d10)).setCell ⟨w.heap.size + 1, 11, none⟩ (.slice A11 x11.length c11)).setCell ⟨w.heap.size + 1, 12, none⟩ (.int .i64 y.d12)) := below_set (below_set (below_set (below_set (below_set (below_set (below_set (below_set (below_set (below_set (below_set (below_set (below_set (below_set (below_set (HB.out) (by omega)) (by omega)) (by omega)) (by omega)) (by omega)) (by omega)) (by omega)) (by omega)) (by omega)) (by omega)) (by omega)) (by omega)) (by omega)) (by omega)) (by omega)
  have hszf := hk.1
  obtain rfl := HX1.out
  obtain rfl := HX4.out
  obtain rfl := HX11.out
  refine ⟨⟨A1, c1, A2, c2, A3, c3, A4, c4, A5, c5, A6, c6, A11, c11⟩, rfl, ⟨?z1, ?z2, ?z3, ?z4, ?z5, ?z6, ?z11⟩, hbf⟩
  case z1 => exact Kd.R_mono Z1 (fun k h => ⟨by have := HS.out; omega, by have := HS.out; omega⟩)
  case z2 => exact Kd.R_mono Z2 (fun k h => ⟨⟨by have := HS.out; omega, by have := HS.out; omega⟩, fun e_ => by have h2_ := Z3.1 k e_.symm; have := HS.out; omega, fun e_ => by have h2_ := Z5.1 k e_.symm; have := HS.out; omega, fun e_ => by have h2_ := Z6.1 k e_.symm; have := HS.out; omega⟩)
  case z3 => exact Kd.R_mono Z3 (fun k h => ⟨⟨by have := HS.out; omega, by have := HS.out; omega⟩, fun e_ => by have h2_ := Z2.1 k e_.symm; have := HS.out; omega, fun e_ => by have h2_ := Z5.1 k e_.symm; have := HS.out; omega, fun e_ => by have h2_ := Z6.1 k e_.symm; have := HS.out; omega⟩)
  case z4 => exact Kd.S_mono Z4 (fun k h => ⟨⟨by have := HS.out; omega, by have := HS.out; omega⟩, fun e_ => by have h2_ := Z2.1 k e_.symm; have := HS.out; omega, fun e_ => by have h2_ := Z3.1 k e_.symm; have := HS.out; omega, fun e_ => by have h2_ := Z5.1 k e_.symm; have := HS.out; omega, fun e_ => by have h2_ := Z6.1 k e_.symm; have := HS.out; omega⟩)
  case z5 => exact Kd.R_mono Z5 (fun k h => ⟨⟨by have := HS.out; omega, by have := HS.out; omega⟩, fun e_ => by have h2_ := Z2.1 k e_.symm; have := HS.out; omega, fun e_ => by have h2_ := Z3.1 k e_.symm; have := HS.out; omega, fun e_ => by have h2_ := Z6.1 k e_.symm; have := HS.out; omega⟩)
  case z6 => exact Kd.R_mono Z6 (fun k h => ⟨⟨by have := HS.out; omega, by have := HS.out; omega⟩, fun e_ => by have h2_ := Z2.1 k e_.symm; have := HS.out; omega, fun e_ => by have h2_ := Z3.1 k e_.symm; have := HS.out; omega, fun e_ => by have h2_ := Z5.1 k e_.symm; have := HS.out; omega⟩)
  case z11 => exact Kd.R_mono Z11 (fun k h => ⟨by have := HS.out; omega, by have := HS.out; omega⟩)
/-! ### wsz -/
set_option maxHeartbeats 8000000 in
set_option maxRecDepth 100000 in
theorem szWorld_c (y : LW) (q : LP) (w : World) (hq : y.Rd q w) (g1 : y.l1.length ≤ 9223372036854775807) (g2 : y.l2.length ≤ 9223372036854775807) (g3 : y.l3.length ≤ 9223372036854775807) (g4 : y.l4.length ≤ 9223372036854775807 ∧ ∀ p ∈ y.l4, p.f2.length ≤ 9223372036854775807) (g5 : y.l5.length ≤ 9223372036854775807) (g6 : y.l6.length ≤ 9223372036854775807) (g11 : y.l11.length ≤ 9223372036854775807) :
    Calls Try.prog 15 #[.agg (y.cells q), .int .i64 1048576] w fun e w' => ∃ r : Int, e = .returned (.int .i64 r) ∧ (0 ≤ r → y.Ok) ∧ Below w.heap.size w w' := by
  have hv := Try.underlying31
  have hv2 := Try.underlying24
  have HQ := Aside0.mk hq
  clear hq
  go_enter Try.func15, Try.ntmps15
  have h0a : 0 ≤ (1048576 : Int) := by omega
  have h1a : (1048576 : Int) ≤ 1048576 := by omega
  obtain ⟨r1, hr1⟩ : ∃ r_, r_ = leftL y.l1 1048576 := ⟨_, rfl⟩
  have hle1 : r1 ≤ 1048576 := by rw [hr1]; exact Int.le_trans (leftL_le y.l1 h0a) h1a
  have E1 := Aside0.mk (show laws_szNet.f y.d0 y.l1 1048576 = some r1 from by rw [hr1]; exact szNet_eq y.d0 y.l1 1048576 h0a h1a g1)
  have O1 := Aside0.mk (fun h => leftL_ok' h1a (by rw [← hr1]; exact h) : 0 ≤ r1 → y.l1.length ≤ 1048576); clear hr1
  clear h0a h1a
  go_wp2_with fail
  go_at_call 65; (with_reducible refine (laws_szNet.calls y.d0 q.A1 q.c1 y.l1 1048576 r1 _ ?s0 HQ.out.h1 E1.out).mono ?_); (case s0 => exact (HQ.out.below (by repeat (first | (with_reducible first | exact Below.refl _ _ | apply below_alloc | apply pw_below_drewN | apply below_drew1) | exact Below.refl _ _))).r1); rintro e w1 ⟨rfl, hb⟩
  have HB := Aside0.mk (below_step (w := w) (by repeat (first | (with_reducible first | exact Below.refl _ _ | apply below_alloc | apply pw_below_drewN | apply below_drew1) | exact Below.refl _ _)) hb); have BY := Aside0.mk (show w1.heap[w.heap.size]? = some (.cells (y.cells q) 31 (0, 0)) from blk_below (by repeat (first | exact blk_new _ _ | refine blk_drewN ?_ _ | refine blk_alloc ?_ _)) hb); clear hb
  by_cases c1 : r1 < 0
  · have d1 : decide (r1 < 0) = true := decide_eq_true c1
    go_wp2
    go_ret
    exact ⟨-1, rfl, fun h => by omega, (below_step HB.out (by repeat (first | (with_reducible first | exact Below.refl _ _ | apply below_alloc | apply pw_below_drewN | apply below_drew1) | exact Below.refl _ _)))⟩
  have d1 : decide (r1 < 0) = false := decide_eq_false c1
  obtain ⟨hy0, hy1, hy2, hy3, hy4, hy5, hy6, hy7, hy8, hy9, hy10, hy11, hy12⟩ := LW.at_ BY.out
  have h0a : 0 ≤ (r1 : Int) := by omega
  have h1a : (r1 : Int) ≤ 1048576 := by omega
  obtain ⟨r2, hr2⟩ : ∃ r_, r_ = leftL y.l2 r1 := ⟨_, rfl⟩
  have hle2 : r2 ≤ 1048576 := by rw [hr2]; exact Int.le_trans (leftL_le y.l2 h0a) h1a
  have E2 := Aside0.mk (show laws_szIntS.f y.l2 r1 = some r2 from by rw [hr2]; exact (szIntS_eq y.l2 r1 h0a h1a g2).trans (by rw [leftI_eq]))
  have O2 := Aside0.mk (fun h => leftL_ok' h1a (by rw [← hr2]; exact h) : 0 ≤ r2 → y.l2.length ≤ 1048576); clear hr2
  clear h0a h1a
  go_wp2_with fail
  go_at_call 66; (with_reducible refine (laws_szIntS.calls q.A2 q.c2 y.l2 r1 r2 _ ?s0 HQ.out.h2 E2.out).mono ?_); (case s0 => exact (HQ.out.below (below_step HB.out (by repeat (first | (with_reducible first | exact Below.refl _ _ | apply below_alloc | apply pw_below_drewN | apply below_drew1) | exact Below.refl _ _)))).r2); rintro e w' ⟨rfl, ⟨nd, rfl⟩⟩
  clear hy0 hy1 hy2 hy3 hy4 hy5 hy6 hy7 hy8 hy9 hy10 hy11 hy12
  by_cases c2 : r2 < 0
  · have d2 : decide (r2 < 0) = true := decide_eq_true c2
    go_wp2
    go_ret
    exact ⟨-1, rfl, fun h => by omega, (below_step HB.out (by repeat (first | (with_reducible first | exact Below.refl _ _ | apply below_alloc | apply pw_below_drewN | apply below_drew1) | exact Below.refl _ _)))⟩
  have d2 : decide (r2 < 0) = false := decide_eq_false c2
  obtain ⟨hy0, hy1, hy2, hy3, hy4, hy5, hy6, hy7, hy8, hy9, hy10, hy11, hy12⟩ := LW.at_ BY.out
  have h0a : 0 ≤ (r2 : Int) := by omega
  have h1a : (r2 : Int) ≤ 1048576 := by omega
  obtain ⟨r3, hr3⟩ : ∃ r_, r_ = leftL y.l3 r2 := ⟨_, rfl⟩
  have hle3 : r3 ≤ 1048576 := by rw [hr3]; exact Int.le_trans (leftL_le y.l3 h0a) h1a
  have E3 := Aside0.mk (show laws_szIntS.f y.l3 r2 = some r3 from by rw [hr3]; exact (szIntS_eq y.l3 r2 h0a h1a g3).trans (by rw [leftI_eq]))
  have O3 := Aside0.mk (fun h => leftL_ok' h1a (by rw [← hr3]; exact h) : 0 ≤ r3 → y.l3.length ≤ 1048576); clear hr3
  clear h0a h1a
  go_wp2_with fail
  go_at_call 66; (with_reducible refine (laws_szIntS.calls q.A3 q.c3 y.l3 r2 r3 _ ?s0 HQ.out.h3 E3.out).mono ?_); (case s0 => exact (HQ.out.below (below_step HB.out (by repeat (first | (with_reducible first | exact Below.refl _ _ | apply below_alloc | apply pw_below_drewN | apply below_drew1) | exact Below.refl _ _)))).r3); rintro e w' ⟨rfl, ⟨nd, rfl⟩⟩
  clear hy0 hy1 hy2 hy3 hy4 hy5 hy6 hy7 hy8 hy9 hy10 hy11 hy12
  by_cases c3 : r3 < 0
  · have d3 : decide (r3 < 0) = true := decide_eq_true c3
    go_wp2
    go_ret
    exact ⟨-1, rfl, fun h => by omega, (below_step HB.out (by repeat (first | (with_reducible first | exact Below.refl _ _ | apply below_alloc | apply pw_below_drewN | apply below_drew1) | exact Below.refl _ _)))⟩
  have d3 : decide (r3 < 0) = false := decide_eq_false c3
  obtain ⟨hy0, hy1, hy2, hy3, hy4, hy5, hy6, hy7, hy8, hy9, hy10, hy11, hy12⟩ := LW.at_ BY.out
  have h0a : 0 ≤ (r3 : Int) := by omega
  have h1a : (r3 : Int) ≤ 1048576 := by omega
  obtain ⟨r4, he4, hle4, hok4⟩ := szProbeS_ev y.l4 r3 h0a h1a g4.1 g4.2
  obtain ⟨k4, hk4⟩ := he4.rounds
  have E4 := Aside0.mk hk4; have O4 := Aside0.mk hok4; clear hk4 hok4 he4
  clear h0a h1a
  go_wp2_with fail
  go_at_call 67; (with_reducible refine (laws_szProbeS.calls k4 q.A4 q.c4 y.l4 r3 r4 _ ?s0 HQ.out.h4 E4.out).mono ?_); (case s0 => exact (HQ.out.below (below_step HB.out (by repeat (first | (with_reducible first | exact Below.refl _ _ | apply below_alloc | apply pw_below_drewN | apply below_drew1) | exact Below.refl _ _)))).r4); rintro e w4 ⟨rfl, hb⟩
  have hs := below_step (w := w1) (by repeat (first | (with_reducible first | exact Below.refl _ _ | apply below_alloc | apply pw_below_drewN | apply below_drew1) | exact Below.refl _ _)) hb; have HB2 := Aside0.mk (below_step HB.out hs); have BY2 := Aside0.mk (blk_below BY.out hs); clear HB BY hb hs hy0 hy1 hy2 hy3 hy4 hy5 hy6 hy7 hy8 hy9 hy10 hy11 hy12; have HB := HB2; have BY := BY2; clear HB2 BY2
  by_cases c4 : r4 < 0
  · have d4 : decide (r4 < 0) = true := decide_eq_true c4
    go_wp2
    go_ret
    exact ⟨-1, rfl, fun h => by omega, (below_step HB.out (by repeat (first | (with_reducible first | exact Below.refl _ _ | apply below_alloc | apply pw_below_drewN | apply below_drew1) | exact Below.refl _ _)))⟩
  have d4 : decide (r4 < 0) = false := decide_eq_false c4
  obtain ⟨hy0, hy1, hy2, hy3, hy4, hy5, hy6, hy7, hy8, hy9, hy10, hy11, hy12⟩ := LW.at_ BY.out
  have h0a : 0 ≤ (r4 : Int) := by omega
  have h1a : (r4 : Int) ≤ 1048576 := by omega
  obtain ⟨r5, hr5⟩ : ∃ r_, r_ = leftL y.l5 r4 := ⟨_, rfl⟩
  have hle5 : r5 ≤ 1048576 := by rw [hr5]; exact Int.le_trans (leftL_le y.l5 h0a) h1a
  have E5 := Aside0.mk (show laws_szIntS.f y.l5 r4 = some r5 from by rw [hr5]; exact (szIntS_eq y.l5 r4 h0a h1a g5).trans (by rw [leftI_eq]))
  have O5 := Aside0.mk (fun h => leftL_ok' h1a (by rw [← hr5]; exact h) : 0 ≤ r5 → y.l5.length ≤ 1048576); clear hr5
  clear h0a h1a
  go_wp2_with fail
  go_at_call 66; (with_reducible refine (laws_szIntS.calls q.A5 q.c5 y.l5 r4 r5 _ ?s0 HQ.out.h5 E5.out).mono ?_); (case s0 => exact (HQ.out.below (below_step HB.out (by repeat (first | (with_reducible first | exact Below.refl _ _ | apply below_alloc | apply pw_below_drewN | apply below_drew1) | exact Below.refl _ _)))).r5); rintro e w' ⟨rfl, ⟨nd, rfl⟩⟩
  clear hy0 hy1 hy2 hy3 hy4 hy5 hy6 hy7 hy8 hy9 hy10 hy11 hy12
  by_cases c5 : r5 < 0
  · have d5 : decide (r5 < 0) = true := decide_eq_true c5
    go_wp2
    go_ret
    exact ⟨-1, rfl, fun h => by omega, (below_step HB.out (by repeat (first | (with_reducible first | exact Below.refl _ _ | apply below_alloc | apply pw_below_drewN | apply below_drew1) | exact Below.refl _ _)))⟩
  have d5 : decide (r5 < 0) = false := decide_eq_false c5
  obtain ⟨hy0, hy1, hy2, hy3, hy4, hy5, hy6, hy7, hy8, hy9, hy10, hy11, hy12⟩ := LW.at_ BY.out
  have h0a : 0 ≤ (r5 : Int) := by omega
  have h1a : (r5 : Int) ≤ 1048576 := by omega
  obtain ⟨r6, hr6⟩ : ∃ r_, r_ = leftL y.l6 r5 := ⟨_, rfl⟩
  have hle6 : r6 ≤ 1048576 := by rw [hr6]; exact Int.le_trans (leftL_le y.l6 h0a) h1a
  have E6 := Aside0.mk (show laws_szIntS.f y.l6 r5 = some r6 from by rw [hr6]; exact (szIntS_eq y.l6 r5 h0a h1a g6).trans (by rw [leftI_eq]))
  have O6 := Aside0.mk (fun h => leftL_ok' h1a (by rw [← hr6]; exact h) : 0 ≤ r6 → y.l6.length ≤ 1048576); clear hr6
  clear h0a h1a
  go_wp2_with fail
  go_at_call 66; (with_reducible refine (laws_szIntS.calls q.A6 q.c6 y.l6 r5 r6 _ ?s0 HQ.out.h6 E6.out).mono ?_); (case s0 => exact (HQ.out.below (below_step HB.out (by repeat (first | (with_reducible first | exact Below.refl _ _ | apply below_alloc | apply pw_below_drewN | apply below_drew1) | exact Below.refl _ _)))).r6); rintro e w' ⟨rfl, ⟨nd, rfl⟩⟩
  clear hy0 hy1 hy2 hy3 hy4 hy5 hy6 hy7 hy8 hy9 hy10 hy11 hy12
  by_cases c6 : r6 < 0
  · have d6 : decide (r6 < 0) = true := decide_eq_true c6
    go_wp2
    go_ret
    exact ⟨-1, rfl, fun h => by omega, (below_step HB.out (by repeat (first | (with_reducible first | exact Below.refl _ _ | apply below_alloc | apply pw_below_drewN | apply below_drew1) | exact Below.refl _ _)))⟩
  have d6 : decide (r6 < 0) = false := decide_eq_false c6
  obtain ⟨hy0, hy1, hy2, hy3, hy4, hy5, hy6, hy7, hy8, hy9, hy10, hy11, hy12⟩ := LW.at_ BY.out
  have h0a : 0 ≤ (r6 : Int) := by omega
  have h1a : (r6 : Int) ≤ 1048576 := by omega
  obtain ⟨r11, hr11⟩ : ∃ r_, r_ = leftL y.l11 r6 := ⟨_, rfl⟩
  have hle11 : r11 ≤ 1048576 := by rw [hr11]; exact Int.le_trans (leftL_le y.l11 h0a) h1a
  have E11 := Aside0.mk (show laws_szSeenS.f y.l11 r6 = some r11 from by rw [hr11]; exact szSeenS_eq y.l11 r6 h0a h1a g11)
  have O11 := Aside0.mk (fun h => leftL_ok' h1a (by rw [← hr11]; exact h) : 0 ≤ r11 → y.l11.length ≤ 1048576); clear hr11
  clear h0a h1a
  go_wp2_with fail
  go_at_call 68; (with_reducible refine (laws_szSeenS.calls q.A11 q.c11 y.l11 r6 r11 _ ?s0 HQ.out.h11 E11.out).mono ?_); (case s0 => exact (HQ.out.below (below_step HB.out (by repeat (first | (with_reducible first | exact Below.refl _ _ | apply below_alloc | apply pw_below_drewN | apply below_drew1) | exact Below.refl _ _)))).r11); rintro e w' ⟨rfl, ⟨nd, rfl⟩⟩
  clear hy0 hy1 hy2 hy3 hy4 hy5 hy6 hy7 hy8 hy9 hy10 hy11 hy12
  by_cases c11 : r11 < 0
  · have d11 : decide (r11 < 0) = true := decide_eq_true c11
    go_wp2
    go_ret
    exact ⟨-1, rfl, fun h => by omega, (below_step HB.out (by repeat (first | (with_reducible first | exact Below.refl _ _ | apply below_alloc | apply pw_below_drewN | apply below_drew1) | exact Below.refl _ _)))⟩
  have d11 : decide (r11 < 0) = false := decide_eq_false c11
  go_wp2
  go_ret
  exact ⟨r11, rfl, fun _ => ⟨O1.out (by omega), O2.out (by omega), O3.out (by omega), O4.out (by omega), O5.out (by omega), O6.out (by omega), O11.out (by omega)⟩, (below_step HB.out (by repeat (first | (with_reducible first | exact Below.refl _ _ | apply below_alloc | apply pw_below_drewN | apply below_drew1) | exact Below.refl _ _)))⟩
/-! ### wsza -/
set_option maxHeartbeats 8000000 in
set_option maxRecDepth 100000 in
theorem szWorldA_c (y : LW) (q : LP) (w : World) (hq : y.Rd q w) (g1 : y.l1.length ≤ 9223372036854775807) (g2 : y.l2.length ≤ 9223372036854775807) (g3 : y.l3.length ≤ 9223372036854775807) (g4 : y.l4.length ≤ 9223372036854775807 ∧ ∀ p ∈ y.l4, p.f2.length ≤ 9223372036854775807) (g5 : y.l5.length ≤ 9223372036854775807) (g6 : y.l6.length ≤ 9223372036854775807) (g11 : y.l11.length ≤ 9223372036854775807) (a0 : Int) (ha0 : 0 ≤ a0) (ha1 : a0 ≤ 1048576) :
    Calls Try.prog 15 #[.agg (y.cells q), .int .i64 a0] w fun e w' => ∃ r : Int, e = .returned (.int .i64 r) ∧ (0 ≤ r → y.Ok) ∧ r ≤ 1048576 ∧ Below w.heap.size w w' := by
  have hv := Try.underlying31
  have hv2 := Try.underlying24
  have HQ := Aside0.mk hq
  clear hq
  go_enter Try.func15, Try.ntmps15
  have h0a : 0 ≤ (a0 : Int) := by omega
  have h1a : (a0 : Int) ≤ 1048576 := by omega
  obtain ⟨r1, hr1⟩ : ∃ r_, r_ = leftL y.l1 a0 := ⟨_, rfl⟩
  have hle1 : r1 ≤ 1048576 := by rw [hr1]; exact Int.le_trans (leftL_le y.l1 h0a) h1a
  have E1 := Aside0.mk (show laws_szNet.f y.d0 y.l1 a0 = some r1 from by rw [hr1]; exact szNet_eq y.d0 y.l1 a0 h0a h1a g1)
  have O1 := Aside0.mk (fun h => leftL_ok' h1a (by rw [← hr1]; exact h) : 0 ≤ r1 → y.l1.length ≤ 1048576); clear hr1
  clear h0a h1a
  go_wp2_with fail
  go_at_call 65; (with_reducible refine (laws_szNet.calls y.d0 q.A1 q.c1 y.l1 a0 r1 _ ?s0 HQ.out.h1 E1.out).mono ?_); (case s0 => exact (HQ.out.below (by repeat (first | (with_reducible first | exact Below.refl _ _ | apply below_alloc | apply pw_below_drewN | apply below_drew1) | exact Below.refl _ _))).r1); rintro e w1 ⟨rfl, hb⟩
  have HB := Aside0.mk (below_step (w := w) (by repeat (first | (with_reducible first | exact Below.refl _ _ | apply below_alloc | apply pw_below_drewN | apply below_drew1) | exact Below.refl _ _)) hb); have BY := Aside0.mk (show w1.heap[w.heap.size]? = some (.cells (y.cells q) 31 (0, 0)) from blk_below (by repeat (first | exact blk_new _ _ | refine blk_drewN ?_ _ | refine blk_alloc ?_ _)) hb); clear hb
  by_cases c1 : r1 < 0
  · have d1 : decide (r1 < 0) = true := decide_eq_true c1
    go_wp2
    go_ret
    exact ⟨-1, rfl, fun h => by omega, by omega, (below_step HB.out (by repeat (first | (with_reducible first | exact Below.refl _ _ | apply below_alloc | apply pw_below_drewN | apply below_drew1) | exact Below.refl _ _)))⟩
  have d1 : decide (r1 < 0) = false := decide_eq_false c1
  obtain ⟨hy0, hy1, hy2, hy3, hy4, hy5, hy6, hy7, hy8, hy9, hy10, hy11, hy12⟩ := LW.at_ BY.out
  have h0a : 0 ≤ (r1 : Int) := by omega
  have h1a : (r1 : Int) ≤ 1048576 := by omega
  obtain ⟨r2, hr2⟩ : ∃ r_, r_ = leftL y.l2 r1 := ⟨_, rfl⟩
  have hle2 : r2 ≤ 1048576 := by rw [hr2]; exact Int.le_trans (leftL_le y.l2 h0a) h1a
  have E2 := Aside0.mk (show laws_szIntS.f y.l2 r1 = some r2 from by rw [hr2]; exact (szIntS_eq y.l2 r1 h0a h1a g2).trans (by rw [leftI_eq]))
  have O2 := Aside0.mk (fun h => leftL_ok' h1a (by rw [← hr2]; exact h) : 0 ≤ r2 → y.l2.length ≤ 1048576); clear hr2
  clear h0a h1a
  go_wp2_with fail
  go_at_call 66; (with_reducible refine (laws_szIntS.calls q.A2 q.c2 y.l2 r1 r2 _ ?s0 HQ.out.h2 E2.out).mono ?_); (case s0 => exact (HQ.out.below (below_step HB.out (by repeat (first | (with_reducible first | exact Below.refl _ _ | apply below_alloc | apply pw_below_drewN | apply below_drew1) | exact Below.refl _ _)))).r2); rintro e w' ⟨rfl, ⟨nd, rfl⟩⟩
  clear hy0 hy1 hy2 hy3 hy4 hy5 hy6 hy7 hy8 hy9 hy10 hy11 hy12
  by_cases c2 : r2 < 0
  · have d2 : decide (r2 < 0) = true := decide_eq_true c2
    go_wp2
    go_ret
    exact ⟨-1, rfl, fun h => by omega, by omega, (below_step HB.out (by repeat (first | (with_reducible first | exact Below.refl _ _ | apply below_alloc | apply pw_below_drewN | apply below_drew1) | exact Below.refl _ _)))⟩
  have d2 : decide (r2 < 0) = false := decide_eq_false c2
  obtain ⟨hy0, hy1, hy2, hy3, hy4, hy5, hy6, hy7, hy8, hy9, hy10, hy11, hy12⟩ := LW.at_ BY.out
  have h0a : 0 ≤ (r2 : Int) := by omega
  have h1a : (r2 : Int) ≤ 1048576 := by omega
  obtain ⟨r3, hr3⟩ : ∃ r_, r_ = leftL y.l3 r2 := ⟨_, rfl⟩
  have hle3 : r3 ≤ 1048576 := by rw [hr3]; exact Int.le_trans (leftL_le y.l3 h0a) h1a
  have E3 := Aside0.mk (show laws_szIntS.f y.l3 r2 = some r3 from by rw [hr3]; exact (szIntS_eq y.l3 r2 h0a h1a g3).trans (by rw [leftI_eq]))
  have O3 := Aside0.mk (fun h => leftL_ok' h1a (by rw [← hr3]; exact h) : 0 ≤ r3 → y.l3.length ≤ 1048576); clear hr3
  clear h0a h1a
  go_wp2_with fail
  go_at_call 66; (with_reducible refine (laws_szIntS.calls q.A3 q.c3 y.l3 r2 r3 _ ?s0 HQ.out.h3 E3.out).mono ?_); (case s0 => exact (HQ.out.below (below_step HB.out (by repeat (first | (with_reducible first | exact Below.refl _ _ | apply below_alloc | apply pw_below_drewN | apply below_drew1) | exact Below.refl _ _)))).r3); rintro e w' ⟨rfl, ⟨nd, rfl⟩⟩
  clear hy0 hy1 hy2 hy3 hy4 hy5 hy6 hy7 hy8 hy9 hy10 hy11 hy12
  by_cases c3 : r3 < 0
  · have d3 : decide (r3 < 0) = true := decide_eq_true c3
    go_wp2
    go_ret
    exact ⟨-1, rfl, fun h => by omega, by omega, (below_step HB.out (by repeat (first | (with_reducible first | exact Below.refl _ _ | apply below_alloc | apply pw_below_drewN | apply below_drew1) | exact Below.refl _ _)))⟩
  have d3 : decide (r3 < 0) = false := decide_eq_false c3
  obtain ⟨hy0, hy1, hy2, hy3, hy4, hy5, hy6, hy7, hy8, hy9, hy10, hy11, hy12⟩ := LW.at_ BY.out
  have h0a : 0 ≤ (r3 : Int) := by omega
  have h1a : (r3 : Int) ≤ 1048576 := by omega
  obtain ⟨r4, he4, hle4, hok4⟩ := szProbeS_ev y.l4 r3 h0a h1a g4.1 g4.2
  obtain ⟨k4, hk4⟩ := he4.rounds
  have E4 := Aside0.mk hk4; have O4 := Aside0.mk hok4; clear hk4 hok4 he4
  clear h0a h1a
  go_wp2_with fail
  go_at_call 67; (with_reducible refine (laws_szProbeS.calls k4 q.A4 q.c4 y.l4 r3 r4 _ ?s0 HQ.out.h4 E4.out).mono ?_); (case s0 => exact (HQ.out.below (below_step HB.out (by repeat (first | (with_reducible first | exact Below.refl _ _ | apply below_alloc | apply pw_below_drewN | apply below_drew1) | exact Below.refl _ _)))).r4); rintro e w4 ⟨rfl, hb⟩
  have hs := below_step (w := w1) (by repeat (first | (with_reducible first | exact Below.refl _ _ | apply below_alloc | apply pw_below_drewN | apply below_drew1) | exact Below.refl _ _)) hb; have HB2 := Aside0.mk (below_step HB.out hs); have BY2 := Aside0.mk (blk_below BY.out hs); clear HB BY hb hs hy0 hy1 hy2 hy3 hy4 hy5 hy6 hy7 hy8 hy9 hy10 hy11 hy12; have HB := HB2; have BY := BY2; clear HB2 BY2
  by_cases c4 : r4 < 0
  · have d4 : decide (r4 < 0) = true := decide_eq_true c4
    go_wp2
    go_ret
    exact ⟨-1, rfl, fun h => by omega, by omega, (below_step HB.out (by repeat (first | (with_reducible first | exact Below.refl _ _ | apply below_alloc | apply pw_below_drewN | apply below_drew1) | exact Below.refl _ _)))⟩
  have d4 : decide (r4 < 0) = false := decide_eq_false c4
  obtain ⟨hy0, hy1, hy2, hy3, hy4, hy5, hy6, hy7, hy8, hy9, hy10, hy11, hy12⟩ := LW.at_ BY.out
  have h0a : 0 ≤ (r4 : Int) := by omega
  have h1a : (r4 : Int) ≤ 1048576 := by omega
  obtain ⟨r5, hr5⟩ : ∃ r_, r_ = leftL y.l5 r4 := ⟨_, rfl⟩
  have hle5 : r5 ≤ 1048576 := by rw [hr5]; exact Int.le_trans (leftL_le y.l5 h0a) h1a
  have E5 := Aside0.mk (show laws_szIntS.f y.l5 r4 = some r5 from by rw [hr5]; exact (szIntS_eq y.l5 r4 h0a h1a g5).trans (by rw [leftI_eq]))
  have O5 := Aside0.mk (fun h => leftL_ok' h1a (by rw [← hr5]; exact h) : 0 ≤ r5 → y.l5.length ≤ 1048576); clear hr5
  clear h0a h1a
  go_wp2_with fail
  go_at_call 66; (with_reducible refine (laws_szIntS.calls q.A5 q.c5 y.l5 r4 r5 _ ?s0 HQ.out.h5 E5.out).mono ?_); (case s0 => exact (HQ.out.below (below_step HB.out (by repeat (first | (with_reducible first | exact Below.refl _ _ | apply below_alloc | apply pw_below_drewN | apply below_drew1) | exact Below.refl _ _)))).r5); rintro e w' ⟨rfl, ⟨nd, rfl⟩⟩
  clear hy0 hy1 hy2 hy3 hy4 hy5 hy6 hy7 hy8 hy9 hy10 hy11 hy12
  by_cases c5 : r5 < 0
  · have d5 : decide (r5 < 0) = true := decide_eq_true c5
    go_wp2
    go_ret
    exact ⟨-1, rfl, fun h => by omega, by omega, (below_step HB.out (by repeat (first | (with_reducible first | exact Below.refl _ _ | apply below_alloc | apply pw_below_drewN | apply below_drew1) | exact Below.refl _ _)))⟩
  have d5 : decide (r5 < 0) = false := decide_eq_false c5
  obtain ⟨hy0, hy1, hy2, hy3, hy4, hy5, hy6, hy7, hy8, hy9, hy10, hy11, hy12⟩ := LW.at_ BY.out
  have h0a : 0 ≤ (r5 : Int) := by omega
  have h1a : (r5 : Int) ≤ 1048576 := by omega
  obtain ⟨r6, hr6⟩ : ∃ r_, r_ = leftL y.l6 r5 := ⟨_, rfl⟩
  have hle6 : r6 ≤ 1048576 := by rw [hr6]; exact Int.le_trans (leftL_le y.l6 h0a) h1a
  have E6 := Aside0.mk (show laws_szIntS.f y.l6 r5 = some r6 from by rw [hr6]; exact (szIntS_eq y.l6 r5 h0a h1a g6).trans (by rw [leftI_eq]))
  have O6 := Aside0.mk (fun h => leftL_ok' h1a (by rw [← hr6]; exact h) : 0 ≤ r6 → y.l6.length ≤ 1048576); clear hr6
  clear h0a h1a
  go_wp2_with fail
  go_at_call 66; (with_reducible refine (laws_szIntS.calls q.A6 q.c6 y.l6 r5 r6 _ ?s0 HQ.out.h6 E6.out).mono ?_); (case s0 => exact (HQ.out.below (below_step HB.out (by repeat (first | (with_reducible first | exact Below.refl _ _ | apply below_alloc | apply pw_below_drewN | apply below_drew1) | exact Below.refl _ _)))).r6); rintro e w' ⟨rfl, ⟨nd, rfl⟩⟩
  clear hy0 hy1 hy2 hy3 hy4 hy5 hy6 hy7 hy8 hy9 hy10 hy11 hy12
  by_cases c6 : r6 < 0
  · have d6 : decide (r6 < 0) = true := decide_eq_true c6
    go_wp2
    go_ret
    exact ⟨-1, rfl, fun h => by omega, by omega, (below_step HB.out (by repeat (first | (with_reducible first | exact Below.refl _ _ | apply below_alloc | apply pw_below_drewN | apply below_drew1) | exact Below.refl _ _)))⟩
  have d6 : decide (r6 < 0) = false := decide_eq_false c6
  obtain ⟨hy0, hy1, hy2, hy3, hy4, hy5, hy6, hy7, hy8, hy9, hy10, hy11, hy12⟩ := LW.at_ BY.out
  have h0a : 0 ≤ (r6 : Int) := by omega
  have h1a : (r6 : Int) ≤ 1048576 := by omega
  obtain ⟨r11, hr11⟩ : ∃ r_, r_ = leftL y.l11 r6 := ⟨_, rfl⟩
  have hle11 : r11 ≤ 1048576 := by rw [hr11]; exact Int.le_trans (leftL_le y.l11 h0a) h1a
  have E11 := Aside0.mk (show laws_szSeenS.f y.l11 r6 = some r11 from by rw [hr11]; exact szSeenS_eq y.l11 r6 h0a h1a g11)
  have O11 := Aside0.mk (fun h => leftL_ok' h1a (by rw [← hr11]; exact h) : 0 ≤ r11 → y.l11.length ≤ 1048576); clear hr11
  clear h0a h1a
  go_wp2_with fail
  go_at_call 68; (with_reducible refine (laws_szSeenS.calls q.A11 q.c11 y.l11 r6 r11 _ ?s0 HQ.out.h11 E11.out).mono ?_); (case s0 => exact (HQ.out.below (below_step HB.out (by repeat (first | (with_reducible first | exact Below.refl _ _ | apply below_alloc | apply pw_below_drewN | apply below_drew1) | exact Below.refl _ _)))).r11); rintro e w' ⟨rfl, ⟨nd, rfl⟩⟩
  clear hy0 hy1 hy2 hy3 hy4 hy5 hy6 hy7 hy8 hy9 hy10 hy11 hy12
  by_cases c11 : r11 < 0
  · have d11 : decide (r11 < 0) = true := decide_eq_true c11
    go_wp2
    go_ret
    exact ⟨-1, rfl, fun h => by omega, by omega, (below_step HB.out (by repeat (first | (with_reducible first | exact Below.refl _ _ | apply below_alloc | apply pw_below_drewN | apply below_drew1) | exact Below.refl _ _)))⟩
  have d11 : decide (r11 < 0) = false := decide_eq_false c11
  go_wp2
  go_ret
  exact ⟨r11, rfl, fun _ => ⟨O1.out (by omega), O2.out (by omega), O3.out (by omega), O4.out (by omega), O5.out (by omega), O6.out (by omega), O11.out (by omega)⟩, by omega, (below_step HB.out (by repeat (first | (with_reducible first | exact Below.refl _ _ | apply below_alloc | apply pw_below_drewN | apply below_drew1) | exact Below.refl _ _)))⟩
/-! ### small -/
/-! ### eqworlds -/
def eqLst {α : Type} (e : α → α → Bool) : List α → List α → Bool
  | [], [] => true
  | x :: xs, y :: ys => e x y && eqLst e xs ys
  | _, _ => false
theorem eqLst_len {α : Type} (e : α → α → Bool) : ∀ (xs ys : List α), ¬ (xs.length : Int) = (ys.length : Int) → eqLst e xs ys = false
  | [], [], h => by simp at h
  | [], _ :: _, _ => rfl
  | _ :: _, [], _ => rfl
  | x :: xs, y :: ys, h => by
    rw [eqLst, eqLst_len e xs ys (by simpa using h)]
    simp
theorem ev_eqdrop {α : Type} (e : α → α → Bool) (L : Nat → Int → Option Bool) (xs ys : List α) (R : Bool) (hl : (xs.length : Int) = (ys.length : Int)) (hend : Ev (fun k => L k (xs.length : Int)) R)
    (hstep : ∀ (i : Nat) (hi : i < xs.length) (hy : i < ys.length) (r : Bool), Ev (fun k => L k ((i + 1 : Nat) : Int)) r → Ev (fun k => L k (i : Int)) (e xs[i] ys[i] && r)) :
    ∀ (n i : Nat), xs.length - i = n → i ≤ xs.length → Ev (fun k => L k (i : Int)) (eqLst e (xs.drop i) (ys.drop i) && R) := by
  intro n
  induction n with
  | zero =>
    intro i hn hi
    have : i = xs.length := by omega
    subst this
    rw [List.drop_length, List.drop_eq_nil_of_le (by omega), eqLst]
    simpa using hend
  | succ n ih =>
    intro i hn hi
    have h := hstep i (by omega) (by omega) _ (ih (i + 1) (by omega) (by omega))
    rw [List.drop_eq_getElem_cons (show i < xs.length by omega), List.drop_eq_getElem_cons (show i < ys.length by omega), eqLst, Bool.and_assoc]
    exact h
theorem ev_eqloop {α : Type} (e : α → α → Bool) (L : Nat → Int → Option Bool) (xs ys : List α) (R : Bool) (hl : (xs.length : Int) = (ys.length : Int)) (hend : Ev (fun k => L k (xs.length : Int)) R)
    (hstep : ∀ (i : Nat) (hi : i < xs.length) (hy : i < ys.length) (r : Bool), Ev (fun k => L k ((i + 1 : Nat) : Int)) r → Ev (fun k => L k (i : Int)) (e xs[i] ys[i] && r)) :
    Ev (fun k => L k 0) (eqLst e xs ys && R) := ev_eqdrop e L xs ys R hl hend hstep _ 0 rfl (Nat.zero_le _)
def eI (x y : Int) : Bool := decide (x = y)
def eL (x y : S87) : Bool := !((!(x.f0 == y.f0)) || (!(x.f1 == y.f1)))
def eP (x y : S97) : Bool := decide (x.f0 = y.f0) && (decide (x.f1 = y.f1) && eqLst eI x.f2 y.f2)
def eS (x y : S67) : Bool := !(!(x.f0 == y.f0) || (!(x.f1 == y.f1) || (!(x.f2 == y.f2) || (!(x.f3 == y.f3) || (!(x.f4 == y.f4))))))
theorem slices_Equal_ev (l m : List Int) (hl : l.length ≤ 1048576) : Ev (fun k => slices_Equal_int_int.f k l m) (eqLst eI l m) := by
  unfold slices_Equal_int_int.f
  by_cases h : (l.length : Int) = (m.length : Int)
  · refine evPos h ?_
    rw [← Bool.and_true (eqLst eI l m)]
    refine ev_eqloop eI (fun k i => slices_Equal_int_int.l0 k l m (l.length : Int) i) l m true h (Ev.step (fun k => by rw [slices_Equal_int_int.l0]) (evNeg (by omega) (Ev.now _))) ?_
    intro i hi hy r hr
    refine Ev.step (fun k => by rw [slices_Equal_int_int.l0]) (evPos (by omega) (evPos (by omega) (evPos (by omega) (evPos (by omega) ?_))))
    rw [rd_at l i hi, rd_at m i hy, wsucc (by omega)]
    by_cases hc : l[i] = m[i]
    · exact evPos hc (evEq (by rw [eI, decide_eq_true hc]; rfl) hr)
    · exact evNeg hc (evEq (by rw [eI, decide_eq_false hc]; rfl) (Ev.now _))
  · exact evNeg h (evEq (eqLst_len _ _ _ h).symm (Ev.now _))
theorem spec_EqualInts_ev (l m : List Int) (hl : l.length ≤ 1048576) : Ev (fun k => spec_EqualInts.f k l m) (eqLst eI l m) := by
  unfold spec_EqualInts.f
  by_cases h : (l.length : Int) = (m.length : Int)
  · refine evPos h ?_
    rw [← Bool.and_true (eqLst eI l m)]
    refine ev_eqloop eI (fun k i => spec_EqualInts.l0 k l m i) l m true h (Ev.step (fun k => by rw [spec_EqualInts.l0]) (evNeg (by omega) (Ev.now _))) ?_
    intro i hi hy r hr
    refine Ev.step (fun k => by rw [spec_EqualInts.l0]) (evPos (by omega) (evPos (by omega) (evPos (by omega) ?_)))
    rw [rd_at l i hi, rd_at m i hy, wsucc (by omega)]
    by_cases hc : l[i] = m[i]
    · exact evPos hc (evEq (by rw [eI, decide_eq_true hc]; rfl) hr)
    · exact evNeg hc (evEq (by rw [eI, decide_eq_false hc]; rfl) (Ev.now _))
  · exact evNeg h (evEq (eqLst_len _ _ _ h).symm (Ev.now _))
theorem rdP_at (l : List S97) (i : Nat) (h : i < l.length) : rd_T97 l (i : Int) = l[i] := getD_at l _ i h
theorem rdS_at (l : List S67) (i : Nat) (h : i < l.length) : rd_T67 l (i : Int) = l[i] := getD_at l _ i h
theorem rdL_at (l : List S87) (i : Nat) (h : i < l.length) : rd_T87 l (i : Int) = l[i] := getD_at l _ i h
theorem spec_l29Probes_ev (l m : List S97) (hl : l.length ≤ 1048576) (hp : ∀ p ∈ l, p.f2.length ≤ 1048576) : Ev (fun k => spec_l29Probes.f k l m) (eqLst eP l m) := by
  unfold spec_l29Probes.f
  by_cases h : (l.length : Int) = (m.length : Int)
  · refine evPos h ?_
    rw [← Bool.and_true (eqLst eP l m)]
    refine ev_eqloop eP (fun k i => spec_l29Probes.l0 k l m i) l m true h (Ev.step (fun k => by rw [spec_l29Probes.l0]) (evNeg (by omega) (Ev.now _))) ?_
    intro i hi hy r hr
    refine Ev.step (fun k => by rw [spec_l29Probes.l0]) (evPos (by omega) (evPos (by omega) (evPos (by omega) ?_)))
    rw [rdP_at l i hi, rdP_at m i hy, wsucc (by omega), eP]
    by_cases h0 : l[i].f0 = m[i].f0
    · refine evPos h0 ?_
      rw [decide_eq_true h0, Bool.true_and]
      by_cases h1 : l[i].f1 = m[i].f1
      · refine evPos h1 (Ev.bind (spec_EqualInts_ev _ _ (hp _ (List.getElem_mem hi))) ?_)
        rw [decide_eq_true h1, Bool.true_and]
        by_cases hc : eqLst eI l[i].f2 m[i].f2 = true
        · exact evPos hc (evEq (by rw [hc]; rfl) hr)
        · exact evNeg hc (evEq (by rw [Bool.not_eq_true] at hc; rw [hc]; rfl) (Ev.now _))
      · exact evNeg h1 (evEq (by rw [decide_eq_false h1]; rfl) (Ev.now _))
    · exact evNeg h0 (evEq (by rw [decide_eq_false h0]; rfl) (Ev.now _))
  · exact evNeg h (evEq (eqLst_len _ _ _ h).symm (Ev.now _))
theorem spec_l29Seen_ev (l m : List S67) (hl : l.length ≤ 1048576) : Ev (fun k => spec_l29Seen.f k l m) (eqLst eS l m) := by
  unfold spec_l29Seen.f
  by_cases h : (l.length : Int) = (m.length : Int)
  · refine evPos h ?_
    rw [← Bool.and_true (eqLst eS l m)]
    refine ev_eqloop eS (fun k i => spec_l29Seen.l0 k l m i) l m true h (Ev.step (fun k => by rw [spec_l29Seen.l0]) (evNeg (by omega) (Ev.now _))) ?_
    intro i hi hy r hr
    refine Ev.step (fun k => by rw [spec_l29Seen.l0]) (evPos (by omega) (evPos (by omega) (evPos (by omega) ?_)))
    rw [rdS_at l i hi, rdS_at m i hy, wsucc (by omega), eS]
    by_cases hc : (!(l[i].f0 == m[i].f0) || (!(l[i].f1 == m[i].f1) || (!(l[i].f2 == m[i].f2) || (!(l[i].f3 == m[i].f3) || (!(l[i].f4 == m[i].f4)))))) = true
    · exact evPos hc (evEq (by rw [hc]; rfl) (Ev.now _))
    · exact evNeg hc (evEq (by rw [Bool.not_eq_true] at hc; rw [hc]; rfl) hr)
  · exact evNeg h (evEq (eqLst_len _ _ _ h).symm (Ev.now _))
theorem slices_EqualSeen_ev (l m : List S67) (hl : l.length ≤ 1048576) : Ev (fun k => impl_Seen.f k l m) (eqLst eS l m) := by
  unfold impl_Seen.f
  by_cases h : (l.length : Int) = (m.length : Int)
  · refine evPos h ?_
    rw [← Bool.and_true (eqLst eS l m)]
    refine ev_eqloop eS (fun k i => impl_Seen.l0 k l m (l.length : Int) i) l m true h (Ev.step (fun k => by rw [impl_Seen.l0]) (evNeg (by omega) (Ev.now _))) ?_
    intro i hi hy r hr
    refine Ev.step (fun k => by rw [impl_Seen.l0]) (evPos (by omega) (evPos (by omega) (evPos (by omega) (evPos (by omega) ?_))))
    rw [rdS_at l i hi, rdS_at m i hy, wsucc (by omega), eS]
    by_cases hc : (!(l[i].f0 == m[i].f0) || (!(l[i].f1 == m[i].f1) || (!(l[i].f2 == m[i].f2) || (!(l[i].f3 == m[i].f3) || (!(l[i].f4 == m[i].f4)))))) = true
    · exact evPos hc (evEq (by rw [hc]; rfl) (Ev.now _))
    · exact evNeg hc (evEq (by rw [Bool.not_eq_true] at hc; rw [hc]; rfl) hr)
  · exact evNeg h (evEq (eqLst_len _ _ _ h).symm (Ev.now _))
theorem slices_EqualLink_ev (l m : List S87) (hl : l.length ≤ 1048576) : Ev (fun k => impl_Link.f k l m) (eqLst eL l m) := by
  unfold impl_Link.f
  by_cases h : (l.length : Int) = (m.length : Int)
  · refine evPos h ?_
    rw [← Bool.and_true (eqLst eL l m)]
    refine ev_eqloop eL (fun k i => impl_Link.l0 k l m (l.length : Int) i) l m true h (Ev.step (fun k => by rw [impl_Link.l0]) (evNeg (by omega) (Ev.now _))) ?_
    intro i hi hy r hr
    refine Ev.step (fun k => by rw [impl_Link.l0]) (evPos (by omega) (evPos (by omega) (evPos (by omega) (evPos (by omega) ?_))))
    rw [rdL_at l i hi, rdL_at m i hy, wsucc (by omega), eL]
    by_cases hc : ((!(l[i].f0 == m[i].f0)) || (!(l[i].f1 == m[i].f1))) = true
    · exact evPos hc (evEq (by rw [hc]; rfl) (Ev.now _))
    · exact evNeg hc (evEq (by rw [Bool.not_eq_true] at hc; rw [hc]; rfl) hr)
  · exact evNeg h (evEq (eqLst_len _ _ _ h).symm (Ev.now _))
/-! ### equalworlds -/
set_option maxHeartbeats 2000000 in
theorem EW1_c (x y : S97) (A2 B2 : Option Addr) (c2 d2 : Nat) (w : World) (hx : Kd.C (Kd.int .i64) w A2 x.f2.length x.f2) (hcx : x.f2.length ≤ c2) (hy : Kd.C (Kd.int .i64) w B2 y.f2.length y.f2) (hcy : y.f2.length ≤ d2) (hl : x.f2.length ≤ 1048576) :
    Calls Try.prog 79 #[.agg #[.int .i64 x.f0, .int .i64 x.f1, .slice A2 x.f2.length c2], .agg #[.int .i64 y.f0, .int .i64 y.f1, .slice B2 y.f2.length d2]] w fun e w' => e = .returned (.bool (eP x y)) ∧ Below w.heap.size w w' := by
  obtain ⟨k, hk⟩ := (slices_Equal_ev x.f2 y.f2 hl).rounds
  have K := Aside0.mk hk
  have hu := Try.underlying97
  have HX := Aside0.mk hx
  have HY := Aside0.mk hy
  have HCX := Aside0.mk hcx
  have HCY := Aside0.mk hcy
  clear hk hx hy hcx hcy hl
  by_cases h0 : x.f0 = y.f0
  · have b0 : (x.f0 == y.f0) = true := beq_iff_eq.mpr h0
    by_cases h1 : x.f1 = y.f1
    · have b1 : (x.f1 == y.f1) = true := beq_iff_eq.mpr h1
      rw [eP, decide_eq_true h0, decide_eq_true h1]
      clear h0 h1
      go_enter Try.func79, Try.ntmps79
      go_wp2_with fail
      go_at_call 77; (refine (slices_Equal_int_int.calls k _ _ x.f2 _ _ y.f2 _ _ ?s0 HCX.out ?s1 HCY.out K.out).mono ?_); (case s0 => exact Kd.C_below HX.out (by repeat (first | (with_reducible first | exact Below.refl _ _ | apply below_alloc | apply pw_below_drewN | apply below_drew1) | exact Below.refl _ _))); (case s1 => exact Kd.C_below HY.out (by repeat (first | (with_reducible first | exact Below.refl _ _ | apply below_alloc | apply pw_below_drewN | apply below_drew1) | exact Below.refl _ _))); rintro e w' ⟨rfl, ⟨nd, rfl⟩⟩
      go_wp2
      go_ret
      exact ⟨rfl, by repeat (first | (with_reducible first | exact Below.refl _ _ | apply below_alloc | apply pw_below_drewN | apply below_drew1) | exact Below.refl _ _)⟩
    · have b1 : (x.f1 == y.f1) = false := beq_eq_false_iff_ne.mpr h1
      rw [eP, decide_eq_true h0, decide_eq_false h1]
      clear h0 h1
      go_enter Try.func79, Try.ntmps79
      go_wp2
      go_ret
      exact ⟨rfl, by repeat (first | (with_reducible first | exact Below.refl _ _ | apply below_alloc | apply pw_below_drewN | apply below_drew1) | exact Below.refl _ _)⟩
  · have b0 : (x.f0 == y.f0) = false := beq_eq_false_iff_ne.mpr h0
    rw [eP, decide_eq_false h0]
    clear h0
    go_enter Try.func79, Try.ntmps79
    go_wp2
    go_ret
    exact ⟨rfl, by repeat (first | (with_reducible first | exact Below.refl _ _ | apply below_alloc | apply pw_below_drewN | apply below_drew1) | exact Below.refl _ _)⟩
set_option maxHeartbeats 4000000 in
set_option maxRecDepth 100000 in
theorem EF_c (A0 : Option Addr) (c0 : Nat) (l0 : List S97) (A1 : Option Addr) (c1 : Nat) (l1 : List S97) (w : World) (hr0 : Kd.C k97 w A0 l0.length l0) (hr1 : Kd.C k97 w A1 l1.length l1) (hl : l0.length ≤ 1048576) (hp : ∀ p ∈ l0, p.f2.length ≤ 1048576) :
    Calls Try.prog 78 #[.slice A0 l0.length c0, .slice A1 l1.length c1, .func (.func 79) #[] #[]] w fun e w' => e = .returned (.bool (eqLst eP l0 l1)) ∧ Below w.heap.size w w' := by
  have hu := Try.underlying97
  have HR0 := Aside0.mk hr0
  have HR1 := Aside0.mk hr1
  have HP := Aside0.mk hp
  have eg : ∀ args w, (callFunc 79 args).run Try.prog w = .ok (.enter 79 args) w := by
    intro args w
    have h1 : Try.f79.name ≠ "runtime.NumGoroutine" := by decide
    obtain ⟨c_, hb⟩ : ∃ c_, Try.f79.body = some c_ := ⟨_, rfl⟩
    simp [callFunc, Try.func79, h1, hb, mark]
  clear hr0 hr1 hp
  by_cases hlen : (l0.length : Int) = (l1.length : Int)
  · have b0 : ((l0.length : Int) == (l1.length : Int)) = true := beq_iff_eq.mpr hlen
    have b1 : ((l0.length : Int) != (l1.length : Int)) = false := bne_eq_false_iff_eq.mpr hlen
    have b2 : (l0.length == l1.length) = true := by simp; omega
    have b3 : (l0.length != l1.length) = false := by simp; omega
    have HLEN := Aside0.mk hlen
    clear hlen
    go_enter Try.func78, Try.ntmps78
    go_wp2
    go_loopg [17] l0.length (fun gg v17 wr => ∃ (pre suf pre1 suf1 : List S97), gg = suf.length ∧ Aside0 (l0 = pre ++ suf) ∧ Aside0 (l1 = pre1 ++ suf1) ∧ Aside0 (pre1.length = pre.length) ∧ v17 = .int .i64 (pre.length : Int) ∧ Aside0 (eqLst eP suf suf1 = eqLst eP l0 l1) ∧ Aside0 (Below w.heap.size w wr))
    case atStart => exact ⟨[], l0, [], l1, rfl, ⟨rfl⟩, ⟨rfl⟩, ⟨rfl⟩, rfl, ⟨rfl⟩, ⟨by repeat (first | (with_reducible first | exact Below.refl _ _ | apply below_alloc | apply pw_below_drewN | apply below_drew1) | exact Below.refl _ _)⟩⟩
    case round =>
      obtain ⟨pre, suf, pre1, suf1, hgg, HE, HE1, HPL, rfl, HA, HB⟩ := hrel
      cases suf with
      | nil =>
        have hlt : ¬ (pre.length : Int) < (l0.length : Int) := by rw [HE.out]; simp
        have hs : suf1 = [] := by
          have e1 := congrArg List.length HE.out
          have e2 := congrArg List.length HE1.out
          have e3 := HLEN.out
          have e4 := HPL.out
          simp only [List.length_append, List.length_nil] at e1 e2
          exact List.eq_nil_of_length_eq_zero (by omega)
        go_wp2
        go_ret
        exact ⟨by rw [← HA.out, hs]; rfl, HB.out⟩
      | cons x suf =>
        have hlt : (pre.length : Int) < (l0.length : Int) := by rw [HE.out]; simp; omega
        have hlt1 : (pre.length : Int) < (l1.length : Int) := by have e3 := HLEN.out; omega
        obtain ⟨y, t, hs⟩ : ∃ y t, suf1 = y :: t := by
          cases suf1 with
          | nil =>
            have e2 := congrArg List.length HE1.out
            have e4 := HPL.out
            simp only [List.length_append, List.length_nil] at e2
            omega
          | cons y t => exact ⟨y, t, rfl⟩
        subst hs
        have ex : rd_T97 l0 (pre.length : Int) = x := by rw [rd_T97, HE.out, getD_mid]
        have ey : rd_T97 l1 (pre.length : Int) = y := by rw [rd_T97, HE1.out, ← HPL.out, getD_mid]
        obtain ⟨ad, A2, c2, e3, hx0, hx1, hx2, hl2, hi2⟩ := at_T97 HR0.out (pre.length : Int) (by omega) hlt
        obtain ⟨bd, B2, d2, e4, hy0, hy1, hy2, hl3, hi3⟩ := at_T97 HR1.out (pre.length : Int) (by omega) hlt1
        rw [ex] at hx0 hx1 hx2 hl2 hi2
        rw [ey] at hy0 hy1 hy2 hl3 hi3
        cases e3
        cases e4
        replace hx0 := (HB.out.cell (World.block_lt_of_cell? w _ hx0)).trans hx0
        replace hx1 := (HB.out.cell (World.block_lt_of_cell? w _ hx1)).trans hx1
        replace hx2 := (HB.out.cell (World.block_lt_of_cell? w _ hx2)).trans hx2
        have hba : Below w.heap.size w (wr.alloc (.cells #[.int .i64 x.f0, .int .i64 x.f1, .slice A2 x.f2.length c2] 97)) := below_alloc HB.out _
        replace hy0 := (hba.cell (World.block_lt_of_cell? w _ hy0)).trans hy0
        replace hy1 := (hba.cell (World.block_lt_of_cell? w _ hy1)).trans hy1
        replace hy2 := (hba.cell (World.block_lt_of_cell? w _ hy2)).trans hy2
        clear hba
        simp only [Int.toNat_natCast] at hx0 hx1 hx2 hy0 hy1 hy2
        have HM := Aside0.mk (HP.out x (by rw [HE.out]; simp))
        have HC := Aside0.mk (fun (W : World) (hb : Below w.heap.size w W) => EW1_c x y A2 B2 c2 d2 W (Kd.C_below hi2 hb) hl2 (Kd.C_below hi3 hb) hl3 HM.out)
        clear ex ey hl2 hi2 hl3 hi3
        cases hc : eP x y with
        | true =>
          rw [hc] at HC
          go_wp2_with fail
          go_at_call 79; (refine (HC.out _ ?hbel).mono ?_); (case hbel => repeat (first | (with_reducible first | exact HB.out | apply below_alloc | apply pw_below_drewN | apply below_drew1) | exact HB.out)); rintro e w' ⟨rfl, hb'⟩
          have HB2 := Aside0.mk (below_step (w := w) (by repeat (first | (with_reducible first | exact HB.out | apply below_alloc | apply pw_below_drewN | apply below_drew1) | exact HB.out)) hb')
          clear hb'
          have HL := Aside0.mk hl
          have HLT := Aside0.mk hlt
          clear hl hlt
          go_wp2_with fail
          go_roundg suf.length
          case measure => rw [hgg]; simp
          case rel => exact ⟨pre ++ [x], suf, pre1 ++ [y], t, rfl, ⟨by rw [HE.out]; simp⟩, ⟨by rw [HE1.out]; simp⟩, ⟨by simp [HPL.out]⟩, by rw [wsucc (by have := HL.out; have := HLT.out; omega)]; simp, ⟨by rw [← HA.out, eqLst, hc, Bool.true_and]⟩, ⟨HB2.out⟩⟩
        | false =>
          rw [hc] at HC
          go_wp2_with fail
          go_at_call 79; (refine (HC.out _ ?hbel).mono ?_); (case hbel => repeat (first | (with_reducible first | exact HB.out | apply below_alloc | apply pw_below_drewN | apply below_drew1) | exact HB.out)); rintro e w' ⟨rfl, hb'⟩
          have HB2 := Aside0.mk (below_step (w := w) (by repeat (first | (with_reducible first | exact HB.out | apply below_alloc | apply pw_below_drewN | apply below_drew1) | exact HB.out)) hb')
          clear hb'
          go_wp2
          go_ret
          exact ⟨by rw [← HA.out, eqLst, hc, Bool.false_and]; rfl, HB2.out⟩
  · have b0 : ((l0.length : Int) == (l1.length : Int)) = false := beq_eq_false_iff_ne.mpr hlen
    have b1 : ((l0.length : Int) != (l1.length : Int)) = true := bne_iff_ne.mpr hlen
    have b2 : (l0.length == l1.length) = false := by simp; omega
    have b3 : (l0.length != l1.length) = true := by simp; omega
    rw [eqLst_len _ _ _ hlen]
    clear hlen
    go_enter Try.func78, Try.ntmps78
    go_wp2
    go_ret
    exact ⟨rfl, by repeat (first | (with_reducible first | exact Below.refl _ _ | apply below_alloc | apply pw_below_drewN | apply below_drew1) | exact Below.refl _ _)⟩
/-! ### eqw -/
theorem blk_new2 (w : World) (a b : Obj) : ((w.alloc a).alloc b).heap[w.heap.size + 1]? = some b := by
  have h := blk_new (w.alloc a) b
  rw [show (w.alloc a).heap.size = w.heap.size + 1 from Array.size_push _] at h
  exact h
set_option maxHeartbeats 16000000 in
set_option maxRecDepth 100000 in
theorem EW_c (a0_0 : Int) (A0_1 : Option Addr) (c0_1 : Nat) (l0_1 : (List S87)) (A0_2 : Option Addr) (c0_2 : Nat) (l0_2 : (List Int)) (A0_3 : Option Addr) (c0_3 : Nat) (l0_3 : (List Int)) (A0_4 : Option Addr) (c0_4 : Nat) (l0_4 : (List S97)) (A0_5 : Option Addr) (c0_5 : Nat) (l0_5 : (List Int)) (A0_6 : Option Addr) (c0_6 : Nat) (l0_6 : (List Int)) (a0_7 : Int) (a0_8 : Int) (a0_9 : Int) (a0_10 : Int) (A0_11 : Option Addr) (c0_11 : Nat) (l0_11 : (List S67)) (a0_12 : Int) (a1_0 : Int) (A1_1 : Option Addr) (c1_1 : Nat) (l1_1 : (List S87)) (A1_2 : Option Addr) (c1_2 : Nat) (l1_2 : (List Int)) (A1_3 : Option Addr) (c1_3 : Nat) (l1_3 : (List Int)) (A1_4 : Option Addr) (c1_4 : Nat) (l1_4 : (List S97)) (A1_5 : Option Addr) (c1_5 : Nat) (l1_5 : (List Int)) (A1_6 : Option Addr) (c1_6 : Nat) (l1_6 : (List Int)) (a1_7 : Int) (a1_8 : Int) (a1_9 : Int) (a1_10 : Int) (A1_11 : Option Addr) (c1_11 : Nat) (l1_11 : (List S67)) (a1_12 : Int) (b1 b2 b3 b4 b5 b6 b7 b8 b9 b10 : Bool) (w : World) (hr0_1 : Kd.C k87 w A0_1 l0_1.length l0_1) (hc0_1 : l0_1.length ≤ c0_1) (hr0_2 : Kd.C (Kd.int .i64) w A0_2 l0_2.length l0_2) (hc0_2 : l0_2.length ≤ c0_2) (hr0_3 : Kd.C (Kd.int .i64) w A0_3 l0_3.length l0_3) (hc0_3 : l0_3.length ≤ c0_3) (hr0_4 : Kd.C k97 w A0_4 l0_4.length l0_4) (hc0_4 : l0_4.length ≤ c0_4) (hr0_5 : Kd.C (Kd.int .i64) w A0_5 l0_5.length l0_5) (hc0_5 : l0_5.length ≤ c0_5) (hr0_6 : Kd.C (Kd.int .i64) w A0_6 l0_6.length l0_6) (hc0_6 : l0_6.length ≤ c0_6) (hr0_11 : Kd.C k67 w A0_11 l0_11.length l0_11) (hc0_11 : l0_11.length ≤ c0_11) (hr1_1 : Kd.C k87 w A1_1 l1_1.length l1_1) (hc1_1 : l1_1.length ≤ c1_1) (hr1_2 : Kd.C (Kd.int .i64) w A1_2 l1_2.length l1_2) (hc1_2 : l1_2.length ≤ c1_2) (hr1_3 : Kd.C (Kd.int .i64) w A1_3 l1_3.length l1_3) (hc1_3 : l1_3.length ≤ c1_3) (hr1_4 : Kd.C k97 w A1_4 l1_4.length l1_4) (hc1_4 : l1_4.length ≤ c1_4) (hr1_5 : Kd.C (Kd.int .i64) w A1_5 l1_5.length l1_5) (hc1_5 : l1_5.length ≤ c1_5) (hr1_6 : Kd.C (Kd.int .i64) w A1_6 l1_6.length l1_6) (hc1_6 : l1_6.length ≤ c1_6) (hr1_11 : Kd.C k67 w A1_11 l1_11.length l1_11) (hc1_11 : l1_11.length ≤ c1_11) (h1 : (a0_0 == a1_0) = b1) (h2 : ∃ k, impl_Link.f k l0_1 l1_1 = some b2) (h3 : ∃ k, slices_Equal_int_int.f k l0_2 l1_2 = some b3) (h4 : ∃ k, slices_Equal_int_int.f k l0_3 l1_3 = some b4) (h5 : ∀ W, Kd.C k97 W A0_4 l0_4.length l0_4 → Kd.C k97 W A1_4 l1_4.length l1_4 → Calls Try.prog 78 #[.slice A0_4 l0_4.length c0_4, .slice A1_4 l1_4.length c1_4, .func (.func 79) #[] #[]] W fun e w' => e = .returned (.bool b5) ∧ Below W.heap.size W w') (h6 : ∃ k, slices_Equal_int_int.f k l0_5 l1_5 = some b6) (h7 : ∃ k, slices_Equal_int_int.f k l0_6 l1_6 = some b7) (h8 : (a0_7 == a1_7 && (a0_8 == a1_8 && (a0_9 == a1_9 && (a0_10 == a1_10)))) = b8) (h9 : ∃ k, impl_Seen.f k l0_11 l1_11 = some b9) (h10 : (a0_12 == a1_12) = b10) :
    Calls Try.prog 18 #[.agg #[.int .i64 a0_0, .slice A0_1 l0_1.length c0_1, .slice A0_2 l0_2.length c0_2, .slice A0_3 l0_3.length c0_3, .slice A0_4 l0_4.length c0_4, .slice A0_5 l0_5.length c0_5, .slice A0_6 l0_6.length c0_6, .int .i64 a0_7, .int .i64 a0_8, .int .i64 a0_9, .int .i64 a0_10, .slice A0_11 l0_11.length c0_11, .int .i64 a0_12], .agg #[.int .i64 a1_0, .slice A1_1 l1_1.length c1_1, .slice A1_2 l1_2.length c1_2, .slice A1_3 l1_3.length c1_3, .slice A1_4 l1_4.length c1_4, .slice A1_5 l1_5.length c1_5, .slice A1_6 l1_6.length c1_6, .int .i64 a1_7, .int .i64 a1_8, .int .i64 a1_9, .int .i64 a1_10, .slice A1_11 l1_11.length c1_11, .int .i64 a1_12]] w fun e w' => e = .returned (.bool (b1 && (b2 && (b3 && (b4 && (b5 && (b6 && (b7 && (b8 && (b9 && b10)))))))))) ∧ Below w.heap.size w w' := by
  have hu := Try.underlying41
  have hun := Try.underlying36
  have hub := Try.underlying38
  have HR0_1 := Aside0.mk hr0_1; have HC0_1 := Aside0.mk hc0_1; clear hr0_1 hc0_1; have HR0_2 := Aside0.mk hr0_2; have HC0_2 := Aside0.mk hc0_2; clear hr0_2 hc0_2; have HR0_3 := Aside0.mk hr0_3; have HC0_3 := Aside0.mk hc0_3; clear hr0_3 hc0_3; have HR0_4 := Aside0.mk hr0_4; have HC0_4 := Aside0.mk hc0_4; clear hr0_4 hc0_4; have HR0_5 := Aside0.mk hr0_5; have HC0_5 := Aside0.mk hc0_5; clear hr0_5 hc0_5; have HR0_6 := Aside0.mk hr0_6; have HC0_6 := Aside0.mk hc0_6; clear hr0_6 hc0_6; have HR0_11 := Aside0.mk hr0_11; have HC0_11 := Aside0.mk hc0_11; clear hr0_11 hc0_11
  have HR1_1 := Aside0.mk hr1_1; have HC1_1 := Aside0.mk hc1_1; clear hr1_1 hc1_1; have HR1_2 := Aside0.mk hr1_2; have HC1_2 := Aside0.mk hc1_2; clear hr1_2 hc1_2; have HR1_3 := Aside0.mk hr1_3; have HC1_3 := Aside0.mk hc1_3; clear hr1_3 hc1_3; have HR1_4 := Aside0.mk hr1_4; have HC1_4 := Aside0.mk hc1_4; clear hr1_4 hc1_4; have HR1_5 := Aside0.mk hr1_5; have HC1_5 := Aside0.mk hc1_5; clear hr1_5 hc1_5; have HR1_6 := Aside0.mk hr1_6; have HC1_6 := Aside0.mk hc1_6; clear hr1_6 hc1_6; have HR1_11 := Aside0.mk hr1_11; have HC1_11 := Aside0.mk hc1_11; clear hr1_11 hc1_11
  have H1 := Aside0.mk h1; clear h1
  have H2 := Aside0.mk h2; clear h2
  have H3 := Aside0.mk h3; clear h3
  have H4 := Aside0.mk h4; clear h4
  have H5 := Aside0.mk h5; clear h5
  have H6 := Aside0.mk h6; clear h6
  have H7 := Aside0.mk h7; clear h7
  have H8 := Aside0.mk h8; clear h8
  have H9 := Aside0.mk h9; clear h9
  have H10 := Aside0.mk h10; clear h10
  go_enter Try.func18, Try.ntmps18
  cases b1 with
  | false =>
    have e1 := H1.out
    go_wp2
    go_ret
    exact ⟨rfl, (by repeat (first | (with_reducible exact Below.refl _ _) | refine below_set ?_ (Nat.le_refl _) | apply below_alloc | apply pw_below_drewN | exact Below.refl _ _))⟩
  | true =>
    have e1 := H1.out
    cases b2 with
    | false =>
      go_wp2_with fail
      refine calls_gen (fun W' => Below w.heap.size w W' ∧ W'.heap[w.heap.size]? = some (.cells #[.int .i64 a0_0, .slice A0_1 l0_1.length c0_1, .slice A0_2 l0_2.length c0_2, .slice A0_3 l0_3.length c0_3, .slice A0_4 l0_4.length c0_4, .slice A0_5 l0_5.length c0_5, .slice A0_6 l0_6.length c0_6, .int .i64 a0_7, .int .i64 a0_8, .int .i64 a0_9, .int .i64 a0_10, .slice A0_11 l0_11.length c0_11, .int .i64 a0_12] 41 (0, 0)) ∧ W'.heap[w.heap.size + 1]? = some (.cells #[.int .i64 a1_0, .slice A1_1 l1_1.length c1_1, .slice A1_2 l1_2.length c1_2, .slice A1_3 l1_3.length c1_3, .slice A1_4 l1_4.length c1_4, .slice A1_5 l1_5.length c1_5, .slice A1_6 l1_6.length c1_6, .int .i64 a1_7, .int .i64 a1_8, .int .i64 a1_9, .int .i64 a1_10, .slice A1_11 l1_11.length c1_11, .int .i64 a1_12] 41 (0, 0))) ⟨?gb, ?gx, ?gy⟩ ?_
      case gb => exact (by repeat (first | (with_reducible exact Below.refl _ _) | refine below_set ?_ (Nat.le_refl _) | apply below_alloc | apply pw_below_drewN | exact Below.refl _ _))
      case gx => (repeat (refine blk_drewN ?_ _)); exact (blk_alloc (blk_new w _) _)
      case gy => (repeat (refine blk_drewN ?_ _)); exact (blk_new2 w _ _)
      rintro W2 ⟨hbw, hgx, hgy⟩
      have HBW2 := Aside0.mk hbw; have BXW2 := Aside0.mk hgx; have BYW2 := Aside0.mk hgy; clear hbw hgx hgy
      obtain ⟨k2, hk2⟩ := H2.out
      have K2 := Aside0.mk hk2; clear hk2
      go_at_call 76; (refine (impl_Link.calls k2 _ _ l0_1 _ _ l1_1 _ W2 (Kd.C_below HR0_1.out HBW2.out) HC0_1.out (Kd.C_below HR1_1.out HBW2.out) HC1_1.out K2.out).mono ?_); rintro e w2 ⟨rfl, hd⟩
      have hb : Below W2.heap.size W2 w2 := by obtain ⟨nd, rfl⟩ := hd; exact (by repeat (first | (with_reducible exact Below.refl _ _) | refine below_set ?_ (Nat.le_refl _) | apply below_alloc | apply pw_below_drewN | exact Below.refl _ _))
      clear hd
      have HBv2 := Aside0.mk (below_step HBW2.out hb); have BXv2 := Aside0.mk (blk_below BXW2.out hb); have BYv2 := Aside0.mk (blk_below BYW2.out hb); clear hb
      go_wp2
      go_ret
      exact ⟨rfl, below_step HBv2.out (by repeat (first | (with_reducible exact Below.refl _ _) | refine below_set ?_ (Nat.le_refl _) | apply below_alloc | apply pw_below_drewN | exact Below.refl _ _))⟩
    | true =>
      go_wp2_with fail
      refine calls_gen (fun W' => Below w.heap.size w W' ∧ W'.heap[w.heap.size]? = some (.cells #[.int .i64 a0_0, .slice A0_1 l0_1.length c0_1, .slice A0_2 l0_2.length c0_2, .slice A0_3 l0_3.length c0_3, .slice A0_4 l0_4.length c0_4, .slice A0_5 l0_5.length c0_5, .slice A0_6 l0_6.length c0_6, .int .i64 a0_7, .int .i64 a0_8, .int .i64 a0_9, .int .i64 a0_10, .slice A0_11 l0_11.length c0_11, .int .i64 a0_12] 41 (0, 0)) ∧ W'.heap[w.heap.size + 1]? = some (.cells #[.int .i64 a1_0, .slice A1_1 l1_1.length c1_1, .slice A1_2 l1_2.length c1_2, .slice A1_3 l1_3.length c1_3, .slice A1_4 l1_4.length c1_4, .slice A1_5 l1_5.length c1_5, .slice A1_6 l1_6.length c1_6, .int .i64 a1_7, .int .i64 a1_8, .int .i64 a1_9, .int .i64 a1_10, .slice A1_11 l1_11.length c1_11, .int .i64 a1_12] 41 (0, 0))) ⟨?gb, ?gx, ?gy⟩ ?_
      case gb => exact (by repeat (first | (with_reducible exact Below.refl _ _) | refine below_set ?_ (Nat.le_refl _) | apply below_alloc | apply pw_below_drewN | exact Below.refl _ _))
      case gx => (repeat (refine blk_drewN ?_ _)); exact (blk_alloc (blk_new w _) _)
      case gy => (repeat (refine blk_drewN ?_ _)); exact (blk_new2 w _ _)
      rintro W2 ⟨hbw, hgx, hgy⟩
      have HBW2 := Aside0.mk hbw; have BXW2 := Aside0.mk hgx; have BYW2 := Aside0.mk hgy; clear hbw hgx hgy
      obtain ⟨k2, hk2⟩ := H2.out
      have K2 := Aside0.mk hk2; clear hk2
      go_at_call 76; (refine (impl_Link.calls k2 _ _ l0_1 _ _ l1_1 _ W2 (Kd.C_below HR0_1.out HBW2.out) HC0_1.out (Kd.C_below HR1_1.out HBW2.out) HC1_1.out K2.out).mono ?_); rintro e w2 ⟨rfl, hd⟩
      have hb : Below W2.heap.size W2 w2 := by obtain ⟨nd, rfl⟩ := hd; exact (by repeat (first | (with_reducible exact Below.refl _ _) | refine below_set ?_ (Nat.le_refl _) | apply below_alloc | apply pw_below_drewN | exact Below.refl _ _))
      clear hd
      have HBv2 := Aside0.mk (below_step HBW2.out hb); have BXv2 := Aside0.mk (blk_below BXW2.out hb); have BYv2 := Aside0.mk (blk_below BYW2.out hb); clear hb
      cases b3 with
      | false =>
        obtain ⟨x0, x1, x2, x3, x4, x5, x6, x7, x8, x9, x10, x11, x12⟩ := cells13 BXv2.out
        obtain ⟨y0, y1, y2, y3, y4, y5, y6, y7, y8, y9, y10, y11, y12⟩ := cells13 BYv2.out
        go_wp2_with fail
        refine calls_gen (fun W' => Below w2.heap.size w2 W') ?gb ?_
        case gb => exact (by repeat (first | (with_reducible exact Below.refl _ _) | refine below_set ?_ (Nat.le_refl _) | apply below_alloc | apply pw_below_drewN | exact Below.refl _ _))
        rintro W3 hbw
        have HBW3 := Aside0.mk (below_step HBv2.out hbw); have BXW3 := Aside0.mk (blk_below BXv2.out hbw); have BYW3 := Aside0.mk (blk_below BYv2.out hbw); clear hbw
        clear x0 x1 x2 x3 x4 x5 x6 x7 x8 x9 x10 x11 x12 y0 y1 y2 y3 y4 y5 y6 y7 y8 y9 y10 y11 y12
        obtain ⟨k3, hk3⟩ := H3.out
        have K3 := Aside0.mk hk3; clear hk3
        go_at_call 77; (refine (slices_Equal_int_int.calls k3 _ _ l0_2 _ _ l1_2 _ W3 (Kd.C_below HR0_2.out HBW3.out) HC0_2.out (Kd.C_below HR1_2.out HBW3.out) HC1_2.out K3.out).mono ?_); rintro e w3 ⟨rfl, hd⟩
        have hb : Below W3.heap.size W3 w3 := by obtain ⟨nd, rfl⟩ := hd; exact (by repeat (first | (with_reducible exact Below.refl _ _) | refine below_set ?_ (Nat.le_refl _) | apply below_alloc | apply pw_below_drewN | exact Below.refl _ _))
        clear hd
        have HBv3 := Aside0.mk (below_step HBW3.out hb); have BXv3 := Aside0.mk (blk_below BXW3.out hb); have BYv3 := Aside0.mk (blk_below BYW3.out hb); clear hb
        go_wp2
        go_ret
        exact ⟨rfl, below_step HBv3.out (by repeat (first | (with_reducible exact Below.refl _ _) | refine below_set ?_ (Nat.le_refl _) | apply below_alloc | apply pw_below_drewN | exact Below.refl _ _))⟩
      | true =>
        obtain ⟨x0, x1, x2, x3, x4, x5, x6, x7, x8, x9, x10, x11, x12⟩ := cells13 BXv2.out
        obtain ⟨y0, y1, y2, y3, y4, y5, y6, y7, y8, y9, y10, y11, y12⟩ := cells13 BYv2.out
        go_wp2_with fail
        refine calls_gen (fun W' => Below w2.heap.size w2 W') ?gb ?_
        case gb => exact (by repeat (first | (with_reducible exact Below.refl _ _) | refine below_set ?_ (Nat.le_refl _) | apply below_alloc | apply pw_below_drewN | exact Below.refl _ _))
        rintro W3 hbw
        have HBW3 := Aside0.mk (below_step HBv2.out hbw); have BXW3 := Aside0.mk (blk_below BXv2.out hbw); have BYW3 := Aside0.mk (blk_below BYv2.out hbw); clear hbw
        clear x0 x1 x2 x3 x4 x5 x6 x7 x8 x9 x10 x11 x12 y0 y1 y2 y3 y4 y5 y6 y7 y8 y9 y10 y11 y12
        obtain ⟨k3, hk3⟩ := H3.out
        have K3 := Aside0.mk hk3; clear hk3
        go_at_call 77; (refine (slices_Equal_int_int.calls k3 _ _ l0_2 _ _ l1_2 _ W3 (Kd.C_below HR0_2.out HBW3.out) HC0_2.out (Kd.C_below HR1_2.out HBW3.out) HC1_2.out K3.out).mono ?_); rintro e w3 ⟨rfl, hd⟩
        have hb : Below W3.heap.size W3 w3 := by obtain ⟨nd, rfl⟩ := hd; exact (by repeat (first | (with_reducible exact Below.refl _ _) | refine below_set ?_ (Nat.le_refl _) | apply below_alloc | apply pw_below_drewN | exact Below.refl _ _))
        clear hd
        have HBv3 := Aside0.mk (below_step HBW3.out hb); have BXv3 := Aside0.mk (blk_below BXW3.out hb); have BYv3 := Aside0.mk (blk_below BYW3.out hb); clear hb
        cases b4 with
        | false =>
          obtain ⟨x0, x1, x2, x3, x4, x5, x6, x7, x8, x9, x10, x11, x12⟩ := cells13 BXv3.out
          obtain ⟨y0, y1, y2, y3, y4, y5, y6, y7, y8, y9, y10, y11, y12⟩ := cells13 BYv3.out
          go_wp2_with fail
          refine calls_gen (fun W' => Below w3.heap.size w3 W') ?gb ?_
          case gb => exact (by repeat (first | (with_reducible exact Below.refl _ _) | refine below_set ?_ (Nat.le_refl _) | apply below_alloc | apply pw_below_drewN | exact Below.refl _ _))
          rintro W4 hbw
          have HBW4 := Aside0.mk (below_step HBv3.out hbw); have BXW4 := Aside0.mk (blk_below BXv3.out hbw); have BYW4 := Aside0.mk (blk_below BYv3.out hbw); clear hbw
          clear x0 x1 x2 x3 x4 x5 x6 x7 x8 x9 x10 x11 x12 y0 y1 y2 y3 y4 y5 y6 y7 y8 y9 y10 y11 y12
          obtain ⟨k4, hk4⟩ := H4.out
          have K4 := Aside0.mk hk4; clear hk4
          go_at_call 77; (refine (slices_Equal_int_int.calls k4 _ _ l0_3 _ _ l1_3 _ W4 (Kd.C_below HR0_3.out HBW4.out) HC0_3.out (Kd.C_below HR1_3.out HBW4.out) HC1_3.out K4.out).mono ?_); rintro e w4 ⟨rfl, hd⟩
          have hb : Below W4.heap.size W4 w4 := by obtain ⟨nd, rfl⟩ := hd; exact (by repeat (first | (with_reducible exact Below.refl _ _) | refine below_set ?_ (Nat.le_refl _) | apply below_alloc | apply pw_below_drewN | exact Below.refl _ _))
          clear hd
          have HBv4 := Aside0.mk (below_step HBW4.out hb); have BXv4 := Aside0.mk (blk_below BXW4.out hb); have BYv4 := Aside0.mk (blk_below BYW4.out hb); clear hb
          go_wp2
          go_ret
          exact ⟨rfl, below_step HBv4.out (by repeat (first | (with_reducible exact Below.refl _ _) | refine below_set ?_ (Nat.le_refl _) | apply below_alloc | apply pw_below_drewN | exact Below.refl _ _))⟩
        | true =>
          obtain ⟨x0, x1, x2, x3, x4, x5, x6, x7, x8, x9, x10, x11, x12⟩ := cells13 BXv3.out
          obtain ⟨y0, y1, y2, y3, y4, y5, y6, y7, y8, y9, y10, y11, y12⟩ := cells13 BYv3.out
          go_wp2_with fail
          refine calls_gen (fun W' => Below w3.heap.size w3 W') ?gb ?_
          case gb => exact (by repeat (first | (with_reducible exact Below.refl _ _) | refine below_set ?_ (Nat.le_refl _) | apply below_alloc | apply pw_below_drewN | exact Below.refl _ _))
          rintro W4 hbw
          have HBW4 := Aside0.mk (below_step HBv3.out hbw); have BXW4 := Aside0.mk (blk_below BXv3.out hbw); have BYW4 := Aside0.mk (blk_below BYv3.out hbw); clear hbw
          clear x0 x1 x2 x3 x4 x5 x6 x7 x8 x9 x10 x11 x12 y0 y1 y2 y3 y4 y5 y6 y7 y8 y9 y10 y11 y12
          obtain ⟨k4, hk4⟩ := H4.out
          have K4 := Aside0.mk hk4; clear hk4
          go_at_call 77; (refine (slices_Equal_int_int.calls k4 _ _ l0_3 _ _ l1_3 _ W4 (Kd.C_below HR0_3.out HBW4.out) HC0_3.out (Kd.C_below HR1_3.out HBW4.out) HC1_3.out K4.out).mono ?_); rintro e w4 ⟨rfl, hd⟩
          have hb : Below W4.heap.size W4 w4 := by obtain ⟨nd, rfl⟩ := hd; exact (by repeat (first | (with_reducible exact Below.refl _ _) | refine below_set ?_ (Nat.le_refl _) | apply below_alloc | apply pw_below_drewN | exact Below.refl _ _))
          clear hd
          have HBv4 := Aside0.mk (below_step HBW4.out hb); have BXv4 := Aside0.mk (blk_below BXW4.out hb); have BYv4 := Aside0.mk (blk_below BYW4.out hb); clear hb
          cases b5 with
          | false =>
            obtain ⟨x0, x1, x2, x3, x4, x5, x6, x7, x8, x9, x10, x11, x12⟩ := cells13 BXv4.out
            obtain ⟨y0, y1, y2, y3, y4, y5, y6, y7, y8, y9, y10, y11, y12⟩ := cells13 BYv4.out
            go_wp2_with fail
            refine calls_gen (fun W' => Below w4.heap.size w4 W') ?gb ?_
            case gb => exact (by repeat (first | (with_reducible exact Below.refl _ _) | refine below_set ?_ (Nat.le_refl _) | apply below_alloc | apply pw_below_drewN | exact Below.refl _ _))
            rintro W5 hbw
            have HBW5 := Aside0.mk (below_step HBv4.out hbw); have BXW5 := Aside0.mk (blk_below BXv4.out hbw); have BYW5 := Aside0.mk (blk_below BYv4.out hbw); clear hbw
            clear x0 x1 x2 x3 x4 x5 x6 x7 x8 x9 x10 x11 x12 y0 y1 y2 y3 y4 y5 y6 y7 y8 y9 y10 y11 y12
            go_at_call 78; (refine (H5.out W5 (Kd.C_below HR0_4.out HBW5.out) (Kd.C_below HR1_4.out HBW5.out)).mono ?_); rintro e w5 ⟨rfl, hb⟩
            have HBv5 := Aside0.mk (below_step HBW5.out hb); have BXv5 := Aside0.mk (blk_below BXW5.out hb); have BYv5 := Aside0.mk (blk_below BYW5.out hb); clear hb
            go_wp2
            go_ret
            exact ⟨rfl, below_step HBv5.out (by repeat (first | (with_reducible exact Below.refl _ _) | refine below_set ?_ (Nat.le_refl _) | apply below_alloc | apply pw_below_drewN | exact Below.refl _ _))⟩
          | true =>
            obtain ⟨x0, x1, x2, x3, x4, x5, x6, x7, x8, x9, x10, x11, x12⟩ := cells13 BXv4.out
            obtain ⟨y0, y1, y2, y3, y4, y5, y6, y7, y8, y9, y10, y11, y12⟩ := cells13 BYv4.out
            go_wp2_with fail
            refine calls_gen (fun W' => Below w4.heap.size w4 W') ?gb ?_
            case gb => exact (by repeat (first | (with_reducible exact Below.refl _ _) | refine below_set ?_ (Nat.le_refl _) | apply below_alloc | apply pw_below_drewN | exact Below.refl _ _))
            rintro W5 hbw
            have HBW5 := Aside0.mk (below_step HBv4.out hbw); have BXW5 := Aside0.mk (blk_below BXv4.out hbw); have BYW5 := Aside0.mk (blk_below BYv4.out hbw); clear hbw
            clear x0 x1 x2 x3 x4 x5 x6 x7 x8 x9 x10 x11 x12 y0 y1 y2 y3 y4 y5 y6 y7 y8 y9 y10 y11 y12
            go_at_call 78; (refine (H5.out W5 (Kd.C_below HR0_4.out HBW5.out) (Kd.C_below HR1_4.out HBW5.out)).mono ?_); rintro e w5 ⟨rfl, hb⟩
            have HBv5 := Aside0.mk (below_step HBW5.out hb); have BXv5 := Aside0.mk (blk_below BXW5.out hb); have BYv5 := Aside0.mk (blk_below BYW5.out hb); clear hb
            cases b6 with
            | false =>
              obtain ⟨x0, x1, x2, x3, x4, x5, x6, x7, x8, x9, x10, x11, x12⟩ := cells13 BXv5.out
              obtain ⟨y0, y1, y2, y3, y4, y5, y6, y7, y8, y9, y10, y11, y12⟩ := cells13 BYv5.out
              go_wp2_with fail
              refine calls_gen (fun W' => Below w5.heap.size w5 W') ?gb ?_
              case gb => exact (by repeat (first | (with_reducible exact Below.refl _ _) | refine below_set ?_ (Nat.le_refl _) | apply below_alloc | apply pw_below_drewN | exact Below.refl _ _))
              rintro W6 hbw
              have HBW6 := Aside0.mk (below_step HBv5.out hbw); have BXW6 := Aside0.mk (blk_below BXv5.out hbw); have BYW6 := Aside0.mk (blk_below BYv5.out hbw); clear hbw
              clear x0 x1 x2 x3 x4 x5 x6 x7 x8 x9 x10 x11 x12 y0 y1 y2 y3 y4 y5 y6 y7 y8 y9 y10 y11 y12
              obtain ⟨k6, hk6⟩ := H6.out
              have K6 := Aside0.mk hk6; clear hk6
              go_at_call 77; (refine (slices_Equal_int_int.calls k6 _ _ l0_5 _ _ l1_5 _ W6 (Kd.C_below HR0_5.out HBW6.out) HC0_5.out (Kd.C_below HR1_5.out HBW6.out) HC1_5.out K6.out).mono ?_); rintro e w6 ⟨rfl, hd⟩
              have hb : Below W6.heap.size W6 w6 := by obtain ⟨nd, rfl⟩ := hd; exact (by repeat (first | (with_reducible exact Below.refl _ _) | refine below_set ?_ (Nat.le_refl _) | apply below_alloc | apply pw_below_drewN | exact Below.refl _ _))
              clear hd
              have HBv6 := Aside0.mk (below_step HBW6.out hb); have BXv6 := Aside0.mk (blk_below BXW6.out hb); have BYv6 := Aside0.mk (blk_below BYW6.out hb); clear hb
              go_wp2
              go_ret
              exact ⟨rfl, below_step HBv6.out (by repeat (first | (with_reducible exact Below.refl _ _) | refine below_set ?_ (Nat.le_refl _) | apply below_alloc | apply pw_below_drewN | exact Below.refl _ _))⟩
            | true =>
              obtain ⟨x0, x1, x2, x3, x4, x5, x6, x7, x8, x9, x10, x11, x12⟩ := cells13 BXv5.out
              obtain ⟨y0, y1, y2, y3, y4, y5, y6, y7, y8, y9, y10, y11, y12⟩ := cells13 BYv5.out
              go_wp2_with fail
              refine calls_gen (fun W' => Below w5.heap.size w5 W') ?gb ?_
              case gb => exact (by repeat (first | (with_reducible exact Below.refl _ _) | refine below_set ?_ (Nat.le_refl _) | apply below_alloc | apply pw_below_drewN | exact Below.refl _ _))
              rintro W6 hbw
              have HBW6 := Aside0.mk (below_step HBv5.out hbw); have BXW6 := Aside0.mk (blk_below BXv5.out hbw); have BYW6 := Aside0.mk (blk_below BYv5.out hbw); clear hbw
              clear x0 x1 x2 x3 x4 x5 x6 x7 x8 x9 x10 x11 x12 y0 y1 y2 y3 y4 y5 y6 y7 y8 y9 y10 y11 y12
              obtain ⟨k6, hk6⟩ := H6.out
              have K6 := Aside0.mk hk6; clear hk6
              go_at_call 77; (refine (slices_Equal_int_int.calls k6 _ _ l0_5 _ _ l1_5 _ W6 (Kd.C_below HR0_5.out HBW6.out) HC0_5.out (Kd.C_below HR1_5.out HBW6.out) HC1_5.out K6.out).mono ?_); rintro e w6 ⟨rfl, hd⟩
              have hb : Below W6.heap.size W6 w6 := by obtain ⟨nd, rfl⟩ := hd; exact (by repeat (first | (with_reducible exact Below.refl _ _) | refine below_set ?_ (Nat.le_refl _) | apply below_alloc | apply pw_below_drewN | exact Below.refl _ _))
              clear hd
              have HBv6 := Aside0.mk (below_step HBW6.out hb); have BXv6 := Aside0.mk (blk_below BXW6.out hb); have BYv6 := Aside0.mk (blk_below BYW6.out hb); clear hb
              cases b7 with
              | false =>
                obtain ⟨x0, x1, x2, x3, x4, x5, x6, x7, x8, x9, x10, x11, x12⟩ := cells13 BXv6.out
                obtain ⟨y0, y1, y2, y3, y4, y5, y6, y7, y8, y9, y10, y11, y12⟩ := cells13 BYv6.out
                go_wp2_with fail
                refine calls_gen (fun W' => Below w6.heap.size w6 W') ?gb ?_
                case gb => exact (by repeat (first | (with_reducible exact Below.refl _ _) | refine below_set ?_ (Nat.le_refl _) | apply below_alloc | apply pw_below_drewN | exact Below.refl _ _))
                rintro W7 hbw
                have HBW7 := Aside0.mk (below_step HBv6.out hbw); have BXW7 := Aside0.mk (blk_below BXv6.out hbw); have BYW7 := Aside0.mk (blk_below BYv6.out hbw); clear hbw
                clear x0 x1 x2 x3 x4 x5 x6 x7 x8 x9 x10 x11 x12 y0 y1 y2 y3 y4 y5 y6 y7 y8 y9 y10 y11 y12
                obtain ⟨k7, hk7⟩ := H7.out
                have K7 := Aside0.mk hk7; clear hk7
                go_at_call 77; (refine (slices_Equal_int_int.calls k7 _ _ l0_6 _ _ l1_6 _ W7 (Kd.C_below HR0_6.out HBW7.out) HC0_6.out (Kd.C_below HR1_6.out HBW7.out) HC1_6.out K7.out).mono ?_); rintro e w7 ⟨rfl, hd⟩
                have hb : Below W7.heap.size W7 w7 := by obtain ⟨nd, rfl⟩ := hd; exact (by repeat (first | (with_reducible exact Below.refl _ _) | refine below_set ?_ (Nat.le_refl _) | apply below_alloc | apply pw_below_drewN | exact Below.refl _ _))
                clear hd
                have HBv7 := Aside0.mk (below_step HBW7.out hb); have BXv7 := Aside0.mk (blk_below BXW7.out hb); have BYv7 := Aside0.mk (blk_below BYW7.out hb); clear hb
                go_wp2
                go_ret
                exact ⟨rfl, below_step HBv7.out (by repeat (first | (with_reducible exact Below.refl _ _) | refine below_set ?_ (Nat.le_refl _) | apply below_alloc | apply pw_below_drewN | exact Below.refl _ _))⟩
              | true =>
                obtain ⟨x0, x1, x2, x3, x4, x5, x6, x7, x8, x9, x10, x11, x12⟩ := cells13 BXv6.out
                obtain ⟨y0, y1, y2, y3, y4, y5, y6, y7, y8, y9, y10, y11, y12⟩ := cells13 BYv6.out
                go_wp2_with fail
                refine calls_gen (fun W' => Below w6.heap.size w6 W') ?gb ?_
                case gb => exact (by repeat (first | (with_reducible exact Below.refl _ _) | refine below_set ?_ (Nat.le_refl _) | apply below_alloc | apply pw_below_drewN | exact Below.refl _ _))
                rintro W7 hbw
                have HBW7 := Aside0.mk (below_step HBv6.out hbw); have BXW7 := Aside0.mk (blk_below BXv6.out hbw); have BYW7 := Aside0.mk (blk_below BYv6.out hbw); clear hbw
                clear x0 x1 x2 x3 x4 x5 x6 x7 x8 x9 x10 x11 x12 y0 y1 y2 y3 y4 y5 y6 y7 y8 y9 y10 y11 y12
                obtain ⟨k7, hk7⟩ := H7.out
                have K7 := Aside0.mk hk7; clear hk7
                go_at_call 77; (refine (slices_Equal_int_int.calls k7 _ _ l0_6 _ _ l1_6 _ W7 (Kd.C_below HR0_6.out HBW7.out) HC0_6.out (Kd.C_below HR1_6.out HBW7.out) HC1_6.out K7.out).mono ?_); rintro e w7 ⟨rfl, hd⟩
                have hb : Below W7.heap.size W7 w7 := by obtain ⟨nd, rfl⟩ := hd; exact (by repeat (first | (with_reducible exact Below.refl _ _) | refine below_set ?_ (Nat.le_refl _) | apply below_alloc | apply pw_below_drewN | exact Below.refl _ _))
                clear hd
                have HBv7 := Aside0.mk (below_step HBW7.out hb); have BXv7 := Aside0.mk (blk_below BXW7.out hb); have BYv7 := Aside0.mk (blk_below BYW7.out hb); clear hb
                cases b8 with
                | false =>
                  have e8 := H8.out
                  have e8n : ¬ (a0_7 = a1_7 ∧ a0_8 = a1_8 ∧ a0_9 = a1_9 ∧ a0_10 = a1_10) := fun h => by obtain ⟨q1, q2, q3, q4⟩ := h; rw [q1, q2, q3, q4] at e8; simp at e8
                  obtain ⟨x0, x1, x2, x3, x4, x5, x6, x7, x8, x9, x10, x11, x12⟩ := cells13 BXv7.out
                  obtain ⟨y0, y1, y2, y3, y4, y5, y6, y7, y8, y9, y10, y11, y12⟩ := cells13 BYv7.out
                  go_wp2_with fail
                  all_goals first | exact (e8n ⟨by assumption, by assumption, by assumption, by assumption⟩).elim | (go_wp2; go_ret; exact ⟨rfl, below_step HBv7.out (by repeat (first | (with_reducible exact Below.refl _ _) | refine below_set ?_ (Nat.le_refl _) | apply below_alloc | apply pw_below_drewN | exact Below.refl _ _))⟩) | (go_ret; exact ⟨rfl, below_step HBv7.out (by repeat (first | (with_reducible exact Below.refl _ _) | refine below_set ?_ (Nat.le_refl _) | apply below_alloc | apply pw_below_drewN | exact Below.refl _ _))⟩)
                | true =>
                  have e8 := H8.out
                  obtain ⟨rfl, rfl, rfl, rfl⟩ : a0_7 = a1_7 ∧ a0_8 = a1_8 ∧ a0_9 = a1_9 ∧ a0_10 = a1_10 := by simpa using e8
                  cases b9 with
                  | false =>
                    obtain ⟨x0, x1, x2, x3, x4, x5, x6, x7, x8, x9, x10, x11, x12⟩ := cells13 BXv7.out
                    obtain ⟨y0, y1, y2, y3, y4, y5, y6, y7, y8, y9, y10, y11, y12⟩ := cells13 BYv7.out
                    go_wp2_with fail
                    refine calls_gen (fun W' => Below w7.heap.size w7 W') ?gb ?_
                    case gb => exact (by repeat (first | (with_reducible exact Below.refl _ _) | refine below_set ?_ (Nat.le_refl _) | apply below_alloc | apply pw_below_drewN | exact Below.refl _ _))
                    rintro W9 hbw
                    have HBW9 := Aside0.mk (below_step HBv7.out hbw); have BXW9 := Aside0.mk (blk_below BXv7.out hbw); have BYW9 := Aside0.mk (blk_below BYv7.out hbw); clear hbw
                    clear x0 x1 x2 x3 x4 x5 x6 x7 x8 x9 x10 x11 x12 y0 y1 y2 y3 y4 y5 y6 y7 y8 y9 y10 y11 y12
                    obtain ⟨k9, hk9⟩ := H9.out
                    have K9 := Aside0.mk hk9; clear hk9
                    go_at_call 80; (refine (impl_Seen.calls k9 _ _ l0_11 _ _ l1_11 _ W9 (Kd.C_below HR0_11.out HBW9.out) HC0_11.out (Kd.C_below HR1_11.out HBW9.out) HC1_11.out K9.out).mono ?_); rintro e w9 ⟨rfl, hd⟩
                    have hb : Below W9.heap.size W9 w9 := by obtain ⟨nd, rfl⟩ := hd; exact (by repeat (first | (with_reducible exact Below.refl _ _) | refine below_set ?_ (Nat.le_refl _) | apply below_alloc | apply pw_below_drewN | exact Below.refl _ _))
                    clear hd
                    have HBv9 := Aside0.mk (below_step HBW9.out hb); have BXv9 := Aside0.mk (blk_below BXW9.out hb); have BYv9 := Aside0.mk (blk_below BYW9.out hb); clear hb
                    go_wp2
                    go_ret
                    exact ⟨rfl, below_step HBv9.out (by repeat (first | (with_reducible exact Below.refl _ _) | refine below_set ?_ (Nat.le_refl _) | apply below_alloc | apply pw_below_drewN | exact Below.refl _ _))⟩
                  | true =>
                    obtain ⟨x0, x1, x2, x3, x4, x5, x6, x7, x8, x9, x10, x11, x12⟩ := cells13 BXv7.out
                    obtain ⟨y0, y1, y2, y3, y4, y5, y6, y7, y8, y9, y10, y11, y12⟩ := cells13 BYv7.out
                    go_wp2_with fail
                    refine calls_gen (fun W' => Below w7.heap.size w7 W') ?gb ?_
                    case gb => exact (by repeat (first | (with_reducible exact Below.refl _ _) | refine below_set ?_ (Nat.le_refl _) | apply below_alloc | apply pw_below_drewN | exact Below.refl _ _))
                    rintro W9 hbw
                    have HBW9 := Aside0.mk (below_step HBv7.out hbw); have BXW9 := Aside0.mk (blk_below BXv7.out hbw); have BYW9 := Aside0.mk (blk_below BYv7.out hbw); clear hbw
                    clear x0 x1 x2 x3 x4 x5 x6 x7 x8 x9 x10 x11 x12 y0 y1 y2 y3 y4 y5 y6 y7 y8 y9 y10 y11 y12
                    obtain ⟨k9, hk9⟩ := H9.out
                    have K9 := Aside0.mk hk9; clear hk9
                    go_at_call 80; (refine (impl_Seen.calls k9 _ _ l0_11 _ _ l1_11 _ W9 (Kd.C_below HR0_11.out HBW9.out) HC0_11.out (Kd.C_below HR1_11.out HBW9.out) HC1_11.out K9.out).mono ?_); rintro e w9 ⟨rfl, hd⟩
                    have hb : Below W9.heap.size W9 w9 := by obtain ⟨nd, rfl⟩ := hd; exact (by repeat (first | (with_reducible exact Below.refl _ _) | refine below_set ?_ (Nat.le_refl _) | apply below_alloc | apply pw_below_drewN | exact Below.refl _ _))
                    clear hd
                    have HBv9 := Aside0.mk (below_step HBW9.out hb); have BXv9 := Aside0.mk (blk_below BXW9.out hb); have BYv9 := Aside0.mk (blk_below BYW9.out hb); clear hb
                    have e10 := H10.out
                    obtain ⟨x0, x1, x2, x3, x4, x5, x6, x7, x8, x9, x10, x11, x12⟩ := cells13 BXv9.out
                    obtain ⟨y0, y1, y2, y3, y4, y5, y6, y7, y8, y9, y10, y11, y12⟩ := cells13 BYv9.out
                    go_wp2
                    go_ret
                    exact ⟨by rw [← e10]; rfl, below_step HBv9.out (by repeat (first | (with_reducible exact Below.refl _ _) | refine below_set ?_ (Nat.le_refl _) | apply below_alloc | apply pw_below_drewN | exact Below.refl _ _))⟩
/-! ### eqwc -/
def eqWV (a0_0 : Int) (l0_1 : (List S87)) (l0_2 : (List Int)) (l0_3 : (List Int)) (l0_4 : (List S97)) (l0_5 : (List Int)) (l0_6 : (List Int)) (a0_7 : Int) (a0_8 : Int) (a0_9 : Int) (a0_10 : Int) (l0_11 : (List S67)) (a0_12 : Int) (a1_0 : Int) (l1_1 : (List S87)) (l1_2 : (List Int)) (l1_3 : (List Int)) (l1_4 : (List S97)) (l1_5 : (List Int)) (l1_6 : (List Int)) (a1_7 : Int) (a1_8 : Int) (a1_9 : Int) (a1_10 : Int) (l1_11 : (List S67)) (a1_12 : Int) : Bool := (a0_0 == a1_0) && (eqLst eL l0_1 l1_1 && (eqLst eI l0_2 l1_2 && (eqLst eI l0_3 l1_3 && (eqLst eP l0_4 l1_4 && (eqLst eI l0_5 l1_5 && (eqLst eI l0_6 l1_6 && ((a0_7 == a1_7 && (a0_8 == a1_8 && (a0_9 == a1_9 && (a0_10 == a1_10)))) && (eqLst eS l0_11 l1_11 && (a0_12 == a1_12)))))))))
theorem evAnd {g : Nat → Option Bool} {b r : Bool} (h : Ev g r) : Ev (fun k => if b = true then g k else some false) (b && r) := by
  cases b with
  | true => exact evPos rfl h
  | false => exact evNeg (by decide) (Ev.now _)
theorem spec_EqualWorlds_ev (a0_0 : Int) (l0_1 : (List S87)) (l0_2 : (List Int)) (l0_3 : (List Int)) (l0_4 : (List S97)) (l0_5 : (List Int)) (l0_6 : (List Int)) (a0_7 : Int) (a0_8 : Int) (a0_9 : Int) (a0_10 : Int) (l0_11 : (List S67)) (a0_12 : Int) (a1_0 : Int) (l1_1 : (List S87)) (l1_2 : (List Int)) (l1_3 : (List Int)) (l1_4 : (List S97)) (l1_5 : (List Int)) (l1_6 : (List Int)) (a1_7 : Int) (a1_8 : Int) (a1_9 : Int) (a1_10 : Int) (l1_11 : (List S67)) (a1_12 : Int) (h : okW' l0_1 l0_2 l0_3 l0_4 l0_5 l0_6 l0_11) :
    Ev (fun k => spec_EqualWorlds.f k a0_0 l0_1 l0_2 l0_3 l0_4 l0_5 l0_6 a0_7 a0_8 a0_9 a0_10 l0_11 a0_12 a1_0 l1_1 l1_2 l1_3 l1_4 l1_5 l1_6 a1_7 a1_8 a1_9 a1_10 l1_11 a1_12) (eqWV a0_0 l0_1 l0_2 l0_3 l0_4 l0_5 l0_6 a0_7 a0_8 a0_9 a0_10 l0_11 a0_12 a1_0 l1_1 l1_2 l1_3 l1_4 l1_5 l1_6 a1_7 a1_8 a1_9 a1_10 l1_11 a1_12) := by
  have jt : Ev (fun k => spec_EqualWorlds.j0 k true a0_0 l0_1 l0_2 l0_3 l0_4 l0_5 l0_6 a0_7 a0_8 a0_9 a0_10 l0_11 a0_12 a1_0 l1_1 l1_2 l1_3 l1_4 l1_5 l1_6 a1_7 a1_8 a1_9 a1_10 l1_11 a1_12) false := Ev.step (fun k => by rw [spec_EqualWorlds.j0]) (evPos rfl (Ev.now _))
  obtain ⟨o1, o2, o3, ⟨o4, o4p⟩, o5, o6, o11⟩ := h
  unfold spec_EqualWorlds.f
  by_cases h0 : a0_0 = a1_0
  · refine evPos h0 ?_
    by_cases h1 : (l0_1.length : Int) = (l1_1.length : Int)
    · refine evPos h1 ?_
      by_cases hb : (!(a0_7 == a1_7) || (!(a0_8 == a1_8) || (!(a0_9 == a1_9) || (!(a0_10 == a1_10))))) = true
      · refine evPos hb (evEq ?_ jt)
        have e : (a0_7 == a1_7 && (a0_8 == a1_8 && (a0_9 == a1_9 && (a0_10 == a1_10)))) = false := by
          revert hb
          generalize (a0_7 == a1_7) = p; generalize (a0_8 == a1_8) = q; generalize (a0_9 == a1_9) = r; generalize (a0_10 == a1_10) = s
          cases p <;> cases q <;> cases r <;> cases s <;> decide
        rw [eqWV, e]
        simp
      · refine evNeg hb (Ev.step (fun k => by rw [spec_EqualWorlds.j0]) ?_)
        have e : (a0_7 == a1_7 && (a0_8 == a1_8 && (a0_9 == a1_9 && (a0_10 == a1_10)))) = true := by
          revert hb
          generalize (a0_7 == a1_7) = p; generalize (a0_8 == a1_8) = q; generalize (a0_9 == a1_9) = r; generalize (a0_10 == a1_10) = s
          cases p <;> cases q <;> cases r <;> cases s <;> decide
        by_cases hn : (a0_12 != a1_12) = true
        · refine evPos hn (evEq ?_ (Ev.now _))
          have e2 : (a0_12 == a1_12) = false := by simpa using hn
          rw [eqWV, e2]
          simp
        · refine evNeg hn ?_
          have e2 : (a0_12 == a1_12) = true := by simpa using hn
          have e0 : (a0_0 == a1_0) = true := beq_iff_eq.mpr h0
          have hend : Ev (fun k => spec_EqualWorlds.l0 k (l0_1.length : Int) a0_0 l0_1 l0_2 l0_3 l0_4 l0_5 l0_6 a0_7 a0_8 a0_9 a0_10 l0_11 a0_12 a1_0 l1_1 l1_2 l1_3 l1_4 l1_5 l1_6 a1_7 a1_8 a1_9 a1_10 l1_11 a1_12) (eqLst eI l0_2 l1_2 && (eqLst eI l0_3 l1_3 && (eqLst eI l0_5 l1_5 && (eqLst eI l0_6 l1_6 && (eqLst eP l0_4 l1_4 && eqLst eS l0_11 l1_11))))) := by
            refine Ev.step (fun k => by rw [spec_EqualWorlds.l0]) (evNeg (by omega) ?_)
            exact Ev.bind (spec_EqualInts_ev _ _ o2) (evAnd (Ev.bind (spec_EqualInts_ev _ _ o3) (evAnd (Ev.bind (spec_EqualInts_ev _ _ o5) (evAnd (Ev.bind (spec_EqualInts_ev _ _ o6) (evAnd (Ev.bind (spec_l29Probes_ev _ _ o4 o4p) (evAnd (Ev.bind (spec_l29Seen_ev _ _ o11) (Ev.now _)))))))))))
          refine evEq ?_ (ev_eqloop eL (fun k i => spec_EqualWorlds.l0 k i a0_0 l0_1 l0_2 l0_3 l0_4 l0_5 l0_6 a0_7 a0_8 a0_9 a0_10 l0_11 a0_12 a1_0 l1_1 l1_2 l1_3 l1_4 l1_5 l1_6 a1_7 a1_8 a1_9 a1_10 l1_11 a1_12) l0_1 l1_1 _ h1 hend ?_)
          · rw [eqWV, e0, e, e2]
            generalize eqLst eL l0_1 l1_1 = p1; generalize eqLst eI l0_2 l1_2 = p2; generalize eqLst eI l0_3 l1_3 = p3; generalize eqLst eP l0_4 l1_4 = p4; generalize eqLst eI l0_5 l1_5 = p5; generalize eqLst eI l0_6 l1_6 = p6; generalize eqLst eS l0_11 l1_11 = p7
            cases p1 <;> cases p2 <;> cases p3 <;> cases p4 <;> cases p5 <;> cases p6 <;> cases p7 <;> rfl
          · intro i hi hy r hr
            refine Ev.step (fun k => by rw [spec_EqualWorlds.l0]) (evPos (by omega) (evPos (by omega) (evPos (by omega) ?_)))
            rw [rdL_at l0_1 i hi, rdL_at l1_1 i hy, wsucc (by omega), eL]
            by_cases hc : ((!(l0_1[i].f0 == l1_1[i].f0)) || (!(l0_1[i].f1 == l1_1[i].f1))) = true
            · exact evPos hc (evEq (by rw [hc]; rfl) (Ev.now _))
            · exact evNeg hc (evEq (by rw [Bool.not_eq_true] at hc; rw [hc]; rfl) hr)
    · refine evNeg h1 (evEq ?_ jt)
      rw [eqWV, eqLst_len eL l0_1 l1_1 h1]
      simp
  · refine evNeg h0 (evEq ?_ jt)
    rw [eqWV, beq_eq_false_iff_ne.mpr h0]
    rfl
theorem impl_EqualWorlds.calls (a0_0 : Int) (A0_1 : Option Addr) (c0_1 : Nat) (l0_1 : (List S87)) (A0_2 : Option Addr) (c0_2 : Nat) (l0_2 : (List Int)) (A0_3 : Option Addr) (c0_3 : Nat) (l0_3 : (List Int)) (A0_4 : Option Addr) (c0_4 : Nat) (l0_4 : (List S97)) (A0_5 : Option Addr) (c0_5 : Nat) (l0_5 : (List Int)) (A0_6 : Option Addr) (c0_6 : Nat) (l0_6 : (List Int)) (a0_7 : Int) (a0_8 : Int) (a0_9 : Int) (a0_10 : Int) (A0_11 : Option Addr) (c0_11 : Nat) (l0_11 : (List S67)) (a0_12 : Int) (a1_0 : Int) (A1_1 : Option Addr) (c1_1 : Nat) (l1_1 : (List S87)) (A1_2 : Option Addr) (c1_2 : Nat) (l1_2 : (List Int)) (A1_3 : Option Addr) (c1_3 : Nat) (l1_3 : (List Int)) (A1_4 : Option Addr) (c1_4 : Nat) (l1_4 : (List S97)) (A1_5 : Option Addr) (c1_5 : Nat) (l1_5 : (List Int)) (A1_6 : Option Addr) (c1_6 : Nat) (l1_6 : (List Int)) (a1_7 : Int) (a1_8 : Int) (a1_9 : Int) (a1_10 : Int) (A1_11 : Option Addr) (c1_11 : Nat) (l1_11 : (List S67)) (a1_12 : Int) (r : Bool) (w : World) (hr0_1 : Kd.C k87 w A0_1 l0_1.length l0_1) (hc0_1 : l0_1.length ≤ c0_1) (hr0_2 : Kd.C (Kd.int .i64) w A0_2 l0_2.length l0_2) (hc0_2 : l0_2.length ≤ c0_2) (hr0_3 : Kd.C (Kd.int .i64) w A0_3 l0_3.length l0_3) (hc0_3 : l0_3.length ≤ c0_3) (hr0_4 : Kd.C k97 w A0_4 l0_4.length l0_4) (hc0_4 : l0_4.length ≤ c0_4) (hr0_5 : Kd.C (Kd.int .i64) w A0_5 l0_5.length l0_5) (hc0_5 : l0_5.length ≤ c0_5) (hr0_6 : Kd.C (Kd.int .i64) w A0_6 l0_6.length l0_6) (hc0_6 : l0_6.length ≤ c0_6) (hr0_11 : Kd.C k67 w A0_11 l0_11.length l0_11) (hc0_11 : l0_11.length ≤ c0_11) (hr1_1 : Kd.C k87 w A1_1 l1_1.length l1_1) (hc1_1 : l1_1.length ≤ c1_1) (hr1_2 : Kd.C (Kd.int .i64) w A1_2 l1_2.length l1_2) (hc1_2 : l1_2.length ≤ c1_2) (hr1_3 : Kd.C (Kd.int .i64) w A1_3 l1_3.length l1_3) (hc1_3 : l1_3.length ≤ c1_3) (hr1_4 : Kd.C k97 w A1_4 l1_4.length l1_4) (hc1_4 : l1_4.length ≤ c1_4) (hr1_5 : Kd.C (Kd.int .i64) w A1_5 l1_5.length l1_5) (hc1_5 : l1_5.length ≤ c1_5) (hr1_6 : Kd.C (Kd.int .i64) w A1_6 l1_6.length l1_6) (hc1_6 : l1_6.length ≤ c1_6) (hr1_11 : Kd.C k67 w A1_11 l1_11.length l1_11) (hc1_11 : l1_11.length ≤ c1_11) (h : eqWV a0_0 l0_1 l0_2 l0_3 l0_4 l0_5 l0_6 a0_7 a0_8 a0_9 a0_10 l0_11 a0_12 a1_0 l1_1 l1_2 l1_3 l1_4 l1_5 l1_6 a1_7 a1_8 a1_9 a1_10 l1_11 a1_12 = r ∧ okW' l0_1 l0_2 l0_3 l0_4 l0_5 l0_6 l0_11) :
    Calls Try.prog 18 #[.agg #[.int .i64 a0_0, .slice A0_1 l0_1.length c0_1, .slice A0_2 l0_2.length c0_2, .slice A0_3 l0_3.length c0_3, .slice A0_4 l0_4.length c0_4, .slice A0_5 l0_5.length c0_5, .slice A0_6 l0_6.length c0_6, .int .i64 a0_7, .int .i64 a0_8, .int .i64 a0_9, .int .i64 a0_10, .slice A0_11 l0_11.length c0_11, .int .i64 a0_12], .agg #[.int .i64 a1_0, .slice A1_1 l1_1.length c1_1, .slice A1_2 l1_2.length c1_2, .slice A1_3 l1_3.length c1_3, .slice A1_4 l1_4.length c1_4, .slice A1_5 l1_5.length c1_5, .slice A1_6 l1_6.length c1_6, .int .i64 a1_7, .int .i64 a1_8, .int .i64 a1_9, .int .i64 a1_10, .slice A1_11 l1_11.length c1_11, .int .i64 a1_12]] w fun e w' => e = .returned (.bool r) ∧ Below w.heap.size w w' := by
  obtain ⟨rfl, o1, o2, o3, ⟨o4, o4p⟩, o5, o6, o11⟩ := h
  exact EW_c a0_0 A0_1 c0_1 l0_1 A0_2 c0_2 l0_2 A0_3 c0_3 l0_3 A0_4 c0_4 l0_4 A0_5 c0_5 l0_5 A0_6 c0_6 l0_6 a0_7 a0_8 a0_9 a0_10 A0_11 c0_11 l0_11 a0_12 a1_0 A1_1 c1_1 l1_1 A1_2 c1_2 l1_2 A1_3 c1_3 l1_3 A1_4 c1_4 l1_4 A1_5 c1_5 l1_5 A1_6 c1_6 l1_6 a1_7 a1_8 a1_9 a1_10 A1_11 c1_11 l1_11 a1_12 _ _ _ _ _ _ _ _ _ _ w hr0_1 hc0_1 hr0_2 hc0_2 hr0_3 hc0_3 hr0_4 hc0_4 hr0_5 hc0_5 hr0_6 hc0_6 hr0_11 hc0_11 hr1_1 hc1_1 hr1_2 hc1_2 hr1_3 hc1_3 hr1_4 hc1_4 hr1_5 hc1_5 hr1_6 hc1_6 hr1_11 hc1_11 rfl (slices_EqualLink_ev _ _ o1).rounds (slices_Equal_ev _ _ o2).rounds (slices_Equal_ev _ _ o3).rounds (fun W a b => EF_c _ _ _ _ _ _ W a b o4 o4p) (slices_Equal_ev _ _ o5).rounds (slices_Equal_ev _ _ o6).rounds rfl (slices_EqualSeen_ev _ _ o11).rounds rfl
/-! ### zw_FnExactEqualWorlds -/
set_option maxHeartbeats 8000000 in
set_option maxRecDepth 100000 in
theorem FnExactEqualWorlds_calls' (y : LW) (q : LP)  (yb : LW) (qb : LP) (w : World) (hqb : yb.Rd qb w) (hq : y.Rd q w) (g1 : y.l1.length ≤ 9223372036854775807) (g2 : y.l2.length ≤ 9223372036854775807) (g3 : y.l3.length ≤ 9223372036854775807) (g4 : y.l4.length ≤ 9223372036854775807 ∧ ∀ p ∈ y.l4, p.f2.length ≤ 9223372036854775807) (g5 : y.l5.length ≤ 9223372036854775807) (g6 : y.l6.length ≤ 9223372036854775807) (g11 : y.l11.length ≤ 9223372036854775807) (gb1 : yb.l1.length ≤ 9223372036854775807) (gb2 : yb.l2.length ≤ 9223372036854775807) (gb3 : yb.l3.length ≤ 9223372036854775807) (gb4 : yb.l4.length ≤ 9223372036854775807 ∧ ∀ p ∈ yb.l4, p.f2.length ≤ 9223372036854775807) (gb5 : yb.l5.length ≤ 9223372036854775807) (gb6 : yb.l6.length ≤ 9223372036854775807) (gb11 : yb.l11.length ≤ 9223372036854775807) :
    Calls Try.prog 3 #[.agg (y.cells q), .agg (yb.cells qb)] w fun e w' => e = .returned (.bool true) ∧ Below w.heap.size w w' := by
  have hv := Try.underlying31
  have hu := Try.underlying41
  have HQb := Aside0.mk hqb; clear hqb
  have HQ := Aside0.mk hq; clear hq
  go_enter Try.func3, Try.ntmps3
  have HBW0 := Aside0.mk (Below.refl w.heap.size w)
  go_wp2_with fail
  refine calls_gen (fun W' => Below w.heap.size w W' ∧ W'.heap[w.heap.size]? = some (.cells (y.cells q) 31 (0, 0)) ∧ W'.heap[w.heap.size + 1]? = some (.cells (yb.cells qb) 31 (0, 0))) ⟨?gb, ?gn, ?gm⟩ ?_
  case gb => repeat (first | (with_reducible exact Below.refl _ _) | refine below_set ?_ (Nat.le_refl _) | apply below_alloc | apply pw_below_drewN)
  case gn => (repeat (refine blk_drewN ?_ _)); exact blk_alloc (blk_new _ _) _
  case gm => (repeat (refine blk_drewN ?_ _)); exact blk_new2 _ _ _
  rintro W1 ⟨hbw, hbn, hbm⟩
  have hrd := HQ.out.below (below_step HBW0.out hbw)
  go_at_call 15; (refine (szWorldA_c y q W1 hrd g1 g2 g3 g4 g5 g6 g11 1048576 (by omega) (by omega)).mono ?_); rintro e w3 ⟨r, rfl, hok, hle, hb⟩
  clear hrd
  have hs := below_step hbw hb
  have HB4 := Aside0.mk (below_step HBW0.out hs)
  clear HBW0
  have BX5 := Aside0.mk (blk_below hbn hb)
  clear hbn
  have BX6 := Aside0.mk (blk_below hbm hb)
  clear hbm
  have HS := Aside0.mk (hs.size : w.heap.size ≤ w3.heap.size)
  by_cases hc : r < 0
  · have hcd : decide (r < 0) = true := decide_eq_true hc
    go_wp2
    go_ret
    exact ⟨rfl, below_step HB4.out (by repeat (first | (with_reducible first | exact Below.refl _ _ | apply below_alloc | apply pw_below_drewN | apply below_drew1) | exact Below.refl _ _))⟩
  have hcd : decide (r < 0) = false := decide_eq_false hc
  have OK := Aside0.mk (hok (by omega)); clear hok hb hs hbw
  obtain ⟨z7, z8, z9, z10, z11, z12, z13, z14, z15, z16, z17, z18, z19⟩ := LW.at_ BX5.out
  obtain ⟨z20, z21, z22, z23, z24, z25, z26, z27, z28, z29, z30, z31, z32⟩ := LW.at_ BX6.out
  go_wp2_with fail
  refine calls_gen (fun W' => Below w3.heap.size w3 W') ?gb ?_
  case gb => repeat (first | (with_reducible exact Below.refl _ _) | refine below_set ?_ (Nat.le_refl _) | apply below_alloc | apply pw_below_drewN)
  rintro W33 hbw
  clear z7 z8 z9 z10 z11 z12 z13 z14 z15 z16 z17 z18 z19 z20 z21 z22 z23 z24 z25 z26 z27 z28 z29 z30 z31 z32
  have hrd := HQb.out.below (below_step HB4.out hbw)
  go_at_call 15; (refine (szWorldA_c yb qb W33 hrd gb1 gb2 gb3 gb4 gb5 gb6 gb11 r (by omega) (by omega)).mono ?_); rintro e w35 ⟨rb, rfl, hok, hleb, hb⟩
  clear hrd
  have hs := below_step hbw hb
  have HB36 := Aside0.mk (below_step HB4.out hs)
  clear HB4
  have BX37 := Aside0.mk (blk_below BX5.out hs); clear BX5
  have BX38 := Aside0.mk (blk_below BX6.out hs); clear BX6
  replace HS := Aside0.mk (And.intro HS.out (hs.size : w3.heap.size ≤ w35.heap.size))
  by_cases hcb : rb < 0
  · have hcd : decide (rb < 0) = true := decide_eq_true hcb
    go_wp2
    go_ret
    exact ⟨rfl, below_step HB36.out (by repeat (first | (with_reducible first | exact Below.refl _ _ | apply below_alloc | apply pw_below_drewN | apply below_drew1) | exact Below.refl _ _))⟩
  have hcdb : decide (rb < 0) = false := decide_eq_false hcb
  have OKb := Aside0.mk (hok (by omega)); clear hok hb hs hbw
  clear hle hleb
  obtain ⟨x, hxe⟩ : ∃ x, x = cvW y := ⟨_, rfl⟩
  have HXE := Aside0.mk hxe
  have OKX := Aside0.mk (show x.Ok from by rw [hxe]; exact cvW_ok OK.out)
  obtain ⟨xb, hxeb⟩ : ∃ x, x = cvW yb := ⟨_, rfl⟩
  have HXEb := Aside0.mk hxeb
  have OKXb := Aside0.mk (show xb.Ok from by rw [hxeb]; exact cvW_ok OKb.out)
  obtain ⟨b, hbv⟩ : ∃ b, b = eqWV x.d0 x.l1 x.l2 x.l3 x.l4 x.l5 x.l6 x.d7 x.d8 x.d9 x.d10 x.l11 x.d12 xb.d0 xb.l1 xb.l2 xb.l3 xb.l4 xb.l5 xb.l6 xb.d7 xb.d8 xb.d9 xb.d10 xb.l11 xb.d12 := ⟨_, rfl⟩
  obtain ⟨ks, hks⟩ := (spec_EqualWorlds_ev x.d0 x.l1 x.l2 x.l3 x.l4 x.l5 x.l6 x.d7 x.d8 x.d9 x.d10 x.l11 x.d12 xb.d0 xb.l1 xb.l2 xb.l3 xb.l4 xb.l5 xb.l6 xb.d7 xb.d8 xb.d9 xb.d10 xb.l11 xb.d12 OKX.out).rounds
  rw [← hbv] at hks
  have KS := Aside0.mk hks
  have KI := Aside0.mk (And.intro hbv.symm OKX.out)
  clear hks hbv hxe hxeb
  go_upto_region 8 with fail
  (try simp only [Act.put, List.setIfInBounds_toArray, List.set_cons_zero, List.set_cons_succ])
  go_cut [6] (fun v6 wc39 => v6 = .bool b ∧ Below w35.heap.size w35 wc39)
  case first =>
    go_region_held3 (fun w' => Below w35.heap.size w35 w' ∧ (w'.cell? ⟨w.heap.size, 0, none⟩ = some (.int .i64 y.d0) ∧ w'.cell? ⟨w.heap.size, 1, none⟩ = some (.slice q.A1 y.l1.length q.c1) ∧ w'.cell? ⟨w.heap.size, 2, none⟩ = some (.slice q.A2 y.l2.length q.c2) ∧ w'.cell? ⟨w.heap.size, 3, none⟩ = some (.slice q.A3 y.l3.length q.c3) ∧ w'.cell? ⟨w.heap.size, 4, none⟩ = some (.slice q.A4 y.l4.length q.c4) ∧ w'.cell? ⟨w.heap.size, 5, none⟩ = some (.slice q.A5 y.l5.length q.c5) ∧ w'.cell? ⟨w.heap.size, 6, none⟩ = some (.slice q.A6 y.l6.length q.c6) ∧ w'.cell? ⟨w.heap.size, 7, none⟩ = some (.int .i64 y.d7) ∧ w'.cell? ⟨w.heap.size, 8, none⟩ = some (.int .i64 y.d8) ∧ w'.cell? ⟨w.heap.size, 9, none⟩ = some (.int .i64 y.d9) ∧ w'.cell? ⟨w.heap.size, 10, none⟩ = some (.int .i64 y.d10) ∧ w'.cell? ⟨w.heap.size, 11, none⟩ = some (.slice q.A11 y.l11.length q.c11) ∧ w'.cell? ⟨w.heap.size, 12, none⟩ = some (.int .i64 y.d12)) ∧ (w'.cell? ⟨(w.heap.size + 1), 0, none⟩ = some (.int .i64 yb.d0) ∧ w'.cell? ⟨(w.heap.size + 1), 1, none⟩ = some (.slice qb.A1 yb.l1.length qb.c1) ∧ w'.cell? ⟨(w.heap.size + 1), 2, none⟩ = some (.slice qb.A2 yb.l2.length qb.c2) ∧ w'.cell? ⟨(w.heap.size + 1), 3, none⟩ = some (.slice qb.A3 yb.l3.length qb.c3) ∧ w'.cell? ⟨(w.heap.size + 1), 4, none⟩ = some (.slice qb.A4 yb.l4.length qb.c4) ∧ w'.cell? ⟨(w.heap.size + 1), 5, none⟩ = some (.slice qb.A5 yb.l5.length qb.c5) ∧ w'.cell? ⟨(w.heap.size + 1), 6, none⟩ = some (.slice qb.A6 yb.l6.length qb.c6) ∧ w'.cell? ⟨(w.heap.size + 1), 7, none⟩ = some (.int .i64 yb.d7) ∧ w'.cell? ⟨(w.heap.size + 1), 8, none⟩ = some (.int .i64 yb.d8) ∧ w'.cell? ⟨(w.heap.size + 1), 9, none⟩ = some (.int .i64 yb.d9) ∧ w'.cell? ⟨(w.heap.size + 1), 10, none⟩ = some (.int .i64 yb.d10) ∧ w'.cell? ⟨(w.heap.size + 1), 11, none⟩ = some (.slice qb.A11 yb.l11.length qb.c11) ∧ w'.cell? ⟨(w.heap.size + 1), 12, none⟩ = some (.int .i64 yb.d12))) (first | exact ⟨(below_step (below_step (below_step (w := w35) (by repeat (first | (with_reducible first | exact Below.refl _ _ | apply below_alloc | apply pw_below_drewN | apply below_drew1) | exact Below.refl _ _)) hb1) (below_step (by repeat (first | (with_reducible first | exact Below.refl _ _ | apply below_alloc | apply pw_below_drewN | apply below_drew1) | exact Below.refl _ _)) hb2)) (below_step (by repeat (first | (with_reducible first | exact Below.refl _ _ | apply below_alloc | apply pw_below_drewN | apply below_drew1) | exact Below.refl _ _)) hb3)), LW.at_ (blk_below BX37.out (below_step (below_step (below_step (w := w35) (by repeat (first | (with_reducible first | exact Below.refl _ _ | apply below_alloc | apply pw_below_drewN | apply below_drew1) | exact Below.refl _ _)) hb1) (below_step (by repeat (first | (with_reducible first | exact Below.refl _ _ | apply below_alloc | apply pw_below_drewN | apply below_drew1) | exact Below.refl _ _)) hb2)) (below_step (by repeat (first | (with_reducible first | exact Below.refl _ _ | apply below_alloc | apply pw_below_drewN | apply below_drew1) | exact Below.refl _ _)) hb3))), LW.at_ (blk_below BX38.out (below_step (below_step (below_step (w := w35) (by repeat (first | (with_reducible first | exact Below.refl _ _ | apply below_alloc | apply pw_below_drewN | apply below_drew1) | exact Below.refl _ _)) hb1) (below_step (by repeat (first | (with_reducible first | exact Below.refl _ _ | apply below_alloc | apply pw_below_drewN | apply below_drew1) | exact Below.refl _ _)) hb2)) (below_step (by repeat (first | (with_reducible first | exact Below.refl _ _ | apply below_alloc | apply pw_below_drewN | apply below_drew1) | exact Below.refl _ _)) hb3)))⟩ | exact ⟨(below_step (below_step (w := w35) (by repeat (first | (with_reducible first | exact Below.refl _ _ | apply below_alloc | apply pw_below_drewN | apply below_drew1) | exact Below.refl _ _)) hb1) (below_step (by repeat (first | (with_reducible first | exact Below.refl _ _ | apply below_alloc | apply pw_below_drewN | apply below_drew1) | exact Below.refl _ _)) hb2)), LW.at_ (blk_below BX37.out (below_step (below_step (w := w35) (by repeat (first | (with_reducible first | exact Below.refl _ _ | apply below_alloc | apply pw_below_drewN | apply below_drew1) | exact Below.refl _ _)) hb1) (below_step (by repeat (first | (with_reducible first | exact Below.refl _ _ | apply below_alloc | apply pw_below_drewN | apply below_drew1) | exact Below.refl _ _)) hb2))), LW.at_ (blk_below BX38.out (below_step (below_step (w := w35) (by repeat (first | (with_reducible first | exact Below.refl _ _ | apply below_alloc | apply pw_below_drewN | apply below_drew1) | exact Below.refl _ _)) hb1) (below_step (by repeat (first | (with_reducible first | exact Below.refl _ _ | apply below_alloc | apply pw_below_drewN | apply below_drew1) | exact Below.refl _ _)) hb2)))⟩ | exact ⟨(below_step (w := w35) (by repeat (first | (with_reducible first | exact Below.refl _ _ | apply below_alloc | apply pw_below_drewN | apply below_drew1) | exact Below.refl _ _)) hb1), LW.at_ (blk_below BX37.out (below_step (w := w35) (by repeat (first | (with_reducible first | exact Below.refl _ _ | apply below_alloc | apply pw_below_drewN | apply below_drew1) | exact Below.refl _ _)) hb1)), LW.at_ (blk_below BX38.out (below_step (w := w35) (by repeat (first | (with_reducible first | exact Below.refl _ _ | apply below_alloc | apply pw_below_drewN | apply below_drew1) | exact Below.refl _ _)) hb1))⟩ | exact ⟨(by repeat (first | (with_reducible first | exact Below.refl _ _ | apply below_alloc | apply pw_below_drewN | apply below_drew1) | exact Below.refl _ _)), LW.at_ (blk_below BX37.out (by repeat (first | (with_reducible first | exact Below.refl _ _ | apply below_alloc | apply pw_below_drewN | apply below_drew1) | exact Below.refl _ _))), LW.at_ (blk_below BX38.out (by repeat (first | (with_reducible first | exact Below.refl _ _ | apply below_alloc | apply pw_below_drewN | apply below_drew1) | exact Below.refl _ _)))⟩)
      (first | (go_at_call 16; (refine (spec_EqualWorlds.calls ks x.d0 p1_.A1 p1_.c1 x.l1 p1_.A2 p1_.c2 x.l2 p1_.A3 p1_.c3 x.l3 p1_.A4 p1_.c4 x.l4 p1_.A5 p1_.c5 x.l5 p1_.A6 p1_.c6 x.l6 x.d7 x.d8 x.d9 x.d10 p1_.A11 p1_.c11 x.l11 x.d12 xb.d0 p2_.A1 p2_.c1 xb.l1 p2_.A2 p2_.c2 xb.l2 p2_.A3 p2_.c3 xb.l3 p2_.A4 p2_.c4 xb.l4 p2_.A5 p2_.c5 xb.l5 p2_.A6 p2_.c6 xb.l6 xb.d7 xb.d8 xb.d9 xb.d10 p2_.A11 p2_.c11 xb.l11 xb.d12 b _ (hm1.rd.below (below_step (by repeat (first | (with_reducible first | exact Below.refl _ _ | apply below_alloc | apply pw_below_drewN | apply below_drew1) | exact Below.refl _ _)) (below_step hb2 (by repeat (first | (with_reducible first | exact Below.refl _ _ | apply below_alloc | apply pw_below_drewN | apply below_drew1) | exact Below.refl _ _))))).r1 (hm1.rd.below (below_step (by repeat (first | (with_reducible first | exact Below.refl _ _ | apply below_alloc | apply pw_below_drewN | apply below_drew1) | exact Below.refl _ _)) (below_step hb2 (by repeat (first | (with_reducible first | exact Below.refl _ _ | apply below_alloc | apply pw_below_drewN | apply below_drew1) | exact Below.refl _ _))))).h1 (hm1.rd.below (below_step (by repeat (first | (with_reducible first | exact Below.refl _ _ | apply below_alloc | apply pw_below_drewN | apply below_drew1) | exact Below.refl _ _)) (below_step hb2 (by repeat (first | (with_reducible first | exact Below.refl _ _ | apply below_alloc | apply pw_below_drewN | apply below_drew1) | exact Below.refl _ _))))).r2 (hm1.rd.below (below_step (by repeat (first | (with_reducible first | exact Below.refl _ _ | apply below_alloc | apply pw_below_drewN | apply below_drew1) | exact Below.refl _ _)) (below_step hb2 (by repeat (first | (with_reducible first | exact Below.refl _ _ | apply below_alloc | apply pw_below_drewN | apply below_drew1) | exact Below.refl _ _))))).h2 (hm1.rd.below (below_step (by repeat (first | (with_reducible first | exact Below.refl _ _ | apply below_alloc | apply pw_below_drewN | apply below_drew1) | exact Below.refl _ _)) (below_step hb2 (by repeat (first | (with_reducible first | exact Below.refl _ _ | apply below_alloc | apply pw_below_drewN | apply below_drew1) | exact Below.refl _ _))))).r3 (hm1.rd.below (below_step (by repeat (first | (with_reducible first | exact Below.refl _ _ | apply below_alloc | apply pw_below_drewN | apply below_drew1) | exact Below.refl _ _)) (below_step hb2 (by repeat (first | (with_reducible first | exact Below.refl _ _ | apply below_alloc | apply pw_below_drewN | apply below_drew1) | exact Below.refl _ _))))).h3 (hm1.rd.below (below_step (by repeat (first | (with_reducible first | exact Below.refl _ _ | apply below_alloc | apply pw_below_drewN | apply below_drew1) | exact Below.refl _ _)) (below_step hb2 (by repeat (first | (with_reducible first | exact Below.refl _ _ | apply below_alloc | apply pw_below_drewN | apply below_drew1) | exact Below.refl _ _))))).r4 (hm1.rd.below (below_step (by repeat (first | (with_reducible first | exact Below.refl _ _ | apply below_alloc | apply pw_below_drewN | apply below_drew1) | exact Below.refl _ _)) (below_step hb2 (by repeat (first | (with_reducible first | exact Below.refl _ _ | apply below_alloc | apply pw_below_drewN | apply below_drew1) | exact Below.refl _ _))))).h4 (hm1.rd.below (below_step (by repeat (first | (with_reducible first | exact Below.refl _ _ | apply below_alloc | apply pw_below_drewN | apply below_drew1) | exact Below.refl _ _)) (below_step hb2 (by repeat (first | (with_reducible first | exact Below.refl _ _ | apply below_alloc | apply pw_below_drewN | apply below_drew1) | exact Below.refl _ _))))).r5 (hm1.rd.below (below_step (by repeat (first | (with_reducible first | exact Below.refl _ _ | apply below_alloc | apply pw_below_drewN | apply below_drew1) | exact Below.refl _ _)) (below_step hb2 (by repeat (first | (with_reducible first | exact Below.refl _ _ | apply below_alloc | apply pw_below_drewN | apply below_drew1) | exact Below.refl _ _))))).h5 (hm1.rd.below (below_step (by repeat (first | (with_reducible first | exact Below.refl _ _ | apply below_alloc | apply pw_below_drewN | apply below_drew1) | exact Below.refl _ _)) (below_step hb2 (by repeat (first | (with_reducible first | exact Below.refl _ _ | apply below_alloc | apply pw_below_drewN | apply below_drew1) | exact Below.refl _ _))))).r6 (hm1.rd.below (below_step (by repeat (first | (with_reducible first | exact Below.refl _ _ | apply below_alloc | apply pw_below_drewN | apply below_drew1) | exact Below.refl _ _)) (below_step hb2 (by repeat (first | (with_reducible first | exact Below.refl _ _ | apply below_alloc | apply pw_below_drewN | apply below_drew1) | exact Below.refl _ _))))).h6 (hm1.rd.below (below_step (by repeat (first | (with_reducible first | exact Below.refl _ _ | apply below_alloc | apply pw_below_drewN | apply below_drew1) | exact Below.refl _ _)) (below_step hb2 (by repeat (first | (with_reducible first | exact Below.refl _ _ | apply below_alloc | apply pw_below_drewN | apply below_drew1) | exact Below.refl _ _))))).r11 (hm1.rd.below (below_step (by repeat (first | (with_reducible first | exact Below.refl _ _ | apply below_alloc | apply pw_below_drewN | apply below_drew1) | exact Below.refl _ _)) (below_step hb2 (by repeat (first | (with_reducible first | exact Below.refl _ _ | apply below_alloc | apply pw_below_drewN | apply below_drew1) | exact Below.refl _ _))))).h11 (hm2.rd.below (by repeat (first | (with_reducible first | exact Below.refl _ _ | apply below_alloc | apply pw_below_drewN | apply below_drew1) | exact Below.refl _ _))).r1 (hm2.rd.below (by repeat (first | (with_reducible first | exact Below.refl _ _ | apply below_alloc | apply pw_below_drewN | apply below_drew1) | exact Below.refl _ _))).h1 (hm2.rd.below (by repeat (first | (with_reducible first | exact Below.refl _ _ | apply below_alloc | apply pw_below_drewN | apply below_drew1) | exact Below.refl _ _))).r2 (hm2.rd.below (by repeat (first | (with_reducible first | exact Below.refl _ _ | apply below_alloc | apply pw_below_drewN | apply below_drew1) | exact Below.refl _ _))).h2 (hm2.rd.below (by repeat (first | (with_reducible first | exact Below.refl _ _ | apply below_alloc | apply pw_below_drewN | apply below_drew1) | exact Below.refl _ _))).r3 (hm2.rd.below (by repeat (first | (with_reducible first | exact Below.refl _ _ | apply below_alloc | apply pw_below_drewN | apply below_drew1) | exact Below.refl _ _))).h3 (hm2.rd.below (by repeat (first | (with_reducible first | exact Below.refl _ _ | apply below_alloc | apply pw_below_drewN | apply below_drew1) | exact Below.refl _ _))).r4 (hm2.rd.below (by repeat (first | (with_reducible first | exact Below.refl _ _ | apply below_alloc | apply pw_below_drewN | apply below_drew1) | exact Below.refl _ _))).h4 (hm2.rd.below (by repeat (first | (with_reducible first | exact Below.refl _ _ | apply below_alloc | apply pw_below_drewN | apply below_drew1) | exact Below.refl _ _))).r5 (hm2.rd.below (by repeat (first | (with_reducible first | exact Below.refl _ _ | apply below_alloc | apply pw_below_drewN | apply below_drew1) | exact Below.refl _ _))).h5 (hm2.rd.below (by repeat (first | (with_reducible first | exact Below.refl _ _ | apply below_alloc | apply pw_below_drewN | apply below_drew1) | exact Below.refl _ _))).r6 (hm2.rd.below (by repeat (first | (with_reducible first | exact Below.refl _ _ | apply below_alloc | apply pw_below_drewN | apply below_drew1) | exact Below.refl _ _))).h6 (hm2.rd.below (by repeat (first | (with_reducible first | exact Below.refl _ _ | apply below_alloc | apply pw_below_drewN | apply below_drew1) | exact Below.refl _ _))).r11 (hm2.rd.below (by repeat (first | (with_reducible first | exact Below.refl _ _ | apply below_alloc | apply pw_below_drewN | apply below_drew1) | exact Below.refl _ _))).h11 KS.out).mono ?_); rintro e w3_ ⟨rfl, hb3⟩) | (have h_ := hb1; clear h_; go_at_call 17; (refine (toWorld_c yb qb _ (HQb.out.below (below_step HB36.out (below_step (w := w35) (by repeat (first | (with_reducible first | exact Below.refl _ _ | apply below_alloc | apply pw_below_drewN | apply below_drew1) | exact Below.refl _ _)) hb1))) OKb.out).mono ?_); rintro e w2_ ⟨p2_, rfl, hm2, hb2⟩; rw [← HXEb.out] at hm2 ⊢) | (go_at_call 17; (refine (toWorld_c y q _ (HQ.out.below (below_step HB36.out (by repeat (first | (with_reducible first | exact Below.refl _ _ | apply below_alloc | apply pw_below_drewN | apply below_drew1) | exact Below.refl _ _)))) OK.out).mono ?_); rintro e w1_ ⟨p1_, rfl, hm1, hb1⟩; rw [← HXE.out] at hm1 ⊢) | fail)
    all_goals (try go_wp2_with fail)
    all_goals go_meet
    all_goals exact ⟨rfl, below_step (below_step (below_step (below_step (w := w35) (by repeat (first | (with_reducible first | exact Below.refl _ _ | apply below_alloc | apply pw_below_drewN | apply below_drew1) | exact Below.refl _ _)) hb1) (below_step (by repeat (first | (with_reducible first | exact Below.refl _ _ | apply below_alloc | apply pw_below_drewN | apply below_drew1) | exact Below.refl _ _)) hb2)) (below_step (by repeat (first | (with_reducible first | exact Below.refl _ _ | apply below_alloc | apply pw_below_drewN | apply below_drew1) | exact Below.refl _ _)) hb3)) (by repeat (first | (with_reducible first | exact Below.refl _ _ | apply below_alloc | apply pw_below_drewN | apply below_drew1) | exact Below.refl _ _))⟩
  case rest =>
    obtain ⟨rfl, hbw⟩ := hcut
    obtain ⟨wc39, hw9⟩ : ∃ w9, w9 = wc := ⟨_, rfl⟩
    subst hw9
    have hs := hbw
    have HB40 := Aside0.mk (below_step HB36.out hs)
    clear HB36
    have BX41 := Aside0.mk (blk_below BX37.out hs); clear BX37
    have BX42 := Aside0.mk (blk_below BX38.out hs); clear BX38
    replace HS := Aside0.mk (And.intro HS.out (hs.size : w35.heap.size ≤ wc39.heap.size))
    clear hs hbw
    obtain ⟨z43, z44, z45, z46, z47, z48, z49, z50, z51, z52, z53, z54, z55⟩ := LW.at_ BX41.out
    obtain ⟨z56, z57, z58, z59, z60, z61, z62, z63, z64, z65, z66, z67, z68⟩ := LW.at_ BX42.out
    go_wp2_with fail
    refine calls_gen (fun W' => Below wc39.heap.size wc39 W') ?gb ?_
    case gb => repeat (first | (with_reducible exact Below.refl _ _) | refine below_set ?_ (Nat.le_refl _) | apply below_alloc | apply pw_below_drewN)
    rintro W69 hbw
    clear z43 z44 z45 z46 z47 z48 z49 z50 z51 z52 z53 z54 z55 z56 z57 z58 z59 z60 z61 z62 z63 z64 z65 z66 z67 z68
    have hrd := HQ.out.below (below_step HB40.out hbw)
    go_at_call 17; (refine (toWorld_c y q W69 hrd OK.out).mono ?_); rintro e w71 ⟨p72, rfl, hm, hb⟩
    rw [← HXE.out] at hm ⊢
    have HO73 := Aside0.mk ((hm.lower (Nat.le_trans HB40.out.size hbw.size)).mono (ok' := fun k => wc39.heap.size ≤ k ∧ k < w71.heap.size) (fun k h => ⟨Nat.le_trans hbw.size h.1, h.2⟩))
    have hs := below_step hbw hb
    have HB74 := Aside0.mk (below_step HB40.out hs)
    clear HB40
    have BX75 := Aside0.mk (blk_below BX41.out hs); clear BX41
    have BX76 := Aside0.mk (blk_below BX42.out hs); clear BX42
    replace HS := Aside0.mk (And.intro HS.out (hs.size : wc39.heap.size ≤ w71.heap.size))
    clear hm hb hs hbw hrd
    obtain ⟨z77, z78, z79, z80, z81, z82, z83, z84, z85, z86, z87, z88, z89⟩ := LW.at_ BX75.out
    obtain ⟨z90, z91, z92, z93, z94, z95, z96, z97, z98, z99, z100, z101, z102⟩ := LW.at_ BX76.out
    go_upto_region 10 with fail
    generalize hWX : w71.alloc (.cells (x.cells p72) 41) = w103
    have hbw : Below w71.heap.size w71 w103 := by rw [← hWX]; exact (by repeat (first | (with_reducible first | exact Below.refl _ _ | apply below_alloc | apply pw_below_drewN | apply below_drew1) | exact Below.refl _ _))
    have hbn : w103.heap[w71.heap.size]? = some (.cells (x.cells p72) 41 (0, 0)) := by rw [← hWX]; exact blk_new _ _
    clear hWX z77 z78 z79 z80 z81 z82 z83 z84 z85 z86 z87 z88 z89 z90 z91 z92 z93 z94 z95 z96 z97 z98 z99 z100 z101 z102
    have hs := hbw
    have HB104 := Aside0.mk (below_step HB74.out hs)
    clear HB74
    have HO105 := Aside0.mk (HO73.out.below hs); clear HO73
    have BX106 := Aside0.mk (blk_below BX75.out hs); clear BX75
    have BX107 := Aside0.mk (blk_below BX76.out hs); clear BX76
    have BX108 := Aside0.mk (hbn)
    clear hbn
    replace HS := Aside0.mk (And.intro HS.out (hs.size : w71.heap.size ≤ w103.heap.size))
    clear hs hbw
    obtain ⟨z109, z110, z111, z112, z113, z114, z115, z116, z117, z118, z119, z120, z121⟩ := LW.at_ BX106.out
    obtain ⟨z122, z123, z124, z125, z126, z127, z128, z129, z130, z131, z132, z133, z134⟩ := LW.at_ BX107.out
    obtain ⟨z135, z136, z137, z138, z139, z140, z141, z142, z143, z144, z145, z146, z147⟩ := IW.at_ BX108.out
    go_wp2_with fail
    refine calls_gen (fun W' => Below w103.heap.size w103 W') ?gb ?_
    case gb => repeat (first | (with_reducible exact Below.refl _ _) | refine below_set ?_ (Nat.le_refl _) | apply below_alloc | apply pw_below_drewN)
    rintro W148 hbw
    clear z109 z110 z111 z112 z113 z114 z115 z116 z117 z118 z119 z120 z121 z122 z123 z124 z125 z126 z127 z128 z129 z130 z131 z132 z133 z134 z135 z136 z137 z138 z139 z140 z141 z142 z143 z144 z145 z146 z147
    have hrd := HQb.out.below (below_step HB104.out hbw)
    go_at_call 17; (refine (toWorld_c yb qb W148 hrd OKb.out).mono ?_); rintro e w150 ⟨p151, rfl, hm, hb⟩
    rw [← HXEb.out] at hm ⊢
    have HO152 := Aside0.mk ((hm.lower (Nat.le_trans HB104.out.size hbw.size)).mono (ok' := fun k => w103.heap.size ≤ k ∧ k < w150.heap.size) (fun k h => ⟨Nat.le_trans hbw.size h.1, h.2⟩))
    have hs := below_step hbw hb
    have HB153 := Aside0.mk (below_step HB104.out hs)
    clear HB104
    have HO154 := Aside0.mk (HO105.out.below hs); clear HO105
    have BX155 := Aside0.mk (blk_below BX106.out hs); clear BX106
    have BX156 := Aside0.mk (blk_below BX107.out hs); clear BX107
    have BX157 := Aside0.mk (blk_below BX108.out hs); clear BX108
    replace HS := Aside0.mk (And.intro HS.out (hs.size : w103.heap.size ≤ w150.heap.size))
    clear hm hb hs hbw hrd
    obtain ⟨z158, z159, z160, z161, z162, z163, z164, z165, z166, z167, z168, z169, z170⟩ := LW.at_ BX155.out
    obtain ⟨z171, z172, z173, z174, z175, z176, z177, z178, z179, z180, z181, z182, z183⟩ := LW.at_ BX156.out
    obtain ⟨z184, z185, z186, z187, z188, z189, z190, z191, z192, z193, z194, z195, z196⟩ := IW.at_ BX157.out
    go_upto_region 11 with fail
    generalize hWX : w150.alloc (.cells (xb.cells p151) 41) = w197
    have hbw : Below w150.heap.size w150 w197 := by rw [← hWX]; exact (by repeat (first | (with_reducible first | exact Below.refl _ _ | apply below_alloc | apply pw_below_drewN | apply below_drew1) | exact Below.refl _ _))
    have hbn : w197.heap[w150.heap.size]? = some (.cells (xb.cells p151) 41 (0, 0)) := by rw [← hWX]; exact blk_new _ _
    clear hWX z158 z159 z160 z161 z162 z163 z164 z165 z166 z167 z168 z169 z170 z171 z172 z173 z174 z175 z176 z177 z178 z179 z180 z181 z182 z183 z184 z185 z186 z187 z188 z189 z190 z191 z192 z193 z194 z195 z196
    have hs := hbw
    have HB198 := Aside0.mk (below_step HB153.out hs)
    clear HB153
    have HO199 := Aside0.mk (HO154.out.below hs); clear HO154
    have HO200 := Aside0.mk (HO152.out.below hs); clear HO152
    have BX201 := Aside0.mk (blk_below BX155.out hs); clear BX155
    have BX202 := Aside0.mk (blk_below BX156.out hs); clear BX156
    have BX203 := Aside0.mk (blk_below BX157.out hs); clear BX157
    have BX204 := Aside0.mk (hbn)
    clear hbn
    replace HS := Aside0.mk (And.intro HS.out (hs.size : w150.heap.size ≤ w197.heap.size))
    clear hs hbw
    obtain ⟨z205, z206, z207, z208, z209, z210, z211, z212, z213, z214, z215, z216, z217⟩ := LW.at_ BX201.out
    obtain ⟨z218, z219, z220, z221, z222, z223, z224, z225, z226, z227, z228, z229, z230⟩ := LW.at_ BX202.out
    obtain ⟨z231, z232, z233, z234, z235, z236, z237, z238, z239, z240, z241, z242, z243⟩ := IW.at_ BX203.out
    obtain ⟨z244, z245, z246, z247, z248, z249, z250, z251, z252, z253, z254, z255, z256⟩ := IW.at_ BX204.out
    go_wp2_with fail
    refine calls_gen (fun W' => Below w197.heap.size w197 W') ?gb ?_
    case gb => repeat (first | (with_reducible exact Below.refl _ _) | refine below_set ?_ (Nat.le_refl _) | apply below_alloc | apply pw_below_drewN)
    rintro W257 hbw
    clear z205 z206 z207 z208 z209 z210 z211 z212 z213 z214 z215 z216 z217 z218 z219 z220 z221 z222 z223 z224 z225 z226 z227 z228 z229 z230 z231 z232 z233 z234 z235 z236 z237 z238 z239 z240 z241 z242 z243 z244 z245 z246 z247 z248 z249 z250 z251 z252 z253 z254 z255 z256
    have h260 := (HO199.out.rd).below hbw
    have h261 := (HO200.out.rd).below hbw
    go_at_call 18; (refine (impl_EqualWorlds.calls  x.d0 p72.A1 p72.c1 x.l1 p72.A2 p72.c2 x.l2 p72.A3 p72.c3 x.l3 p72.A4 p72.c4 x.l4 p72.A5 p72.c5 x.l5 p72.A6 p72.c6 x.l6 x.d7 x.d8 x.d9 x.d10 p72.A11 p72.c11 x.l11 x.d12 xb.d0 p151.A1 p151.c1 xb.l1 p151.A2 p151.c2 xb.l2 p151.A3 p151.c3 xb.l3 p151.A4 p151.c4 xb.l4 p151.A5 p151.c5 xb.l5 p151.A6 p151.c6 xb.l6 xb.d7 xb.d8 xb.d9 xb.d10 p151.A11 p151.c11 xb.l11 xb.d12 (b) W257 h260.r1 h260.h1 h260.r2 h260.h2 h260.r3 h260.h3 h260.r4 h260.h4 h260.r5 h260.h5 h260.r6 h260.h6 h260.r11 h260.h11 h261.r1 h261.h1 h261.r2 h261.h2 h261.r3 h261.h3 h261.r4 h261.h4 h261.r5 h261.h5 h261.r6 h261.h6 h261.r11 h261.h11 KI.out).mono ?_); rintro e w259 ⟨rfl, hb⟩
    have hs := below_step hbw hb
    have HB262 := Aside0.mk (below_step HB198.out hs)
    clear HB198
    have HO263 := Aside0.mk (HO199.out.below hs); clear HO199
    have HO264 := Aside0.mk (HO200.out.below hs); clear HO200
    have BX265 := Aside0.mk (blk_below BX201.out hs); clear BX201
    have BX266 := Aside0.mk (blk_below BX202.out hs); clear BX202
    have BX267 := Aside0.mk (blk_below BX203.out hs); clear BX203
    have BX268 := Aside0.mk (blk_below BX204.out hs); clear BX204
    replace HS := Aside0.mk (And.intro HS.out (hs.size : w197.heap.size ≤ w259.heap.size))
    clear hb hs hbw h260 h261
    go_upto_region 14 with fail
    (try simp only [Act.put, List.setIfInBounds_toArray, List.set_cons_zero, List.set_cons_succ])
    go_cut [39] (fun v39 wc269 => v39 = .bool false ∧ Below w259.heap.size w259 wc269)
    case first =>
      go_region_held3 (fun w' => Below w259.heap.size w259 w' ∧ (w'.cell? ⟨w71.heap.size, 0, none⟩ = some (.int .i64 x.d0) ∧ w'.cell? ⟨w71.heap.size, 1, none⟩ = some (.slice p72.A1 x.l1.length p72.c1) ∧ w'.cell? ⟨w71.heap.size, 2, none⟩ = some (.slice p72.A2 x.l2.length p72.c2) ∧ w'.cell? ⟨w71.heap.size, 3, none⟩ = some (.slice p72.A3 x.l3.length p72.c3) ∧ w'.cell? ⟨w71.heap.size, 4, none⟩ = some (.slice p72.A4 x.l4.length p72.c4) ∧ w'.cell? ⟨w71.heap.size, 5, none⟩ = some (.slice p72.A5 x.l5.length p72.c5) ∧ w'.cell? ⟨w71.heap.size, 6, none⟩ = some (.slice p72.A6 x.l6.length p72.c6) ∧ w'.cell? ⟨w71.heap.size, 7, none⟩ = some (.int .i64 x.d7) ∧ w'.cell? ⟨w71.heap.size, 8, none⟩ = some (.int .i64 x.d8) ∧ w'.cell? ⟨w71.heap.size, 9, none⟩ = some (.int .i64 x.d9) ∧ w'.cell? ⟨w71.heap.size, 10, none⟩ = some (.int .i64 x.d10) ∧ w'.cell? ⟨w71.heap.size, 11, none⟩ = some (.slice p72.A11 x.l11.length p72.c11) ∧ w'.cell? ⟨w71.heap.size, 12, none⟩ = some (.int .i64 x.d12)) ∧ (w'.cell? ⟨w.heap.size, 0, none⟩ = some (.int .i64 y.d0) ∧ w'.cell? ⟨w.heap.size, 1, none⟩ = some (.slice q.A1 y.l1.length q.c1) ∧ w'.cell? ⟨w.heap.size, 2, none⟩ = some (.slice q.A2 y.l2.length q.c2) ∧ w'.cell? ⟨w.heap.size, 3, none⟩ = some (.slice q.A3 y.l3.length q.c3) ∧ w'.cell? ⟨w.heap.size, 4, none⟩ = some (.slice q.A4 y.l4.length q.c4) ∧ w'.cell? ⟨w.heap.size, 5, none⟩ = some (.slice q.A5 y.l5.length q.c5) ∧ w'.cell? ⟨w.heap.size, 6, none⟩ = some (.slice q.A6 y.l6.length q.c6) ∧ w'.cell? ⟨w.heap.size, 7, none⟩ = some (.int .i64 y.d7) ∧ w'.cell? ⟨w.heap.size, 8, none⟩ = some (.int .i64 y.d8) ∧ w'.cell? ⟨w.heap.size, 9, none⟩ = some (.int .i64 y.d9) ∧ w'.cell? ⟨w.heap.size, 10, none⟩ = some (.int .i64 y.d10) ∧ w'.cell? ⟨w.heap.size, 11, none⟩ = some (.slice q.A11 y.l11.length q.c11) ∧ w'.cell? ⟨w.heap.size, 12, none⟩ = some (.int .i64 y.d12))) (first | exact ⟨(below_step (below_step (w := w259) (by repeat (first | (with_reducible first | exact Below.refl _ _ | apply below_alloc | apply pw_below_drewN | apply below_drew1) | exact Below.refl _ _)) hb1) (below_step (by repeat (first | (with_reducible first | exact Below.refl _ _ | apply below_alloc | apply pw_below_drewN | apply below_drew1) | exact Below.refl _ _)) hb2)), IW.at_ (blk_below BX267.out (below_step (below_step (w := w259) (by repeat (first | (with_reducible first | exact Below.refl _ _ | apply below_alloc | apply pw_below_drewN | apply below_drew1) | exact Below.refl _ _)) hb1) (below_step (by repeat (first | (with_reducible first | exact Below.refl _ _ | apply below_alloc | apply pw_below_drewN | apply below_drew1) | exact Below.refl _ _)) hb2))), LW.at_ (blk_below BX265.out (below_step (below_step (w := w259) (by repeat (first | (with_reducible first | exact Below.refl _ _ | apply below_alloc | apply pw_below_drewN | apply below_drew1) | exact Below.refl _ _)) hb1) (below_step (by repeat (first | (with_reducible first | exact Below.refl _ _ | apply below_alloc | apply pw_below_drewN | apply below_drew1) | exact Below.refl _ _)) hb2)))⟩ | exact ⟨(below_step (w := w259) (by repeat (first | (with_reducible first | exact Below.refl _ _ | apply below_alloc | apply pw_below_drewN | apply below_drew1) | exact Below.refl _ _)) hb1), IW.at_ (blk_below BX267.out (below_step (w := w259) (by repeat (first | (with_reducible first | exact Below.refl _ _ | apply below_alloc | apply pw_below_drewN | apply below_drew1) | exact Below.refl _ _)) hb1)), LW.at_ (blk_below BX265.out (below_step (w := w259) (by repeat (first | (with_reducible first | exact Below.refl _ _ | apply below_alloc | apply pw_below_drewN | apply below_drew1) | exact Below.refl _ _)) hb1))⟩ | exact ⟨(by repeat (first | (with_reducible first | exact Below.refl _ _ | apply below_alloc | apply pw_below_drewN | apply below_drew1) | exact Below.refl _ _)), IW.at_ (blk_below BX267.out (by repeat (first | (with_reducible first | exact Below.refl _ _ | apply below_alloc | apply pw_below_drewN | apply below_drew1) | exact Below.refl _ _))), LW.at_ (blk_below BX265.out (by repeat (first | (with_reducible first | exact Below.refl _ _ | apply below_alloc | apply pw_below_drewN | apply below_drew1) | exact Below.refl _ _)))⟩)
        (first | (go_at_call 17; (refine (toWorld_c y q _ (HQ.out.below (below_step HB262.out (by repeat (first | (with_reducible first | exact Below.refl _ _ | apply below_alloc | apply pw_below_drewN | apply below_drew1) | exact Below.refl _ _)))) OK.out).mono ?_); rintro e w1_ ⟨p_, rfl, hm, hb1⟩; rw [← HXE.out] at hm ⊢) | (go_at_call 19; (refine (eqWorld_c x p72 p_ _ ((HO263.out.rd).below (below_step (w := w259) (by repeat (first | (with_reducible first | exact Below.refl _ _ | apply below_alloc | apply pw_below_drewN | apply below_drew1) | exact Below.refl _ _)) hb1)) (hm.rd.below (by repeat (first | (with_reducible first | exact Below.refl _ _ | apply below_alloc | apply pw_below_drewN | apply below_drew1) | exact Below.refl _ _))) OKX.out).mono ?_); rintro e w2_ ⟨rfl, hb2⟩) | fail)
      all_goals (try go_wp2_with fail)
      all_goals go_meet
      all_goals exact ⟨rfl, below_step (below_step (below_step (w := w259) (by repeat (first | (with_reducible first | exact Below.refl _ _ | apply below_alloc | apply pw_below_drewN | apply below_drew1) | exact Below.refl _ _)) hb1) (below_step (by repeat (first | (with_reducible first | exact Below.refl _ _ | apply below_alloc | apply pw_below_drewN | apply below_drew1) | exact Below.refl _ _)) hb2)) (by repeat (first | (with_reducible first | exact Below.refl _ _ | apply below_alloc | apply pw_below_drewN | apply below_drew1) | exact Below.refl _ _))⟩
    case rest =>
      obtain ⟨rfl, hbw⟩ := hcut
      obtain ⟨wc269, hw9⟩ : ∃ w9, w9 = wc := ⟨_, rfl⟩
      subst hw9
      have hs := hbw
      have HB270 := Aside0.mk (below_step HB262.out hs)
      clear HB262
      have HO271 := Aside0.mk (HO263.out.below hs); clear HO263
      have HO272 := Aside0.mk (HO264.out.below hs); clear HO264
      have BX273 := Aside0.mk (blk_below BX265.out hs); clear BX265
      have BX274 := Aside0.mk (blk_below BX266.out hs); clear BX266
      have BX275 := Aside0.mk (blk_below BX267.out hs); clear BX267
      have BX276 := Aside0.mk (blk_below BX268.out hs); clear BX268
      replace HS := Aside0.mk (And.intro HS.out (hs.size : w259.heap.size ≤ wc269.heap.size))
      clear hs hbw
      go_upto_region 16 with fail
      (try simp only [Act.put, List.setIfInBounds_toArray, List.set_cons_zero, List.set_cons_succ])
      go_cut [44] (fun v44 wc277 => v44 = .bool false ∧ Below wc269.heap.size wc269 wc277)
      case first =>
        go_region_held3 (fun w' => Below wc269.heap.size wc269 w' ∧ (w'.cell? ⟨w150.heap.size, 0, none⟩ = some (.int .i64 xb.d0) ∧ w'.cell? ⟨w150.heap.size, 1, none⟩ = some (.slice p151.A1 xb.l1.length p151.c1) ∧ w'.cell? ⟨w150.heap.size, 2, none⟩ = some (.slice p151.A2 xb.l2.length p151.c2) ∧ w'.cell? ⟨w150.heap.size, 3, none⟩ = some (.slice p151.A3 xb.l3.length p151.c3) ∧ w'.cell? ⟨w150.heap.size, 4, none⟩ = some (.slice p151.A4 xb.l4.length p151.c4) ∧ w'.cell? ⟨w150.heap.size, 5, none⟩ = some (.slice p151.A5 xb.l5.length p151.c5) ∧ w'.cell? ⟨w150.heap.size, 6, none⟩ = some (.slice p151.A6 xb.l6.length p151.c6) ∧ w'.cell? ⟨w150.heap.size, 7, none⟩ = some (.int .i64 xb.d7) ∧ w'.cell? ⟨w150.heap.size, 8, none⟩ = some (.int .i64 xb.d8) ∧ w'.cell? ⟨w150.heap.size, 9, none⟩ = some (.int .i64 xb.d9) ∧ w'.cell? ⟨w150.heap.size, 10, none⟩ = some (.int .i64 xb.d10) ∧ w'.cell? ⟨w150.heap.size, 11, none⟩ = some (.slice p151.A11 xb.l11.length p151.c11) ∧ w'.cell? ⟨w150.heap.size, 12, none⟩ = some (.int .i64 xb.d12)) ∧ (w'.cell? ⟨(w.heap.size + 1), 0, none⟩ = some (.int .i64 yb.d0) ∧ w'.cell? ⟨(w.heap.size + 1), 1, none⟩ = some (.slice qb.A1 yb.l1.length qb.c1) ∧ w'.cell? ⟨(w.heap.size + 1), 2, none⟩ = some (.slice qb.A2 yb.l2.length qb.c2) ∧ w'.cell? ⟨(w.heap.size + 1), 3, none⟩ = some (.slice qb.A3 yb.l3.length qb.c3) ∧ w'.cell? ⟨(w.heap.size + 1), 4, none⟩ = some (.slice qb.A4 yb.l4.length qb.c4) ∧ w'.cell? ⟨(w.heap.size + 1), 5, none⟩ = some (.slice qb.A5 yb.l5.length qb.c5) ∧ w'.cell? ⟨(w.heap.size + 1), 6, none⟩ = some (.slice qb.A6 yb.l6.length qb.c6) ∧ w'.cell? ⟨(w.heap.size + 1), 7, none⟩ = some (.int .i64 yb.d7) ∧ w'.cell? ⟨(w.heap.size + 1), 8, none⟩ = some (.int .i64 yb.d8) ∧ w'.cell? ⟨(w.heap.size + 1), 9, none⟩ = some (.int .i64 yb.d9) ∧ w'.cell? ⟨(w.heap.size + 1), 10, none⟩ = some (.int .i64 yb.d10) ∧ w'.cell? ⟨(w.heap.size + 1), 11, none⟩ = some (.slice qb.A11 yb.l11.length qb.c11) ∧ w'.cell? ⟨(w.heap.size + 1), 12, none⟩ = some (.int .i64 yb.d12))) (first | exact ⟨(below_step (below_step (w := wc269) (by repeat (first | (with_reducible first | exact Below.refl _ _ | apply below_alloc | apply pw_below_drewN | apply below_drew1) | exact Below.refl _ _)) hb1) (below_step (by repeat (first | (with_reducible first | exact Below.refl _ _ | apply below_alloc | apply pw_below_drewN | apply below_drew1) | exact Below.refl _ _)) hb2)), IW.at_ (blk_below BX276.out (below_step (below_step (w := wc269) (by repeat (first | (with_reducible first | exact Below.refl _ _ | apply below_alloc | apply pw_below_drewN | apply below_drew1) | exact Below.refl _ _)) hb1) (below_step (by repeat (first | (with_reducible first | exact Below.refl _ _ | apply below_alloc | apply pw_below_drewN | apply below_drew1) | exact Below.refl _ _)) hb2))), LW.at_ (blk_below BX274.out (below_step (below_step (w := wc269) (by repeat (first | (with_reducible first | exact Below.refl _ _ | apply below_alloc | apply pw_below_drewN | apply below_drew1) | exact Below.refl _ _)) hb1) (below_step (by repeat (first | (with_reducible first | exact Below.refl _ _ | apply below_alloc | apply pw_below_drewN | apply below_drew1) | exact Below.refl _ _)) hb2)))⟩ | exact ⟨(below_step (w := wc269) (by repeat (first | (with_reducible first | exact Below.refl _ _ | apply below_alloc | apply pw_below_drewN | apply below_drew1) | exact Below.refl _ _)) hb1), IW.at_ (blk_below BX276.out (below_step (w := wc269) (by repeat (first | (with_reducible first | exact Below.refl _ _ | apply below_alloc | apply pw_below_drewN | apply below_drew1) | exact Below.refl _ _)) hb1)), LW.at_ (blk_below BX274.out (below_step (w := wc269) (by repeat (first | (with_reducible first | exact Below.refl _ _ | apply below_alloc | apply pw_below_drewN | apply below_drew1) | exact Below.refl _ _)) hb1))⟩ | exact ⟨(by repeat (first | (with_reducible first | exact Below.refl _ _ | apply below_alloc | apply pw_below_drewN | apply below_drew1) | exact Below.refl _ _)), IW.at_ (blk_below BX276.out (by repeat (first | (with_reducible first | exact Below.refl _ _ | apply below_alloc | apply pw_below_drewN | apply below_drew1) | exact Below.refl _ _))), LW.at_ (blk_below BX274.out (by repeat (first | (with_reducible first | exact Below.refl _ _ | apply below_alloc | apply pw_below_drewN | apply below_drew1) | exact Below.refl _ _)))⟩)
          (first | (go_at_call 17; (refine (toWorld_c yb qb _ (HQb.out.below (below_step HB270.out (by repeat (first | (with_reducible first | exact Below.refl _ _ | apply below_alloc | apply pw_below_drewN | apply below_drew1) | exact Below.refl _ _)))) OKb.out).mono ?_); rintro e w1_ ⟨p_, rfl, hm, hb1⟩; rw [← HXEb.out] at hm ⊢) | (go_at_call 19; (refine (eqWorld_c xb p151 p_ _ ((HO272.out.rd).below (below_step (w := wc269) (by repeat (first | (with_reducible first | exact Below.refl _ _ | apply below_alloc | apply pw_below_drewN | apply below_drew1) | exact Below.refl _ _)) hb1)) (hm.rd.below (by repeat (first | (with_reducible first | exact Below.refl _ _ | apply below_alloc | apply pw_below_drewN | apply below_drew1) | exact Below.refl _ _))) OKXb.out).mono ?_); rintro e w2_ ⟨rfl, hb2⟩) | fail)
        all_goals (try go_wp2_with fail)
        all_goals go_meet
        all_goals exact ⟨rfl, below_step (below_step (below_step (w := wc269) (by repeat (first | (with_reducible first | exact Below.refl _ _ | apply below_alloc | apply pw_below_drewN | apply below_drew1) | exact Below.refl _ _)) hb1) (below_step (by repeat (first | (with_reducible first | exact Below.refl _ _ | apply below_alloc | apply pw_below_drewN | apply below_drew1) | exact Below.refl _ _)) hb2)) (by repeat (first | (with_reducible first | exact Below.refl _ _ | apply below_alloc | apply pw_below_drewN | apply below_drew1) | exact Below.refl _ _))⟩
      case rest =>
        obtain ⟨rfl, hbw⟩ := hcut
        obtain ⟨wc277, hw9⟩ : ∃ w9, w9 = wc := ⟨_, rfl⟩
        subst hw9
        have hs := hbw
        have HB278 := Aside0.mk (below_step HB270.out hs)
        clear HB270
        have HO279 := Aside0.mk (HO271.out.below hs); clear HO271
        have HO280 := Aside0.mk (HO272.out.below hs); clear HO272
        have BX281 := Aside0.mk (blk_below BX273.out hs); clear BX273
        have BX282 := Aside0.mk (blk_below BX274.out hs); clear BX274
        have BX283 := Aside0.mk (blk_below BX275.out hs); clear BX275
        have BX284 := Aside0.mk (blk_below BX276.out hs); clear BX276
        replace HS := Aside0.mk (And.intro HS.out (hs.size : wc269.heap.size ≤ wc277.heap.size))
        clear hs hbw
        go_wp2
        go_ret
        exact ⟨rfl, below_step HB278.out (by repeat (first | (with_reducible first | exact Below.refl _ _ | apply below_alloc | apply pw_below_drewN | apply below_drew1) | exact Below.refl _ _))⟩
theorem FnExactEqualWorlds_calls (a0_0 : Int) (A0_1 : Option Addr) (c0_1 : Nat) (l0_1 : (List S153)) (A0_2 : Option Addr) (c0_2 : Nat) (l0_2 : (List Int)) (A0_3 : Option Addr) (c0_3 : Nat) (l0_3 : (List Int)) (A0_4 : Option Addr) (c0_4 : Nat) (l0_4 : (List S131)) (A0_5 : Option Addr) (c0_5 : Nat) (l0_5 : (List Int)) (A0_6 : Option Addr) (c0_6 : Nat) (l0_6 : (List Int)) (a0_7 : Int) (a0_8 : Int) (a0_9 : Int) (a0_10 : Int) (A0_11 : Option Addr) (c0_11 : Nat) (l0_11 : (List S135)) (a0_12 : Int) (a1_0 : Int) (A1_1 : Option Addr) (c1_1 : Nat) (l1_1 : (List S153)) (A1_2 : Option Addr) (c1_2 : Nat) (l1_2 : (List Int)) (A1_3 : Option Addr) (c1_3 : Nat) (l1_3 : (List Int)) (A1_4 : Option Addr) (c1_4 : Nat) (l1_4 : (List S131)) (A1_5 : Option Addr) (c1_5 : Nat) (l1_5 : (List Int)) (A1_6 : Option Addr) (c1_6 : Nat) (l1_6 : (List Int)) (a1_7 : Int) (a1_8 : Int) (a1_9 : Int) (a1_10 : Int) (A1_11 : Option Addr) (c1_11 : Nat) (l1_11 : (List S135)) (a1_12 : Int) (w : World) (hr0_1 : Kd.C k153 w A0_1 l0_1.length l0_1) (hc0_1 : l0_1.length ≤ c0_1) (hr0_2 : Kd.C (Kd.int .i64) w A0_2 l0_2.length l0_2) (hc0_2 : l0_2.length ≤ c0_2) (hr0_3 : Kd.C (Kd.int .i64) w A0_3 l0_3.length l0_3) (hc0_3 : l0_3.length ≤ c0_3) (hr0_4 : Kd.C k131 w A0_4 l0_4.length l0_4) (hc0_4 : l0_4.length ≤ c0_4) (hr0_5 : Kd.C (Kd.int .i64) w A0_5 l0_5.length l0_5) (hc0_5 : l0_5.length ≤ c0_5) (hr0_6 : Kd.C (Kd.int .i64) w A0_6 l0_6.length l0_6) (hc0_6 : l0_6.length ≤ c0_6) (hr0_11 : Kd.C k135 w A0_11 l0_11.length l0_11) (hc0_11 : l0_11.length ≤ c0_11) (hr1_1 : Kd.C k153 w A1_1 l1_1.length l1_1) (hc1_1 : l1_1.length ≤ c1_1) (hr1_2 : Kd.C (Kd.int .i64) w A1_2 l1_2.length l1_2) (hc1_2 : l1_2.length ≤ c1_2) (hr1_3 : Kd.C (Kd.int .i64) w A1_3 l1_3.length l1_3) (hc1_3 : l1_3.length ≤ c1_3) (hr1_4 : Kd.C k131 w A1_4 l1_4.length l1_4) (hc1_4 : l1_4.length ≤ c1_4) (hr1_5 : Kd.C (Kd.int .i64) w A1_5 l1_5.length l1_5) (hc1_5 : l1_5.length ≤ c1_5) (hr1_6 : Kd.C (Kd.int .i64) w A1_6 l1_6.length l1_6) (hc1_6 : l1_6.length ≤ c1_6) (hr1_11 : Kd.C k135 w A1_11 l1_11.length l1_11) (hc1_11 : l1_11.length ≤ c1_11) (g0_0 : (Lit.int .i64 a0_0).wf = true) (g0_1 : (l0_1.length ≤ 9223372036854775807 ∧ ∀ y0_ ∈ l0_1, Wf153 y0_)) (g0_2 : (l0_2.length ≤ 9223372036854775807 ∧ ∀ y0_ ∈ l0_2, (Lit.int .i64 y0_).wf = true)) (g0_3 : (l0_3.length ≤ 9223372036854775807 ∧ ∀ y0_ ∈ l0_3, (Lit.int .i64 y0_).wf = true)) (g0_4 : (l0_4.length ≤ 9223372036854775807 ∧ ∀ y0_ ∈ l0_4, Wf131 y0_)) (g0_5 : (l0_5.length ≤ 9223372036854775807 ∧ ∀ y0_ ∈ l0_5, (Lit.int .i64 y0_).wf = true)) (g0_6 : (l0_6.length ≤ 9223372036854775807 ∧ ∀ y0_ ∈ l0_6, (Lit.int .i64 y0_).wf = true)) (g0_7 : (Lit.int .i64 a0_7).wf = true) (g0_8 : (Lit.int .i64 a0_8).wf = true) (g0_9 : (Lit.int .i64 a0_9).wf = true) (g0_10 : (Lit.int .i64 a0_10).wf = true) (g0_11 : (l0_11.length ≤ 9223372036854775807 ∧ ∀ y0_ ∈ l0_11, Wf135 y0_)) (g0_12 : (Lit.int .i64 a0_12).wf = true) (g1_0 : (Lit.int .i64 a1_0).wf = true) (g1_1 : (l1_1.length ≤ 9223372036854775807 ∧ ∀ y0_ ∈ l1_1, Wf153 y0_)) (g1_2 : (l1_2.length ≤ 9223372036854775807 ∧ ∀ y0_ ∈ l1_2, (Lit.int .i64 y0_).wf = true)) (g1_3 : (l1_3.length ≤ 9223372036854775807 ∧ ∀ y0_ ∈ l1_3, (Lit.int .i64 y0_).wf = true)) (g1_4 : (l1_4.length ≤ 9223372036854775807 ∧ ∀ y0_ ∈ l1_4, Wf131 y0_)) (g1_5 : (l1_5.length ≤ 9223372036854775807 ∧ ∀ y0_ ∈ l1_5, (Lit.int .i64 y0_).wf = true)) (g1_6 : (l1_6.length ≤ 9223372036854775807 ∧ ∀ y0_ ∈ l1_6, (Lit.int .i64 y0_).wf = true)) (g1_7 : (Lit.int .i64 a1_7).wf = true) (g1_8 : (Lit.int .i64 a1_8).wf = true) (g1_9 : (Lit.int .i64 a1_9).wf = true) (g1_10 : (Lit.int .i64 a1_10).wf = true) (g1_11 : (l1_11.length ≤ 9223372036854775807 ∧ ∀ y0_ ∈ l1_11, Wf135 y0_)) (g1_12 : (Lit.int .i64 a1_12).wf = true) :
    Calls Try.prog 3 #[.agg #[.int .i64 a0_0, .slice A0_1 l0_1.length c0_1, .slice A0_2 l0_2.length c0_2, .slice A0_3 l0_3.length c0_3, .slice A0_4 l0_4.length c0_4, .slice A0_5 l0_5.length c0_5, .slice A0_6 l0_6.length c0_6, .int .i64 a0_7, .int .i64 a0_8, .int .i64 a0_9, .int .i64 a0_10, .slice A0_11 l0_11.length c0_11, .int .i64 a0_12], .agg #[.int .i64 a1_0, .slice A1_1 l1_1.length c1_1, .slice A1_2 l1_2.length c1_2, .slice A1_3 l1_3.length c1_3, .slice A1_4 l1_4.length c1_4, .slice A1_5 l1_5.length c1_5, .slice A1_6 l1_6.length c1_6, .int .i64 a1_7, .int .i64 a1_8, .int .i64 a1_9, .int .i64 a1_10, .slice A1_11 l1_11.length c1_11, .int .i64 a1_12]] w fun e w' => e = .returned (.bool true) ∧ Below w.heap.size w w' :=
  FnExactEqualWorlds_calls' ⟨a0_0, l0_1, l0_2, l0_3, l0_4, l0_5, l0_6, a0_7, a0_8, a0_9, a0_10, l0_11, a0_12⟩ ⟨A0_1, c0_1, A0_2, c0_2, A0_3, c0_3, A0_4, c0_4, A0_5, c0_5, A0_6, c0_6, A0_11, c0_11⟩ ⟨a1_0, l1_1, l1_2, l1_3, l1_4, l1_5, l1_6, a1_7, a1_8, a1_9, a1_10, l1_11, a1_12⟩ ⟨A1_1, c1_1, A1_2, c1_2, A1_3, c1_3, A1_4, c1_4, A1_5, c1_5, A1_6, c1_6, A1_11, c1_11⟩ w ⟨hr1_1, hc1_1, hr1_2, hc1_2, hr1_3, hc1_3, hr1_4, hc1_4, hr1_5, hc1_5, hr1_6, hc1_6, hr1_11, hc1_11⟩ ⟨hr0_1, hc0_1, hr0_2, hc0_2, hr0_3, hc0_3, hr0_4, hc0_4, hr0_5, hc0_5, hr0_6, hc0_6, hr0_11, hc0_11⟩ g0_1.1 g0_2.1 g0_3.1 ⟨g0_4.1, fun p hp => (g0_4.2 p hp).2.2.1⟩ g0_5.1 g0_6.1 g0_11.1 g1_1.1 g1_2.1 g1_3.1 ⟨g1_4.1, fun p hp => (g1_4.2 p hp).2.2.1⟩ g1_5.1 g1_6.1 g1_11.1
end Go.Proofs.Ytkimiekgghfoiaa.Pure
