/- The program's GoodOnes returns what the reference's returns, leaves its argument alone and returns new memory: for every list and number. -/
import Derived.Test.YtjhbpiboemajeaaRFnExactGoodOnes
import Derived.Test.YtjhbpiboemajeaaBase
namespace Go.Proofs.Ytjhbpiboemajeaa.Pure
open Go.RowKit Go.Proofs.Ytjhbpiboemajeaa.Base Go.Proofs.Ytjhbpiboemajeaa.PFnExactGoodOnes Go.Proofs.YtjhbpiboemajeaaW.PrintWords Go.Proofs.YtjhbpiboemajeaaW.PrintLast
set_option linter.unusedVariables false
set_option linter.unusedSimpArgs false
/-! ### seens -/
def leftL {α : Type} (l : List α) (a : Int) : Int := if a - (l.length : Int) < 0 then -1 else a - (l.length : Int)
theorem szSeenS_eq (l : List S64) (a : Int) (h0 : 0 ≤ a) (h1 : a ≤ 1048576) (hl : l.length ≤ 9223372036854775807) : laws_szSeenS.f l a = some (leftL l a) := by
  unfold laws_szSeenS.f leftL
  rw [w64 (by omega) (by omega)]
  split <;> rfl
theorem leftL_ok {α : Type} {l : List α} (h : 0 ≤ leftL l 1048576) : l.length ≤ 1048576 := by
  unfold leftL at h
  split at h <;> omega
def cvSeen (x : S64) : S51 := ⟨x.f0, x.f1, x.f2, x.f3, x.f4⟩
theorem toSeenS_l0 : ∀ (suf pre : List S64) (rest : List S51), (pre ++ suf).length ≤ 1048576 → rest.length = suf.length →
    Ev (fun k => laws_toSeenS.l0 k (pre ++ suf) (pre.map cvSeen ++ rest) (pre.length : Int)) ((pre ++ suf).map cvSeen) := by
  intro suf
  induction suf with
  | nil =>
    intro pre rest hb hr
    obtain rfl : rest = [] := by simpa using hr
    refine Ev.step (fun k => by rw [laws_toSeenS.l0]) ?_
    refine evNeg (by simp) (evEq ?_ (Ev.now _))
    simp
  | cons x suf ih =>
    intro pre rest hb hr
    obtain ⟨r, rest, rfl⟩ : ∃ r t, rest = r :: t := by
      cases rest with
      | nil => simp at hr
      | cons r t => exact ⟨r, t, rfl⟩
    simp only [List.length_append, List.length_cons] at hb hr
    refine Ev.step (fun k => by rw [laws_toSeenS.l0]) ?_
    refine evPos (by simp only [List.length_append, List.length_cons]; omega) (evPos (by omega) ?_)
    simp only [rd_T64, getD_mid]
    refine evSome rfl (evPos (by simp only [List.length_append, List.length_cons, List.length_map]; omega) ?_)
    rw [wsucc (by omega)]
    have h := ih (pre ++ [x]) rest (by simp; omega) (by omega)
    refine evEq ?_ (Ev.congr (fun k => ?_) h)
    · simp
    · have e : (pre.length : Int) = ((pre.map cvSeen).length : Int) := by simp
      rw [e, set_mid]
      simp [cvSeen]
theorem toSeenS_ev (l : List S64) (hl : l.length ≤ 1048576) : Ev (fun k => laws_toSeenS.f k l) (l.map cvSeen) := by
  unfold laws_toSeenS.f
  refine evPos (by omega) (evPos (by omega) ?_)
  have h := toSeenS_l0 l [] (List.replicate l.length z51) (by simpa using hl) (by simp)
  simpa using h
theorem eqSeen_eq (x : S51) : laws_eqSeen.f x.f0 x.f1 x.f2 x.f3 x.f4 x.f0 x.f1 x.f2 x.f3 x.f4 = some true := by
  simp [laws_eqSeen.f]
theorem eqSeenS_l0 : ∀ (suf pre : List S51), (pre ++ suf).length ≤ 1048576 →
    Ev (fun k => laws_eqSeenS.l0 k (pre ++ suf) (pre ++ suf) (pre.length : Int)) true := by
  intro suf
  induction suf with
  | nil =>
    intro pre hb
    refine Ev.step (fun k => by rw [laws_eqSeenS.l0]) ?_
    exact evNeg (by simp) (Ev.now _)
  | cons x suf ih =>
    intro pre hb
    simp only [List.length_append, List.length_cons] at hb
    refine Ev.step (fun k => by rw [laws_eqSeenS.l0]) ?_
    refine evPos (by simp only [List.length_append, List.length_cons]; omega) (evPos (by omega) (evPos (by simp only [List.length_append, List.length_cons]; omega) ?_))
    simp only [rd_T51, getD_mid]
    refine evSome (eqSeen_eq x) (evPos rfl ?_)
    rw [wsucc (by omega)]
    have h := ih (pre ++ [x]) (by simp; omega)
    simpa using h
theorem eqSeenS_ev (l : List S51) (hl : l.length ≤ 1048576) : Ev (fun k => laws_eqSeenS.f k l l) true := by
  unfold laws_eqSeenS.f
  refine evPos rfl ?_
  have h := eqSeenS_l0 l [] (by simpa using hl)
  simpa using h
/-! ### mseens -/
def mkS : Int → Nat → List S51
  | _, 0 => []
  | k, n + 1 => ⟨k, k + 1, k + 2, k + 3, Int.tmod (k + 4) 3 == 0⟩ :: mkS (k + 5) n
theorem mkS_length : ∀ (n : Nat) (k : Int), (mkS k n).length = n
  | 0, _ => rfl
  | n + 1, k => by simp [mkS, mkS_length n]
theorem markSeenS_l0 : ∀ (suf pre : List S51) (m : Int), (pre ++ suf).length ≤ 1048576 → 0 ≤ m → m + 5 * suf.length ≤ 4611686018427387904 →
    Ev (fun k => laws_markSeenS.l0 k (pre ++ suf) m (pre.length : Int)) (m + 5 * suf.length, pre ++ mkS m suf.length) := by
  intro suf
  induction suf with
  | nil =>
    intro pre m hb h0 hm
    refine Ev.step (fun k => by rw [laws_markSeenS.l0]) ?_
    refine evNeg (by simp) (evEq ?_ (Ev.now _))
    simp [mkS]
  | cons x suf ih =>
    intro pre m hb h0 hm
    simp only [List.length_append, List.length_cons] at hb hm
    refine Ev.step (fun k => by rw [laws_markSeenS.l0]) ?_
    refine evPos (by simp only [List.length_append, List.length_cons]; omega) (evPos (by omega) ?_)
    simp only [Option.bind_some, rd_T51, set_mid, getD_mid]
    rw [wsucc (by omega), w64 (n := m + 1) (by omega) (by omega), w64 (n := m + 1 + 1) (by omega) (by omega), w64 (n := m + 1 + 1 + 1) (by omega) (by omega), w64 (n := m + 1 + 1 + 1 + 1) (by omega) (by omega), w64 (n := m + 1 + 1 + 1 + 1 + 1) (by omega) (by omega)]
    have h := ih (pre ++ [⟨m, m + 1, m + 2, m + 3, Int.tmod (m + 4) 3 == 0⟩]) (m + 5) (by simp; omega) (by omega) (by omega)
    refine evEq ?_ (Ev.congr (fun k => ?_) h)
    · simp [mkS]
      omega
    · simp [Int.add_assoc]
theorem markSeenS_ev (l : List S51) (m : Int) (hl : l.length ≤ 1048576) (h0 : 0 ≤ m) (hm : m ≤ 1099511627776) : Ev (fun k => laws_markSeenS.f k l m) (m + 5 * l.length, mkS m l.length) := by
  have h := markSeenS_l0 l [] m (by simpa using hl) h0 (by omega)
  simpa [laws_markSeenS.f] using h
/-! ### ints -/
theorem eqIntS_l0 : ∀ (suf pre : List Int), (pre ++ suf).length ≤ 1048576 →
    Ev (fun k => laws_eqIntS.l0 k (pre ++ suf) (pre ++ suf) (pre.length : Int)) true := by
  intro suf
  induction suf with
  | nil =>
    intro pre hb
    refine Ev.step (fun k => by rw [laws_eqIntS.l0]) ?_
    exact evNeg (by simp) (Ev.now _)
  | cons x suf ih =>
    intro pre hb
    simp only [List.length_append, List.length_cons] at hb
    refine Ev.step (fun k => by rw [laws_eqIntS.l0]) ?_
    refine evPos (by simp only [List.length_append, List.length_cons]; omega) (evPos (by omega) (evPos (by simp only [List.length_append, List.length_cons]; omega) (evPos rfl ?_)))
    rw [wsucc (by omega)]
    have h := ih (pre ++ [x]) (by simp; omega)
    simpa using h
theorem eqIntS_ev (l : List Int) (hl : l.length ≤ 1048576) : Ev (fun k => laws_eqIntS.f k l l) true := by
  unfold laws_eqIntS.f
  refine evPos rfl ?_
  have h := eqIntS_l0 l [] (by simpa using hl)
  simpa using h
/-! ### mints -/
def mkI : Int → Nat → List Int
  | _, 0 => []
  | k, n + 1 => k :: mkI (k + 1) n
theorem mkI_length : ∀ (n : Nat) (k : Int), (mkI k n).length = n
  | 0, _ => rfl
  | n + 1, k => by simp [mkI, mkI_length n]
theorem markIntS_l0 : ∀ (suf pre : List Int) (m : Int), (pre ++ suf).length ≤ 1048576 → 0 ≤ m → m + suf.length ≤ 4611686018427387904 →
    Ev (fun k => laws_markIntS.l0 k (pre ++ suf) m (pre.length : Int)) (m + suf.length, pre ++ mkI m suf.length) := by
  intro suf
  induction suf with
  | nil =>
    intro pre m hb h0 hm
    refine Ev.step (fun k => by rw [laws_markIntS.l0]) ?_
    refine evNeg (by simp) (evEq ?_ (Ev.now _))
    simp [mkI]
  | cons x suf ih =>
    intro pre m hb h0 hm
    simp only [List.length_append, List.length_cons] at hb hm
    refine Ev.step (fun k => by rw [laws_markIntS.l0]) ?_
    refine evPos (by simp only [List.length_append, List.length_cons]; omega) (evPos (by omega) ?_)
    rw [set_mid, wsucc (by omega), w64 (by omega) (by omega)]
    have h := ih (pre ++ [m]) (m + 1) (by simp; omega) (by omega) (by omega)
    refine evEq ?_ (Ev.congr (fun k => ?_) h)
    · simp [mkI]
      omega
    · simp
theorem markIntS_ev (l : List Int) (m : Int) (hl : l.length ≤ 1048576) (h0 : 0 ≤ m) (hm : m ≤ 1099511627776) : Ev (fun k => laws_markIntS.f k l m) (m + l.length, mkI m l.length) := by
  have h := markIntS_l0 l [] m (by simpa using hl) h0 (by omega)
  simpa [laws_markIntS.f] using h
theorem heldIntS_l0 : ∀ (n : Nat) (pre : List Int) (m : Int), pre.length + n ≤ 1048576 → 0 ≤ m → m + n ≤ 4611686018427387904 →
    Ev (fun k => laws_heldIntS.l0 k (pre ++ mkI m n) m (pre.length : Int)) (m + n) := by
  intro n
  induction n with
  | zero =>
    intro pre m hb h0 hm
    refine Ev.step (fun k => by rw [laws_heldIntS.l0]) ?_
    refine evNeg (by simp [mkI]) (evEq ?_ (Ev.now _))
    simp
  | succ n ih =>
    intro pre m hb h0 hm
    refine Ev.step (fun k => by rw [laws_heldIntS.l0]) ?_
    refine evPos (by simp only [List.length_append, mkI_length]; omega) (evPos (by omega) ?_)
    rw [mkI, rd_mid, wsucc (by omega), w64 (by omega) (by omega)]
    refine evPos rfl ?_
    have h := ih (pre ++ [m]) (m + 1) (by simp; omega) (by omega) (by omega)
    refine evEq ?_ (Ev.congr (fun k => ?_) h)
    · omega
    · simp
theorem heldIntS_ev (n : Nat) (m : Int) (hl : n ≤ 1048576) (h0 : 0 ≤ m) (hm : m ≤ 1099511627776) : Ev (fun k => laws_heldIntS.f k (mkI m n) m) (m + n) := by
  have h := heldIntS_l0 n [] m (by simpa using hl) h0 (by omega)
  simpa [laws_heldIntS.f] using h
/-! ### ilat -/
abbrev Sn := S51
def mt (p : Int) (b : Bool) (x : Sn) : Bool := decide (x.f0 = p) && (x.f4 == b)
def latF (p : Int) (b : Bool) : Nat → Int → List Sn → Int
  | _, k, [] => k
  | i, k, x :: xs => latF p b (i + 1) (if mt p b x = true then (i : Int) else k) xs
def latV (l : List Sn) (p : Int) (b : Bool) : Int := latF p b 0 (-1) l
theorem latF_snoc (p : Int) (b : Bool) (x : Sn) : ∀ (l : List Sn) (i : Nat) (k : Int), latF p b i k (l ++ [x]) = if mt p b x = true then ((i + l.length : Nat) : Int) else latF p b i k l
  | [], i, k => by simp [latF]
  | y :: l, i, k => by
    rw [List.cons_append, latF, latF_snoc p b x l, latF]
    simp only [List.length_cons]
    rw [show i + 1 + l.length = i + (l.length + 1) by omega]
theorem impl_LatestOf_l0 (l : List Sn) (p : Int) (b : Bool) (hl : l.length ≤ 1048576) : ∀ n : Nat, n ≤ l.length →
    Ev (fun k => impl_LatestOf.l0 k l p b ((n : Int) - 1)) (latV (l.take n) p b) := by
  intro n
  induction n with
  | zero =>
    intro _
    refine Ev.step (fun k => by rw [impl_LatestOf.l0]) ?_
    exact evNeg (by omega) (Ev.now _)
  | succ n ih =>
    intro hn
    have e : ((n + 1 : Nat) : Int) - 1 = (n : Int) := by omega
    rw [e]
    have et : l.take (n + 1) = l.take n ++ [l[n]] := by rw [List.take_succ_eq_append_getElem (by omega)]
    have ev : latV (l.take (n + 1)) p b = if mt p b l[n] = true then (n : Int) else latV (l.take n) p b := by
      rw [et, latV, latF_snoc]
      simp only [Nat.zero_add, List.length_take, Nat.min_eq_left (show n ≤ l.length by omega)]
      rfl
    rw [ev]
    refine Ev.step (fun k => by rw [impl_LatestOf.l0]) ?_
    refine evPos (by omega) (evPos (by omega) (evPos (by omega) ?_))
    simp only [rd_T51, getD_at l _ n (show n < l.length by omega)]
    rw [w64 (by omega) (by omega)]
    by_cases h1 : l[n].f0 = p
    · refine evPos h1 ?_
      by_cases h2 : (l[n].f4 == b) = true
      · refine evPos h2 (evEq ?_ (Ev.now _))
        rw [if_pos (by simp only [mt, h1, h2, decide_true, Bool.true_and])]
      · refine evNeg h2 (evEq ?_ (ih (by omega)))
        rw [if_neg (by simp only [mt, h1, decide_true, Bool.true_and]; exact h2)]
    · refine evNeg h1 (evEq ?_ (ih (by omega)))
      rw [if_neg (by simp [mt, h1])]
theorem impl_LatestOf_ev (l : List Sn) (p : Int) (b : Bool) (hl : l.length ≤ 1048576) : Ev (fun k => impl_LatestOf.f k l p b) (latV l p b) := by
  unfold impl_LatestOf.f
  rw [w64 (by omega) (by omega)]
  have h := impl_LatestOf_l0 l p b hl l.length (Nat.le_refl _)
  rw [List.take_length] at h
  exact h
theorem latV_range (l : List Sn) (p : Int) (b : Bool) : -1 ≤ latV l p b ∧ latV l p b < l.length := by
  have key : ∀ (l : List Sn) (i : Nat) (k : Int), -1 ≤ k → k < i → -1 ≤ latF p b i k l ∧ latF p b i k l < i + l.length := by
    intro l
    induction l with
    | nil =>
      intro i k h1 h2
      simp [latF]
      omega
    | cons x l ih =>
      intro i k h1 h2
      rw [latF]
      have h := ih (i + 1) (if mt p b x = true then (i : Int) else k) (by split <;> omega) (by split <;> omega)
      simp only [List.length_cons]
      omega
  have h := key l 0 (-1) (by omega) (by omega)
  unfold latV
  omega
/-! ### inrange -/
theorem impl_InRange_eq (a b c : Int) : impl_InRange.f a b c = some (decide (b ≤ a ∧ a ≤ c)) := by
  unfold impl_InRange.f
  by_cases h : b ≤ a
  · rw [if_pos h]
    simp [h]
  · rw [if_neg h]
    simp [h]
/-! ### igood -/
def goodF (l : List Sn) : Nat → Nat → List Int
  | 0, _ => []
  | d + 1, p => (if latV l p false ≥ 0 then [latV l p false] else []) ++ goodF l d (p + 1)
def goodV (l : List Sn) (n : Int) : List Int := if 0 ≤ n ∧ n ≤ 12 then goodF l n.toNat 0 else []
theorem goodF_length (l : List Sn) : ∀ (d p : Nat), (goodF l d p).length ≤ d
  | 0, _ => by simp [goodF]
  | d + 1, p => by
    have h := goodF_length l d (p + 1)
    rw [goodF, List.length_append]
    split <;> simp <;> omega
theorem goodV_length (l : List Sn) (n : Int) : (goodV l n).length ≤ 12 := by
  unfold goodV
  split
  · have := goodF_length l n.toNat 0
    omega
  · simp
theorem impl_GoodOnes_l0 (l : List Sn) (hl : l.length ≤ 1048576) (n : Nat) (hn : n ≤ 12) : ∀ (d p : Nat) (out : List Int), p + d = n → out.length ≤ p →
    Ev (fun k => impl_GoodOnes.l0 k l out (n : Int) (p : Int)) (out ++ goodF l d p) := by
  intro d
  induction d with
  | zero =>
    intro p out e ho
    refine Ev.step (fun k => by rw [impl_GoodOnes.l0]) ?_
    refine evNeg (by omega) (evEq ?_ (Ev.now _))
    simp [goodF]
  | succ d ih =>
    intro p out e ho
    refine Ev.step (fun k => by rw [impl_GoodOnes.l0]) ?_
    refine evPos (by omega) (Ev.bind (impl_LatestOf_ev l p false hl) ?_)
    rw [wsucc (by omega)]
    by_cases h : latV l p false ≥ 0
    · refine evPos h (evPos (by omega) (evEq ?_ (ih (p + 1) _ (by omega) (by simp; omega))))
      simp [goodF, h]
    · refine evNeg h (evEq ?_ (ih (p + 1) _ (by omega) (by omega)))
      simp [goodF, h]
theorem impl_GoodOnes_ev (l : List Sn) (n : Int) (hl : l.length ≤ 1048576) : Ev (fun k => impl_GoodOnes.f k l n) (goodV l n) := by
  unfold impl_GoodOnes.f
  refine evSome (impl_InRange_eq _ _ _) ?_
  by_cases h : 0 ≤ n ∧ n ≤ 12
  · refine evPos (by simpa using h) ?_
    have h2 := impl_GoodOnes_l0 l hl n.toNat (by omega) n.toNat 0 [] (by omega) (by simp)
    rw [Int.toNat_of_nonneg h.1] at h2
    refine evEq ?_ h2
    simp [goodV, h]
  · refine evNeg (by simpa using h) (evEq ?_ (Ev.now _))
    simp [goodV, h]
/-! ### latest -/
theorem spec_LatestOf_l0 (p : Int) (b : Bool) : ∀ (suf pre : List Sn) (m : Int), (pre ++ suf).length ≤ 1048576 →
    Ev (fun k => spec_LatestOf.l0 k (pre ++ suf) p b m (pre.length : Int)) (latF p b pre.length m suf) := by
  intro suf
  induction suf with
  | nil =>
    intro pre m hb
    refine Ev.step (fun k => by rw [spec_LatestOf.l0]) ?_
    exact evNeg (by simp) (Ev.now _)
  | cons x suf ih =>
    intro pre m hb
    simp only [List.length_append, List.length_cons] at hb
    refine Ev.step (fun k => by rw [spec_LatestOf.l0]) ?_
    refine evPos (by simp only [List.length_append, List.length_cons]; omega) (evPos (by omega) ?_)
    simp only [rd_T51, getD_mid]
    rw [wsucc (by omega)]
    have h := fun m => ih (pre ++ [x]) m (by simp; omega)
    have h' : ∀ m, Ev (fun k => spec_LatestOf.l0 k (pre ++ x :: suf) p b m ((pre.length + 1 : Nat) : Int)) (latF p b (pre.length + 1) m suf) := fun m => by simpa using h m
    by_cases h1 : x.f0 = p
    · refine evPos h1 ?_
      by_cases h2 : (x.f4 == b) = true
      · refine evPos h2 (evEq ?_ (h' _))
        simp only [latF, mt, h1, h2, decide_true, Bool.true_and, if_true]
      · refine evNeg h2 (evEq ?_ (h' _))
        simp only [latF, mt, h1, h2, decide_true, Bool.true_and, if_false]
        simp
    · refine evNeg h1 (evEq ?_ (h' _))
      simp [latF, mt, h1]
theorem spec_LatestOf_ev (l : List Sn) (p : Int) (b : Bool) (hl : l.length ≤ 1048576) : Ev (fun k => spec_LatestOf.f k l p b) (latV l p b) := by
  unfold spec_LatestOf.f
  exact spec_LatestOf_l0 p b l [] (-1) (by simpa using hl)
/-! ### small -/
theorem spec_l1In_eq (a b c : Int) : spec_l1In.f a b c = some (decide (b ≤ a ∧ a ≤ c)) := by
  unfold spec_l1In.f
  by_cases h : a ≥ b
  · rw [if_pos h]
    simp [show b ≤ a from h]
  · rw [if_neg h]
    have : ¬ b ≤ a := h
    simp [this]
/-! ### good -/
theorem spec_GoodOnes_l0 (l : List Sn) (hl : l.length ≤ 1048576) (n : Nat) (hn : n ≤ 12) : ∀ (d p : Nat) (out : List Int), p + d = n → out.length ≤ p →
    Ev (fun k => spec_GoodOnes.l0 k l (n : Int) out (p : Int)) (out ++ goodF l d p) := by
  intro d
  induction d with
  | zero =>
    intro p out e ho
    refine Ev.step (fun k => by rw [spec_GoodOnes.l0]) ?_
    refine evNeg (by omega) (evEq ?_ (Ev.now _))
    simp [goodF]
  | succ d ih =>
    intro p out e ho
    refine Ev.step (fun k => by rw [spec_GoodOnes.l0]) ?_
    refine evPos (by omega) (Ev.bind (spec_LatestOf_ev l p false hl) ?_)
    rw [wsucc (by omega)]
    by_cases h : latV l p false ≥ 0
    · refine evPos h (evPos (by omega) (evEq ?_ (ih (p + 1) _ (by omega) (by simp; omega))))
      simp [goodF, h]
    · refine evNeg h (evEq ?_ (ih (p + 1) _ (by omega) (by omega)))
      simp [goodF, h]
theorem spec_GoodOnes_ev (l : List Sn) (n : Int) (hl : l.length ≤ 1048576) : Ev (fun k => spec_GoodOnes.f k l n) (goodV l n) := by
  unfold spec_GoodOnes.f
  refine evSome rfl (evSome (spec_l1In_eq _ _ _) ?_)
  by_cases h : 0 ≤ n ∧ n ≤ 12
  · refine evPos (by simpa using h) ?_
    have h2 := spec_GoodOnes_l0 l hl n.toNat (by omega) n.toNat 0 [] (by omega) (by simp)
    rw [Int.toNat_of_nonneg h.1] at h2
    refine evEq ?_ h2
    simp [goodV, h]
  · refine evNeg (by simpa using h) (evEq ?_ (Ev.now _))
    simp [goodV, h]
/-! ### law_FnExactGoodOnes -/
theorem FnExactGoodOnes : laws_FnExactGoodOnes.PureR := by
  intro l b h _
  refine Ev.rounds ?_
  unfold laws_FnExactGoodOnes.f
  refine evSome (szSeenS_eq l 1048576 (by omega) (by omega) h.1) ?_
  by_cases hb : leftL l 1048576 < 0
  · exact evPos hb (Ev.now _)
  · have hl : l.length ≤ 1048576 := leftL_ok (by omega)
    have hm : (l.map cvSeen).length ≤ 1048576 := by simpa using hl
    have hf := goodV_length (l.map cvSeen) b
    refine evNeg hb (Ev.bind (toSeenS_ev l hl) (Ev.bind (spec_GoodOnes_ev _ b hm) (Ev.bind (toSeenS_ev l hl) (Ev.bind (impl_GoodOnes_ev _ b hm) (Ev.bind (eqIntS_ev _ (by omega)) (evPos rfl ?_))))))
    refine Ev.bind (toSeenS_ev l hl) (Ev.bind (eqSeenS_ev _ hm) (evPos rfl (Ev.bind (markSeenS_ev _ 1 hm (by omega) (by omega)) (evNeg (by simp; omega) (Ev.bind (eqIntS_ev _ (by omega)) ?_)))))
    refine Ev.step (fun k => by rw [laws_FnExactGoodOnes.j0]) ?_
    refine evNeg (by simp) (Ev.bind (markIntS_ev _ 1 (by omega) (by omega) (by omega)) (Ev.bind (heldIntS_ev _ 1 (by omega) (by omega) (by omega)) (evNeg (by omega) (evPos rfl ?_))))
    refine Ev.bind (toSeenS_ev l hl) (Ev.bind (impl_GoodOnes_ev _ b hm) (Ev.bind (eqIntS_ev _ (by omega)) (evPos rfl ?_)))
    exact Ev.bind (heldIntS_ev _ 1 (by omega) (by omega) (by omega)) (evNeg (by omega) (evPos rfl (Ev.now _)))
end Go.Proofs.Ytjhbpiboemajeaa.Pure
