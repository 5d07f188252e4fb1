/- The program's SeenAt returns what the reference's returns, leaves its argument alone and returns new memory: for every list and number. -/
import Derived.Test.YtjhbpiboemajeaaRFnExactSeenAt
import Derived.Test.YtjhbpiboemajeaaBase
namespace Go.Proofs.Ytjhbpiboemajeaa.Pure
open Go.RowKit Go.Proofs.Ytjhbpiboemajeaa.Base Go.Proofs.Ytjhbpiboemajeaa.PFnExactSeenAt Go.Proofs.YtjhbpiboemajeaaW.PrintWords Go.Proofs.YtjhbpiboemajeaaW.PrintLast
set_option linter.unusedVariables false
set_option linter.unusedSimpArgs false
/-! ### seens -/
def leftL {α : Type} (l : List α) (a : Int) : Int := if a - (l.length : Int) < 0 then -1 else a - (l.length : Int)
theorem szSeenS_eq (l : List S64) (a : Int) (h0 : 0 ≤ a) (h1 : a ≤ 1048576) (hl : l.length ≤ 9223372036854775807) : laws_szSeenS.f l a = some (leftL l a) := by
  unfold laws_szSeenS.f leftL
  rw [w64 (by omega) (by omega)]
  split <;> rfl
theorem leftL_ok {α : Type} {l : List α} (h : 0 ≤ leftL l 1048576) : l.length ≤ 1048576 := by
  unfold leftL at h
  split at h <;> omega
def cvSeen (x : S64) : S51 := ⟨x.f0, x.f1, x.f2, x.f3, x.f4⟩
theorem toSeenS_l0 : ∀ (suf pre : List S64) (rest : List S51), (pre ++ suf).length ≤ 1048576 → rest.length = suf.length →
    Ev (fun k => laws_toSeenS.l0 k (pre ++ suf) (pre.map cvSeen ++ rest) (pre.length : Int)) ((pre ++ suf).map cvSeen) := by
  intro suf
  induction suf with
  | nil =>
    intro pre rest hb hr
    obtain rfl : rest = [] := by simpa using hr
    refine Ev.step (fun k => by rw [laws_toSeenS.l0]) ?_
    refine evNeg (by simp) (evEq ?_ (Ev.now _))
    simp
  | cons x suf ih =>
    intro pre rest hb hr
    obtain ⟨r, rest, rfl⟩ : ∃ r t, rest = r :: t := by
      cases rest with
      | nil => simp at hr
      | cons r t => exact ⟨r, t, rfl⟩
    simp only [List.length_append, List.length_cons] at hb hr
    refine Ev.step (fun k => by rw [laws_toSeenS.l0]) ?_
    refine evPos (by simp only [List.length_append, List.length_cons]; omega) (evPos (by omega) ?_)
    simp only [rd_T64, getD_mid]
    refine evSome rfl (evPos (by simp only [List.length_append, List.length_cons, List.length_map]; omega) ?_)
    rw [wsucc (by omega)]
    have h := ih (pre ++ [x]) rest (by simp; omega) (by omega)
    refine evEq ?_ (Ev.congr (fun k => ?_) h)
    · simp
    · have e : (pre.length : Int) = ((pre.map cvSeen).length : Int) := by simp
      rw [e, set_mid]
      simp [cvSeen]
theorem toSeenS_ev (l : List S64) (hl : l.length ≤ 1048576) : Ev (fun k => laws_toSeenS.f k l) (l.map cvSeen) := by
  unfold laws_toSeenS.f
  refine evPos (by omega) (evPos (by omega) ?_)
  have h := toSeenS_l0 l [] (List.replicate l.length z51) (by simpa using hl) (by simp)
  simpa using h
theorem eqSeen_eq (x : S51) : laws_eqSeen.f x.f0 x.f1 x.f2 x.f3 x.f4 x.f0 x.f1 x.f2 x.f3 x.f4 = some true := by
  simp [laws_eqSeen.f]
theorem eqSeenS_l0 : ∀ (suf pre : List S51), (pre ++ suf).length ≤ 1048576 →
    Ev (fun k => laws_eqSeenS.l0 k (pre ++ suf) (pre ++ suf) (pre.length : Int)) true := by
  intro suf
  induction suf with
  | nil =>
    intro pre hb
    refine Ev.step (fun k => by rw [laws_eqSeenS.l0]) ?_
    exact evNeg (by simp) (Ev.now _)
  | cons x suf ih =>
    intro pre hb
    simp only [List.length_append, List.length_cons] at hb
    refine Ev.step (fun k => by rw [laws_eqSeenS.l0]) ?_
    refine evPos (by simp only [List.length_append, List.length_cons]; omega) (evPos (by omega) (evPos (by simp only [List.length_append, List.length_cons]; omega) ?_))
    simp only [rd_T51, getD_mid]
    refine evSome (eqSeen_eq x) (evPos rfl ?_)
    rw [wsucc (by omega)]
    have h := ih (pre ++ [x]) (by simp; omega)
    simpa using h
theorem eqSeenS_ev (l : List S51) (hl : l.length ≤ 1048576) : Ev (fun k => laws_eqSeenS.f k l l) true := by
  unfold laws_eqSeenS.f
  refine evPos rfl ?_
  have h := eqSeenS_l0 l [] (by simpa using hl)
  simpa using h
/-! ### mseens -/
def mkS : Int → Nat → List S51
  | _, 0 => []
  | k, n + 1 => ⟨k, k + 1, k + 2, k + 3, Int.tmod (k + 4) 3 == 0⟩ :: mkS (k + 5) n
theorem mkS_length : ∀ (n : Nat) (k : Int), (mkS k n).length = n
  | 0, _ => rfl
  | n + 1, k => by simp [mkS, mkS_length n]
theorem markSeenS_l0 : ∀ (suf pre : List S51) (m : Int), (pre ++ suf).length ≤ 1048576 → 0 ≤ m → m + 5 * suf.length ≤ 4611686018427387904 →
    Ev (fun k => laws_markSeenS.l0 k (pre ++ suf) m (pre.length : Int)) (m + 5 * suf.length, pre ++ mkS m suf.length) := by
  intro suf
  induction suf with
  | nil =>
    intro pre m hb h0 hm
    refine Ev.step (fun k => by rw [laws_markSeenS.l0]) ?_
    refine evNeg (by simp) (evEq ?_ (Ev.now _))
    simp [mkS]
  | cons x suf ih =>
    intro pre m hb h0 hm
    simp only [List.length_append, List.length_cons] at hb hm
    refine Ev.step (fun k => by rw [laws_markSeenS.l0]) ?_
    refine evPos (by simp only [List.length_append, List.length_cons]; omega) (evPos (by omega) ?_)
    simp only [Option.bind_some, rd_T51, set_mid, getD_mid]
    rw [wsucc (by omega), w64 (n := m + 1) (by omega) (by omega), w64 (n := m + 1 + 1) (by omega) (by omega), w64 (n := m + 1 + 1 + 1) (by omega) (by omega), w64 (n := m + 1 + 1 + 1 + 1) (by omega) (by omega), w64 (n := m + 1 + 1 + 1 + 1 + 1) (by omega) (by omega)]
    have h := ih (pre ++ [⟨m, m + 1, m + 2, m + 3, Int.tmod (m + 4) 3 == 0⟩]) (m + 5) (by simp; omega) (by omega) (by omega)
    refine evEq ?_ (Ev.congr (fun k => ?_) h)
    · simp [mkS]
      omega
    · simp [Int.add_assoc]
theorem markSeenS_ev (l : List S51) (m : Int) (hl : l.length ≤ 1048576) (h0 : 0 ≤ m) (hm : m ≤ 1099511627776) : Ev (fun k => laws_markSeenS.f k l m) (m + 5 * l.length, mkS m l.length) := by
  have h := markSeenS_l0 l [] m (by simpa using hl) h0 (by omega)
  simpa [laws_markSeenS.f] using h
/-! ### ints -/
theorem eqIntS_l0 : ∀ (suf pre : List Int), (pre ++ suf).length ≤ 1048576 →
    Ev (fun k => laws_eqIntS.l0 k (pre ++ suf) (pre ++ suf) (pre.length : Int)) true := by
  intro suf
  induction suf with
  | nil =>
    intro pre hb
    refine Ev.step (fun k => by rw [laws_eqIntS.l0]) ?_
    exact evNeg (by simp) (Ev.now _)
  | cons x suf ih =>
    intro pre hb
    simp only [List.length_append, List.length_cons] at hb
    refine Ev.step (fun k => by rw [laws_eqIntS.l0]) ?_
    refine evPos (by simp only [List.length_append, List.length_cons]; omega) (evPos (by omega) (evPos (by simp only [List.length_append, List.length_cons]; omega) (evPos rfl ?_)))
    rw [wsucc (by omega)]
    have h := ih (pre ++ [x]) (by simp; omega)
    simpa using h
theorem eqIntS_ev (l : List Int) (hl : l.length ≤ 1048576) : Ev (fun k => laws_eqIntS.f k l l) true := by
  unfold laws_eqIntS.f
  refine evPos rfl ?_
  have h := eqIntS_l0 l [] (by simpa using hl)
  simpa using h
/-! ### mints -/
def mkI : Int → Nat → List Int
  | _, 0 => []
  | k, n + 1 => k :: mkI (k + 1) n
theorem mkI_length : ∀ (n : Nat) (k : Int), (mkI k n).length = n
  | 0, _ => rfl
  | n + 1, k => by simp [mkI, mkI_length n]
theorem markIntS_l0 : ∀ (suf pre : List Int) (m : Int), (pre ++ suf).length ≤ 1048576 → 0 ≤ m → m + suf.length ≤ 4611686018427387904 →
    Ev (fun k => laws_markIntS.l0 k (pre ++ suf) m (pre.length : Int)) (m + suf.length, pre ++ mkI m suf.length) := by
  intro suf
  induction suf with
  | nil =>
    intro pre m hb h0 hm
    refine Ev.step (fun k => by rw [laws_markIntS.l0]) ?_
    refine evNeg (by simp) (evEq ?_ (Ev.now _))
    simp [mkI]
  | cons x suf ih =>
    intro pre m hb h0 hm
    simp only [List.length_append, List.length_cons] at hb hm
    refine Ev.step (fun k => by rw [laws_markIntS.l0]) ?_
    refine evPos (by simp only [List.length_append, List.length_cons]; omega) (evPos (by omega) ?_)
    rw [set_mid, wsucc (by omega), w64 (by omega) (by omega)]
    have h := ih (pre ++ [m]) (m + 1) (by simp; omega) (by omega) (by omega)
    refine evEq ?_ (Ev.congr (fun k => ?_) h)
    · simp [mkI]
      omega
    · simp
theorem markIntS_ev (l : List Int) (m : Int) (hl : l.length ≤ 1048576) (h0 : 0 ≤ m) (hm : m ≤ 1099511627776) : Ev (fun k => laws_markIntS.f k l m) (m + l.length, mkI m l.length) := by
  have h := markIntS_l0 l [] m (by simpa using hl) h0 (by omega)
  simpa [laws_markIntS.f] using h
theorem heldIntS_l0 : ∀ (n : Nat) (pre : List Int) (m : Int), pre.length + n ≤ 1048576 → 0 ≤ m → m + n ≤ 4611686018427387904 →
    Ev (fun k => laws_heldIntS.l0 k (pre ++ mkI m n) m (pre.length : Int)) (m + n) := by
  intro n
  induction n with
  | zero =>
    intro pre m hb h0 hm
    refine Ev.step (fun k => by rw [laws_heldIntS.l0]) ?_
    refine evNeg (by simp [mkI]) (evEq ?_ (Ev.now _))
    simp
  | succ n ih =>
    intro pre m hb h0 hm
    refine Ev.step (fun k => by rw [laws_heldIntS.l0]) ?_
    refine evPos (by simp only [List.length_append, mkI_length]; omega) (evPos (by omega) ?_)
    rw [mkI, rd_mid, wsucc (by omega), w64 (by omega) (by omega)]
    refine evPos rfl ?_
    have h := ih (pre ++ [m]) (m + 1) (by simp; omega) (by omega) (by omega)
    refine evEq ?_ (Ev.congr (fun k => ?_) h)
    · omega
    · simp
theorem heldIntS_ev (n : Nat) (m : Int) (hl : n ≤ 1048576) (h0 : 0 ≤ m) (hm : m ≤ 1099511627776) : Ev (fun k => laws_heldIntS.f k (mkI m n) m) (m + n) := by
  have h := heldIntS_l0 n [] m (by simpa using hl) h0 (by omega)
  simpa [laws_heldIntS.f] using h
/-! ### ilat -/
abbrev Sn := S51
def mt (p : Int) (b : Bool) (x : Sn) : Bool := decide (x.f0 = p) && (x.f4 == b)
def latF (p : Int) (b : Bool) : Nat → Int → List Sn → Int
  | _, k, [] => k
  | i, k, x :: xs => latF p b (i + 1) (if mt p b x = true then (i : Int) else k) xs
def latV (l : List Sn) (p : Int) (b : Bool) : Int := latF p b 0 (-1) l
theorem latF_snoc (p : Int) (b : Bool) (x : Sn) : ∀ (l : List Sn) (i : Nat) (k : Int), latF p b i k (l ++ [x]) = if mt p b x = true then ((i + l.length : Nat) : Int) else latF p b i k l
  | [], i, k => by simp [latF]
  | y :: l, i, k => by
    rw [List.cons_append, latF, latF_snoc p b x l, latF]
    simp only [List.length_cons]
    rw [show i + 1 + l.length = i + (l.length + 1) by omega]
theorem impl_LatestOf_l0 (l : List Sn) (p : Int) (b : Bool) (hl : l.length ≤ 1048576) : ∀ n : Nat, n ≤ l.length →
    Ev (fun k => impl_LatestOf.l0 k l p b ((n : Int) - 1)) (latV (l.take n) p b) := by
  intro n
  induction n with
  | zero =>
    intro _
    refine Ev.step (fun k => by rw [impl_LatestOf.l0]) ?_
    exact evNeg (by omega) (Ev.now _)
  | succ n ih =>
    intro hn
    have e : ((n + 1 : Nat) : Int) - 1 = (n : Int) := by omega
    rw [e]
    have et : l.take (n + 1) = l.take n ++ [l[n]] := by rw [List.take_succ_eq_append_getElem (by omega)]
    have ev : latV (l.take (n + 1)) p b = if mt p b l[n] = true then (n : Int) else latV (l.take n) p b := by
      rw [et, latV, latF_snoc]
      simp only [Nat.zero_add, List.length_take, Nat.min_eq_left (show n ≤ l.length by omega)]
      rfl
    rw [ev]
    refine Ev.step (fun k => by rw [impl_LatestOf.l0]) ?_
    refine evPos (by omega) (evPos (by omega) (evPos (by omega) ?_))
    simp only [rd_T51, getD_at l _ n (show n < l.length by omega)]
    rw [w64 (by omega) (by omega)]
    by_cases h1 : l[n].f0 = p
    · refine evPos h1 ?_
      by_cases h2 : (l[n].f4 == b) = true
      · refine evPos h2 (evEq ?_ (Ev.now _))
        rw [if_pos (by simp only [mt, h1, h2, decide_true, Bool.true_and])]
      · refine evNeg h2 (evEq ?_ (ih (by omega)))
        rw [if_neg (by simp only [mt, h1, decide_true, Bool.true_and]; exact h2)]
    · refine evNeg h1 (evEq ?_ (ih (by omega)))
      rw [if_neg (by simp [mt, h1])]
theorem impl_LatestOf_ev (l : List Sn) (p : Int) (b : Bool) (hl : l.length ≤ 1048576) : Ev (fun k => impl_LatestOf.f k l p b) (latV l p b) := by
  unfold impl_LatestOf.f
  rw [w64 (by omega) (by omega)]
  have h := impl_LatestOf_l0 l p b hl l.length (Nat.le_refl _)
  rw [List.take_length] at h
  exact h
theorem latV_range (l : List Sn) (p : Int) (b : Bool) : -1 ≤ latV l p b ∧ latV l p b < l.length := by
  have key : ∀ (l : List Sn) (i : Nat) (k : Int), -1 ≤ k → k < i → -1 ≤ latF p b i k l ∧ latF p b i k l < i + l.length := by
    intro l
    induction l with
    | nil =>
      intro i k h1 h2
      simp [latF]
      omega
    | cons x l ih =>
      intro i k h1 h2
      rw [latF]
      have h := ih (i + 1) (if mt p b x = true then (i : Int) else k) (by split <;> omega) (by split <;> omega)
      simp only [List.length_cons]
      omega
  have h := key l 0 (-1) (by omega) (by omega)
  unfold latV
  omega
/-! ### ilatest -/
/-- The last place of a probe, of either kind. -/
def lasF (p : Int) : Nat → Int → List Sn → Int
  | _, k, [] => k
  | i, k, x :: xs => lasF p (i + 1) (if x.f0 = p then (i : Int) else k) xs
def latestV (l : List Sn) (p : Int) : Int := mx (latV l p false) (latV l p true)
theorem mx_latF (p : Int) : ∀ (l : List Sn) (i : Nat) (a b : Int), a < i → b < i → mx (latF p false i a l) (latF p true i b l) = lasF p i (mx a b) l
  | [], _, _, _, _, _ => rfl
  | x :: xs, i, a, b, ha, hb => by
    rw [latF, latF, lasF]
    by_cases h : x.f0 = p
    · cases h4 : x.f4 with
      | true =>
        have e1 : mt p false x = false := by simp [mt, h4]
        have e2 : mt p true x = true := by simp [mt, h, h4]
        rw [e1, e2, if_pos h, if_pos rfl, if_neg (by simp), mx_latF p xs (i + 1) a i (by omega) (by omega)]
        congr 1
        unfold mx
        omega
      | false =>
        have e1 : mt p false x = true := by simp [mt, h, h4]
        have e2 : mt p true x = false := by simp [mt, h4]
        rw [e1, e2, if_pos h, if_pos rfl, if_neg (by simp), mx_latF p xs (i + 1) i b (by omega) (by omega)]
        congr 1
        unfold mx
        omega
    · have e1 : mt p false x = false := by simp [mt, h]
      have e2 : mt p true x = false := by simp [mt, h]
      rw [e1, e2, if_neg h, if_neg (by simp), if_neg (by simp), mx_latF p xs (i + 1) a b (by omega) (by omega)]
theorem latestV_eq (l : List Sn) (p : Int) : latestV l p = lasF p 0 (-1) l := by
  unfold latestV latV
  rw [mx_latF p l 0 (-1) (-1) (by omega) (by omega)]
  rfl
theorem lasF_append (p : Int) : ∀ (pre suf : List Sn) (i : Nat) (k : Int), lasF p i k (pre ++ suf) = lasF p (i + pre.length) (lasF p i k pre) suf
  | [], suf, i, k => by simp [lasF]
  | x :: pre, suf, i, k => by
    rw [List.cons_append, lasF, lasF, lasF_append p pre suf (i + 1) _, List.length_cons, show i + 1 + pre.length = i + (pre.length + 1) by omega]
theorem lasF_all (p : Int) : ∀ (l : List Sn) (i : Nat) (k : Int), k < i → ((l.all fun y => decide (y.f0 ≠ p)) = true → lasF p i k l = k) ∧ ((l.all fun y => decide (y.f0 ≠ p)) = false → (i : Int) ≤ lasF p i k l)
  | [], i, k, h => by simp [lasF]
  | x :: xs, i, k, h => by
    rw [lasF, List.all_cons]
    by_cases hx : x.f0 = p
    · rw [if_pos hx]
      have ih := lasF_all p xs (i + 1) i (by omega)
      refine ⟨fun c => by simp [hx] at c, fun _ => ?_⟩
      cases hc : xs.all fun y => decide (y.f0 ≠ p) with
      | true =>
        rw [ih.1 hc]
        exact Int.le_refl _
      | false =>
        have := ih.2 hc
        omega
    · rw [if_neg hx]
      have ih := lasF_all p xs (i + 1) k (by omega)
      have e : decide (x.f0 ≠ p) = true := by simp [hx]
      rw [e, Bool.true_and]
      refine ⟨ih.1, fun c => ?_⟩
      have := ih.2 c
      omega
theorem lasF_lt (p : Int) : ∀ (l : List Sn) (i : Nat) (k : Int), k < i → lasF p i k l < i + l.length
  | [], i, k, h => by simp [lasF]; omega
  | x :: xs, i, k, h => by
    rw [lasF, List.length_cons]
    have := lasF_lt p xs (i + 1) (if x.f0 = p then (i : Int) else k) (by split <;> omega)
    omega
theorem latestV_mid (pre suf : List Sn) (x : Sn) : latestV (pre ++ x :: suf) x.f0 = (pre.length : Int) ↔ (suf.all fun y => decide (y.f0 ≠ x.f0)) = true := by
  rw [latestV_eq, lasF_append, lasF, if_pos rfl, Nat.zero_add]
  have h := lasF_all x.f0 suf (pre.length + 1) (pre.length : Int) (by omega)
  cases hc : suf.all fun y => decide (y.f0 ≠ x.f0) with
  | true => simp [h.1 hc]
  | false =>
    have := h.2 hc
    simp
    omega
theorem impl_latest_ev (l : List Sn) (p : Int) (hl : l.length ≤ 1048576) : Ev (fun k => impl_latest.f k l p) (latestV l p) := by
  unfold impl_latest.f
  exact Ev.bind (impl_LatestOf_ev l p false hl) (Ev.bind (impl_LatestOf_ev l p true hl) (Ev.now _))
/-! ### seenat -/
def seenF (t : Int) : Nat → List Sn → List Int
  | _, [] => []
  | i, x :: xs => if (decide (x.f2 = t) && xs.all fun y => decide (y.f0 ≠ x.f0)) = true then (i : Int) :: seenF t (i + 1) xs else seenF t (i + 1) xs
def seenV (l : List Sn) (t : Int) : List Int := seenF t 0 l
theorem seenF_length (t : Int) : ∀ (l : List Sn) (i : Nat), (seenF t i l).length ≤ l.length
  | [], _ => by simp [seenF]
  | x :: xs, i => by
    have h := seenF_length t xs (i + 1)
    rw [seenF]
    split <;> simp only [List.length_cons] <;> omega
theorem seenV_length (l : List Sn) (t : Int) : (seenV l t).length ≤ l.length := seenF_length t l 0
theorem spec_SeenAt_l1 (t : Int) (pre : List Sn) (x : Sn) (out : List Int) (r1 r2 : List Int) (T : List Sn) (hT : (pre ++ x :: T).length ≤ 1048576) (ho : out.length ≤ pre.length)
    (h1 : Ev (fun k => spec_SeenAt.l0 k (pre ++ x :: T) t (out ++ [(pre.length : Int)]) ((pre.length + 1 : Nat) : Int)) r1)
    (h2 : Ev (fun k => spec_SeenAt.l0 k (pre ++ x :: T) t out ((pre.length + 1 : Nat) : Int)) r2) : ∀ (ms mp : List Sn) (b : Bool), T = mp ++ ms →
    Ev (fun k => spec_SeenAt.l1 k (pre ++ x :: T) t out (pre.length : Int) b ((pre.length + 1 + mp.length : Nat) : Int)) (if (b && ms.all fun y => decide (y.f0 ≠ x.f0)) = true then r1 else r2) := by
  intro ms
  have hT' := hT
  simp only [List.length_append, List.length_cons] at hT'
  induction ms with
  | nil =>
    intro mp b e
    have hl : T.length = mp.length := by rw [e]; simp
    refine Ev.step (fun k => by rw [spec_SeenAt.l1]) ?_
    refine evNeg (by simp only [List.length_append, List.length_cons]; omega) ?_
    rw [wsucc (by omega)]
    cases b with
    | true => exact evPos rfl (evPos (by omega) (by simpa using h1))
    | false => exact evNeg (by simp) (by simpa using h2)
  | cons y ms ih =>
    intro mp b e
    have hl : T.length = mp.length + (ms.length + 1) := by rw [e]; simp
    refine Ev.step (fun k => by rw [spec_SeenAt.l1]) ?_
    refine evPos (by simp only [List.length_append, List.length_cons]; omega) ?_
    rw [wsucc (j := pre.length) (by omega), wsucc (j := pre.length + 1 + mp.length) (by omega)]
    cases b with
    | false => exact evNeg (by simp) (by simpa using h2)
    | true =>
      refine evPos rfl (evPos (by omega) (evPos (by omega) (evPos (by simp only [List.length_append, List.length_cons]; omega) ?_)))
      have e1 : rd_T51 (pre ++ x :: T) (pre.length : Int) = x := by rw [rd_T51, getD_mid]
      have e2 : rd_T51 (pre ++ x :: T) ((pre.length + 1 + mp.length : Nat) : Int) = y := by
        rw [rd_T51, e, show pre ++ x :: (mp ++ y :: ms) = (pre ++ x :: mp) ++ y :: ms by simp]
        exact getD_mid' _ _ _ _ (by simp; omega)
      rw [e1, e2]
      have h := ih (mp ++ [y]) (y.f0 != x.f0) (by simp [e])
      refine evEq ?_ (Ev.congr (fun k => ?_) h)
      · have : (y.f0 != x.f0) = decide (y.f0 ≠ x.f0) := by
          by_cases hy : y.f0 = x.f0 <;> simp [hy]
        simp [this]
      · simp [Nat.add_assoc]
theorem spec_SeenAt_l0 (t : Int) : ∀ (suf pre : List Sn) (out : List Int), (pre ++ suf).length ≤ 1048576 → out.length ≤ pre.length →
    Ev (fun k => spec_SeenAt.l0 k (pre ++ suf) t out (pre.length : Int)) (out ++ seenF t pre.length suf) := by
  intro suf
  induction suf with
  | nil =>
    intro pre out hb ho
    refine Ev.step (fun k => by rw [spec_SeenAt.l0]) ?_
    refine evNeg (by simp) (evEq ?_ (Ev.now _))
    simp [seenF]
  | cons x suf ih =>
    intro pre out hb ho
    have hb' := hb
    simp only [List.length_append, List.length_cons] at hb'
    refine Ev.step (fun k => by rw [spec_SeenAt.l0]) ?_
    refine evPos (by simp only [List.length_append, List.length_cons]; omega) (evPos (by omega) ?_)
    simp only [rd_T51, getD_mid]
    rw [wsucc (by omega)]
    have h1 := ih (pre ++ [x]) (out ++ [(pre.length : Int)]) (by simpa using hb) (by simp; omega)
    have h2 := ih (pre ++ [x]) out (by simpa using hb) (by simp; omega)
    have h1' : Ev (fun k => spec_SeenAt.l0 k (pre ++ x :: suf) t (out ++ [(pre.length : Int)]) ((pre.length + 1 : Nat) : Int)) (out ++ (pre.length : Int) :: seenF t (pre.length + 1) suf) := by simpa using h1
    have h2' : Ev (fun k => spec_SeenAt.l0 k (pre ++ x :: suf) t out ((pre.length + 1 : Nat) : Int)) (out ++ seenF t (pre.length + 1) suf) := by simpa using h2
    have h := spec_SeenAt_l1 t pre x out _ _ suf hb ho h1' h2' suf [] (x.f2 == t) rfl
    refine evEq ?_ h
    have : (x.f2 == t) = decide (x.f2 = t) := by
      by_cases hy : x.f2 = t <;> simp [hy]
    rw [seenF, this]
    split <;> rfl
theorem spec_SeenAt_ev (l : List Sn) (t : Int) (hl : l.length ≤ 1048576) : Ev (fun k => spec_SeenAt.f k l t) (seenV l t) := by
  have h := spec_SeenAt_l0 t l [] [] (by simpa using hl) (by simp)
  simpa [spec_SeenAt.f, seenV] using h
theorem impl_SeenAt_l0 (t : Int) (l : List Sn) (hl : l.length ≤ 1048576) : ∀ (suf pre : List Sn) (out : List Int), pre ++ suf = l → out.length ≤ pre.length →
    Ev (fun k => impl_SeenAt.l0 k l t out l (l.length : Int) (pre.length : Int)) (out ++ seenF t pre.length suf) := by
  intro suf
  induction suf with
  | nil =>
    intro pre out e ho
    have hn : l.length = pre.length := by rw [← e]; simp
    refine Ev.step (fun k => by rw [impl_SeenAt.l0]) ?_
    refine evNeg (by omega) (evEq ?_ (Ev.now _))
    simp [seenF]
  | cons x suf ih =>
    intro pre out e ho
    have hn : l.length = pre.length + (suf.length + 1) := by rw [← e]; simp
    have hx : rd_T51 l (pre.length : Int) = x := by rw [rd_T51, ← e, getD_mid]
    refine Ev.step (fun k => by rw [impl_SeenAt.l0]) ?_
    refine evPos (by omega) (evPos (by omega) (evPos (by omega) ?_))
    rw [hx, wsucc (by omega)]
    have h := fun out ho => ih (pre ++ [x]) out (by simp [← e]) ho
    have h2 : Ev (fun k => impl_SeenAt.l0 k l t out l (l.length : Int) ((pre.length + 1 : Nat) : Int)) (out ++ seenF t (pre.length + 1) suf) := by simpa using h out (by simp; omega)
    by_cases ht : x.f2 = t
    · refine evPos ht (Ev.bind (impl_latest_ev l x.f0 hl) ?_)
      have hlat : latestV l x.f0 = (pre.length : Int) ↔ (suf.all fun y => decide (y.f0 ≠ x.f0)) = true := by rw [← e]; exact latestV_mid pre suf x
      by_cases ha : (suf.all fun y => decide (y.f0 ≠ x.f0)) = true
      · have h1 := h (out ++ [(pre.length : Int)]) (by simp; omega)
        refine evPos (hlat.2 ha) (evPos (by omega) (evEq ?_ (Ev.congr (fun k => ?_) h1)))
        · rw [seenF, ha, decide_eq_true ht]
          simp
        · simp
      · refine evNeg (fun c => ha (hlat.1 c)) (evEq ?_ h2)
        have ha' : (suf.all fun y => decide (y.f0 ≠ x.f0)) = false := by simpa using ha
        rw [seenF, ha']
        simp
    · refine evNeg ht (evEq ?_ h2)
      rw [seenF, decide_eq_false ht]
      simp
theorem impl_SeenAt_ev (l : List Sn) (t : Int) (hl : l.length ≤ 1048576) : Ev (fun k => impl_SeenAt.f k l t) (seenV l t) := by
  have h := impl_SeenAt_l0 t l hl l [] [] rfl (by simp)
  simpa [impl_SeenAt.f, seenV] using h
/-! ### law_FnExactSeenAt -/
theorem FnExactSeenAt : laws_FnExactSeenAt.PureR := by
  intro l b h _
  refine Ev.rounds ?_
  unfold laws_FnExactSeenAt.f
  refine evSome (szSeenS_eq l 1048576 (by omega) (by omega) h.1) ?_
  by_cases hb : leftL l 1048576 < 0
  · exact evPos hb (Ev.now _)
  · have hl : l.length ≤ 1048576 := leftL_ok (by omega)
    have hm : (l.map cvSeen).length ≤ 1048576 := by simpa using hl
    have hf := seenV_length (l.map cvSeen) b
    refine evNeg hb (Ev.bind (toSeenS_ev l hl) (Ev.bind (spec_SeenAt_ev _ b hm) (Ev.bind (toSeenS_ev l hl) (Ev.bind (impl_SeenAt_ev _ b hm) (Ev.bind (eqIntS_ev _ (by omega)) (evPos rfl ?_))))))
    refine Ev.bind (toSeenS_ev l hl) (Ev.bind (eqSeenS_ev _ hm) (evPos rfl (Ev.bind (markSeenS_ev _ 1 hm (by omega) (by omega)) (evNeg (by simp; omega) (Ev.bind (eqIntS_ev _ (by omega)) ?_)))))
    refine Ev.step (fun k => by rw [laws_FnExactSeenAt.j0]) ?_
    refine evNeg (by simp) (Ev.bind (markIntS_ev _ 1 (by omega) (by omega) (by omega)) (Ev.bind (heldIntS_ev _ 1 (by omega) (by omega) (by omega)) (evNeg (by omega) (evPos rfl ?_))))
    refine Ev.bind (toSeenS_ev l hl) (Ev.bind (impl_SeenAt_ev _ b hm) (Ev.bind (eqIntS_ev _ (by omega)) (evPos rfl ?_)))
    exact Ev.bind (heldIntS_ev _ 1 (by omega) (by omega) (by omega)) (evNeg (by omega) (evPos rfl (Ev.now _)))
end Go.Proofs.Ytjhbpiboemajeaa.Pure
