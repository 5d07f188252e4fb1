/- Lemmas: withoutowners heldintss own zz_FnExactWithoutOwners -/
import Derived.Test.YtakembkodcjbjaaPFnExactWithoutOwnersx0
import Derived.Test.YtakembkodcjbjaaPFnExactWithoutOwnersx1
import Derived.Test.YtakembkodcjbjaaPFnExactWithoutOwnersx2
import Derived.Test.YtakembkodcjbjaaPFnExactWithoutOwnersx3
import Derived.Test.YtakembkodcjbjaaBase
namespace Go.Proofs.Ytakembkodcjbjaa.Pure
open Go.RowKit Go.Proofs.Ytakembkodcjbjaa.Base Go.Proofs.Ytakembkodcjbjaa.PFnExactWithoutOwners Go.Proofs.YtakembkodcjbjaaW.PrintWords Go.Proofs.YtakembkodcjbjaaW.PrintLast Go.Proofs.YtakembkodcjbjaaW.PrintMore
set_option linter.unusedVariables false
set_option linter.unusedSimpArgs false
/-! ### has -/
def hasB (l : List Int) (v : Int) : Bool := l.any fun x => decide (x = v)
theorem spec_l7Has_l0 (v : Int) : ∀ (suf pre : List Int), (pre ++ suf).length ≤ 1048576 → Ev (fun k => spec_l7Has.l0 k (pre ++ suf) v (pre.length : Int)) (hasB suf v) := by
  intro suf
  induction suf with
  | nil =>
    intro pre hb
    refine Ev.step (fun k => by rw [spec_l7Has.l0]) ?_
    exact evNeg (by simp) (Ev.now _)
  | cons x suf ih =>
    intro pre hb
    simp only [List.length_append, List.length_cons] at hb
    refine Ev.step (fun k => by rw [spec_l7Has.l0]) ?_
    refine evPos (by simp only [List.length_append, List.length_cons]; omega) (evPos (by omega) ?_)
    rw [rd_mid, wsucc (by omega)]
    by_cases hx : x = v
    · refine evPos hx (evEq ?_ (Ev.now _))
      simp [hasB, hx]
    · have h := ih (pre ++ [x]) (by simp; omega)
      refine evNeg hx (evEq ?_ (Ev.congr (fun k => ?_) h))
      · simp [hasB, hx]
      · simp
theorem spec_l7Has_ev (l : List Int) (v : Int) (hl : l.length ≤ 1048576) : Ev (fun k => spec_l7Has.f k l v) (hasB l v) := by
  unfold spec_l7Has.f
  exact spec_l7Has_l0 v l [] (by simpa using hl)
theorem slices_Index_l0 (v : Int) : ∀ (suf pre : List Int), (pre ++ suf).length ≤ 1048576 →
    ∃ r, Ev (fun k => slices_Index_int_int.l0 k (pre ++ suf) v ((pre ++ suf).length : Int) (pre.length : Int)) r ∧ decide (r ≥ 0) = hasB suf v := by
  intro suf
  induction suf with
  | nil =>
    intro pre hb
    exact ⟨-1, Ev.step (fun k => by rw [slices_Index_int_int.l0]) (evNeg (by simp) (Ev.now _)), rfl⟩
  | cons x suf ih =>
    intro pre hb
    simp only [List.length_append, List.length_cons] at hb
    by_cases hx : v = x
    · refine ⟨(pre.length : Int), Ev.step (fun k => by rw [slices_Index_int_int.l0]) ?_, ?_⟩
      · refine evPos (by simp only [List.length_append, List.length_cons]; omega) (evPos (by omega) (evPos (by simp only [List.length_append, List.length_cons]; omega) ?_))
        rw [rd_mid]
        exact evPos hx (Ev.now _)
      · simp [hasB, hx]
    · obtain ⟨r, h, e⟩ := ih (pre ++ [x]) (by simp; omega)
      refine ⟨r, Ev.step (fun k => by rw [slices_Index_int_int.l0]) ?_, ?_⟩
      · refine evPos (by simp only [List.length_append, List.length_cons]; omega) (evPos (by omega) (evPos (by simp only [List.length_append, List.length_cons]; omega) ?_))
        rw [rd_mid, wsucc (by omega)]
        exact evNeg hx (Ev.congr (fun k => by simp) h)
      · rw [e]
        have : ¬ x = v := fun c => hx c.symm
        simp [hasB, this]
theorem slices_Contains_ev (l : List Int) (v : Int) (hl : l.length ≤ 1048576) : Ev (fun k => slices_Contains_int_int.f k l v) (hasB l v) := by
  unfold slices_Contains_int_int.f slices_Index_int_int.f
  obtain ⟨r, h, e⟩ := slices_Index_l0 v l [] (by simpa using hl)
  exact Ev.bind h (evEq e (Ev.now _))
/-! ### szints -/
def leftI (l : List Int) (a : Int) : Int := if a - (l.length : Int) < 0 then -1 else a - (l.length : Int)
theorem szIntS_eq (l : List Int) (a : Int) (h0 : 0 ≤ a) (h1 : a ≤ 1048576) (hl : l.length ≤ 9223372036854775807) : laws_szIntS.f l a = some (leftI l a) := by
  unfold laws_szIntS.f leftI
  rw [w64 (by omega) (by omega)]
  split <;> rfl
/-! ### ints -/
theorem toIntS_l0 : ∀ (suf pre rest : List Int), (pre ++ suf).length ≤ 1048576 → rest.length = suf.length →
    Ev (fun k => laws_toIntS.l0 k (pre ++ suf) (pre ++ rest) (pre.length : Int)) (pre ++ suf) := by
  intro suf
  induction suf with
  | nil =>
    intro pre rest hb hr
    obtain rfl : rest = [] := by simpa using hr
    refine Ev.step (fun k => by rw [laws_toIntS.l0]) ?_
    exact evNeg (by simp) (Ev.now _)
  | cons x suf ih =>
    intro pre rest hb hr
    obtain ⟨r, rest, rfl⟩ : ∃ r t, rest = r :: t := by
      cases rest with
      | nil => simp at hr
      | cons r t => exact ⟨r, t, rfl⟩
    simp only [List.length_append, List.length_cons] at hb hr
    refine Ev.step (fun k => by rw [laws_toIntS.l0]) ?_
    refine evPos (by simp only [List.length_append, List.length_cons]; omega) (evPos (by omega) (evPos (by simp only [List.length_append, List.length_cons]; omega) ?_))
    rw [rd_mid, set_mid, wsucc (by omega)]
    have h := ih (pre ++ [x]) rest (by simp; omega) (by omega)
    simpa using h
theorem toIntS_ev (l : List Int) (hl : l.length ≤ 1048576) : Ev (fun k => laws_toIntS.f k l) l := by
  unfold laws_toIntS.f
  refine evPos (by omega) (evPos (by omega) ?_)
  have h := toIntS_l0 l [] (List.replicate l.length 0) (by simpa using hl) (by simp)
  simpa using h
theorem eqIntS_l0 : ∀ (suf pre : List Int), (pre ++ suf).length ≤ 1048576 →
    Ev (fun k => laws_eqIntS.l0 k (pre ++ suf) (pre ++ suf) (pre.length : Int)) true := by
  intro suf
  induction suf with
  | nil =>
    intro pre hb
    refine Ev.step (fun k => by rw [laws_eqIntS.l0]) ?_
    exact evNeg (by simp) (Ev.now _)
  | cons x suf ih =>
    intro pre hb
    simp only [List.length_append, List.length_cons] at hb
    refine Ev.step (fun k => by rw [laws_eqIntS.l0]) ?_
    refine evPos (by simp only [List.length_append, List.length_cons]; omega) (evPos (by omega) (evPos (by simp only [List.length_append, List.length_cons]; omega) (evPos rfl ?_)))
    rw [wsucc (by omega)]
    have h := ih (pre ++ [x]) (by simp; omega)
    simpa using h
theorem eqIntS_ev (l : List Int) (hl : l.length ≤ 1048576) : Ev (fun k => laws_eqIntS.f k l l) true := by
  unfold laws_eqIntS.f
  refine evPos rfl ?_
  have h := eqIntS_l0 l [] (by simpa using hl)
  simpa using h
/-! ### intss -/
/-- What is left of a behind the lists' own lengths and the list's length; -1 where it is not enough. -/
def leftR : List (List Int) → Int → Int
  | [], a => a
  | r :: rs, a => if leftI r a < 0 then -1 else leftR rs (leftI r a)
def leftII (l : List (List Int)) (a : Int) : Int := if a - (l.length : Int) < 0 then -1 else leftR l (a - (l.length : Int))
theorem szIntSS_l0 : ∀ (suf pre : List (List Int)) (a : Int), (pre ++ suf).length ≤ 1048576 → 0 ≤ a → a ≤ 1048576 → (∀ r ∈ suf, r.length ≤ 9223372036854775807) →
    Ev (fun k => laws_szIntSS.l0 k (pre ++ suf) a (pre.length : Int)) (leftR suf a) := by
  intro suf
  induction suf with
  | nil =>
    intro pre a hb h0 h1 hr
    refine Ev.step (fun k => by rw [laws_szIntSS.l0]) ?_
    exact evNeg (by simp) (Ev.now _)
  | cons x suf ih =>
    intro pre a hb h0 h1 hr
    simp only [List.length_append, List.length_cons] at hb
    refine Ev.step (fun k => by rw [laws_szIntSS.l0]) ?_
    refine evPos (by simp only [List.length_append, List.length_cons]; omega) (evPos (by omega) ?_)
    rw [rd_L1, getD_mid, wsucc (by omega)]
    refine evSome (szIntS_eq x a h0 h1 (hr x (by simp))) ?_
    by_cases hx : leftI x a < 0
    · refine evPos hx (evEq ?_ (Ev.now _))
      simp [leftR, hx]
    · refine evNeg hx ?_
      have hle : leftI x a ≤ 1048576 := by
        unfold leftI
        split <;> omega
      have h := ih (pre ++ [x]) (leftI x a) (by simp; omega) (by omega) hle (fun r h => hr r (by simp [h]))
      refine evEq ?_ (Ev.congr (fun k => ?_) h)
      · simp [leftR, hx]
      · simp
theorem szIntSS_ev (l : List (List Int)) (a : Int) (h0 : 0 ≤ a) (h1 : a ≤ 1048576) (hl : l.length ≤ 9223372036854775807) (hr : ∀ r ∈ l, r.length ≤ 9223372036854775807) : Ev (fun k => laws_szIntSS.f k l a) (leftII l a) := by
  unfold laws_szIntSS.f
  rw [w64 (by omega) (by omega)]
  by_cases h : a - (l.length : Int) < 0
  · refine evPos h (evEq ?_ (Ev.now _))
    simp [leftII, h]
  · refine evNeg h (evEq ?_ (szIntSS_l0 l [] _ (by simp; omega) (by omega) (by omega) hr))
    simp [leftII, h]
theorem leftR_rows : ∀ (l : List (List Int)) (a : Int), 0 ≤ leftR l a → 0 ≤ a → a ≤ 1048576 → (∀ r ∈ l, r.length ≤ 1048576)
  | [], _, _, _, _ => by simp
  | r :: rs, a, h, h0, h1 => by
    unfold leftR at h
    split at h
    · omega
    · rename_i hx
      have hx' : 0 ≤ leftI r a := by omega
      have hrl : r.length ≤ 1048576 ∧ leftI r a ≤ 1048576 := by
        unfold leftI at hx' ⊢
        split at hx' <;> split <;> omega
      intro q hq
      rcases List.mem_cons.1 hq with rfl | hq
      · exact hrl.1
      · exact leftR_rows rs _ h hx' hrl.2 q hq
/-- Rows that may be examined. -/
def okII (l : List (List Int)) : Prop := l.length ≤ 1048576 ∧ ∀ r ∈ l, r.length ≤ 1048576
theorem leftII_ok {l : List (List Int)} (h : 0 ≤ leftII l 1048576) : okII l := by
  unfold leftII at h
  split at h
  · omega
  · exact ⟨by omega, leftR_rows l _ h (by omega) (by omega)⟩
theorem toIntSS_l0 : ∀ (suf pre rest : List (List Int)), (pre ++ suf).length ≤ 1048576 → rest.length = suf.length → (∀ r ∈ suf, r.length ≤ 1048576) →
    Ev (fun k => laws_toIntSS.l0 k (pre ++ suf) (pre ++ rest) (pre.length : Int)) (pre ++ suf) := by
  intro suf
  induction suf with
  | nil =>
    intro pre rest hb hr hq
    obtain rfl : rest = [] := by simpa using hr
    refine Ev.step (fun k => by rw [laws_toIntSS.l0]) ?_
    exact evNeg (by simp) (Ev.now _)
  | cons x suf ih =>
    intro pre rest hb hr hq
    obtain ⟨r, rest, rfl⟩ : ∃ r t, rest = r :: t := by
      cases rest with
      | nil => simp at hr
      | cons r t => exact ⟨r, t, rfl⟩
    simp only [List.length_append, List.length_cons] at hb hr
    refine Ev.step (fun k => by rw [laws_toIntSS.l0]) ?_
    refine evPos (by simp only [List.length_append, List.length_cons]; omega) (evPos (by omega) ?_)
    rw [rd_L1, getD_mid]
    refine Ev.bind (toIntS_ev x (hq x (by simp))) (evPos (by simp only [List.length_append, List.length_cons]; omega) ?_)
    rw [set_mid, wsucc (by omega)]
    have h := ih (pre ++ [x]) rest (by simp; omega) (by omega) (fun r h => hq r (by simp [h]))
    simpa using h
theorem toIntSS_ev (l : List (List Int)) (hl : okII l) : Ev (fun k => laws_toIntSS.f k l) l := by
  have h0 := hl.1
  unfold laws_toIntSS.f
  refine evPos (by omega) (evPos (by omega) ?_)
  have h := toIntSS_l0 l [] (List.replicate l.length []) (by simpa using hl.1) (by simp) hl.2
  simpa using h
theorem eqIntSS_l0 : ∀ (suf pre : List (List Int)), (pre ++ suf).length ≤ 1048576 → (∀ r ∈ suf, r.length ≤ 1048576) →
    Ev (fun k => laws_eqIntSS.l0 k (pre ++ suf) (pre ++ suf) (pre.length : Int)) true := by
  intro suf
  induction suf with
  | nil =>
    intro pre hb hq
    refine Ev.step (fun k => by rw [laws_eqIntSS.l0]) ?_
    exact evNeg (by simp) (Ev.now _)
  | cons x suf ih =>
    intro pre hb hq
    simp only [List.length_append, List.length_cons] at hb
    refine Ev.step (fun k => by rw [laws_eqIntSS.l0]) ?_
    refine evPos (by simp only [List.length_append, List.length_cons]; omega) (evPos (by omega) (evPos (by simp only [List.length_append, List.length_cons]; omega) ?_))
    rw [rd_L1, getD_mid]
    refine Ev.bind (eqIntS_ev x (hq x (by simp))) (evPos rfl ?_)
    rw [wsucc (by omega)]
    have h := ih (pre ++ [x]) (by simp; omega) (fun r h => hq r (by simp [h]))
    simpa using h
theorem eqIntSS_ev (l : List (List Int)) (hl : okII l) : Ev (fun k => laws_eqIntSS.f k l l) true := by
  unfold laws_eqIntSS.f
  refine evPos rfl ?_
  have h := eqIntSS_l0 l [] (by simpa using hl.1) hl.2
  simpa using h
/-! ### clone -/
theorem clone_eq (l : List Int) (hl : l.length ≤ 1048576) : slices_Clone_int_int.f l = some l := by
  unfold slices_Clone_int_int.f
  simp
  omega
/-! ### mints -/
def mkI : Int → Nat → List Int
  | _, 0 => []
  | k, n + 1 => k :: mkI (k + 1) n
theorem mkI_length : ∀ (n : Nat) (k : Int), (mkI k n).length = n
  | 0, _ => rfl
  | n + 1, k => by simp [mkI, mkI_length n]
theorem markIntS_l0 : ∀ (suf pre : List Int) (m : Int), (pre ++ suf).length ≤ 1048576 → 0 ≤ m → m + suf.length ≤ 4611686018427387904 →
    Ev (fun k => laws_markIntS.l0 k (pre ++ suf) m (pre.length : Int)) (m + suf.length, pre ++ mkI m suf.length) := by
  intro suf
  induction suf with
  | nil =>
    intro pre m hb h0 hm
    refine Ev.step (fun k => by rw [laws_markIntS.l0]) ?_
    refine evNeg (by simp) (evEq ?_ (Ev.now _))
    simp [mkI]
  | cons x suf ih =>
    intro pre m hb h0 hm
    simp only [List.length_append, List.length_cons] at hb hm
    refine Ev.step (fun k => by rw [laws_markIntS.l0]) ?_
    refine evPos (by simp only [List.length_append, List.length_cons]; omega) (evPos (by omega) ?_)
    rw [set_mid, wsucc (by omega), w64 (by omega) (by omega)]
    have h := ih (pre ++ [m]) (m + 1) (by simp; omega) (by omega) (by omega)
    refine evEq ?_ (Ev.congr (fun k => ?_) h)
    · simp [mkI]
      omega
    · simp
theorem markIntS_ev (l : List Int) (m : Int) (hl : l.length ≤ 1048576) (h0 : 0 ≤ m) (hm : m ≤ 1099511627776) : Ev (fun k => laws_markIntS.f k l m) (m + l.length, mkI m l.length) := by
  have h := markIntS_l0 l [] m (by simpa using hl) h0 (by omega)
  simpa [laws_markIntS.f] using h
theorem heldIntS_l0 : ∀ (n : Nat) (pre : List Int) (m : Int), pre.length + n ≤ 1048576 → 0 ≤ m → m + n ≤ 4611686018427387904 →
    Ev (fun k => laws_heldIntS.l0 k (pre ++ mkI m n) m (pre.length : Int)) (m + n) := by
  intro n
  induction n with
  | zero =>
    intro pre m hb h0 hm
    refine Ev.step (fun k => by rw [laws_heldIntS.l0]) ?_
    refine evNeg (by simp [mkI]) (evEq ?_ (Ev.now _))
    simp
  | succ n ih =>
    intro pre m hb h0 hm
    refine Ev.step (fun k => by rw [laws_heldIntS.l0]) ?_
    refine evPos (by simp only [List.length_append, mkI_length]; omega) (evPos (by omega) ?_)
    rw [mkI, rd_mid, wsucc (by omega), w64 (by omega) (by omega)]
    refine evPos rfl ?_
    have h := ih (pre ++ [m]) (m + 1) (by simp; omega) (by omega) (by omega)
    refine evEq ?_ (Ev.congr (fun k => ?_) h)
    · omega
    · simp
theorem heldIntS_ev (n : Nat) (m : Int) (hl : n ≤ 1048576) (h0 : 0 ≤ m) (hm : m ≤ 1099511627776) : Ev (fun k => laws_heldIntS.f k (mkI m n) m) (m + n) := by
  have h := heldIntS_l0 n [] m (by simpa using hl) h0 (by omega)
  simpa [laws_heldIntS.f] using h
/-! ### markintss -/
def totL : List (List Int) → Nat
  | [] => 0
  | r :: rs => r.length + totL rs
def mkII : Int → List (List Int) → List (List Int)
  | _, [] => []
  | a, r :: rs => mkI a r.length :: mkII (a + r.length) rs
theorem mkII_length : ∀ (l : List (List Int)) (a : Int), (mkII a l).length = l.length
  | [], _ => rfl
  | r :: rs, a => by simp [mkII, mkII_length rs]
theorem totL_snoc : ∀ (l : List (List Int)) (x : List Int), totL (l ++ [x]) = totL l + x.length
  | [], x => by simp [totL]
  | r :: rs, x => by simp only [List.cons_append, totL, totL_snoc rs x]; omega
theorem mkII_snoc : ∀ (l : List (List Int)) (x : List Int) (a : Int), mkII a (l ++ [x]) = mkII a l ++ [mkI (a + totL l) x.length]
  | [], x, a => by simp [mkII, totL]
  | r :: rs, x, a => by
    simp only [List.cons_append, mkII, totL, mkII_snoc rs x]
    rw [show a + (r.length : Int) + (totL rs : Int) = a + ((r.length + totL rs : Nat) : Int) by omega]
theorem totL_append : ∀ (l m : List (List Int)), totL (l ++ m) = totL l + totL m
  | [], m => by simp [totL]
  | r :: rs, m => by simp only [List.cons_append, totL, totL_append rs m]; omega
set_option maxHeartbeats 2000000 in
theorem markIntSS_c (P0 : Nat → Prop) (u : Value) (l0 : List (List Int)) (a1 : Int) (w0 w : World) (hB : Below w0.heap.size w0 w) (ho0 : Kd.S (Kd.slice 3 (Kd.int .i64)) 23 w w0.heap.size P0 u l0) (hl : okII l0) (h0 : 0 ≤ a1) (h1 : a1 + totL l0 ≤ 1099511627776) :
    Calls Try.prog 22 #[u, .int .i64 a1] w fun e w' => e = .returned (.int .i64 (a1 + totL l0)) ∧ Kd.S (Kd.slice 3 (Kd.int .i64)) 23 w' w0.heap.size P0 u (mkII a1 l0) ∧ Below w0.heap.size w0 w' ∧ Kept w w' P0 := by
  obtain ⟨A, c, rfl⟩ := Kd.S_slice ho0
  have HB0 := Aside0.mk hB
  have HO0 := Aside0.mk ho0
  have HL := Aside0.mk hl
  clear hB ho0 hl
  have h0' := Aside0.mk h0
  have h1' := Aside0.mk h1
  clear h0 h1
  go_enter Try.func22, Try.ntmps22
  go_wp2
  go_loopg [1, 5] l0.length (fun gg v1 v5 wr => ∃ (pre suf : List (List Int)), gg = suf.length ∧ Aside0 (l0 = pre ++ suf) ∧ v1 = .int .i64 (a1 + totL pre) ∧ v5 = .int .i64 (pre.length : Int) ∧ Aside0 (Kd.S (Kd.slice 3 (Kd.int .i64)) 23 wr w0.heap.size P0 (.slice A l0.length c) (mkII a1 pre ++ suf)) ∧ Aside0 (Below w0.heap.size w0 wr) ∧ Aside0 (Kept w wr P0))
  case atStart => exact ⟨[], l0, rfl, ⟨rfl⟩, by simp [totL], rfl, ⟨by simpa [mkII] using (by (with_reducible repeat (first | apply Kd.S_alloc | apply Kd.S_drewN | apply Kd.S_drew)); exact HO0.out)⟩, ⟨by repeat (first | (with_reducible first | exact HB0.out | apply below_alloc | apply pw_below_drewN | apply below_drew1) | exact HB0.out)⟩, ⟨by repeat (first | exact Kept.refl _ _ | apply Kept.alloc | apply Kept.drewN)⟩⟩
  case round =>
    clear HO0 HB0
    obtain ⟨pre, suf, hgg, HE, rfl, rfl, HO, HB, HK⟩ := hrel
    cases suf with
    | nil =>
      have e0 : l0 = pre := by simpa using HE.out
      subst e0
      go_wp2
      go_ret
      exact ⟨rfl, by have := HO.out; rwa [List.append_nil] at this, HB.out, HK.out⟩
    | cons x suf =>
      have hlen : l0.length = pre.length + (suf.length + 1) := by rw [HE.out]; simp
      have ht : totL l0 = totL pre + (x.length + totL suf) := by rw [HE.out, totL_append]; rfl
      have hx : x.length ≤ 1048576 := HL.out.2 x (by rw [HE.out]; simp)
      have hlt : (pre.length : Int) < (l0.length : Int) := by omega
      obtain ⟨g, cap, e1, gb, gl, cl⟩ := Kd.S_form HO.out (by simp [mkII_length]; omega)
      injection e1 with e1 e2 e3
      subst e1
      subst e3
      have HO1 := HO.out
      obtain ⟨oki, cs, hcl, hM, hcc, hoki, hH⟩ := Kd.S_lend HO1 [] (pre.length : Int) (by omega) (by omega)
      obtain ⟨v, rfl, hR⟩ := hM
      have hcell : wr.cell? ⟨g, pre.length, none⟩ = some v := by have := hcc 0 v rfl; simpa [Kd.slice] using this
      have hxe : (mkII a1 pre ++ x :: suf).getD ((pre.length : Int)).toNat [] = x := getD_mid' _ _ _ _ (mkII_length _ _)
      rw [hxe] at hR
      obtain ⟨k1, hk1⟩ := (markIntS_ev x (a1 + totL pre) hx (by have := h0'.out; omega) (by have := h1'.out; omega)).rounds
      have HK1 := Aside0.mk hk1
      have HR := Aside0.mk hR
      have HH := Aside0.mk hH
      have HOK := Aside0.mk hoki
      have HLEN := Aside0.mk hlen
      have HLL := Aside0.mk (show l0.length ≤ 1048576 from HL.out.1)
      clear hk1 hR hH hoki hcc hxe HO1 hlen ht hx gb gl cl hcl e2
      go_wp2_with (go_at_call 23; (with_reducible refine (laws_markIntS.calls k1 oki v x _ _ _ w0 _ ?s1 ?s2 HK1.out).mono ?_); (case s1 => exact HB.out); (case s2 => exact HR.out); rintro e w' ⟨rfl, hR', hB', hK'⟩)
      go_roundg suf.length
      case measure => rw [hgg]; simp
      case rel =>
        refine ⟨pre ++ [x], suf, rfl, ⟨by rw [HE.out]; simp⟩, ?_, ?_, ⟨?_⟩, ⟨hB'⟩, ⟨Kept.then_ HK.out hK' (fun k hk => .inl (HOK.out k hk).1)⟩⟩
        · rw [totL_snoc]; congr 1; omega
        · rw [List.length_append, wsucc (by have := HLEN.out; have := HLL.out; omega)]; rfl
        · have h2 := Kd.H_back (Kd.H_kept HH.out hK' (fun k _ hn => hn)) (x' := mkI (a1 + totL pre) x.length) ⟨v, rfl, Kd.R_tight rfl hR'⟩ (fun k hk => HR.out.1 k hk.symm)
          rw [mkII_snoc, List.append_assoc]
          have h3 : (mkII a1 pre ++ x :: suf).set ((pre.length : Int)).toNat (mkI (a1 + totL pre) x.length) = mkII a1 pre ++ mkI (a1 + totL pre) x.length :: suf := by
            have := set_mid (mkII a1 pre) suf x (mkI (a1 + totL pre) x.length)
            rwa [mkII_length] at this
          rw [h3] at h2
          exact h2
/-! ### withoutowners -/
def woV : List (List Int) → List Int → List Int → List (List Int)
  | m :: ms, o :: os, d => if hasB d o = true then woV ms os d else m :: woV ms os d
  | _, _, _ => []
theorem woV_nil2 : ∀ (ms : List (List Int)) (d : List Int), woV ms [] d = [] := by
  intro ms d; cases ms <;> rfl
theorem woV_nil1 (os d : List Int) : woV [] os d = [] := rfl
theorem woV_len : ∀ (ms : List (List Int)) (os d : List Int), (woV ms os d).length ≤ ms.length
  | [], _, _ => by simp [woV]
  | m :: ms, [], d => by simp [woV_nil2]
  | m :: ms, o :: os, d => by
    have := woV_len ms os d
    rw [woV]
    split <;> simp only [List.length_cons] <;> omega
theorem woV_mem : ∀ (ms : List (List Int)) (os d : List Int) (r : List Int), r ∈ woV ms os d → r ∈ ms
  | [], _, _, r, h => by simp [woV] at h
  | m :: ms, [], d, r, h => by simp [woV_nil2] at h
  | m :: ms, o :: os, d, r, h => by
    rw [woV] at h
    split at h
    · exact List.mem_cons_of_mem _ (woV_mem ms os d r h)
    · rcases List.mem_cons.1 h with h | h
      · rw [h]; simp
      · exact List.mem_cons_of_mem _ (woV_mem ms os d r h)
theorem woV_tot : ∀ (ms : List (List Int)) (os d : List Int), okII ms → okII (woV ms os d) := fun ms os d h => ⟨Nat.le_trans (woV_len _ _ _) h.1, fun r hr => h.2 r (woV_mem _ _ _ _ hr)⟩
theorem woV_totL : ∀ (ms : List (List Int)) (os d : List Int), totL (woV ms os d) ≤ totL ms
  | [], _, _ => by simp [woV]
  | m :: ms, [], d => by simp [woV_nil2, totL]
  | m :: ms, o :: os, d => by
    have := woV_totL ms os d
    rw [woV]
    split <;> simp only [totL] <;> omega
theorem mn_len (a b : Nat) : mn (a : Int) (b : Int) = ((min a b : Nat) : Int) := by
  unfold mn
  split <;> omega
theorem impl_WithoutOwners_l0 (d : List Int) (hd : d.length ≤ 1048576) : ∀ (sm : List (List Int)) (so : List Int) (pm : List (List Int)) (po : List Int) (out : List (List Int)), pm.length = po.length → (pm ++ sm).length ≤ 1048576 → (po ++ so).length ≤ 1048576 → (∀ r ∈ sm, r.length ≤ 1048576) → out.length ≤ pm.length →
    Ev (fun k => impl_WithoutOwners.l0 k (pm ++ sm) (po ++ so) d out (mn ((pm ++ sm).length : Int) ((po ++ so).length : Int)) (po.length : Int)) (out ++ woV sm so d) := by
  intro sm
  induction sm with
  | nil =>
    intro so pm po out h1 h2 h3 h4 h5
    refine Ev.step (fun k => by rw [impl_WithoutOwners.l0]) ?_
    refine evNeg (by rw [mn_len]; simp only [List.length_append, List.length_nil]; omega) (evEq ?_ (Ev.now _))
    simp [woV]
  | cons x sm ih =>
    intro so pm po out h1 h2 h3 h4 h5
    cases so with
    | nil =>
      refine Ev.step (fun k => by rw [impl_WithoutOwners.l0]) ?_
      refine evNeg (by rw [mn_len]; simp only [List.length_append, List.length_nil]; omega) (evEq ?_ (Ev.now _))
      simp [woV]
    | cons o so =>
      simp only [List.length_append, List.length_cons] at h2 h3
      refine Ev.step (fun k => by rw [impl_WithoutOwners.l0]) ?_
      refine evPos (by rw [mn_len]; simp only [List.length_append, List.length_cons]; omega) (evPos (by omega) (evPos (by simp only [List.length_append, List.length_cons]; omega) ?_))
      rw [rd_mid]
      refine Ev.bind (slices_Contains_ev d o hd) ?_
      rw [wsucc (by omega)]
      by_cases hb : hasB d o = true
      · refine evPos hb ?_
        have h := ih so (pm ++ [x]) (po ++ [o]) out (by simp [h1]) (by simp; omega) (by simp; omega) (fun r hr => h4 r (by simp [hr])) (by simp; omega)
        refine evEq ?_ (Ev.congr (fun k => ?_) h)
        · simp only [woV, if_pos hb]
        · simp
      · refine evNeg hb (evPos (by simp only [List.length_append, List.length_cons]; omega) ?_)
        rw [rd_L1, getD_mid' pm sm x [] h1]
        refine evSome (clone_eq x (h4 x (by simp))) (evPos (by omega) ?_)
        have h := ih so (pm ++ [x]) (po ++ [o]) (out ++ [x]) (by simp [h1]) (by simp; omega) (by simp; omega) (fun r hr => h4 r (by simp [hr])) (by simp; omega)
        refine evEq ?_ (Ev.congr (fun k => ?_) h)
        · simp only [woV, if_neg hb]; simp
        · simp
theorem impl_WithoutOwners_ev (m : List (List Int)) (o d : List Int) (hm : okII m) (ho : o.length ≤ 1048576) (hd : d.length ≤ 1048576) : Ev (fun k => impl_WithoutOwners.f k m o d) (woV m o d) := by
  have h := impl_WithoutOwners_l0 d hd m o [] [] [] rfl (by simpa using hm.1) (by simpa using ho) hm.2 (by simp)
  simpa [impl_WithoutOwners.f] using h
theorem spec_WithoutOwners_l0 (d : List Int) (hd : d.length ≤ 1048576) : ∀ (sm : List (List Int)) (so : List Int) (pm : List (List Int)) (po : List Int) (out : List (List Int)), pm.length = po.length → (pm ++ sm).length ≤ 1048576 → (po ++ so).length ≤ 1048576 → (∀ r ∈ sm, r.length ≤ 1048576) → out.length ≤ pm.length →
    Ev (fun k => spec_WithoutOwners.l0 k (pm ++ sm) (po ++ so) d out (pm.length : Int)) (out ++ woV sm so d) := by
  intro sm
  induction sm with
  | nil =>
    intro so pm po out h1 h2 h3 h4 h5
    refine Ev.step (fun k => by rw [spec_WithoutOwners.l0]) ?_
    refine evNeg (by simp) (Ev.step (fun k => by rw [spec_WithoutOwners.j1]) ?_)
    refine evNeg (by simp) (evEq ?_ (Ev.now _))
    simp [woV]
  | cons x sm ih =>
    intro so pm po out h1 h2 h3 h4 h5
    cases so with
    | nil =>
      refine Ev.step (fun k => by rw [spec_WithoutOwners.l0]) ?_
      refine evPos (by simp only [List.length_append, List.length_cons]; omega) (Ev.step (fun k => by rw [spec_WithoutOwners.j1]) ?_)
      refine evNeg (by simp only [List.append_nil, decide_eq_true_eq]; omega) (evEq ?_ (Ev.now _))
      simp [woV]
    | cons o so =>
      simp only [List.length_append, List.length_cons] at h2 h3
      refine Ev.step (fun k => by rw [spec_WithoutOwners.l0]) ?_
      refine evPos (by simp only [List.length_append, List.length_cons]; omega) (Ev.step (fun k => by rw [spec_WithoutOwners.j1]) ?_)
      refine evPos (by simp only [List.length_append, List.length_cons, decide_eq_true_eq]; omega) (evPos (by omega) (evPos (by simp only [List.length_append, List.length_cons]; omega) ?_))
      rw [rd_mid' po so o h1.symm]
      refine Ev.bind (spec_l7Has_ev d o hd) ?_
      by_cases hb : hasB d o = true
      · refine evPos hb ?_
        rw [wsucc (by omega)]
        have h := ih so (pm ++ [x]) (po ++ [o]) out (by simp [h1]) (by simp; omega) (by simp; omega) (fun r hr => h4 r (by simp [hr])) (by simp; omega)
        refine evEq ?_ (Ev.congr (fun k => ?_) h)
        · simp only [woV, if_pos hb]
        · simp
      · refine evNeg hb ?_
        rw [rd_L1, getD_mid pm sm x []]
        rw [wsucc (by omega)]
        have hx := h4 x (by simp)
        refine evPos (by simp only [List.length_append, List.length_cons]; omega) (evPos (by simp; omega) (evPos (by omega) ?_))
        have h := ih so (pm ++ [x]) (po ++ [o]) (out ++ [x]) (by simp [h1]) (by simp; omega) (by simp; omega) (fun r hr => h4 r (by simp [hr])) (by simp; omega)
        refine evEq ?_ (Ev.congr (fun k => ?_) h)
        · simp only [woV, if_neg hb]; simp
        · simp
theorem spec_WithoutOwners_ev (m : List (List Int)) (o d : List Int) (hm : okII m) (ho : o.length ≤ 1048576) (hd : d.length ≤ 1048576) : Ev (fun k => spec_WithoutOwners.f k m o d) (woV m o d) := by
  have h := spec_WithoutOwners_l0 d hd m o [] [] [] rfl (by simpa using hm.1) (by simpa using ho) hm.2 (by simp)
  simpa [spec_WithoutOwners.f] using h
/-! ### heldintss -/
theorem heldIntSS_l0 : ∀ (suf pre : List (List Int)) (m : Int), (pre ++ suf).length ≤ 1048576 → (∀ r ∈ suf, r.length ≤ 1048576) → 0 ≤ m → m + totL suf ≤ 1099511627776 →
    Ev (fun k => laws_heldIntSS.l0 k (pre ++ mkII m suf) m (pre.length : Int)) (m + totL suf) := by
  intro suf
  induction suf with
  | nil =>
    intro pre m hb hr h0 hm
    refine Ev.step (fun k => by rw [laws_heldIntSS.l0]) ?_
    refine evNeg (by simp [mkII]) (evEq ?_ (Ev.now _))
    simp [totL]
  | cons x suf ih =>
    intro pre m hb hr h0 hm
    simp only [List.length_append, List.length_cons] at hb
    simp only [totL] at hm
    refine Ev.step (fun k => by rw [laws_heldIntSS.l0]) ?_
    refine evPos (by simp only [List.length_append, mkII, List.length_cons, mkII_length]; omega) (evPos (by omega) ?_)
    rw [mkII, rd_L1, getD_mid, wsucc (by omega)]
    refine Ev.bind (heldIntS_ev x.length m (hr x (by simp)) h0 (by omega)) (evNeg (by omega) ?_)
    have h := ih (pre ++ [mkI m x.length]) (m + x.length) (by simp; omega) (fun r h => hr r (by simp [h])) (by omega) (by omega)
    refine evEq ?_ (Ev.congr (fun k => ?_) h)
    · simp only [totL]; omega
    · simp
theorem heldIntSS_ev (l : List (List Int)) (m : Int) (hl : okII l) (h0 : 0 ≤ m) (hm : m + totL l ≤ 1099511627776) : Ev (fun k => laws_heldIntSS.f k (mkII m l) m) (m + totL l) := by
  have h := heldIntSS_l0 l [] m (by simpa using hl.1) hl.2 h0 hm
  simpa [laws_heldIntSS.f] using h
theorem totL_le : ∀ (l : List (List Int)) (n : Nat), (∀ r ∈ l, r.length ≤ n) → totL l ≤ l.length * n
  | [], _, _ => by simp [totL]
  | r :: rs, n, h => by
    have h1 := totL_le rs n (fun q hq => h q (by simp [hq]))
    have h2 := h r (by simp)
    simp only [totL, List.length_cons, Nat.succ_mul]
    omega
theorem totL_leftR : ∀ (l : List (List Int)) (a : Int), 0 ≤ a → 0 ≤ leftR l a → (totL l : Int) ≤ a
  | [], a, h, _ => by simpa [totL] using h
  | r :: rs, a, h, h2 => by
    unfold leftR at h2
    split at h2
    · omega
    · rename_i hx
      have h3 := totL_leftR rs _ (by omega) h2
      have h4 : leftI r a = a - r.length := by unfold leftI at hx ⊢; split <;> omega
      simp only [totL]
      omega
theorem totL_left {l : List (List Int)} (h : 0 ≤ leftII l 1048576) : totL l ≤ 1048576 := by
  unfold leftII at h
  split at h
  · omega
  · have := totL_leftR l _ (by omega) h
    omega
/-! ### own -/
/-- A row that a call made: its blocks are those between the two worlds. -/
theorem S_fresh {α : Type} {d : Kd α} {e : Nat} {w w2 W w3 : World} {v : Value} {xs : List α} (h0 : Below w.heap.size w w2) (h1 : Below w2.heap.size w2 W) (ho : Kd.S d e w3 W.heap.size (fun _ => True) v xs) (hb : Below W.heap.size W w3) : Kd.S d e w3 w.heap.size (fun k => w2.heap.size ≤ k ∧ k < w3.heap.size) v xs :=
  Kd.S_lower (Kd.S_mono (Kd.S_bound ho) (fun k hk => ⟨Nat.le_trans h1.size hk.2.1, hk.2.2.1⟩)) (Nat.le_trans h0.size h1.size)
theorem R_fresh {α : Type} {d : Kd α} {e : Nat} {w w2 W w3 : World} {v : Value} {xs : List α} (h0 : Below w.heap.size w w2) (h1 : Below w2.heap.size w2 W) (ho : Kd.R d e w3 W.heap.size (fun _ => True) v xs) (hb : Below W.heap.size W w3) : Kd.R d e w3 w.heap.size (fun k => w2.heap.size ≤ k ∧ k < w3.heap.size) v xs :=
  Kd.R_lower (Kd.R_mono (Kd.R_bound ho) (fun k hk => ⟨Nat.le_trans h1.size hk.2.1, hk.2.2.1⟩)) (Nat.le_trans h0.size h1.size)
/-- A flat row that was written and comes back: its blocks are the same. -/
theorem R_tight' {α β : Type} {d : Kd α} {d' : Kd β} {e e' : Nat} {w w' : World} {b b' : Nat} {ok ok' : Nat → Prop} {v : Value} {xs : List α} {ys : List β} (hE : d.E = []) (h : Kd.R d e w b ok v xs) (h' : Kd.R d' e' w' b' ok' v ys) : Kd.R d e w b ok' v xs :=
  Kd.R_mono (Kd.R_tight hE h) (fun k hk => h'.1 k hk.symm)
theorem calls_cast {P : Program} {f : Nat} {args args' : Array Value} {w : World} {Q : Ending → World → Prop} (h : args = args') (hc : Calls P f args w Q) : Calls P f args' w Q := h ▸ hc
/-! ### zz_FnExactWithoutOwners -/
set_option maxHeartbeats 4000000 in
set_option maxRecDepth 100000 in
theorem FnExactWithoutOwners_calls (A0 : Option Addr) (c0 : Nat) (l0 : List (List Int)) (A1 : Option Addr) (c1 : Nat) (l1 : List Int) (A2 : Option Addr) (c2 : Nat) (l2 : List Int) (w : World) (hr0 : Kd.C (Kd.slice 3 (Kd.int .i64)) w A0 l0.length l0) (hc0 : l0.length ≤ c0) (hr1 : Kd.C (Kd.int .i64) w A1 l1.length l1) (hc1 : l1.length ≤ c1) (hr2 : Kd.C (Kd.int .i64) w A2 l2.length l2) (hc2 : l2.length ≤ c2) (g0 : l0.length ≤ 9223372036854775807 ∧ ∀ y ∈ l0, y.length ≤ 9223372036854775807 ∧ ∀ z ∈ y, (Lit.int .i64 z).wf = true) (g1 : l1.length ≤ 9223372036854775807 ∧ ∀ y ∈ l1, (Lit.int .i64 y).wf = true) (g2 : l2.length ≤ 9223372036854775807 ∧ ∀ y ∈ l2, (Lit.int .i64 y).wf = true) :
    Calls Try.prog 3 #[.slice A0 l0.length c0, .slice A1 l1.length c1, .slice A2 l2.length c2] w fun e w' => e = .returned (.bool true) ∧ Below w.heap.size w w' := by
  by_cases b1 : l1.length > 1048576
  · have b1' : decide (l1.length > 1048576) = true := decide_eq_true b1
    go_enter Try.func3, Try.ntmps3
    go_wp2
    go_ret
    exact ⟨rfl, Below.refl _ _⟩
  have ok1 : l1.length ≤ 1048576 := by omega
  by_cases b2 : l2.length > 1048576
  · have b2' : decide (l2.length > 1048576) = true := decide_eq_true b2
    go_enter Try.func3, Try.ntmps3
    go_wp2
    go_ret
    exact ⟨rfl, Below.refl _ _⟩
  have ok2 : l2.length ≤ 1048576 := by omega
  by_cases b0 : leftII l0 1048576 < 0
  · obtain ⟨k0, hk0⟩ := (szIntSS_ev l0 1048576 (by omega) (by omega) g0.1 (fun r hr => (g0.2 r hr).1)).rounds
    have K0 := Aside0.mk hk0
    have HR := Aside0.mk hr0
    have b0' : decide (leftII l0 1048576 < 0) = true := decide_eq_true b0
    clear hk0 hr0
    go_enter Try.func3, Try.ntmps3
    go_wp2_with fail
    go_at_call 15; (with_reducible refine (laws_szIntSS.calls k0 _ _ l0 1048576 _ _ ?s0 hc0 K0.out).mono ?_); (case s0 => repeat (first | exact HR.out | (with_reducible refine Kd.C_alloc ?_ _) | (with_reducible refine Kd.C_drewN ?_ _) | (with_reducible refine Kd.C_drew ?_))); rintro e w' ⟨rfl, ⟨nd, rfl⟩⟩
    go_wp2
    go_ret
    exact ⟨rfl, (by repeat (first | (with_reducible first | exact Below.refl _ _ | apply below_alloc | apply pw_below_drewN | apply below_drew1) | exact Below.refl _ _))⟩
  have ok0 : okII l0 := leftII_ok (by omega)
  have b0' : decide (leftII l0 1048576 < 0) = false := decide_eq_false b0
  have HR0 := Aside0.mk hr0
  have HR1 := Aside0.mk hr1
  have HR2 := Aside0.mk hr2
  clear hr0 hr1 hr2
  obtain ⟨y0, hy0⟩ : ∃ y, y = woV l0 l1 l2 := ⟨_, rfl⟩
  have oy0 : okII y0 := by rw [hy0]; exact woV_tot _ _ _ ok0
  have ty0 : totL y0 ≤ 1048576 := by rw [hy0]; exact Nat.le_trans (woV_totL _ _ _) (totL_left (by omega))
  have hs := spec_WithoutOwners_ev l0 l1 l2 ok0 ok1 ok2
  have hi := impl_WithoutOwners_ev l0 l1 l2 ok0 ok1 ok2
  rw [← hy0] at hs hi
  clear hy0
  have t0 : totL l0 ≤ 1048576 := totL_left (by omega)
  obtain ⟨k2, hz_⟩ := (szIntSS_ev l0 (1048576) (by omega) (by omega) g0.1 (fun r hr => (g0.2 r hr).1)).rounds
  have Kk2 := Aside0.mk hz_
  clear hz_
  obtain ⟨k4, hz_⟩ := (toIntSS_ev l0 ok0).rounds
  have Kk4 := Aside0.mk hz_
  clear hz_
  obtain ⟨k13, hz_⟩ := (toIntS_ev l1 ok1).rounds
  have Kk13 := Aside0.mk hz_
  clear hz_
  obtain ⟨k23, hz_⟩ := (toIntS_ev l2 ok2).rounds
  have Kk23 := Aside0.mk hz_
  clear hz_
  obtain ⟨k34, hz_⟩ := (hs).rounds
  have Kk34 := Aside0.mk hz_
  clear hz_
  obtain ⟨k46, hz_⟩ := (toIntSS_ev l0 ok0).rounds
  have Kk46 := Aside0.mk hz_
  clear hz_
  obtain ⟨k59, hz_⟩ := (toIntS_ev l1 ok1).rounds
  have Kk59 := Aside0.mk hz_
  clear hz_
  obtain ⟨k73, hz_⟩ := (toIntS_ev l2 ok2).rounds
  have Kk73 := Aside0.mk hz_
  clear hz_
  obtain ⟨k88, hz_⟩ := (hi).rounds
  have Kk88 := Aside0.mk hz_
  clear hz_
  obtain ⟨k104, hz_⟩ := (eqIntSS_ev y0 oy0).rounds
  have Kk104 := Aside0.mk hz_
  clear hz_
  obtain ⟨k106, hz_⟩ := (toIntSS_ev l0 ok0).rounds
  have Kk106 := Aside0.mk hz_
  clear hz_
  obtain ⟨k123, hz_⟩ := (eqIntSS_ev l0 ok0).rounds
  have Kk123 := Aside0.mk hz_
  clear hz_
  obtain ⟨k125, hz_⟩ := (toIntS_ev l1 ok1).rounds
  have Kk125 := Aside0.mk hz_
  clear hz_
  obtain ⟨k143, hz_⟩ := (eqIntS_ev l1 ok1).rounds
  have Kk143 := Aside0.mk hz_
  clear hz_
  obtain ⟨k145, hz_⟩ := (toIntS_ev l2 ok2).rounds
  have Kk145 := Aside0.mk hz_
  clear hz_
  obtain ⟨k164, hz_⟩ := (eqIntS_ev l2 ok2).rounds
  have Kk164 := Aside0.mk hz_
  clear hz_
  obtain ⟨k181, hz_⟩ := (markIntS_ev l1 ((1 + (totL l0 : Int))) (by omega) (by omega) (by omega)).rounds
  have Kk181 := Aside0.mk hz_
  clear hz_
  obtain ⟨k196, hz_⟩ := (markIntS_ev l2 (((1 + (totL l0 : Int)) + (l1.length : Int))) (by omega) (by omega) (by omega)).rounds
  have Kk196 := Aside0.mk hz_
  clear hz_
  obtain ⟨k211, hz_⟩ := (eqIntSS_ev y0 oy0).rounds
  have Kk211 := Aside0.mk hz_
  clear hz_
  obtain ⟨k228, hz_⟩ := (heldIntSS_ev y0 (1) oy0 (by omega) (by omega)).rounds
  have Kk228 := Aside0.mk hz_
  clear hz_
  obtain ⟨k230, hz_⟩ := (toIntSS_ev l0 ok0).rounds
  have Kk230 := Aside0.mk hz_
  clear hz_
  obtain ⟨k250, hz_⟩ := (toIntS_ev l1 ok1).rounds
  have Kk250 := Aside0.mk hz_
  clear hz_
  obtain ⟨k271, hz_⟩ := (toIntS_ev l2 ok2).rounds
  have Kk271 := Aside0.mk hz_
  clear hz_
  obtain ⟨k293, hz_⟩ := (hi).rounds
  have Kk293 := Aside0.mk hz_
  clear hz_
  obtain ⟨k316, hz_⟩ := (eqIntSS_ev y0 oy0).rounds
  have Kk316 := Aside0.mk hz_
  clear hz_
  obtain ⟨k318, hz_⟩ := (heldIntSS_ev y0 (1) oy0 (by omega) (by omega)).rounds
  have Kk318 := Aside0.mk hz_
  clear hz_
  go_enter Try.func3, Try.ntmps3
  have HBW0 := Aside0.mk (Below.refl w.heap.size w)
  -- laws.szIntSS
  go_wp2_with fail
  go_at_call 15; (with_reducible refine (laws_szIntSS.calls k2 _ _ (l0) (1048576) (leftII l0 (1048576)) _ ?s0 ?s1 Kk2.out).mono ?_); (case s0 => exact Kd.C_below (by exact HR0.out) (below_step HBW0.out (by repeat (first | (with_reducible first | exact Below.refl _ _ | apply below_alloc | apply pw_below_drewN | apply below_drew1) | exact Below.refl _ _)))); (case s1 => exact hc0); rintro e w' ⟨rfl, ⟨nd, rfl⟩⟩
  -- laws.toIntSS
  go_wp2_with fail
  go_at_call 17; (with_reducible refine (laws_toIntSS.calls k4 _ _ (l0) (l0) _ ?s0 ?s1 Kk4.out).mono ?_); (case s0 => exact Kd.C_below (by exact HR0.out) (below_step HBW0.out (by repeat (first | (with_reducible first | exact Below.refl _ _ | apply below_alloc | apply pw_below_drewN | apply below_drew1) | exact Below.refl _ _)))); (case s1 => exact hc0); rintro e w3 ⟨v5, rfl, ho6, hb⟩
  have HO7 := Aside0.mk (S_fresh HBW0.out (by repeat (first | (with_reducible first | exact Below.refl _ _ | apply below_alloc | apply pw_below_drewN | apply below_drew1) | exact Below.refl _ _)) ho6 hb)
  clear ho6
  have hbz := below_step (w := w) (by repeat (first | (with_reducible first | exact Below.refl _ _ | apply below_alloc | apply pw_below_drewN | apply below_drew1) | exact Below.refl _ _)) hb
  have HBW8 := Aside0.mk (below_step HBW0.out hbz)
  clear HBW0
  have HSZ9 := Aside0.mk hbz.size
  obtain ⟨A10, c11, rfl⟩ := Kd.S_slice HO7.out
  clear hb hbz
  -- laws.toIntS
  go_wp2_with fail
  go_at_call 18; (with_reducible refine (laws_toIntS.calls k13 _ _ (l1) (l1) _ ?s0 ?s1 Kk13.out).mono ?_); (case s0 => exact Kd.C_below (by exact HR1.out) (below_step HBW8.out (by repeat (first | (with_reducible first | exact Below.refl _ _ | apply below_alloc | apply pw_below_drewN | apply below_drew1) | exact Below.refl _ _)))); (case s1 => exact hc1); rintro e w12 ⟨v14, rfl, ho15, hb⟩
  have HO16 := Aside0.mk (R_fresh HBW8.out (by repeat (first | (with_reducible first | exact Below.refl _ _ | apply below_alloc | apply pw_below_drewN | apply below_drew1) | exact Below.refl _ _)) ho15 hb)
  clear ho15
  have hbz := below_step (w := w3) (by repeat (first | (with_reducible first | exact Below.refl _ _ | apply below_alloc | apply pw_below_drewN | apply below_drew1) | exact Below.refl _ _)) hb
  have HBW17 := Aside0.mk (below_step HBW8.out hbz)
  clear HBW8
  have HSZ18 := Aside0.mk hbz.size
  have HO19 := Aside0.mk (Kd.S_below HO7.out hbz)
  clear HO7
  obtain ⟨A20, c21, rfl⟩ := Kd.R_slice HO16.out
  clear hb hbz
  -- laws.toIntS
  go_wp2_with fail
  go_at_call 18; (with_reducible refine (laws_toIntS.calls k23 _ _ (l2) (l2) _ ?s0 ?s1 Kk23.out).mono ?_); (case s0 => exact Kd.C_below (by exact HR2.out) (below_step HBW17.out (by repeat (first | (with_reducible first | exact Below.refl _ _ | apply below_alloc | apply pw_below_drewN | apply below_drew1) | exact Below.refl _ _)))); (case s1 => exact hc2); rintro e w22 ⟨v24, rfl, ho25, hb⟩
  have HO26 := Aside0.mk (R_fresh HBW17.out (by repeat (first | (with_reducible first | exact Below.refl _ _ | apply below_alloc | apply pw_below_drewN | apply below_drew1) | exact Below.refl _ _)) ho25 hb)
  clear ho25
  have hbz := below_step (w := w12) (by repeat (first | (with_reducible first | exact Below.refl _ _ | apply below_alloc | apply pw_below_drewN | apply below_drew1) | exact Below.refl _ _)) hb
  have HBW27 := Aside0.mk (below_step HBW17.out hbz)
  clear HBW17
  have HSZ28 := Aside0.mk hbz.size
  have HO29 := Aside0.mk (Kd.S_below HO19.out hbz)
  clear HO19
  have HO30 := Aside0.mk (Kd.R_below HO16.out hbz)
  clear HO16
  obtain ⟨A31, c32, rfl⟩ := Kd.R_slice HO26.out
  clear hb hbz
  -- spec.WithoutOwners
  go_wp2_with fail
  go_at_call 16; (with_reducible refine (spec_WithoutOwners.calls k34 _ _ (l0) _ _ (l1) _ _ (l2) (y0) _ ?s0 ?s1 ?s2 ?s3 ?s4 ?s5 Kk34.out).mono ?_); (case s0 => have z_ := (Kd.S_reads' HO29.out); repeat (first | exact z_.2.2 | (with_reducible refine Kd.C_alloc ?_ _) | (with_reducible refine Kd.C_drewN ?_ _) | (with_reducible refine Kd.C_drew ?_))); (case s1 => exact (Kd.S_reads' HO29.out).2.1); (case s2 => have z_ := (Kd.R_reads' HO30.out); repeat (first | exact z_.2.2 | (with_reducible refine Kd.C_alloc ?_ _) | (with_reducible refine Kd.C_drewN ?_ _) | (with_reducible refine Kd.C_drew ?_))); (case s3 => exact (Kd.R_reads' HO30.out).2.1); (case s4 => have z_ := (Kd.R_reads' HO26.out); repeat (first | exact z_.2.2 | (with_reducible refine Kd.C_alloc ?_ _) | (with_reducible refine Kd.C_drewN ?_ _) | (with_reducible refine Kd.C_drew ?_))); (case s5 => exact (Kd.R_reads' HO26.out).2.1); rintro e w33 ⟨v35, rfl, ho36, hb⟩
  have HO37 := Aside0.mk (S_fresh HBW27.out (by repeat (first | (with_reducible first | exact Below.refl _ _ | apply below_alloc | apply pw_below_drewN | apply below_drew1) | exact Below.refl _ _)) ho36 hb)
  clear ho36
  have hbz := below_step (w := w22) (by repeat (first | (with_reducible first | exact Below.refl _ _ | apply below_alloc | apply pw_below_drewN | apply below_drew1) | exact Below.refl _ _)) hb
  have HBW38 := Aside0.mk (below_step HBW27.out hbz)
  clear HBW27
  have HSZ39 := Aside0.mk hbz.size
  have HO40 := Aside0.mk (Kd.S_below HO29.out hbz)
  clear HO29
  have HO41 := Aside0.mk (Kd.R_below HO30.out hbz)
  clear HO30
  have HO42 := Aside0.mk (Kd.R_below HO26.out hbz)
  clear HO26
  obtain ⟨A43, c44, rfl⟩ := Kd.S_slice HO37.out
  clear hb hbz
  -- laws.toIntSS
  go_wp2_with fail
  go_at_call 17; (with_reducible refine (laws_toIntSS.calls k46 _ _ (l0) (l0) _ ?s0 ?s1 Kk46.out).mono ?_); (case s0 => exact Kd.C_below (by exact HR0.out) (below_step HBW38.out (by repeat (first | (with_reducible first | exact Below.refl _ _ | apply below_alloc | apply pw_below_drewN | apply below_drew1) | exact Below.refl _ _)))); (case s1 => exact hc0); rintro e w45 ⟨v47, rfl, ho48, hb⟩
  have HO49 := Aside0.mk (S_fresh HBW38.out (by repeat (first | (with_reducible first | exact Below.refl _ _ | apply below_alloc | apply pw_below_drewN | apply below_drew1) | exact Below.refl _ _)) ho48 hb)
  clear ho48
  have hbz := below_step (w := w33) (by repeat (first | (with_reducible first | exact Below.refl _ _ | apply below_alloc | apply pw_below_drewN | apply below_drew1) | exact Below.refl _ _)) hb
  have HBW50 := Aside0.mk (below_step HBW38.out hbz)
  clear HBW38
  have HSZ51 := Aside0.mk hbz.size
  have HO52 := Aside0.mk (Kd.S_below HO40.out hbz)
  clear HO40
  have HO53 := Aside0.mk (Kd.R_below HO41.out hbz)
  clear HO41
  have HO54 := Aside0.mk (Kd.R_below HO42.out hbz)
  clear HO42
  have HO55 := Aside0.mk (Kd.S_below HO37.out hbz)
  clear HO37
  obtain ⟨A56, c57, rfl⟩ := Kd.S_slice HO49.out
  clear hb hbz
  -- laws.toIntS
  go_wp2_with fail
  go_at_call 18; (with_reducible refine (laws_toIntS.calls k59 _ _ (l1) (l1) _ ?s0 ?s1 Kk59.out).mono ?_); (case s0 => exact Kd.C_below (by exact HR1.out) (below_step HBW50.out (by repeat (first | (with_reducible first | exact Below.refl _ _ | apply below_alloc | apply pw_below_drewN | apply below_drew1) | exact Below.refl _ _)))); (case s1 => exact hc1); rintro e w58 ⟨v60, rfl, ho61, hb⟩
  have HO62 := Aside0.mk (R_fresh HBW50.out (by repeat (first | (with_reducible first | exact Below.refl _ _ | apply below_alloc | apply pw_below_drewN | apply below_drew1) | exact Below.refl _ _)) ho61 hb)
  clear ho61
  have hbz := below_step (w := w45) (by repeat (first | (with_reducible first | exact Below.refl _ _ | apply below_alloc | apply pw_below_drewN | apply below_drew1) | exact Below.refl _ _)) hb
  have HBW63 := Aside0.mk (below_step HBW50.out hbz)
  clear HBW50
  have HSZ64 := Aside0.mk hbz.size
  have HO65 := Aside0.mk (Kd.S_below HO52.out hbz)
  clear HO52
  have HO66 := Aside0.mk (Kd.R_below HO53.out hbz)
  clear HO53
  have HO67 := Aside0.mk (Kd.R_below HO54.out hbz)
  clear HO54
  have HO68 := Aside0.mk (Kd.S_below HO55.out hbz)
  clear HO55
  have HO69 := Aside0.mk (Kd.S_below HO49.out hbz)
  clear HO49
  obtain ⟨A70, c71, rfl⟩ := Kd.R_slice HO62.out
  clear hb hbz
  -- laws.toIntS
  go_wp2_with fail
  go_at_call 18; (with_reducible refine (laws_toIntS.calls k73 _ _ (l2) (l2) _ ?s0 ?s1 Kk73.out).mono ?_); (case s0 => exact Kd.C_below (by exact HR2.out) (below_step HBW63.out (by repeat (first | (with_reducible first | exact Below.refl _ _ | apply below_alloc | apply pw_below_drewN | apply below_drew1) | exact Below.refl _ _)))); (case s1 => exact hc2); rintro e w72 ⟨v74, rfl, ho75, hb⟩
  have HO76 := Aside0.mk (R_fresh HBW63.out (by repeat (first | (with_reducible first | exact Below.refl _ _ | apply below_alloc | apply pw_below_drewN | apply below_drew1) | exact Below.refl _ _)) ho75 hb)
  clear ho75
  have hbz := below_step (w := w58) (by repeat (first | (with_reducible first | exact Below.refl _ _ | apply below_alloc | apply pw_below_drewN | apply below_drew1) | exact Below.refl _ _)) hb
  have HBW77 := Aside0.mk (below_step HBW63.out hbz)
  clear HBW63
  have HSZ78 := Aside0.mk hbz.size
  have HO79 := Aside0.mk (Kd.S_below HO65.out hbz)
  clear HO65
  have HO80 := Aside0.mk (Kd.R_below HO66.out hbz)
  clear HO66
  have HO81 := Aside0.mk (Kd.R_below HO67.out hbz)
  clear HO67
  have HO82 := Aside0.mk (Kd.S_below HO68.out hbz)
  clear HO68
  have HO83 := Aside0.mk (Kd.S_below HO69.out hbz)
  clear HO69
  have HO84 := Aside0.mk (Kd.R_below HO62.out hbz)
  clear HO62
  obtain ⟨A85, c86, rfl⟩ := Kd.R_slice HO76.out
  clear hb hbz
  -- impl.WithoutOwners
  go_wp2_with fail
  go_at_call 19; (with_reducible refine (impl_WithoutOwners.calls k88 _ _ (l0) _ _ (l1) _ _ (l2) (y0) _ ?s0 ?s1 ?s2 ?s3 ?s4 ?s5 Kk88.out).mono ?_); (case s0 => have z_ := (Kd.S_reads' HO83.out); repeat (first | exact z_.2.2 | (with_reducible refine Kd.C_alloc ?_ _) | (with_reducible refine Kd.C_drewN ?_ _) | (with_reducible refine Kd.C_drew ?_))); (case s1 => exact (Kd.S_reads' HO83.out).2.1); (case s2 => have z_ := (Kd.R_reads' HO84.out); repeat (first | exact z_.2.2 | (with_reducible refine Kd.C_alloc ?_ _) | (with_reducible refine Kd.C_drewN ?_ _) | (with_reducible refine Kd.C_drew ?_))); (case s3 => exact (Kd.R_reads' HO84.out).2.1); (case s4 => have z_ := (Kd.R_reads' HO76.out); repeat (first | exact z_.2.2 | (with_reducible refine Kd.C_alloc ?_ _) | (with_reducible refine Kd.C_drewN ?_ _) | (with_reducible refine Kd.C_drew ?_))); (case s5 => exact (Kd.R_reads' HO76.out).2.1); rintro e w87 ⟨v89, rfl, ho90, hb⟩
  have HO91 := Aside0.mk (S_fresh HBW77.out (by repeat (first | (with_reducible first | exact Below.refl _ _ | apply below_alloc | apply pw_below_drewN | apply below_drew1) | exact Below.refl _ _)) ho90 hb)
  clear ho90
  have hbz := below_step (w := w72) (by repeat (first | (with_reducible first | exact Below.refl _ _ | apply below_alloc | apply pw_below_drewN | apply below_drew1) | exact Below.refl _ _)) hb
  have HBW92 := Aside0.mk (below_step HBW77.out hbz)
  clear HBW77
  have HSZ93 := Aside0.mk hbz.size
  have HO94 := Aside0.mk (Kd.S_below HO79.out hbz)
  clear HO79
  have HO95 := Aside0.mk (Kd.R_below HO80.out hbz)
  clear HO80
  have HO96 := Aside0.mk (Kd.R_below HO81.out hbz)
  clear HO81
  have HO97 := Aside0.mk (Kd.S_below HO82.out hbz)
  clear HO82
  have HO98 := Aside0.mk (Kd.S_below HO83.out hbz)
  clear HO83
  have HO99 := Aside0.mk (Kd.R_below HO84.out hbz)
  clear HO84
  have HO100 := Aside0.mk (Kd.R_below HO76.out hbz)
  clear HO76
  obtain ⟨A101, c102, rfl⟩ := Kd.S_slice HO91.out
  clear hb hbz
  -- laws.eqIntSS
  go_wp2_with fail
  go_at_call 20; (with_reducible refine (laws_eqIntSS.calls k104 _ _ (y0) _ _ (y0) true _ ?s0 ?s1 ?s2 ?s3 Kk104.out ⟨rfl⟩).mono ?_); (case s0 => have z_ := (Kd.S_reads' HO91.out); repeat (first | exact z_.2.2 | (with_reducible refine Kd.C_alloc ?_ _) | (with_reducible refine Kd.C_drewN ?_ _) | (with_reducible refine Kd.C_drew ?_))); (case s1 => exact (Kd.S_reads' HO91.out).2.1); (case s2 => have z_ := (Kd.S_reads' HO97.out); repeat (first | exact z_.2.2 | (with_reducible refine Kd.C_alloc ?_ _) | (with_reducible refine Kd.C_drewN ?_ _) | (with_reducible refine Kd.C_drew ?_))); (case s3 => exact (Kd.S_reads' HO97.out).2.1); rintro e w' ⟨rfl, ⟨nd, rfl⟩⟩
  -- laws.toIntSS
  go_wp2_with fail
  go_at_call 17; (with_reducible refine (laws_toIntSS.calls k106 _ _ (l0) (l0) _ ?s0 ?s1 Kk106.out).mono ?_); (case s0 => exact Kd.C_below (by exact HR0.out) (below_step HBW92.out (by repeat (first | (with_reducible first | exact Below.refl _ _ | apply below_alloc | apply pw_below_drewN | apply below_drew1) | exact Below.refl _ _)))); (case s1 => exact hc0); rintro e w105 ⟨v107, rfl, ho108, hb⟩
  have HO109 := Aside0.mk (S_fresh HBW92.out (by repeat (first | (with_reducible first | exact Below.refl _ _ | apply below_alloc | apply pw_below_drewN | apply below_drew1) | exact Below.refl _ _)) ho108 hb)
  clear ho108
  have hbz := below_step (w := w87) (by repeat (first | (with_reducible first | exact Below.refl _ _ | apply below_alloc | apply pw_below_drewN | apply below_drew1) | exact Below.refl _ _)) hb
  have HBW110 := Aside0.mk (below_step HBW92.out hbz)
  clear HBW92
  have HSZ111 := Aside0.mk hbz.size
  have HO112 := Aside0.mk (Kd.S_below HO94.out hbz)
  clear HO94
  have HO113 := Aside0.mk (Kd.R_below HO95.out hbz)
  clear HO95
  have HO114 := Aside0.mk (Kd.R_below HO96.out hbz)
  clear HO96
  have HO115 := Aside0.mk (Kd.S_below HO97.out hbz)
  clear HO97
  have HO116 := Aside0.mk (Kd.S_below HO98.out hbz)
  clear HO98
  have HO117 := Aside0.mk (Kd.R_below HO99.out hbz)
  clear HO99
  have HO118 := Aside0.mk (Kd.R_below HO100.out hbz)
  clear HO100
  have HO119 := Aside0.mk (Kd.S_below HO91.out hbz)
  clear HO91
  obtain ⟨A120, c121, rfl⟩ := Kd.S_slice HO109.out
  clear hb hbz
  -- laws.eqIntSS
  go_wp2_with fail
  go_at_call 20; (with_reducible refine (laws_eqIntSS.calls k123 _ _ (l0) _ _ (l0) true _ ?s0 ?s1 ?s2 ?s3 Kk123.out ⟨rfl⟩).mono ?_); (case s0 => have z_ := (Kd.S_reads' HO116.out); repeat (first | exact z_.2.2 | (with_reducible refine Kd.C_alloc ?_ _) | (with_reducible refine Kd.C_drewN ?_ _) | (with_reducible refine Kd.C_drew ?_))); (case s1 => exact (Kd.S_reads' HO116.out).2.1); (case s2 => have z_ := (Kd.S_reads' HO109.out); repeat (first | exact z_.2.2 | (with_reducible refine Kd.C_alloc ?_ _) | (with_reducible refine Kd.C_drewN ?_ _) | (with_reducible refine Kd.C_drew ?_))); (case s3 => exact (Kd.S_reads' HO109.out).2.1); rintro e w' ⟨rfl, ⟨nd, rfl⟩⟩
  -- laws.toIntS
  go_wp2_with fail
  go_at_call 18; (with_reducible refine (laws_toIntS.calls k125 _ _ (l1) (l1) _ ?s0 ?s1 Kk125.out).mono ?_); (case s0 => exact Kd.C_below (by exact HR1.out) (below_step HBW110.out (by repeat (first | (with_reducible first | exact Below.refl _ _ | apply below_alloc | apply pw_below_drewN | apply below_drew1) | exact Below.refl _ _)))); (case s1 => exact hc1); rintro e w124 ⟨v126, rfl, ho127, hb⟩
  have HO128 := Aside0.mk (R_fresh HBW110.out (by repeat (first | (with_reducible first | exact Below.refl _ _ | apply below_alloc | apply pw_below_drewN | apply below_drew1) | exact Below.refl _ _)) ho127 hb)
  clear ho127
  have hbz := below_step (w := w105) (by repeat (first | (with_reducible first | exact Below.refl _ _ | apply below_alloc | apply pw_below_drewN | apply below_drew1) | exact Below.refl _ _)) hb
  have HBW129 := Aside0.mk (below_step HBW110.out hbz)
  clear HBW110
  have HSZ130 := Aside0.mk hbz.size
  have HO131 := Aside0.mk (Kd.S_below HO112.out hbz)
  clear HO112
  have HO132 := Aside0.mk (Kd.R_below HO113.out hbz)
  clear HO113
  have HO133 := Aside0.mk (Kd.R_below HO114.out hbz)
  clear HO114
  have HO134 := Aside0.mk (Kd.S_below HO115.out hbz)
  clear HO115
  have HO135 := Aside0.mk (Kd.S_below HO116.out hbz)
  clear HO116
  have HO136 := Aside0.mk (Kd.R_below HO117.out hbz)
  clear HO117
  have HO137 := Aside0.mk (Kd.R_below HO118.out hbz)
  clear HO118
  have HO138 := Aside0.mk (Kd.S_below HO119.out hbz)
  clear HO119
  have HO139 := Aside0.mk (Kd.S_below HO109.out hbz)
  clear HO109
  obtain ⟨A140, c141, rfl⟩ := Kd.R_slice HO128.out
  clear hb hbz
  -- laws.eqIntS
  go_wp2_with fail
  go_at_call 21; (with_reducible refine (laws_eqIntS.calls k143 _ _ (l1) _ _ (l1) true _ ?s0 ?s1 ?s2 ?s3 Kk143.out ⟨rfl⟩).mono ?_); (case s0 => have z_ := (Kd.R_reads' HO136.out); repeat (first | exact z_.2.2 | (with_reducible refine Kd.C_alloc ?_ _) | (with_reducible refine Kd.C_drewN ?_ _) | (with_reducible refine Kd.C_drew ?_))); (case s1 => exact (Kd.R_reads' HO136.out).2.1); (case s2 => have z_ := (Kd.R_reads' HO128.out); repeat (first | exact z_.2.2 | (with_reducible refine Kd.C_alloc ?_ _) | (with_reducible refine Kd.C_drewN ?_ _) | (with_reducible refine Kd.C_drew ?_))); (case s3 => exact (Kd.R_reads' HO128.out).2.1); rintro e w' ⟨rfl, ⟨nd, rfl⟩⟩
  -- laws.toIntS
  go_wp2_with fail
  go_at_call 18; (with_reducible refine (laws_toIntS.calls k145 _ _ (l2) (l2) _ ?s0 ?s1 Kk145.out).mono ?_); (case s0 => exact Kd.C_below (by exact HR2.out) (below_step HBW129.out (by repeat (first | (with_reducible first | exact Below.refl _ _ | apply below_alloc | apply pw_below_drewN | apply below_drew1) | exact Below.refl _ _)))); (case s1 => exact hc2); rintro e w144 ⟨v146, rfl, ho147, hb⟩
  have HO148 := Aside0.mk (R_fresh HBW129.out (by repeat (first | (with_reducible first | exact Below.refl _ _ | apply below_alloc | apply pw_below_drewN | apply below_drew1) | exact Below.refl _ _)) ho147 hb)
  clear ho147
  have hbz := below_step (w := w124) (by repeat (first | (with_reducible first | exact Below.refl _ _ | apply below_alloc | apply pw_below_drewN | apply below_drew1) | exact Below.refl _ _)) hb
  have HBW149 := Aside0.mk (below_step HBW129.out hbz)
  clear HBW129
  have HSZ150 := Aside0.mk hbz.size
  have HO151 := Aside0.mk (Kd.S_below HO131.out hbz)
  clear HO131
  have HO152 := Aside0.mk (Kd.R_below HO132.out hbz)
  clear HO132
  have HO153 := Aside0.mk (Kd.R_below HO133.out hbz)
  clear HO133
  have HO154 := Aside0.mk (Kd.S_below HO134.out hbz)
  clear HO134
  have HO155 := Aside0.mk (Kd.S_below HO135.out hbz)
  clear HO135
  have HO156 := Aside0.mk (Kd.R_below HO136.out hbz)
  clear HO136
  have HO157 := Aside0.mk (Kd.R_below HO137.out hbz)
  clear HO137
  have HO158 := Aside0.mk (Kd.S_below HO138.out hbz)
  clear HO138
  have HO159 := Aside0.mk (Kd.S_below HO139.out hbz)
  clear HO139
  have HO160 := Aside0.mk (Kd.R_below HO128.out hbz)
  clear HO128
  obtain ⟨A161, c162, rfl⟩ := Kd.R_slice HO148.out
  clear hb hbz
  -- laws.eqIntS
  go_wp2_with fail
  go_at_call 21; (with_reducible refine (laws_eqIntS.calls k164 _ _ (l2) _ _ (l2) true _ ?s0 ?s1 ?s2 ?s3 Kk164.out ⟨rfl⟩).mono ?_); (case s0 => have z_ := (Kd.R_reads' HO157.out); repeat (first | exact z_.2.2 | (with_reducible refine Kd.C_alloc ?_ _) | (with_reducible refine Kd.C_drewN ?_ _) | (with_reducible refine Kd.C_drew ?_))); (case s1 => exact (Kd.R_reads' HO157.out).2.1); (case s2 => have z_ := (Kd.R_reads' HO148.out); repeat (first | exact z_.2.2 | (with_reducible refine Kd.C_alloc ?_ _) | (with_reducible refine Kd.C_drewN ?_ _) | (with_reducible refine Kd.C_drew ?_))); (case s3 => exact (Kd.R_reads' HO148.out).2.1); rintro e w' ⟨rfl, ⟨nd, rfl⟩⟩
  -- laws.markIntSS
  go_wp2_with fail
  go_at_call 22; (with_reducible refine (markIntSS_c (fun k => w33.heap.size ≤ k ∧ k < w45.heap.size) _ (l0) (1) w _ ?s0 ?s1 ok0 (by omega) (by omega)).mono ?_); (case s0 => exact below_step HBW149.out (by repeat (first | (with_reducible first | exact Below.refl _ _ | apply below_alloc | apply pw_below_drewN | apply below_drew1) | exact Below.refl _ _))); (case s1 => ((with_reducible repeat (first | apply Kd.S_alloc | apply Kd.S_drewN | apply Kd.S_drew)); exact HO155.out)); rintro e w165 ⟨rfl, ho, hb, hkp⟩
  have hkz := (Kept.of_below (w := w144) (by repeat (first | (with_reducible first | exact Below.refl _ _ | apply below_alloc | apply pw_below_drewN | apply below_drew1) | exact Below.refl _ _)) (fun k => w33.heap.size ≤ k ∧ k < w45.heap.size)).then_ hkp (fun _ h_ => .inl h_)
  have HO167 := Aside0.mk (ho)
  clear HO155 ho
  have HO168 := Aside0.mk (Kd.S_kept HO151.out hkz (fun k hk hp => by have := HSZ9.out; have := HSZ18.out; have := HSZ28.out; have := HSZ39.out; have := HSZ51.out; have := HSZ64.out; have := HSZ78.out; have := HSZ93.out; have := HSZ111.out; have := HSZ130.out; have := HSZ150.out; omega))
  clear HO151
  have HO169 := Aside0.mk (Kd.R_kept HO152.out hkz (fun k hk hp => by have := HSZ9.out; have := HSZ18.out; have := HSZ28.out; have := HSZ39.out; have := HSZ51.out; have := HSZ64.out; have := HSZ78.out; have := HSZ93.out; have := HSZ111.out; have := HSZ130.out; have := HSZ150.out; omega))
  clear HO152
  have HO170 := Aside0.mk (Kd.R_kept HO153.out hkz (fun k hk hp => by have := HSZ9.out; have := HSZ18.out; have := HSZ28.out; have := HSZ39.out; have := HSZ51.out; have := HSZ64.out; have := HSZ78.out; have := HSZ93.out; have := HSZ111.out; have := HSZ130.out; have := HSZ150.out; omega))
  clear HO153
  have HO171 := Aside0.mk (Kd.S_kept HO154.out hkz (fun k hk hp => by have := HSZ9.out; have := HSZ18.out; have := HSZ28.out; have := HSZ39.out; have := HSZ51.out; have := HSZ64.out; have := HSZ78.out; have := HSZ93.out; have := HSZ111.out; have := HSZ130.out; have := HSZ150.out; omega))
  clear HO154
  have HO172 := Aside0.mk (Kd.R_kept HO156.out hkz (fun k hk hp => by have := HSZ9.out; have := HSZ18.out; have := HSZ28.out; have := HSZ39.out; have := HSZ51.out; have := HSZ64.out; have := HSZ78.out; have := HSZ93.out; have := HSZ111.out; have := HSZ130.out; have := HSZ150.out; omega))
  clear HO156
  have HO173 := Aside0.mk (Kd.R_kept HO157.out hkz (fun k hk hp => by have := HSZ9.out; have := HSZ18.out; have := HSZ28.out; have := HSZ39.out; have := HSZ51.out; have := HSZ64.out; have := HSZ78.out; have := HSZ93.out; have := HSZ111.out; have := HSZ130.out; have := HSZ150.out; omega))
  clear HO157
  have HO174 := Aside0.mk (Kd.S_kept HO158.out hkz (fun k hk hp => by have := HSZ9.out; have := HSZ18.out; have := HSZ28.out; have := HSZ39.out; have := HSZ51.out; have := HSZ64.out; have := HSZ78.out; have := HSZ93.out; have := HSZ111.out; have := HSZ130.out; have := HSZ150.out; omega))
  clear HO158
  have HO175 := Aside0.mk (Kd.S_kept HO159.out hkz (fun k hk hp => by have := HSZ9.out; have := HSZ18.out; have := HSZ28.out; have := HSZ39.out; have := HSZ51.out; have := HSZ64.out; have := HSZ78.out; have := HSZ93.out; have := HSZ111.out; have := HSZ130.out; have := HSZ150.out; omega))
  clear HO159
  have HO176 := Aside0.mk (Kd.R_kept HO160.out hkz (fun k hk hp => by have := HSZ9.out; have := HSZ18.out; have := HSZ28.out; have := HSZ39.out; have := HSZ51.out; have := HSZ64.out; have := HSZ78.out; have := HSZ93.out; have := HSZ111.out; have := HSZ130.out; have := HSZ150.out; omega))
  clear HO160
  have HO177 := Aside0.mk (Kd.R_kept HO148.out hkz (fun k hk hp => by have := HSZ9.out; have := HSZ18.out; have := HSZ28.out; have := HSZ39.out; have := HSZ51.out; have := HSZ64.out; have := HSZ78.out; have := HSZ93.out; have := HSZ111.out; have := HSZ130.out; have := HSZ150.out; omega))
  clear HO148
  have HBW178 := Aside0.mk hb
  clear HBW149
  have HSZ179 := Aside0.mk hkz.1
  clear hb hkp hkz
  -- laws.markIntS
  go_wp2_with fail
  go_at_call 23; (with_reducible refine (laws_markIntS.calls k181 (fun k => w45.heap.size ≤ k ∧ k < w58.heap.size) _ (l1) ((1 + (totL l0 : Int))) (((1 + (totL l0 : Int)) + (l1.length : Int))) ((mkI ((1 + (totL l0 : Int))) l1.length)) w _ ?s0 ?s1 Kk181.out).mono ?_); (case s0 => exact below_step HBW178.out (by repeat (first | (with_reducible first | exact Below.refl _ _ | apply below_alloc | apply pw_below_drewN | apply below_drew1) | exact Below.refl _ _))); (case s1 => ((with_reducible repeat (first | apply Kd.R_alloc | apply Kd.R_drewN | apply Kd.R_drew)); exact HO172.out)); rintro e w180 ⟨rfl, ho, hb, hkp⟩
  have hkz := (Kept.of_below (w := w165) (by repeat (first | (with_reducible first | exact Below.refl _ _ | apply below_alloc | apply pw_below_drewN | apply below_drew1) | exact Below.refl _ _)) (fun k => w45.heap.size ≤ k ∧ k < w58.heap.size)).then_ hkp (fun _ h_ => .inl h_)
  have HO182 := Aside0.mk (R_tight' rfl ho HO172.out)
  clear HO172 ho
  have HO183 := Aside0.mk (Kd.S_kept HO168.out hkz (fun k hk hp => by have := HSZ9.out; have := HSZ18.out; have := HSZ28.out; have := HSZ39.out; have := HSZ51.out; have := HSZ64.out; have := HSZ78.out; have := HSZ93.out; have := HSZ111.out; have := HSZ130.out; have := HSZ150.out; have := HSZ179.out; omega))
  clear HO168
  have HO184 := Aside0.mk (Kd.R_kept HO169.out hkz (fun k hk hp => by have := HSZ9.out; have := HSZ18.out; have := HSZ28.out; have := HSZ39.out; have := HSZ51.out; have := HSZ64.out; have := HSZ78.out; have := HSZ93.out; have := HSZ111.out; have := HSZ130.out; have := HSZ150.out; have := HSZ179.out; omega))
  clear HO169
  have HO185 := Aside0.mk (Kd.R_kept HO170.out hkz (fun k hk hp => by have := HSZ9.out; have := HSZ18.out; have := HSZ28.out; have := HSZ39.out; have := HSZ51.out; have := HSZ64.out; have := HSZ78.out; have := HSZ93.out; have := HSZ111.out; have := HSZ130.out; have := HSZ150.out; have := HSZ179.out; omega))
  clear HO170
  have HO186 := Aside0.mk (Kd.S_kept HO171.out hkz (fun k hk hp => by have := HSZ9.out; have := HSZ18.out; have := HSZ28.out; have := HSZ39.out; have := HSZ51.out; have := HSZ64.out; have := HSZ78.out; have := HSZ93.out; have := HSZ111.out; have := HSZ130.out; have := HSZ150.out; have := HSZ179.out; omega))
  clear HO171
  have HO187 := Aside0.mk (Kd.R_kept HO173.out hkz (fun k hk hp => by have := HSZ9.out; have := HSZ18.out; have := HSZ28.out; have := HSZ39.out; have := HSZ51.out; have := HSZ64.out; have := HSZ78.out; have := HSZ93.out; have := HSZ111.out; have := HSZ130.out; have := HSZ150.out; have := HSZ179.out; omega))
  clear HO173
  have HO188 := Aside0.mk (Kd.S_kept HO174.out hkz (fun k hk hp => by have := HSZ9.out; have := HSZ18.out; have := HSZ28.out; have := HSZ39.out; have := HSZ51.out; have := HSZ64.out; have := HSZ78.out; have := HSZ93.out; have := HSZ111.out; have := HSZ130.out; have := HSZ150.out; have := HSZ179.out; omega))
  clear HO174
  have HO189 := Aside0.mk (Kd.S_kept HO175.out hkz (fun k hk hp => by have := HSZ9.out; have := HSZ18.out; have := HSZ28.out; have := HSZ39.out; have := HSZ51.out; have := HSZ64.out; have := HSZ78.out; have := HSZ93.out; have := HSZ111.out; have := HSZ130.out; have := HSZ150.out; have := HSZ179.out; omega))
  clear HO175
  have HO190 := Aside0.mk (Kd.R_kept HO176.out hkz (fun k hk hp => by have := HSZ9.out; have := HSZ18.out; have := HSZ28.out; have := HSZ39.out; have := HSZ51.out; have := HSZ64.out; have := HSZ78.out; have := HSZ93.out; have := HSZ111.out; have := HSZ130.out; have := HSZ150.out; have := HSZ179.out; omega))
  clear HO176
  have HO191 := Aside0.mk (Kd.R_kept HO177.out hkz (fun k hk hp => by have := HSZ9.out; have := HSZ18.out; have := HSZ28.out; have := HSZ39.out; have := HSZ51.out; have := HSZ64.out; have := HSZ78.out; have := HSZ93.out; have := HSZ111.out; have := HSZ130.out; have := HSZ150.out; have := HSZ179.out; omega))
  clear HO177
  have HO192 := Aside0.mk (Kd.S_kept HO167.out hkz (fun k hk hp => by have := HSZ9.out; have := HSZ18.out; have := HSZ28.out; have := HSZ39.out; have := HSZ51.out; have := HSZ64.out; have := HSZ78.out; have := HSZ93.out; have := HSZ111.out; have := HSZ130.out; have := HSZ150.out; have := HSZ179.out; omega))
  clear HO167
  have HBW193 := Aside0.mk hb
  clear HBW178
  have HSZ194 := Aside0.mk hkz.1
  clear hb hkp hkz
  -- laws.markIntS
  go_wp2_with fail
  go_at_call 23; (with_reducible refine (laws_markIntS.calls k196 (fun k => w58.heap.size ≤ k ∧ k < w72.heap.size) _ (l2) (((1 + (totL l0 : Int)) + (l1.length : Int))) ((((1 + (totL l0 : Int)) + (l1.length : Int)) + (l2.length : Int))) ((mkI (((1 + (totL l0 : Int)) + (l1.length : Int))) l2.length)) w _ ?s0 ?s1 Kk196.out).mono ?_); (case s0 => exact below_step HBW193.out (by repeat (first | (with_reducible first | exact Below.refl _ _ | apply below_alloc | apply pw_below_drewN | apply below_drew1) | exact Below.refl _ _))); (case s1 => ((with_reducible repeat (first | apply Kd.R_alloc | apply Kd.R_drewN | apply Kd.R_drew)); exact HO187.out)); rintro e w195 ⟨rfl, ho, hb, hkp⟩
  have hkz := (Kept.of_below (w := w180) (by repeat (first | (with_reducible first | exact Below.refl _ _ | apply below_alloc | apply pw_below_drewN | apply below_drew1) | exact Below.refl _ _)) (fun k => w58.heap.size ≤ k ∧ k < w72.heap.size)).then_ hkp (fun _ h_ => .inl h_)
  have HO197 := Aside0.mk (R_tight' rfl ho HO187.out)
  clear HO187 ho
  have HO198 := Aside0.mk (Kd.S_kept HO183.out hkz (fun k hk hp => by have := HSZ9.out; have := HSZ18.out; have := HSZ28.out; have := HSZ39.out; have := HSZ51.out; have := HSZ64.out; have := HSZ78.out; have := HSZ93.out; have := HSZ111.out; have := HSZ130.out; have := HSZ150.out; have := HSZ179.out; have := HSZ194.out; omega))
  clear HO183
  have HO199 := Aside0.mk (Kd.R_kept HO184.out hkz (fun k hk hp => by have := HSZ9.out; have := HSZ18.out; have := HSZ28.out; have := HSZ39.out; have := HSZ51.out; have := HSZ64.out; have := HSZ78.out; have := HSZ93.out; have := HSZ111.out; have := HSZ130.out; have := HSZ150.out; have := HSZ179.out; have := HSZ194.out; omega))
  clear HO184
  have HO200 := Aside0.mk (Kd.R_kept HO185.out hkz (fun k hk hp => by have := HSZ9.out; have := HSZ18.out; have := HSZ28.out; have := HSZ39.out; have := HSZ51.out; have := HSZ64.out; have := HSZ78.out; have := HSZ93.out; have := HSZ111.out; have := HSZ130.out; have := HSZ150.out; have := HSZ179.out; have := HSZ194.out; omega))
  clear HO185
  have HO201 := Aside0.mk (Kd.S_kept HO186.out hkz (fun k hk hp => by have := HSZ9.out; have := HSZ18.out; have := HSZ28.out; have := HSZ39.out; have := HSZ51.out; have := HSZ64.out; have := HSZ78.out; have := HSZ93.out; have := HSZ111.out; have := HSZ130.out; have := HSZ150.out; have := HSZ179.out; have := HSZ194.out; omega))
  clear HO186
  have HO202 := Aside0.mk (Kd.S_kept HO188.out hkz (fun k hk hp => by have := HSZ9.out; have := HSZ18.out; have := HSZ28.out; have := HSZ39.out; have := HSZ51.out; have := HSZ64.out; have := HSZ78.out; have := HSZ93.out; have := HSZ111.out; have := HSZ130.out; have := HSZ150.out; have := HSZ179.out; have := HSZ194.out; omega))
  clear HO188
  have HO203 := Aside0.mk (Kd.S_kept HO189.out hkz (fun k hk hp => by have := HSZ9.out; have := HSZ18.out; have := HSZ28.out; have := HSZ39.out; have := HSZ51.out; have := HSZ64.out; have := HSZ78.out; have := HSZ93.out; have := HSZ111.out; have := HSZ130.out; have := HSZ150.out; have := HSZ179.out; have := HSZ194.out; omega))
  clear HO189
  have HO204 := Aside0.mk (Kd.R_kept HO190.out hkz (fun k hk hp => by have := HSZ9.out; have := HSZ18.out; have := HSZ28.out; have := HSZ39.out; have := HSZ51.out; have := HSZ64.out; have := HSZ78.out; have := HSZ93.out; have := HSZ111.out; have := HSZ130.out; have := HSZ150.out; have := HSZ179.out; have := HSZ194.out; omega))
  clear HO190
  have HO205 := Aside0.mk (Kd.R_kept HO191.out hkz (fun k hk hp => by have := HSZ9.out; have := HSZ18.out; have := HSZ28.out; have := HSZ39.out; have := HSZ51.out; have := HSZ64.out; have := HSZ78.out; have := HSZ93.out; have := HSZ111.out; have := HSZ130.out; have := HSZ150.out; have := HSZ179.out; have := HSZ194.out; omega))
  clear HO191
  have HO206 := Aside0.mk (Kd.S_kept HO192.out hkz (fun k hk hp => by have := HSZ9.out; have := HSZ18.out; have := HSZ28.out; have := HSZ39.out; have := HSZ51.out; have := HSZ64.out; have := HSZ78.out; have := HSZ93.out; have := HSZ111.out; have := HSZ130.out; have := HSZ150.out; have := HSZ179.out; have := HSZ194.out; omega))
  clear HO192
  have HO207 := Aside0.mk (Kd.R_kept HO182.out hkz (fun k hk hp => by have := HSZ9.out; have := HSZ18.out; have := HSZ28.out; have := HSZ39.out; have := HSZ51.out; have := HSZ64.out; have := HSZ78.out; have := HSZ93.out; have := HSZ111.out; have := HSZ130.out; have := HSZ150.out; have := HSZ179.out; have := HSZ194.out; omega))
  clear HO182
  have HBW208 := Aside0.mk hb
  clear HBW193
  have HSZ209 := Aside0.mk hkz.1
  clear hb hkp hkz
  -- laws.eqIntSS
  go_wp2_with fail
  go_at_call 20; (with_reducible refine (laws_eqIntSS.calls k211 _ _ (y0) _ _ (y0) true _ ?s0 ?s1 ?s2 ?s3 Kk211.out ⟨rfl⟩).mono ?_); (case s0 => have z_ := (Kd.S_reads' HO202.out); repeat (first | exact z_.2.2 | (with_reducible refine Kd.C_alloc ?_ _) | (with_reducible refine Kd.C_drewN ?_ _) | (with_reducible refine Kd.C_drew ?_))); (case s1 => exact (Kd.S_reads' HO202.out).2.1); (case s2 => have z_ := (Kd.S_reads' HO201.out); repeat (first | exact z_.2.2 | (with_reducible refine Kd.C_alloc ?_ _) | (with_reducible refine Kd.C_drewN ?_ _) | (with_reducible refine Kd.C_drew ?_))); (case s3 => exact (Kd.S_reads' HO201.out).2.1); rintro e w' ⟨rfl, ⟨nd, rfl⟩⟩
  -- laws.markIntSS
  go_wp2_with fail
  go_at_call 22; (with_reducible refine (markIntSS_c (fun k => w72.heap.size ≤ k ∧ k < w87.heap.size) _ (y0) (1) w _ ?s0 ?s1 oy0 (by omega) (by omega)).mono ?_); (case s0 => exact below_step HBW208.out (by repeat (first | (with_reducible first | exact Below.refl _ _ | apply below_alloc | apply pw_below_drewN | apply below_drew1) | exact Below.refl _ _))); (case s1 => ((with_reducible repeat (first | apply Kd.S_alloc | apply Kd.S_drewN | apply Kd.S_drew)); exact HO202.out)); rintro e w212 ⟨rfl, ho, hb, hkp⟩
  have hkz := (Kept.of_below (w := w195) (by repeat (first | (with_reducible first | exact Below.refl _ _ | apply below_alloc | apply pw_below_drewN | apply below_drew1) | exact Below.refl _ _)) (fun k => w72.heap.size ≤ k ∧ k < w87.heap.size)).then_ hkp (fun _ h_ => .inl h_)
  have HO214 := Aside0.mk (ho)
  clear HO202 ho
  have HO215 := Aside0.mk (Kd.S_kept HO198.out hkz (fun k hk hp => by have := HSZ9.out; have := HSZ18.out; have := HSZ28.out; have := HSZ39.out; have := HSZ51.out; have := HSZ64.out; have := HSZ78.out; have := HSZ93.out; have := HSZ111.out; have := HSZ130.out; have := HSZ150.out; have := HSZ179.out; have := HSZ194.out; have := HSZ209.out; omega))
  clear HO198
  have HO216 := Aside0.mk (Kd.R_kept HO199.out hkz (fun k hk hp => by have := HSZ9.out; have := HSZ18.out; have := HSZ28.out; have := HSZ39.out; have := HSZ51.out; have := HSZ64.out; have := HSZ78.out; have := HSZ93.out; have := HSZ111.out; have := HSZ130.out; have := HSZ150.out; have := HSZ179.out; have := HSZ194.out; have := HSZ209.out; omega))
  clear HO199
  have HO217 := Aside0.mk (Kd.R_kept HO200.out hkz (fun k hk hp => by have := HSZ9.out; have := HSZ18.out; have := HSZ28.out; have := HSZ39.out; have := HSZ51.out; have := HSZ64.out; have := HSZ78.out; have := HSZ93.out; have := HSZ111.out; have := HSZ130.out; have := HSZ150.out; have := HSZ179.out; have := HSZ194.out; have := HSZ209.out; omega))
  clear HO200
  have HO218 := Aside0.mk (Kd.S_kept HO201.out hkz (fun k hk hp => by have := HSZ9.out; have := HSZ18.out; have := HSZ28.out; have := HSZ39.out; have := HSZ51.out; have := HSZ64.out; have := HSZ78.out; have := HSZ93.out; have := HSZ111.out; have := HSZ130.out; have := HSZ150.out; have := HSZ179.out; have := HSZ194.out; have := HSZ209.out; omega))
  clear HO201
  have HO219 := Aside0.mk (Kd.S_kept HO203.out hkz (fun k hk hp => by have := HSZ9.out; have := HSZ18.out; have := HSZ28.out; have := HSZ39.out; have := HSZ51.out; have := HSZ64.out; have := HSZ78.out; have := HSZ93.out; have := HSZ111.out; have := HSZ130.out; have := HSZ150.out; have := HSZ179.out; have := HSZ194.out; have := HSZ209.out; omega))
  clear HO203
  have HO220 := Aside0.mk (Kd.R_kept HO204.out hkz (fun k hk hp => by have := HSZ9.out; have := HSZ18.out; have := HSZ28.out; have := HSZ39.out; have := HSZ51.out; have := HSZ64.out; have := HSZ78.out; have := HSZ93.out; have := HSZ111.out; have := HSZ130.out; have := HSZ150.out; have := HSZ179.out; have := HSZ194.out; have := HSZ209.out; omega))
  clear HO204
  have HO221 := Aside0.mk (Kd.R_kept HO205.out hkz (fun k hk hp => by have := HSZ9.out; have := HSZ18.out; have := HSZ28.out; have := HSZ39.out; have := HSZ51.out; have := HSZ64.out; have := HSZ78.out; have := HSZ93.out; have := HSZ111.out; have := HSZ130.out; have := HSZ150.out; have := HSZ179.out; have := HSZ194.out; have := HSZ209.out; omega))
  clear HO205
  have HO222 := Aside0.mk (Kd.S_kept HO206.out hkz (fun k hk hp => by have := HSZ9.out; have := HSZ18.out; have := HSZ28.out; have := HSZ39.out; have := HSZ51.out; have := HSZ64.out; have := HSZ78.out; have := HSZ93.out; have := HSZ111.out; have := HSZ130.out; have := HSZ150.out; have := HSZ179.out; have := HSZ194.out; have := HSZ209.out; omega))
  clear HO206
  have HO223 := Aside0.mk (Kd.R_kept HO207.out hkz (fun k hk hp => by have := HSZ9.out; have := HSZ18.out; have := HSZ28.out; have := HSZ39.out; have := HSZ51.out; have := HSZ64.out; have := HSZ78.out; have := HSZ93.out; have := HSZ111.out; have := HSZ130.out; have := HSZ150.out; have := HSZ179.out; have := HSZ194.out; have := HSZ209.out; omega))
  clear HO207
  have HO224 := Aside0.mk (Kd.R_kept HO197.out hkz (fun k hk hp => by have := HSZ9.out; have := HSZ18.out; have := HSZ28.out; have := HSZ39.out; have := HSZ51.out; have := HSZ64.out; have := HSZ78.out; have := HSZ93.out; have := HSZ111.out; have := HSZ130.out; have := HSZ150.out; have := HSZ179.out; have := HSZ194.out; have := HSZ209.out; omega))
  clear HO197
  have HBW225 := Aside0.mk hb
  clear HBW208
  have HSZ226 := Aside0.mk hkz.1
  clear hb hkp hkz
  -- laws.heldIntSS
  go_wp2_with fail
  go_at_call 24; (refine (calls_cast ?ce (laws_heldIntSS.calls k228 A101 c102 ((mkII (1) y0)) (1) (1 + (totL y0 : Int)) _ ?s0 ?s1 Kk228.out ⟨by have := (show (0 : Int) ≤ 1 from by omega); omega⟩)).mono ?_); (case ce => simp only [mkI_length, mkII_length]); (case s0 => have z_ := (Kd.S_reads' HO214.out); repeat (first | exact z_.2.2 | (with_reducible refine Kd.C_alloc ?_ _) | (with_reducible refine Kd.C_drewN ?_ _) | (with_reducible refine Kd.C_drew ?_))); (case s1 => have z_ := (Kd.S_reads' HO214.out).2.1; simp only [mkI_length, mkII_length]; exact z_); rintro e w' ⟨rfl, ⟨nd, rfl⟩⟩
  -- laws.toIntSS
  go_wp2_with fail
  go_at_call 17; (with_reducible refine (laws_toIntSS.calls k230 _ _ (l0) (l0) _ ?s0 ?s1 Kk230.out).mono ?_); (case s0 => exact Kd.C_below (by exact HR0.out) (below_step HBW225.out (by repeat (first | (with_reducible first | exact Below.refl _ _ | apply below_alloc | apply pw_below_drewN | apply below_drew1) | exact Below.refl _ _)))); (case s1 => exact hc0); rintro e w229 ⟨v231, rfl, ho232, hb⟩
  have HO233 := Aside0.mk (S_fresh HBW225.out (by repeat (first | (with_reducible first | exact Below.refl _ _ | apply below_alloc | apply pw_below_drewN | apply below_drew1) | exact Below.refl _ _)) ho232 hb)
  clear ho232
  have hbz := below_step (w := w212) (by repeat (first | (with_reducible first | exact Below.refl _ _ | apply below_alloc | apply pw_below_drewN | apply below_drew1) | exact Below.refl _ _)) hb
  have HBW234 := Aside0.mk (below_step HBW225.out hbz)
  clear HBW225
  have HSZ235 := Aside0.mk hbz.size
  have HO236 := Aside0.mk (Kd.S_below HO215.out hbz)
  clear HO215
  have HO237 := Aside0.mk (Kd.R_below HO216.out hbz)
  clear HO216
  have HO238 := Aside0.mk (Kd.R_below HO217.out hbz)
  clear HO217
  have HO239 := Aside0.mk (Kd.S_below HO218.out hbz)
  clear HO218
  have HO240 := Aside0.mk (Kd.S_below HO219.out hbz)
  clear HO219
  have HO241 := Aside0.mk (Kd.R_below HO220.out hbz)
  clear HO220
  have HO242 := Aside0.mk (Kd.R_below HO221.out hbz)
  clear HO221
  have HO243 := Aside0.mk (Kd.S_below HO222.out hbz)
  clear HO222
  have HO244 := Aside0.mk (Kd.R_below HO223.out hbz)
  clear HO223
  have HO245 := Aside0.mk (Kd.R_below HO224.out hbz)
  clear HO224
  have HO246 := Aside0.mk (Kd.S_below HO214.out hbz)
  clear HO214
  obtain ⟨A247, c248, rfl⟩ := Kd.S_slice HO233.out
  clear hb hbz
  -- laws.toIntS
  go_wp2_with fail
  go_at_call 18; (with_reducible refine (laws_toIntS.calls k250 _ _ (l1) (l1) _ ?s0 ?s1 Kk250.out).mono ?_); (case s0 => exact Kd.C_below (by exact HR1.out) (below_step HBW234.out (by repeat (first | (with_reducible first | exact Below.refl _ _ | apply below_alloc | apply pw_below_drewN | apply below_drew1) | exact Below.refl _ _)))); (case s1 => exact hc1); rintro e w249 ⟨v251, rfl, ho252, hb⟩
  have HO253 := Aside0.mk (R_fresh HBW234.out (by repeat (first | (with_reducible first | exact Below.refl _ _ | apply below_alloc | apply pw_below_drewN | apply below_drew1) | exact Below.refl _ _)) ho252 hb)
  clear ho252
  have hbz := below_step (w := w229) (by repeat (first | (with_reducible first | exact Below.refl _ _ | apply below_alloc | apply pw_below_drewN | apply below_drew1) | exact Below.refl _ _)) hb
  have HBW254 := Aside0.mk (below_step HBW234.out hbz)
  clear HBW234
  have HSZ255 := Aside0.mk hbz.size
  have HO256 := Aside0.mk (Kd.S_below HO236.out hbz)
  clear HO236
  have HO257 := Aside0.mk (Kd.R_below HO237.out hbz)
  clear HO237
  have HO258 := Aside0.mk (Kd.R_below HO238.out hbz)
  clear HO238
  have HO259 := Aside0.mk (Kd.S_below HO239.out hbz)
  clear HO239
  have HO260 := Aside0.mk (Kd.S_below HO240.out hbz)
  clear HO240
  have HO261 := Aside0.mk (Kd.R_below HO241.out hbz)
  clear HO241
  have HO262 := Aside0.mk (Kd.R_below HO242.out hbz)
  clear HO242
  have HO263 := Aside0.mk (Kd.S_below HO243.out hbz)
  clear HO243
  have HO264 := Aside0.mk (Kd.R_below HO244.out hbz)
  clear HO244
  have HO265 := Aside0.mk (Kd.R_below HO245.out hbz)
  clear HO245
  have HO266 := Aside0.mk (Kd.S_below HO246.out hbz)
  clear HO246
  have HO267 := Aside0.mk (Kd.S_below HO233.out hbz)
  clear HO233
  obtain ⟨A268, c269, rfl⟩ := Kd.R_slice HO253.out
  clear hb hbz
  -- laws.toIntS
  go_wp2_with fail
  go_at_call 18; (with_reducible refine (laws_toIntS.calls k271 _ _ (l2) (l2) _ ?s0 ?s1 Kk271.out).mono ?_); (case s0 => exact Kd.C_below (by exact HR2.out) (below_step HBW254.out (by repeat (first | (with_reducible first | exact Below.refl _ _ | apply below_alloc | apply pw_below_drewN | apply below_drew1) | exact Below.refl _ _)))); (case s1 => exact hc2); rintro e w270 ⟨v272, rfl, ho273, hb⟩
  have HO274 := Aside0.mk (R_fresh HBW254.out (by repeat (first | (with_reducible first | exact Below.refl _ _ | apply below_alloc | apply pw_below_drewN | apply below_drew1) | exact Below.refl _ _)) ho273 hb)
  clear ho273
  have hbz := below_step (w := w249) (by repeat (first | (with_reducible first | exact Below.refl _ _ | apply below_alloc | apply pw_below_drewN | apply below_drew1) | exact Below.refl _ _)) hb
  have HBW275 := Aside0.mk (below_step HBW254.out hbz)
  clear HBW254
  have HSZ276 := Aside0.mk hbz.size
  have HO277 := Aside0.mk (Kd.S_below HO256.out hbz)
  clear HO256
  have HO278 := Aside0.mk (Kd.R_below HO257.out hbz)
  clear HO257
  have HO279 := Aside0.mk (Kd.R_below HO258.out hbz)
  clear HO258
  have HO280 := Aside0.mk (Kd.S_below HO259.out hbz)
  clear HO259
  have HO281 := Aside0.mk (Kd.S_below HO260.out hbz)
  clear HO260
  have HO282 := Aside0.mk (Kd.R_below HO261.out hbz)
  clear HO261
  have HO283 := Aside0.mk (Kd.R_below HO262.out hbz)
  clear HO262
  have HO284 := Aside0.mk (Kd.S_below HO263.out hbz)
  clear HO263
  have HO285 := Aside0.mk (Kd.R_below HO264.out hbz)
  clear HO264
  have HO286 := Aside0.mk (Kd.R_below HO265.out hbz)
  clear HO265
  have HO287 := Aside0.mk (Kd.S_below HO266.out hbz)
  clear HO266
  have HO288 := Aside0.mk (Kd.S_below HO267.out hbz)
  clear HO267
  have HO289 := Aside0.mk (Kd.R_below HO253.out hbz)
  clear HO253
  obtain ⟨A290, c291, rfl⟩ := Kd.R_slice HO274.out
  clear hb hbz
  -- impl.WithoutOwners
  go_wp2_with fail
  go_at_call 19; (with_reducible refine (impl_WithoutOwners.calls k293 _ _ (l0) _ _ (l1) _ _ (l2) (y0) _ ?s0 ?s1 ?s2 ?s3 ?s4 ?s5 Kk293.out).mono ?_); (case s0 => have z_ := (Kd.S_reads' HO288.out); repeat (first | exact z_.2.2 | (with_reducible refine Kd.C_alloc ?_ _) | (with_reducible refine Kd.C_drewN ?_ _) | (with_reducible refine Kd.C_drew ?_))); (case s1 => exact (Kd.S_reads' HO288.out).2.1); (case s2 => have z_ := (Kd.R_reads' HO289.out); repeat (first | exact z_.2.2 | (with_reducible refine Kd.C_alloc ?_ _) | (with_reducible refine Kd.C_drewN ?_ _) | (with_reducible refine Kd.C_drew ?_))); (case s3 => exact (Kd.R_reads' HO289.out).2.1); (case s4 => have z_ := (Kd.R_reads' HO274.out); repeat (first | exact z_.2.2 | (with_reducible refine Kd.C_alloc ?_ _) | (with_reducible refine Kd.C_drewN ?_ _) | (with_reducible refine Kd.C_drew ?_))); (case s5 => exact (Kd.R_reads' HO274.out).2.1); rintro e w292 ⟨v294, rfl, ho295, hb⟩
  have HO296 := Aside0.mk (S_fresh HBW275.out (by repeat (first | (with_reducible first | exact Below.refl _ _ | apply below_alloc | apply pw_below_drewN | apply below_drew1) | exact Below.refl _ _)) ho295 hb)
  clear ho295
  have hbz := below_step (w := w270) (by repeat (first | (with_reducible first | exact Below.refl _ _ | apply below_alloc | apply pw_below_drewN | apply below_drew1) | exact Below.refl _ _)) hb
  have HBW297 := Aside0.mk (below_step HBW275.out hbz)
  clear HBW275
  have HSZ298 := Aside0.mk hbz.size
  have HO299 := Aside0.mk (Kd.S_below HO277.out hbz)
  clear HO277
  have HO300 := Aside0.mk (Kd.R_below HO278.out hbz)
  clear HO278
  have HO301 := Aside0.mk (Kd.R_below HO279.out hbz)
  clear HO279
  have HO302 := Aside0.mk (Kd.S_below HO280.out hbz)
  clear HO280
  have HO303 := Aside0.mk (Kd.S_below HO281.out hbz)
  clear HO281
  have HO304 := Aside0.mk (Kd.R_below HO282.out hbz)
  clear HO282
  have HO305 := Aside0.mk (Kd.R_below HO283.out hbz)
  clear HO283
  have HO306 := Aside0.mk (Kd.S_below HO284.out hbz)
  clear HO284
  have HO307 := Aside0.mk (Kd.R_below HO285.out hbz)
  clear HO285
  have HO308 := Aside0.mk (Kd.R_below HO286.out hbz)
  clear HO286
  have HO309 := Aside0.mk (Kd.S_below HO287.out hbz)
  clear HO287
  have HO310 := Aside0.mk (Kd.S_below HO288.out hbz)
  clear HO288
  have HO311 := Aside0.mk (Kd.R_below HO289.out hbz)
  clear HO289
  have HO312 := Aside0.mk (Kd.R_below HO274.out hbz)
  clear HO274
  obtain ⟨A313, c314, rfl⟩ := Kd.S_slice HO296.out
  clear hb hbz
  -- laws.eqIntSS
  go_wp2_with fail
  go_at_call 20; (with_reducible refine (laws_eqIntSS.calls k316 _ _ (y0) _ _ (y0) true _ ?s0 ?s1 ?s2 ?s3 Kk316.out ⟨rfl⟩).mono ?_); (case s0 => have z_ := (Kd.S_reads' HO296.out); repeat (first | exact z_.2.2 | (with_reducible refine Kd.C_alloc ?_ _) | (with_reducible refine Kd.C_drewN ?_ _) | (with_reducible refine Kd.C_drew ?_))); (case s1 => exact (Kd.S_reads' HO296.out).2.1); (case s2 => have z_ := (Kd.S_reads' HO302.out); repeat (first | exact z_.2.2 | (with_reducible refine Kd.C_alloc ?_ _) | (with_reducible refine Kd.C_drewN ?_ _) | (with_reducible refine Kd.C_drew ?_))); (case s3 => exact (Kd.S_reads' HO302.out).2.1); rintro e w' ⟨rfl, ⟨nd, rfl⟩⟩
  -- laws.heldIntSS
  go_wp2_with fail
  go_at_call 24; (refine (calls_cast ?ce (laws_heldIntSS.calls k318 A101 c102 ((mkII (1) y0)) (1) (1 + (totL y0 : Int)) _ ?s0 ?s1 Kk318.out ⟨by have := (show (0 : Int) ≤ 1 from by omega); omega⟩)).mono ?_); (case ce => simp only [mkI_length, mkII_length]); (case s0 => have z_ := (Kd.S_reads' HO309.out); repeat (first | exact z_.2.2 | (with_reducible refine Kd.C_alloc ?_ _) | (with_reducible refine Kd.C_drewN ?_ _) | (with_reducible refine Kd.C_drew ?_))); (case s1 => have z_ := (Kd.S_reads' HO309.out).2.1; simp only [mkI_length, mkII_length]; exact z_); rintro e w' ⟨rfl, ⟨nd, rfl⟩⟩
  go_wp2
  go_ret
  exact ⟨rfl, below_step HBW297.out (by repeat (first | (with_reducible first | exact Below.refl _ _ | apply below_alloc | apply pw_below_drewN | apply below_drew1) | exact Below.refl _ _))⟩
end Go.Proofs.Ytakembkodcjbjaa.Pure
