/- Without each of the fewest liars the rest agrees, no smaller set is enough, and a checked owner cannot lie unseen: for all drawn inputs. -/
import Derived.Test.YtiipcophnnfnoaaRFnLiars
import Derived.Test.YtiipcophnnfnoaaVFnLiars
namespace Go.Proofs.Ytiipcophnnfnoaa.Pure
open Go.RowKit Go.Proofs.Ytiipcophnnfnoaa.Base Go.Proofs.Ytiipcophnnfnoaa.PFnLiars Go.Proofs.YtiipcophnnfnoaaW.PrintWords Go.Proofs.YtiipcophnnfnoaaW.PrintLast
set_option linter.unusedVariables false
set_option linter.unusedSimpArgs false
/-! ### draw -/
/-- A cursor that a draw may go on with: it stands within the bytes. -/
def cur (b : List Int) (i : Int) : Prop := b.length ≤ 9223372036854775807 ∧ 0 ≤ i ∧ i ≤ (b.length : Int)
theorem l1New_l0 (b : List Int) (hb : b.length ≤ 9223372036854775806) : ∀ (d j : Nat) (h : Int), j + d = b.length → ∃ h', Ev (fun k => spec_l1New.l0 k b h (j : Int)) (b, 0, h') := by
 intro d
 induction d with
 | zero =>
  intro j h e
  exact ⟨h, (by refine Ev.step (fun k => by rw [spec_l1New.l0]) ?_; exact evNeg (by omega) (Ev.now _))⟩
 | succ d ih =>
  intro j h e
  by_cases hj : (j : Int) < 4000
  ·obtain ⟨h', he⟩ := ih (j + 1) (Go.bits .and .i64 (wrap64 ((wrap64 ((wrap64 (h * 137)) + (wrap64 (rd b (j : Int))))) + 11)) 1073741823) (by omega)
   refine ⟨h', ?_⟩
   refine Ev.step (fun k => by rw [spec_l1New.l0]) ?_
   refine evPos (by omega) (evPos hj (evPos (by omega) ?_))
   rw [wsucc (by omega)]
   exact he
  ·exact ⟨h, Ev.step (fun k => by rw [spec_l1New.l0]) (evPos (by omega) (evNeg hj (Ev.now _)))⟩
theorem l1New_ev (b : List Int) (hb : b.length ≤ 9223372036854775806) : ∃ h, Ev (fun k => spec_l1New.f k b) (b, 0, h) ∧ cur b 0 := by
 obtain ⟨h, he⟩ := l1New_l0 b hb b.length 0 (wrap64 (193017 + (b.length : Int))) (by omega)
 exact ⟨h, he, by omega, by omega, by omega⟩
theorem l1Byte_eq (b : List Int) (i h : Int) (hc : cur b i) : ∃ v i' h', spec_l1Byte.f b i h = some (v, i', h') ∧ cur b i' ∧ 0 ≤ v ∧ v ≤ 255 := by
 obtain ⟨h1, h2, h3⟩ := hc
 unfold spec_l1Byte.f
 by_cases hi : i < (b.length : Int)
 ·rw [if_pos hi, if_pos h2]
  have ha := and255 (wrap64 ((Go.bits .and .i64 (Go.bits .xor .i64 ((wrap64 ((wrap64 (h * 6364136223846793005)) + 1442695040888963407)) / 8589934592) ((wrap64 ((wrap64 (h * 6364136223846793005)) + 1442695040888963407)) / 140737488355328)) 255) + (wrap64 (rd b i))))
  refine ⟨_, _, _, rfl, ⟨h1, ?_, ?_⟩, ha.1, ha.2⟩
  ·rw [w64 (by omega) (by omega)]
   omega
  ·rw [w64 (by omega) (by omega)]
   omega
 ·rw [if_neg hi]
  have ha := and255 (Go.bits .xor .i64 ((wrap64 ((wrap64 (h * 6364136223846793005)) + 1442695040888963407)) / 8589934592) ((wrap64 ((wrap64 (h * 6364136223846793005)) + 1442695040888963407)) / 140737488355328))
  exact ⟨_, _, _, rfl, ⟨h1, h2, h3⟩, ha.1, ha.2⟩
theorem l1Below_eq (b : List Int) (i h n : Int) (hc : cur b i) (hn : 1 ≤ n) : ∃ v i' h', spec_l1Below.f b i h n = some (v, i', h') ∧ cur b i' ∧ 0 ≤ v ∧ v < n := by
 unfold spec_l1Below.f
 rw [if_neg (by omega)]
 obtain ⟨v1, i1, h1, e1, c1, p1, q1⟩ := l1Byte_eq b i h hc
 by_cases hs : n ≤ 256
 ·rw [if_pos hs, e1]
  have hr := tmod_range hn p1
  exact ⟨_, _, _, by rw [Option.bind_some, if_neg (by omega)], c1, hr.1, hr.2⟩
 ·obtain ⟨v2, i2, h2, e2, c2, p2, q2⟩ := l1Byte_eq b i1 h1 c1
  obtain ⟨v3, i3, h3, e3, c3, p3, q3⟩ := l1Byte_eq b i2 h2 c2
  rw [if_neg hs, e1, Option.bind_some, e2, Option.bind_some, e3, Option.bind_some, if_neg (by omega)]
  dsimp only
  rw [w64 (n := v1 * 65536) (by omega) (by omega), w64 (n := v2 * 256) (by omega) (by omega), w64 (n := v1 * 65536 + v2 * 256) (by omega) (by omega), w64 (n := v1 * 65536 + v2 * 256 + v3) (by omega) (by omega)]
  have hr := tmod_range (a := v1 * 65536 + v2 * 256 + v3) hn (by omega)
  exact ⟨_, _, _, rfl, c3, hr.1, hr.2⟩
theorem l1Below_zero (b : List Int) (i h n : Int) (hn : n ≤ 0) : spec_l1Below.f b i h n = some (0, i, h) := by
 unfold spec_l1Below.f
 rw [if_pos hn]
theorem l1Int_eq (b : List Int) (i h : Int) (l : List Int) (hc : cur b i) (hl : l ≠ []) : ∃ v i' h', spec_l1Int.f b i h l = some (v, i', h') ∧ cur b i' ∧ v ∈ l := by
 have hp : 0 < l.length := List.length_pos_iff.2 hl
 obtain ⟨v, i', h', e, c, p, q⟩ := l1Below_eq b i h (l.length : Int) hc (by omega)
 unfold spec_l1Int.f
 rw [e, Option.bind_some, if_pos p, if_pos q]
 refine ⟨_, _, _, rfl, c, ?_⟩
 have hv : v.toNat < l.length := by omega
 have : rd l v = l[v.toNat] := by simp [rd, hv]
 rw [this]
 exact List.getElem_mem hv
theorem l1Once_eq (b : List Int) (i h n : Int) (hc : cur b i) (hn : 1 ≤ n) : ∃ v i' h', spec_l1Once.f b i h n = some (v, i', h') ∧ cur b i' := by
 obtain ⟨v, i', h', e, c, _⟩ := l1Below_eq b i h n hc hn
 unfold spec_l1Once.f
 rw [e]
 exact ⟨_, _, _, rfl, c⟩
theorem big_eq (l : List Int) : laws_big.f l = some (decide ((l.length : Int) > 1048576)) := rfl
/-! ### small -/
/-! ### drawliars -/
theorem l5Bits_l1 (b : List Int) (x1 : Int) (N : Nat) (hN : N ≤ 100) (x7 : List (List Int)) (x8 : Int) (hx : x7.length < 1000) (Q : List (List Int) × Int × Int → Prop) : ∀ (d : Nat) (x9 : List Int) (i h : Int), cur b i → x9.length + d = N →
  (∀ (row : List Int) (i' h' : Int), row.length = N → cur b i' → ∃ r, Ev (fun k => spec_l5Bits.l0 k x1 (N : Int) (x7 ++ [row]) (wrap64 (x8 + 1)) b i' h') r ∧ Q r) → ∃ r, Ev (fun k => spec_l5Bits.l1 k x1 (N : Int) x7 x8 x9 (x9.length : Int) b i h) r ∧ Q r := by
 intro d
 induction d with
 | zero =>
  intro x9 i h hc hl hk
  obtain ⟨r, hr, hq⟩ := hk x9 i h (by omega) hc
  refine ⟨r, ?_, hq⟩
  refine Ev.step (fun k => by rw [spec_l5Bits.l1]) ?_
  exact evNeg (by omega) (evPos (by omega) hr)
 | succ d ih =>
  intro x9 i h hc hl hk
  obtain ⟨v, i1, h1, e1, c1, p1, q1⟩ := l1Below_eq b i h 2 hc (by omega)
  obtain ⟨r, hr, hq⟩ := ih (x9 ++ [v]) i1 h1 c1 (by simp; omega) hk
  refine ⟨r, ?_, hq⟩
  refine Ev.step (fun k => by rw [spec_l5Bits.l1]) ?_
  refine evPos (by omega) (evSome e1 (evPos (by omega) ?_))
  rw [wsucc (by omega)]
  simpa using hr
theorem l5Bits_l0 (b : List Int) (M N : Nat) (hM : M ≤ 100) (hN : N ≤ 100) : ∀ (d : Nat) (x7 : List (List Int)) (i h : Int), cur b i → x7.length + d = M → (∀ r ∈ x7, r.length = N) →
  ∃ r, Ev (fun k => spec_l5Bits.l0 k (M : Int) (N : Int) x7 (x7.length : Int) b i h) r ∧ (cur b r.2.1 ∧ r.1.length = M ∧ ∀ x ∈ r.1, x.length = N) := by
 intro d
 induction d with
 | zero =>
  intro x7 i h hc hl hr
  refine ⟨(x7, i, h), Ev.step (fun k => by rw [spec_l5Bits.l0]) ?_, hc, by omega, hr⟩
  exact evNeg (by omega) (Ev.now _)
 | succ d ih =>
  intro x7 i h hc hl hr
  obtain ⟨r, h1, h2⟩ := l5Bits_l1 b (M : Int) N hN x7 (x7.length : Int) (by omega) (fun r => cur b r.2.1 ∧ r.1.length = M ∧ ∀ x ∈ r.1, x.length = N) N [] i h hc (by simp) (fun row i' h' hrow hc' => by
   have := ih (x7 ++ [row]) i' h' hc' (by simp; omega) (fun x hx => by
    rcases List.mem_append.1 hx with hx | hx
    ·exact hr x hx
    ·simp at hx; rw [hx]; exact hrow)
   rw [wsucc (by omega)]
   simpa using this)
  refine ⟨r, Ev.step (fun k => by rw [spec_l5Bits.l0]) ?_, h2⟩
  exact evPos (by omega) h1
theorem dot_l0 (a c : List Int) (ha : a.length ≤ 1048576) : ∀ (d i : Nat) (n : Int), i + d = a.length → ∃ r, Ev (fun k => spec_DotOf.l0 k a c n (i : Int)) r := by
 intro d
 induction d with
 | zero =>
  intro i n h
  exact ⟨n, Ev.step (fun k => by rw [spec_DotOf.l0]) (evNeg (by omega) (Ev.now _))⟩
 | succ d ih =>
  intro i n h
  by_cases hc : (i : Int) < (c.length : Int)
  ·obtain ⟨r, hr⟩ := ih (i + 1) (wrap64 (n + wrap64 (rd a (i : Int) * rd c (i : Int)))) (by omega)
   refine ⟨r, Ev.step (fun k => by rw [spec_DotOf.l0]) ?_⟩
   refine evPos (by omega) (evPos hc (evPos (by omega) ?_))
   rw [wsucc (by omega)]
   exact hr
  ·exact ⟨n, Ev.step (fun k => by rw [spec_DotOf.l0]) (evPos (by omega) (evNeg hc (Ev.now _)))⟩
theorem dot_ev (a c : List Int) (ha : a.length ≤ 1048576) : ∃ r, Ev (fun k => spec_DotOf.f k a c) r := by
 obtain ⟨r, h⟩ := dot_l0 a c ha a.length 0 0 (by omega)
 exact ⟨r, by simpa [spec_DotOf.f] using h⟩
theorem l6Draw_l1 (b : List Int) (m : List (List Int)) (x7 : List Int) (hm : m.length ≤ 100) (hr : ∀ r ∈ m, r.length ≤ 100) (i h : Int) : ∀ (d : Nat) (x9 : List Int), x9.length + d = m.length →
  ∃ v, Ev (fun k => spec_l6Draw.l1 k m x7 x9 (x9.length : Int) b i h) (m, v, i, h) ∧ v.length = m.length := by
 intro d
 induction d with
 | zero =>
  intro x9 hl
  exact ⟨x9, Ev.step (fun k => by rw [spec_l6Draw.l1]) (evNeg (by omega) (Ev.now _)), by omega⟩
 | succ d ih =>
  intro x9 hl
  have hlt : x9.length < m.length := by omega
  have hrow : (rd_L1 m (x9.length : Int)).length ≤ 1048576 := by
   have : rd_L1 m (x9.length : Int) = m[x9.length] := by rw [rd_L1, getD_at _ _ _ hlt]
   rw [this]
   exact Nat.le_trans (hr _ (List.getElem_mem hlt)) (by omega)
  obtain ⟨t, ht⟩ := dot_ev (rd_L1 m (x9.length : Int)) x7 hrow
  obtain ⟨v, hv, hvl⟩ := ih (x9 ++ [t]) (by simp; omega)
  refine ⟨v, Ev.step (fun k => by rw [spec_l6Draw.l1]) ?_, hvl⟩
  refine evPos (by omega) (evPos (by omega) (Ev.bind ht (evPos (by omega) ?_)))
  rw [wsucc (by omega)]
  simpa using hv
theorem l6Draw_l0 (b : List Int) (N : Nat) (hN : N ≤ 100) (m : List (List Int)) (hm : m.length ≤ 100) (hr : ∀ r ∈ m, r.length ≤ 100) : ∀ (d : Nat) (x7 : List Int) (i h : Int), cur b i → x7.length + d = N →
  ∃ v i' h', Ev (fun k => spec_l6Draw.l0 k (N : Int) m x7 (x7.length : Int) b i h) (m, v, i', h') ∧ cur b i' ∧ v.length = m.length := by
 intro d
 induction d with
 | zero =>
  intro x7 i h hc hl
  obtain ⟨v, hv, hvl⟩ := l6Draw_l1 b m x7 hm hr i h m.length [] (by simp)
  refine ⟨v, i, h, Ev.step (fun k => by rw [spec_l6Draw.l0]) ?_, hc, hvl⟩
  exact evNeg (by omega) (by simpa using hv)
 | succ d ih =>
  intro x7 i h hc hl
  obtain ⟨v, i1, h1, e1, c1, p1, q1⟩ := l1Below_eq b i h 30 hc (by omega)
  obtain ⟨r, i', h', hr', hc', hl'⟩ := ih (x7 ++ [v]) i1 h1 c1 (by simp; omega)
  refine ⟨r, i', h', Ev.step (fun k => by rw [spec_l6Draw.l0]) ?_, hc', hl'⟩
  refine evPos (by omega) (evSome e1 (evPos (by omega) ?_))
  rw [wsucc (by omega)]
  simpa using hr'
theorem l6Draw_ev (b : List Int) (i h : Int) (N : Nat) (hN : N ≤ 100) (hc : cur b i) : ∃ m v i' h', Ev (fun k => spec_l6Draw.f k b i h (N : Int)) (m, v, i', h') ∧ cur b i' ∧ v.length = m.length ∧ (1 ≤ m.length ∧ m.length ≤ 6) ∧ ∀ r ∈ m, r.length = N := by
 obtain ⟨n, i1, h1, e1, c1, p1, q1⟩ := l1Below_eq b i h 6 hc (by omega)
 obtain ⟨⟨m, i2, h2⟩, e2, c2, hm, hr⟩ := l5Bits_l0 b (1 + n).toNat N (by omega) hN (1 + n).toNat [] i1 h1 c1 (by simp) (by simp)
 dsimp only at c2 hm hr
 obtain ⟨v, i3, h3, e3, c3, hv⟩ := l6Draw_l0 b N hN m (by omega) (fun r h => by rw [hr r h]; exact hN) N [] i2 h2 c2 (by simp)
 refine ⟨m, v, i3, h3, ?_, c3, hv, by omega, hr⟩
 unfold spec_l6Draw.f
 refine evSome e1 (Ev.bind (a := (m, i2, h2)) ?_ e3)
 rw [w64 (n := 1 + n) (by omega) (by omega), show 1 + n = ((1 + n).toNat : Int) by omega]
 exact e2
theorem l24_l2 (b : List Int) (m : List (List Int)) (o : List Int) (w : Int) (hm : m.length ≤ 100) (ho : o.length = m.length) : ∀ (d j : Nat) (v : List Int) (i h : Int), cur b i → v.length = m.length → j + d = m.length →
  ∃ v' i' h', Ev (fun k => spec_l24Draw.l2 k m v o w (j : Int) b i h) (m, v', o, i', h') ∧ cur b i' ∧ v'.length = m.length := by
 intro d
 induction d with
 | zero =>
  intro j v i h hc hv hj
  exact ⟨v, i, h, Ev.step (fun k => by rw [spec_l24Draw.l2]) (evNeg (by omega) (Ev.now _)), hc, hv⟩
 | succ d ih =>
  intro j v i h hc hv hj
  by_cases hw : rd o (j : Int) = w
  ·obtain ⟨n, i1, h1, e1, c1, p1, q1⟩ := l1Below_eq b i h 3 hc (by omega)
   obtain ⟨v', i', h', hh, hc', hl'⟩ := ih (j + 1) (v.set (j : Int).toNat (wrap64 ((rd v (j : Int)) + n))) i1 h1 c1 (by simpa using hv) (by omega)
   refine ⟨v', i', h', Ev.step (fun k => by rw [spec_l24Draw.l2]) ?_, hc', hl'⟩
   refine evPos (by omega) (evPos (by omega) (evPos (by omega) (evPos hw (evPos (by omega) (evSome e1 ?_)))))
   rw [wsucc (by omega)]
   exact hh
  ·obtain ⟨v', i', h', hh, hc', hl'⟩ := ih (j + 1) v i h hc hv (by omega)
   refine ⟨v', i', h', Ev.step (fun k => by rw [spec_l24Draw.l2]) ?_, hc', hl'⟩
   refine evPos (by omega) (evPos (by omega) (evPos (by omega) (evNeg hw ?_)))
   rw [wsucc (by omega)]
   exact hh
theorem l24_l1 (b : List Int) (m : List (List Int)) (v : List Int) (hm : m.length ≤ 100) (hv : v.length = m.length) : ∀ (d : Nat) (o : List Int) (i h : Int), cur b i → o.length + d = m.length →
  ∃ v' o' i' h', Ev (fun k => spec_l24Draw.l1 k m v o (o.length : Int) b i h) (m, v', o', i', h') ∧ cur b i' ∧ v'.length = m.length ∧ o'.length = m.length := by
 intro d
 induction d with
 | zero =>
  intro o i h hc hl
  obtain ⟨n, i1, h1, e1, c1, p1, q1⟩ := l1Below_eq b i h 8 hc (by omega)
  obtain ⟨v', i', h', hh, hc', hl'⟩ := l24_l2 b m o n hm (by omega) m.length 0 v i1 h1 c1 hv (by omega)
  exact ⟨v', o, i', h', Ev.step (fun k => by rw [spec_l24Draw.l1]) (evNeg (by omega) (evSome e1 hh)), hc', hl', by omega⟩
 | succ d ih =>
  intro o i h hc hl
  obtain ⟨n, i1, h1, e1, c1, p1, q1⟩ := l1Below_eq b i h 4 hc (by omega)
  obtain ⟨v', o', i', h', hh, hc', hl', ho'⟩ := ih (o ++ [n]) i1 h1 c1 (by simp; omega)
  refine ⟨v', o', i', h', Ev.step (fun k => by rw [spec_l24Draw.l1]) ?_, hc', hl', ho'⟩
  refine evPos (by omega) (evSome e1 (evPos (by omega) ?_))
  rw [wsucc (by omega)]
  simpa using hh
theorem l24_l0 (b : List Int) (N : Nat) (hN : N ≤ 100) : ∀ (d : Nat) (m : List (List Int)) (v : List Int) (i h : Int), cur b i → v.length = m.length → 1 ≤ m.length → m.length ≤ 12 → d ≤ 100 → (∀ r ∈ m, r.length = N) →
  ∃ m' v' o' i' h', Ev (fun k => spec_l24Draw.l0 k m v (d : Int) b i h) (m', v', o', i', h') ∧ cur b i' ∧ v'.length = m'.length ∧ o'.length = m'.length ∧ (1 ≤ m'.length ∧ m'.length ≤ 12) ∧ ∀ r ∈ m', r.length = N := by
 intro d
 induction d with
 | zero =>
  intro m v i h hc hv h1 h2 _ hr
  obtain ⟨v', o', i', h', hh, hc', hl', ho'⟩ := l24_l1 b m v (by omega) hv m.length [] i h hc (by simp)
  refine ⟨m, v', o', i', h', Ev.step (fun k => by rw [spec_l24Draw.l0]) ?_, hc', hl', ho', ⟨h1, h2⟩, hr⟩
  refine evNeg (by omega) (Ev.step (fun k => by rw [spec_l24Draw.j1]) ?_)
  simpa using hh
 | succ d ih =>
  intro m v i h hc hv h1 h2 hd hr
  by_cases h12 : (m.length : Int) < 12
  ·obtain ⟨n, i1, hh1, e1, c1, p1, q1⟩ := l1Below_eq b i h (m.length : Int) hc (by omega)
   have hrow : (rd_L1 m n).length = N := by
    have hlt : n.toNat < m.length := by omega
    have : rd_L1 m n = m[n.toNat] := by
     rw [rd_L1, List.getD_eq_getElem?_getD, List.getElem?_eq_getElem hlt]; rfl
    rw [this]
    exact hr _ (List.getElem_mem hlt)
   obtain ⟨m', v', o', i', h', hh, hc', hl', ho', hs', hr'⟩ := ih (m ++ [rd_L1 m n]) (v ++ [rd v n]) i1 hh1 c1 (by simp; omega) (by simp) (by simp; omega) (by omega) (fun r hx => by
    rcases List.mem_append.1 hx with hx | hx
    ·exact hr r hx
    ·simp at hx; rw [hx]; exact hrow)
   refine ⟨m', v', o', i', h', Ev.step (fun k => by rw [spec_l24Draw.l0]) ?_, hc', hl', ho', hs', hr'⟩
   refine evPos (by omega) (evPos h12 (evSome e1 (evSome rfl (evPos (by omega) (evPos (by omega) (evPos (by simp; omega) (evPos (by omega) (evPos (by omega) (evPos (by omega) ?_)))))))))
   rw [w64 (n := ((d + 1 : Nat) : Int) - 1) (by omega) (by omega), show ((d + 1 : Nat) : Int) - 1 = (d : Int) by omega]
   simpa using hh
  ·obtain ⟨v', o', i', h', hh, hc', hl', ho'⟩ := l24_l1 b m v (by omega) hv m.length [] i h hc (by simp)
   refine ⟨m, v', o', i', h', Ev.step (fun k => by rw [spec_l24Draw.l0]) ?_, hc', hl', ho', ⟨h1, h2⟩, hr⟩
   refine evPos (by omega) (evNeg h12 (Ev.step (fun k => by rw [spec_l24Draw.j1]) ?_))
   simpa using hh
theorem l24Any_ev (b : List Int) (i h : Int) (hc : cur b i) : ∃ m v o c i' h', Ev (fun k => spec_l24Any.f k b i h) (m, v, o, c, i', h') ∧ cur b i' ∧ v.length ≤ 12 ∧ o.length ≤ 12 ∧ m.length ≤ 12 ∧ ∀ r ∈ m, r.length ≤ 6 := by
 obtain ⟨n, i1, h1, e1, c1, p1, q1⟩ := l1Below_eq b i h 5 hc (by omega)
 obtain ⟨m0, v0, i2, h2, e2, c2, hv0, hm0, hr0⟩ := l6Draw_ev b i1 h1 (1 + n).toNat (by omega) c1
 obtain ⟨n2, i3, h3, e3, c3, p3, q3⟩ := l1Below_eq b i2 h2 4 c2 (by omega)
 obtain ⟨m, v, o, i4, h4, e4, c4, hv, ho, hm, hr⟩ := l24_l0 b (1 + n).toNat (by omega) n2.toNat m0 v0 i3 h3 c3 hv0 hm0.1 (by omega) (by omega) hr0
 have e5 : Ev (fun k => spec_l24Draw.f k b i1 h1 (wrap64 (1 + n))) (m, v, o, i4, h4) := by
  unfold spec_l24Draw.f
  refine Ev.bind (a := (m0, v0, i2, h2)) ?_ (evSome e3 ?_)
  ·rw [w64 (n := 1 + n) (by omega) (by omega), show 1 + n = ((1 + n).toNat : Int) by omega]
   exact e2
  ·rw [show n2 = (n2.toNat : Int) by omega]
   exact e4
 obtain ⟨n5, i5, h5, e6, c5, p5, q5⟩ := l1Below_eq b i4 h4 9 c4 (by omega)
 have hrr : ∀ r ∈ m, r.length ≤ 6 := fun r h => by rw [hr r h]; omega
 unfold spec_l24Any.f
 by_cases n0 : n5 = 0
 ·obtain ⟨x, i6, h6, e7, c6, _⟩ := l1Int_eq b i5 h5 [(-1), 5, 6] c5 (by simp)
  refine ⟨_, _, _, _, _, _, evSome e1 (Ev.bind e5 (evSome e6 (evPos n0 (evSome e7 (evPos (by dsimp only; omega) (Ev.now _)))))), c6, by dsimp only; omega, by simp; omega, hm.2, hrr⟩
 ·by_cases n1 : n5 = 1
  ·refine ⟨_, _, _, _, _, _, evSome e1 (Ev.bind e5 (evSome e6 (evNeg n0 (evPos n1 (evPos (by dsimp only; omega) (Ev.now _)))))), c5, by dsimp only; omega, by simp; omega, hm.2, hrr⟩
  ·by_cases n2' : n5 = 2
   ·obtain ⟨x, i6, h6, e7, c6, _⟩ := l1Int_eq b i5 h5 [1000, 1001] c5 (by simp)
    refine ⟨_, _, _, _, _, _, evSome e1 (Ev.bind e5 (evSome e6 (evNeg n0 (evNeg n1 (evPos n2' (evSome e7 (evPos (by dsimp only; omega) (Ev.now _)))))))), c6, by simp; omega, by dsimp only; omega, hm.2, hrr⟩
   ·exact ⟨_, _, _, _, _, _, evSome e1 (Ev.bind e5 (evSome e6 (evNeg n0 (evNeg n1 (evNeg n2' (Ev.now _)))))), c5, by dsimp only; omega, by dsimp only; omega, hm.2, hrr⟩
theorem drawOwned_ev (b : List Int) (hb : b.length ≤ 1048576) : ∃ m v o c, Ev (fun k => spec_DrawAreOwned.f k b) (m, v, o, c) ∧ v.length ≤ 12 ∧ o.length ≤ 12 ∧ m.length ≤ 12 ∧ ∀ r ∈ m, r.length ≤ 6 := by
 obtain ⟨h, e1, c1⟩ := l1New_ev b (by omega)
 obtain ⟨m, v, o, c, i2, h2, e2, c2, hh⟩ := l24Any_ev b 0 h c1
 obtain ⟨t, i3, h3, e3, c3⟩ := l1Once_eq b i2 h2 9 c2 (by omega)
 unfold spec_DrawAreOwned.f
 cases t with
 | true => exact ⟨_, _, _, _, Ev.bind e1 (Ev.bind e2 (evSome e3 (evPos rfl (Ev.now _)))), hh⟩
 | false => exact ⟨_, _, _, _, Ev.bind e1 (Ev.bind e2 (evSome e3 (evNeg (by simp) (Ev.now _)))), hh⟩
theorem drawFewest_ev (b : List Int) (hb : b.length ≤ 1048576) : ∃ m v o c, Ev (fun k => spec_DrawFewestLiars.f k b) (m, v, o, c) ∧ v.length ≤ 12 ∧ o.length ≤ 12 ∧ m.length ≤ 12 ∧ ∀ r ∈ m, r.length ≤ 6 := by
 obtain ⟨m, v, o, c, e, hh⟩ := drawOwned_ev b hb
 unfold spec_DrawFewestLiars.f
 exact ⟨m, v, o, c, Ev.bind e (Ev.now _), hh⟩
/-! ### addv -/
/-! ### setsv -/
/-! ### inrange -/
/-! ### allin -/
/-! ### matrix -/
/-! ### smatrix -/
/-! ### system -/
/-! ### linalg -/
/-! ### redi -/
/-! ### specred -/
/-! ### specred2 -/
/-! ### span -/
/-! ### spanv -/
/-! ### solvable -/
/-! ### has -/
/-! ### szints -/
/-! ### ints -/
/-! ### intss -/
/-! ### without -/
/-! ### vwithout -/
/-! ### owned -/
/-! ### fewest -/
/-! ### sure -/
/-! ### spanspec -/
theorem clear_bound {m : List (List Int)} {row : List Int} {R O : List (List Int)} (hm : matB m (row.length : Int) = true) (hrow : ∀ j, (vec row j).natAbs ≤ 2) (h : CInv m row.length row.length R O) : ∀ O1 O2, O = O1 ++ O2 → ∀ j, (vec (goL O1 row) j).natAbs ≤ 322560000 := by
 intro O1 O2 e j
 have hr := matB_rows hm
 have hX : ∀ i c, (xvec m i c).natAbs ≤ cellB 6 c := fun i k => by
  by_cases hi : i < m.length
  ·rw [xvec_mem m i hi]; exact matB_cell hm _ (List.getElem_mem _) k
  ·have : xvec m i k = 0 := by simp [xvec, List.getD_eq_getElem?_getD, List.getElem?_eq_none (Nat.le_of_not_lt hi), vec]
   rw [this]; simp
 obtain ⟨D, hD, hDb, hall⟩ := h.inv.dens (cellB 6) hX
 have hlt : ∀ c ∈ (outE O).map (·.1), c < 6 := fun c hc => by
  obtain ⟨a, ha, rfl⟩ := List.mem_map.1 hc
  obtain ⟨r, hr', rfl⟩ := List.mem_map.1 ha
  have := h.lead r hr'
  simp only
  omega
 have hl6 : ((outE O).map (·.1)).length ≤ 6 := nodup_len 6 _ h.inv.ech.nodup hlt
 have hDle : D.natAbs ≤ 46080 := Nat.le_trans hDb (fb_num60 6 _ h.inv.ech.nodup hl6 (fun hc => by have := hlt 6 hc; omega))
 have hOl : O.length ≤ 6 := by simpa [outE] using hl6
 have key := goL_bound D hD (vec row) 92160 O row (fun j => D * vec row j) D 1 92160 h.inv.ech (fun r hr' => by
  refine ⟨h.leno r hr', ?_⟩
  obtain ⟨P1, P2, hP⟩ := List.append_of_mem hr'
  obtain ⟨q, hq, hDq, hj⟩ := hall (outE P1) (leadL r, vec r) (outE P2) (by rw [hP]; simp [outE])
  have hnd : ∀ j, vec r j ≠ 0 → (q * vec r j).natAbs ≤ 46080 := fun j h0 => by
   refine Nat.le_trans (hj j h0) ?_
   have hap := List.pairwise_append.1 (by rw [hP] at h; simpa [outE] using h.inv.ech.apart : (outE P1 ++ (leadL r, vec r) :: outE P2).Pairwise (fun a b => a.1 < b.1 ∧ a.2 b.1 = 0 ∧ b.2 a.1 = 0))
   have hap2 := List.pairwise_cons.1 hap.2.1
   have hjN : j < 6 := Nat.lt_of_not_le fun hge => h0 (vec_out r j (by rw [h.leno r hr']; omega))
   have hnp : j ∉ (outE P1 ++ outE P2).map (·.1) := fun hmm => by
    obtain ⟨e, he, rfl⟩ := List.mem_map.1 hmm
    rcases List.mem_append.1 he with he | he
    ·exact h0 (hap.2.2 e he (leadL r, vec r) (by simp)).2.2
    ·exact h0 (hap2.1 e he).2.1
   have hsub : ∀ c ∈ (outE P1 ++ outE P2).map (·.1), c < 6 := fun c hc => hlt c (by
    obtain ⟨a, ha, rfl⟩ := List.mem_map.1 hc
    rw [hP]
    simp only [outE, List.map_append, List.map_cons] at ha ⊢
    rcases List.mem_append.1 ha with ha | ha
    ·exact List.mem_append.2 (.inl (List.mem_map.2 ⟨a, ha, rfl⟩))
    ·exact List.mem_append.2 (.inr (List.mem_cons_of_mem _ (List.mem_map.2 ⟨a, ha, rfl⟩))))
   have hndp : (j :: (outE P1 ++ outE P2).map (·.1)).Nodup := by
    rw [List.nodup_cons]
    refine ⟨hnp, ?_⟩
    have := h.inv.ech.nodup
    rw [hP] at this
    simp only [outE, List.map_append, List.map_cons] at this ⊢
    exact (List.nodup_cons.1 ((List.perm_middle.nodup_iff).1 this)).2
   refine fb_num60 6 _ hndp (nodup_len 6 _ hndp fun c hc => ?_) (fun hc => ?_)
   ·rcases List.mem_cons.1 hc with rfl | hc
    ·exact hjN
    ·exact hsub c hc
   ·rcases List.mem_cons.1 hc with e | hc
    ·omega
    ·have := hsub 6 hc; omega
  have hfin : ∀ q' : Int, q'.natAbs = q.natAbs → ∀ j, (vec row (leadL r) * (q' * vec r j)).natAbs ≤ 92160 := fun q' hq' j => by
   rw [Int.natAbs_mul, Int.natAbs_mul, hq', ← Int.natAbs_mul]
   by_cases h0 : vec r j = 0
   ·rw [h0]; simp
   ·exact Nat.mul_le_mul (hrow _) (hnd j h0)
  rcases hDq with hDq | hDq
  ·exact ⟨q, hDq, hfin q rfl⟩
  ·exact ⟨-q, by rw [hDq]; simp only; rw [Int.neg_mul], hfin (-q) (by simp)⟩) hD (fun j => by simp) (fun r _ => rfl) (fun j => by
   rw [Int.natAbs_mul]
   exact Nat.mul_le_mul hDle (hrow j)) (fun j => by have := hrow j; omega) O1 O2 e j
 have hO1 : O1.length ≤ 6 := by
  have := congrArg List.length e
  simp at this
  omega
 have h1 : O1.length * 92160 ≤ 6 * 92160 := Nat.mul_le_mul hO1 (Nat.le_refl _)
 omega
theorem redI_CInv (m : List (List Int)) (N : Nat) (h : ∀ r ∈ m, r.length = N) : CInv m N N (runI m N).1 (redI m N) := runI_CInv m N h N (Nat.le_refl _)
/-! ### checked -/
def checkV (rest : List (List Int)) (w : Int) : List (List Int) → List Int → Bool → Bool
 | m :: ms, o :: os, b => if o = w then (if spanV rest m = true then checkV rest w ms os true else false) else checkV rest w ms os b
 | _, _, b => b
theorem checkV_nil (rest : List (List Int)) (w : Int) (ms : List (List Int)) (b : Bool) : checkV rest w ms [] b = b := by cases ms <;> rfl
theorem impl_IsInSpan_eq (m : List (List Int)) (r : List Int) (hm : okII m) (hr : r.length ≤ 1048576) : impl_IsInSpan.f m r = some (spanV m r) := by
 unfold impl_IsInSpan.f
 rw [if_pos ⟨hm.1, hr, hm.2⟩]
theorem impl_IsChecked_l0 (rest : List (List Int)) (hrest : okII rest) (w : Int) : ∀ (sm : List (List Int)) (so : List Int) (pm : List (List Int)) (po : List Int) (b : Bool), pm.length = po.length → (pm ++ sm).length ≤ 1048576 → (po ++ so).length ≤ 1048576 → (∀ r ∈ sm, r.length ≤ 1048576) →
  Ev (fun k => impl_IsChecked.l0 k (pm ++ sm) (po ++ so) w rest b (mn ((pm ++ sm).length : Int) ((po ++ so).length : Int)) (po.length : Int)) (checkV rest w sm so b) := by
 intro sm
 induction sm with
 | nil =>
  intro so pm po b h1 h2 h3 h4
  refine Ev.step (fun k => by rw [impl_IsChecked.l0]) ?_
  exact evNeg (by rw [mn_len]; simp only [List.length_append, List.length_nil]; omega) (Ev.now _)
 | cons x sm ih =>
  intro so pm po b h1 h2 h3 h4
  cases so with
  | nil =>
   refine Ev.step (fun k => by rw [impl_IsChecked.l0]) ?_
   exact evNeg (by rw [mn_len]; simp only [List.length_append, List.length_nil]; omega) (evEq (checkV_nil _ _ _ _).symm (Ev.now _))
  | cons o so =>
   simp only [List.length_append, List.length_cons] at h2 h3
   refine Ev.step (fun k => by rw [impl_IsChecked.l0]) ?_
   refine evPos (by rw [mn_len]; simp only [List.length_append, List.length_cons]; omega) (evPos (by omega) (evPos (by simp only [List.length_append, List.length_cons]; omega) ?_))
   rw [rd_mid, wsucc (by omega)]
   by_cases ho : o = w
   ·refine evPos ho (evPos (by simp only [List.length_append, List.length_cons]; omega) ?_)
    rw [rd_L1, getD_mid' pm sm x [] h1]
    refine evSome (impl_IsInSpan_eq rest x hrest (h4 x (by simp))) ?_
    by_cases hs : spanV rest x = true
    ·refine evPos hs ?_
     have h := ih so (pm ++ [x]) (po ++ [o]) true (by simp [h1]) (by simp; omega) (by simp; omega) (fun r hr => h4 r (by simp [hr]))
     refine evEq ?_ (Ev.congr (fun k => ?_) h)
     ·simp only [checkV, if_pos ho, if_pos hs]
     ·simp
    ·exact evNeg hs (evEq (by simp only [checkV, if_pos ho, if_neg hs]) (Ev.now _))
   ·refine evNeg ho ?_
    have h := ih so (pm ++ [x]) (po ++ [o]) b (by simp [h1]) (by simp; omega) (by simp; omega) (fun r hr => h4 r (by simp [hr]))
    refine evEq ?_ (Ev.congr (fun k => ?_) h)
    ·simp only [checkV, if_neg ho]
    ·simp
theorem impl_IsChecked_ev (m : List (List Int)) (o : List Int) (w : Int) (hm : okII m) (ho : o.length ≤ 1048576) : Ev (fun k => impl_IsChecked.f k m o w) (checkV (woV m o [w]) w m o false) := by
 unfold impl_IsChecked.f
 refine Ev.bind (impl_WithoutOwners_ev m o [w] hm ho (by simp)) ?_
 have h := impl_IsChecked_l0 (woV m o [w]) (woV_tot _ _ _ hm) w m o [] [] false rfl (by simpa using hm.1) (by simpa using ho) hm.2
 simpa using h
/-! ### liarmath -/
theorem solv_zero {m : List (List Int)} {v : List Int} {c : Int} (h : solvV m v c = true) {y : Nat → Int} (hy : Sp (ofL (augL m v)) y) (h0 : ∀ j, j < c.toNat → y j = 0) : y c.toNat = 0 := by
 rw [solvV, Bool.and_eq_true] at h
 obtain ⟨hs, hg⟩ := h
 obtain ⟨hc, _, _, _, hlen, _⟩ := augL_ok hs
 have hI := runI_CInv (augL m v) (c.toNat + 1) hlen c.toNat (by omega)
 have hz := (good_impl hI).1 hg
 have hz0 : ∀ r ∈ (runI (augL m v) c.toNat).1, ∀ j, vec r j = 0 := fun r hr j => by
  by_cases h1 : j < c.toNat
  ·exact hI.low r hr j h1
  ·by_cases h2 : j = c.toNat
   ·subst h2; exact hz r hr
   ·exact vec_out r j (by rw [hI.lenr r hr]; omega)
 have hs2 := (CInv.span hI hz0 y).2 hy
 exact ech_zero hI.inv.ech hs2 (fun a ha => by
  obtain ⟨o, ho, rfl⟩ := List.mem_map.1 ha
  exact h0 _ (hI.lead o ho)) c.toNat
theorem spanV_sp {m : List (List Int)} {row : List Int} (h : spanV m row = true) : Sp (ofL m) (vec row) := by
 rw [spanV, Bool.and_eq_true, Bool.and_eq_true, decide_eq_true_eq] at h
 obtain ⟨⟨h1, h2⟩, h3⟩ := h
 have hm := matB_rows h1
 have i1 := runI_CInv m row.length hm.2.2.1 row.length (Nat.le_refl _)
 have i2 := runI_CInv (m ++ [row]) row.length (fun r hr => by
  rcases List.mem_append.1 hr with hr | hr
  ·exact hm.2.2.1 r hr
  ·simp at hr; rw [hr]) row.length (Nat.le_refl _)
 exact (rank_span i1 i2 i1.zeros i2.zeros rfl).1 h3
theorem sp_lift {S T : (Nat → Int) → Prop} (N : Nat) (h : ∀ x, S x → ∃ y, Sp T y ∧ ∀ j, j < N → y j = x j) {x : Nat → Int} (hx : Sp S x) : ∃ g : Int, g ≠ 0 ∧ ∃ y, Sp T y ∧ ∀ j, j < N → y j = g * x j := by
 induction hx with
 | zero => exact ⟨1, by decide, _, .zero, fun j _ => by simp⟩
 | mem hs =>
  obtain ⟨y, hy, e⟩ := h _ hs
  exact ⟨1, by decide, y, hy, fun j hj => by rw [e j hj]; simp⟩
 | add _ _ i1 i2 =>
  obtain ⟨g1, n1, y1, s1, e1⟩ := i1
  obtain ⟨g2, n2, y2, s2, e2⟩ := i2
  refine ⟨g1 * g2, Int.mul_ne_zero n1 n2, _, Sp.lin g2 g1 s1 s2, fun j hj => ?_⟩
  dsimp only
  rw [e1 j hj, e2 j hj, Int.mul_add]
  congr 1
  ·rw [← Int.mul_assoc, Int.mul_comm g2 g1]
  ·rw [← Int.mul_assoc]
 | smul a _ i =>
  obtain ⟨g, n, y, s, e⟩ := i
  exact ⟨g, n, _, .smul a s, fun j hj => by dsimp only; rw [e j hj, Int.mul_left_comm]⟩
 | div a ha _ i =>
  obtain ⟨g, n, y, s, e⟩ := i
  exact ⟨g * a, Int.mul_ne_zero n ha, y, s, fun j hj => by rw [e j hj, Int.mul_assoc]⟩
theorem vec_app_lt (r : List Int) (b : Int) {j : Nat} (h : j < r.length) : vec (r ++ [b]) j = vec r j := by
 simp [vec, List.getD_eq_getElem?_getD, List.getElem?_append_left h]
theorem vec_app_eq (r : List Int) (b : Int) : vec (r ++ [b]) r.length = b := by
 simp [vec, List.getD_eq_getElem?_getD]
theorem augL_at : ∀ (m : List (List Int)) (v : List Int) (k : Nat) (x : List Int) (y : Int), m[k]? = some x → v[k]? = some y → x ++ [y] ∈ augL m v
 | [], _, k, x, y, h, _ => by simp at h
 | _ :: _, [], k, x, y, _, h => by simp at h
 | r :: m, a :: v, 0, x, y, h1, h2 => by
  simp only [List.getElem?_cons_zero, Option.some.injEq] at h1 h2
  subst h1 h2
  simp [augL]
 | r :: m, a :: v, k + 1, x, y, h1, h2 => by
  simp only [List.getElem?_cons_succ] at h1 h2
  have := augL_at m v k x y h1 h2
  simp [augL, this]
theorem woV_at (w : Int) : ∀ (m : List (List Int)) (o : List Int) (r : List Int), r ∈ woV m o [w] → ∃ (k : Nat) (b : Int), m[k]? = some r ∧ o[k]? = some b ∧ b ≠ w
 | [], o, r, h => by cases o <;> simp [woV] at h
 | _ :: _, [], r, h => by simp [woV] at h
 | x :: m, b :: o, r, h => by
  rw [woV] at h
  by_cases hb : hasB [w] b = true
  ·rw [if_pos hb] at h
   obtain ⟨k, c, h1, h2, h3⟩ := woV_at w m o r h
   exact ⟨k + 1, c, by simpa using h1, by simpa using h2, h3⟩
  ·rw [if_neg hb] at h
   rcases List.mem_cons.1 h with rfl | h
   ·refine ⟨0, b, by simp, by simp, fun e => hb ?_⟩
    simp [hasB, e]
   ·obtain ⟨k, c, h1, h2, h3⟩ := woV_at w m o r h
    exact ⟨k + 1, c, by simpa using h1, by simpa using h2, h3⟩
theorem checked_unsolv {m : List (List Int)} {v o : List Int} {c : Int} {i : Nat} {r : List Int} {a w : Int} (hs : solvV m v c = true) (hm : m[i]? = some r) (hv : v[i]? = some a) (ho : o[i]? = some w) (hsp : spanV (woV m o [w]) r = true) : solvV m (v.set i (a - 1)) c = false := by
 apply Bool.eq_false_iff.2
 intro hs'
 have hok := augL_ok (show sysB m v c = true by rw [solvV, Bool.and_eq_true] at hs; exact hs.1)
 obtain ⟨hc, hml, hvl, hrl, _, _⟩ := hok
 have hrN : ∀ x ∈ m, x.length = c.toNat := fun x hx => by have := hrl x hx; omega
 obtain ⟨g, hg, y, hy, e⟩ := sp_lift (T := fun z => ∃ (k : Nat) (x : List Int) (y b : Int), m[k]? = some x ∧ v[k]? = some y ∧ o[k]? = some b ∧ b ≠ w ∧ z = vec (x ++ [y])) c.toNat (fun x hx => by
  obtain ⟨r', hr', rfl⟩ := hx
  obtain ⟨k, b, h1, h2, h3⟩ := woV_at w m o r' hr'
  have hk : k < v.length := by rw [hvl]; exact (List.getElem?_eq_some_iff.1 h1).1
  refine ⟨vec (r' ++ [v[k]]), .mem ⟨k, r', v[k], b, h1, List.getElem?_eq_getElem hk, h2, h3, rfl⟩, fun j hj => vec_app_lt _ _ (by rw [hrN r' (List.mem_of_getElem? h1)]; exact hj)⟩) (spanV_sp hsp)
 have key : ∀ (u : List Int) (b : Int), solvV m u c = true → u[i]? = some b → (∀ (k : Nat), k ≠ i → u[k]? = v[k]?) → g * b = y c.toNat := by
  intro u b hu hb hk
  have hy' : Sp (ofL (augL m u)) y := hy.mono (fun z hz => by
   obtain ⟨k, x, yv, ow, h1, h2, h3, h4, rfl⟩ := hz
   have hne : k ≠ i := fun e => h4 (by rw [e, ho] at h3; exact (Option.some.inj h3).symm)
   exact ⟨x ++ [yv], augL_at m u k x yv h1 (by rw [hk k hne]; exact h2), rfl⟩)
  have hr : Sp (ofL (augL m u)) (vec (r ++ [b])) := .mem ⟨r ++ [b], augL_at m u i r b hm hb, rfl⟩
  have hrn := hrN r (List.mem_of_getElem? hm)
  have hz := solv_zero hu (Sp.lin g (-1) hr hy') (fun j hj => by
   rw [vec_app_lt r b (by omega), e j hj]
   omega)
  have e2 : vec (r ++ [b]) c.toNat = b := by rw [← hrn]; exact vec_app_eq r b
  rw [e2] at hz
  omega
 have hil : i < v.length := (List.getElem?_eq_some_iff.1 hv).1
 have e1 := key v a hs hv (fun _ _ => rfl)
 have e2 := key (v.set i (a - 1)) (a - 1) hs' (by rw [List.getElem?_set_self hil]) (fun k hk => List.getElem?_set_ne (Ne.symm hk))
 rw [Int.mul_sub] at e2
 omega
theorem checkV_at (rest : List (List Int)) (w : Int) : ∀ (m : List (List Int)) (o : List Int) (b : Bool), checkV rest w m o b = true → ∀ (i : Nat) (r : List Int), m[i]? = some r → o[i]? = some w → spanV rest r = true
 | [], o, b, _, i, r, h, _ => by simp at h
 | _ :: _, [], b, _, i, r, _, h => by simp at h
 | x :: m, a :: o, b, h, i, r, h1, h2 => by
  rw [checkV] at h
  by_cases ha : a = w
  ·rw [if_pos ha] at h
   by_cases hs : spanV rest x = true
   ·rw [if_pos hs] at h
    cases i with
    | zero => simp at h1; rw [← h1]; exact hs
    | succ i => exact checkV_at rest w m o true h i r (by simpa using h1) (by simpa using h2)
   ·rw [if_neg hs] at h; cases h
  ·rw [if_neg ha] at h
   cases i with
   | zero => simp at h2; exact absurd h2 ha
   | succ i => exact checkV_at rest w m o b h i r (by simpa using h1) (by simpa using h2)
theorem fewF_spec (m : List (List Int)) (v o : List Int) (c : Int) : ∀ (d s : Nat), s + d = 7 → (fewF m v o c d s = [] ∧ ∀ t, s ≤ t → t ≤ 6 → selV m v o c (addV 6 t 0 []) = []) ∨ ∃ t, s ≤ t ∧ t ≤ 6 ∧ fewF m v o c d s = selV m v o c (addV 6 t 0 []) ∧ fewF m v o c d s ≠ [] ∧ ∀ t', s ≤ t' → t' < t → selV m v o c (addV 6 t' 0 []) = []
 | 0, s, h => .inl ⟨rfl, fun t h1 h2 => by omega⟩
 | d + 1, s, h => by
  rw [fewF]
  by_cases h0 : (selV m v o c (addV 6 s 0 [])).length = 0
  ·rw [if_pos h0]
   have h0' := List.eq_nil_of_length_eq_zero h0
   rcases fewF_spec m v o c d (s + 1) (by omega) with ⟨h1, h2⟩ | ⟨t, h1, h2, h3, h4, h5⟩
   ·refine .inl ⟨h1, fun t a b => ?_⟩
    by_cases e : t = s
    ·rw [e]; exact h0'
    ·exact h2 t (by omega) b
   ·refine .inr ⟨t, by omega, h2, h3, h4, fun t' a b => ?_⟩
    by_cases e : t' = s
    ·rw [e]; exact h0'
    ·exact h5 t' (by omega) b
  ·rw [if_neg h0]
   exact .inr ⟨s, Nat.le_refl _, by omega, rfl, fun e => h0 (by rw [e]; rfl), fun t' a b => by omega⟩
theorem hasB_six {x : Int} (h : 0 ≤ x ∧ x ≤ 5) : hasB [0, 1, 2, 3, 4, 5] x = true := by
 have : x = 0 ∨ x = 1 ∨ x = 2 ∨ x = 3 ∨ x = 4 ∨ x = 5 := by omega
 rcases this with rfl | rfl | rfl | rfl | rfl | rfl <;> decide
theorem woV_six : ∀ (m : List (List Int)) (o : List Int), (∀ x ∈ o, 0 ≤ x ∧ x ≤ 5) → woV m o [0, 1, 2, 3, 4, 5] = []
 | [], o, _ => by cases o <;> rfl
 | _ :: _, [], _ => rfl
 | r :: m, x :: o, h => by rw [woV, if_pos (hasB_six (h x (by simp)))]; exact woV_six m o (fun y hy => h y (by simp [hy]))
theorem vwV_six : ∀ (v : List Int) (o : List Int), (∀ x ∈ o, 0 ≤ x ∧ x ≤ 5) → vwV v o [0, 1, 2, 3, 4, 5] = []
 | [], o, _ => by cases o <;> rfl
 | _ :: _, [], _ => rfl
 | r :: m, x :: o, h => by rw [vwV, if_pos (hasB_six (h x (by simp)))]; exact vwV_six m o (fun y hy => h y (by simp [hy]))
theorem woV_none : ∀ (m : List (List Int)) (o : List Int), m.length ≤ o.length → woV m o [] = m
 | [], o, _ => by cases o <;> rfl
 | _ :: _, [], h => by simp at h
 | r :: m, x :: o, h => by rw [woV, if_neg (by simp [hasB]), woV_none m o (by simpa using h)]
theorem vwV_none : ∀ (m : List Int) (o : List Int), m.length ≤ o.length → vwV m o [] = m
 | [], o, _ => by cases o <;> rfl
 | _ :: _, [], h => by simp at h
 | r :: m, x :: o, h => by rw [vwV, if_neg (by simp [hasB]), vwV_none m o (by simpa using h)]
theorem runI_nil : ∀ c, runI [] c = ([], [])
 | 0 => rfl
 | c + 1 => by rw [runI, runI_nil c]; rfl
theorem solvV_nil (c : Int) (hc : 1 ≤ c ∧ c ≤ 6) : solvV [] [] c = true := by
 have e : augL [] [] = [] := rfl
 rw [solvV, sysB, matB, decide_eq_true hc, e, redI, runI_nil]
 rfl
theorem fewV_spec {m : List (List Int)} {v o : List Int} {c : Int} (h : ownB m v o c = true) : ∃ t, t ≤ 6 ∧ fewV m v o c ≠ [] ∧ (∀ s ∈ fewV m v o c, s.length = t ∧ solvV (woV m o s) (vwV v o s) c = true) ∧ (t = 0 ↔ solvV m v c = true) := by
 have h' := h
 rw [ownB, Bool.and_eq_true, Bool.and_eq_true, decide_eq_true_eq, List.all_eq_true] at h'
 obtain ⟨h1, h2, h3⟩ := h'
 have h3' : ∀ x ∈ o, 0 ≤ x ∧ x ≤ 5 := fun x hx => by simpa using h3 x hx
 obtain ⟨hc, hml, hvl, _, _, _⟩ := augL_ok h1
 have hf : selV m v o c (addV 6 6 0 []) ≠ [] := by
  rw [show addV 6 6 0 [] = [[0, 1, 2, 3, 4, 5]] by decide, selV, List.filter_cons, woV_six m o h3', vwV_six v o h3', solvV_nil c hc]
  simp
 have h0 : selV m v o c (addV 6 0 0 []) = if solvV m v c = true then [[]] else [] := by
  rw [show addV 6 0 0 [] = [[]] by decide, selV, List.filter_cons, woV_none m o (by omega), vwV_none v o (by omega), List.filter_nil]
 rcases fewF_spec m v o c 7 0 rfl with ⟨e1, e2⟩ | ⟨t, a1, a2, a3, a4, a5⟩
 ·exact absurd (e2 6 (by omega) (Nat.le_refl _)) hf
 ·have hV : fewV m v o c = fewF m v o c 7 0 := by rw [fewV, if_pos h]
  refine ⟨t, a2, by rw [hV]; exact a4, fun s hs => ?_, ?_⟩
  ·rw [hV, a3] at hs
   obtain ⟨b1, b2⟩ := List.mem_filter.1 hs
   have := addV_mem 6 t 0 [] s b1
   exact ⟨by simpa using this, b2⟩
  ·constructor
   ·intro e
    subst e
    rw [a3, h0] at a4
    by_cases hs : solvV m v c = true
    ·exact hs
    ·rw [if_neg hs] at a4; exact absurd rfl a4
   ·intro hs
    rw [if_pos hs] at h0
    apply Classical.byContradiction
    intro hne
    have := a5 0 (Nat.le_refl _) (by omega)
    rw [h0] at this
    cases this
theorem sureL_le (l : List (List Int)) (s : List Int) (hs : s ∈ l) (n : Nat) : (sureL l n).length ≤ s.length := by
 refine subset_len _ _ ?_ ?_
 ·unfold sureL
  exact List.pairwise_map.2 (((List.nodup_range (n := n)).filter (allHas l)).imp fun h e => h (Int.ofNat_inj.1 e))
 ·intro x hx
  obtain ⟨i, hi, rfl⟩ := List.mem_map.1 hx
  have h2 := (List.mem_filter.1 hi).2
  rw [allHas, List.all_eq_true] at h2
  have h3 := h2 s hs
  rw [hasB, List.any_eq_true] at h3
  obtain ⟨y, hy, e⟩ := h3
  have : y = (i : Int) := by simpa using e
  rw [← this]; exact hy
/-! ### law_FnLiars -/
theorem law_l1 (m : List (List Int)) (v o : List Int) (c : Int) (hm : okII m) (hml : m.length ≤ 12) (hv : v.length ≤ 12) (ho : o.length ≤ 12) (h : ownB m v o c = true) (hs : solvV m v c = true) : ∀ (d i : Nat), i + d = m.length →
  Ev (fun k => laws_FnLiars.l1 k m v o c (i : Int)) true := by
 have h' := h
 rw [ownB, Bool.and_eq_true, Bool.and_eq_true, decide_eq_true_eq] at h'
 obtain ⟨h1, h2, _⟩ := h'
 obtain ⟨hc, _, hvl, _, _, _⟩ := augL_ok h1
 have hvb : ∀ x ∈ v, -1000 ≤ x ∧ x ≤ 1000 := by
  rw [sysB, Bool.and_eq_true, Bool.and_eq_true, List.all_eq_true] at h1
  exact fun x hx => by simpa using h1.2.2 x hx
 intro d
 induction d with
 | zero =>
  intro i hi
  exact Ev.step (fun k => by rw [laws_FnLiars.l1]) (evNeg (by omega) (Ev.now _))
 | succ d ih =>
  intro i hi
  have hnext := ih (i + 1) (by omega)
  have hiv : i < v.length := by omega
  have him : i < m.length := by omega
  have hio : i < o.length := by omega
  have hrv : rd v (i : Int) = v[i] := rd_at v i hiv
  have hro : rd o (i : Int) = o[i] := rd_at o i hio
  have hb := hvb v[i] (List.getElem_mem hiv)
  refine Ev.step (fun k => by rw [laws_FnLiars.l1]) ?_
  refine evPos (by omega) (evSome (a := []) rfl (evPos (by simp; omega) (evSome (a := v) rfl (evPos (by omega) (evPos (by omega) (evSome rfl ?_))))))
  rw [hrv, hro, w64 (n := v[i] - 1) (by omega) (by omega), wsucc (by omega), Int.toNat_natCast]
  have hset : rd (v.set i (v[i] - 1)) (i : Int) = v[i] - 1 := by rw [rd_at _ i (by simpa using hiv)]; simp
  rw [hset]
  by_cases hge : v[i] - 1 ≥ -1000
  ·refine evPos hge (evPos (by omega) (Ev.bind (impl_IsChecked_ev m o o[i] hm (by omega)) ?_))
   by_cases hk : checkV (woV m o [o[i]]) o[i] m o false = true
   ·have hsp := checkV_at _ _ m o false hk i m[i] (List.getElem?_eq_getElem him) (List.getElem?_eq_getElem hio)
    have hn := checked_unsolv hs (List.getElem?_eq_getElem him) (List.getElem?_eq_getElem hiv) (List.getElem?_eq_getElem hio) hsp
    refine evPos hk (Ev.bind (impl_IsSolvable_ev m (v.set i (v[i] - 1)) c hm.2 (by simp; omega)) ?_)
    rw [hn]
    exact evNeg (by decide) hnext
   ·exact evNeg hk hnext
  ·exact evNeg hge hnext
theorem law_l0 (m : List (List Int)) (v o : List Int) (c : Int) (hm : okII m) (hml : m.length ≤ 12) (hv : v.length ≤ 12) (ho : o.length ≤ 12) (h : ownB m v o c = true) : ∀ (suf pre : List (List Int)), fewV m v o c = pre ++ suf →
  Ev (fun k => laws_FnLiars.l0 k m v o c (fewV m v o c) (pre.length : Int)) true := by
 obtain ⟨t, ht, hne, hall, h0⟩ := fewV_spec h
 obtain ⟨hL, hL6⟩ := fewV_mem m v o c
 have hsu : (sureV m v o c).length ≤ t := by
  obtain ⟨s, hs⟩ := List.exists_mem_of_ne_nil _ hne
  have := sureL_le (fewV m v o c) s hs 6
  rw [(hall s hs).1] at this
  unfold sureV
  split
  ·simp
  ·exact this
 obtain ⟨L, hLe⟩ : ∃ L, L = fewV m v o c := ⟨_, rfl⟩
 rw [← hLe] at hne hall hL hL6 ⊢
 have hpos : 0 < L.length := List.length_pos_iff.2 hne
 have hz : (rd_L1 L 0).length = t := by
  have : rd_L1 L 0 = L[0] := by
   have := getD_at L [] 0 hpos
   rw [rd_L1]
   simpa using this
  rw [this]
  exact (hall _ (List.getElem_mem hpos)).1
 intro suf
 induction suf with
 | nil =>
  intro pre e
  have el : L.length = pre.length := by rw [e]; simp
  refine Ev.step (fun k => by rw [laws_FnLiars.l0]) ?_
  have hsf : impl_SureLiars.f m v o c = some (sureV m v o c) := by
   unfold impl_SureLiars.f
   rw [if_pos ⟨hm, by omega, by omega⟩]
  refine evNeg (by omega) (evSome hsf (evNeg (by omega) (evPos (by omega) (evNeg (by rw [hz]; omega) (Ev.bind (impl_IsSolvable_ev m v c hm.2 (by omega)) ?_)))))
  have hb : ((((rd_L1 L 0).length : Int) == 0) != solvV m v c) = false := by
   rw [hz]
   cases hs : solvV m v c with
   | true => rw [(h0.2 hs)]; rfl
   | false =>
    have : t ≠ 0 := fun e => by have := h0.1 e; rw [hs] at this; cases this
    have : ((t : Int) == 0) = false := by rw [beq_eq_false_iff_ne]; omega
    rw [this]; rfl
  rw [hb]
  refine Ev.step (fun k => by rw [laws_FnLiars.j1]) ?_
  refine evNeg (by decide) (Ev.bind (impl_IsSolvable_ev m v c hm.2 (by omega)) ?_)
  by_cases hs : solvV m v c = true
  ·exact evPos hs (law_l1 m v o c hm hml hv ho h hs m.length 0 (by omega))
  ·exact evNeg hs (Ev.now _)
 | cons x suf ih =>
  intro pre e
  have el : L.length = pre.length + (suf.length + 1) := by rw [e]; simp
  have hx : x ∈ L := by rw [e]; simp
  have hg : rd_L1 L (pre.length : Int) = x := by rw [rd_L1, e, getD_mid]
  have h6 := hL6 x hx
  have hn := ih (pre ++ [x]) (by rw [e]; simp)
  refine Ev.step (fun k => by rw [laws_FnLiars.l0]) ?_
  refine evPos (by omega) (evPos (by omega) (evPos (by omega) ?_))
  rw [hg, hz, wsucc (by omega)]
  refine evPos (by rw [(hall x hx).1]) (Ev.bind (impl_WithoutOwners_ev m o x hm (by omega) (by omega)) (Ev.bind (impl_ValuesWithout_ev v o x (by omega) (by omega) (by omega)) (Ev.bind (impl_IsSolvable_ev _ _ c (woV_tot m o x hm).2 (Nat.le_trans (vwV_len v o x) (by omega))) ?_)))
  refine evPos (hall x hx).2 ?_
  simpa using hn
theorem FnLiars : laws_FnLiars.PureR := by
 intro b h
 refine Ev.rounds ?_
 unfold laws_FnLiars.f
 refine evSome (big_eq b) ?_
 by_cases hb : (b.length : Int) > 1048576
 ·exact evPos (by simp [hb]) (Ev.now _)
 have hb' : b.length ≤ 1048576 := by omega
 obtain ⟨m, v, o, c, e, hv, ho, hml, hr⟩ := drawFewest_ev b hb'
 have hm : okII m := ⟨by omega, fun r h => Nat.le_trans (hr r h) (by omega)⟩
 have hf : impl_FewestLiars.f m v o c = some (fewV m v o c) := by
  unfold impl_FewestLiars.f
  rw [if_pos ⟨hm, by omega, by omega⟩]
 refine evNeg (by simpa using hb) (Ev.bind e (evSome hf (Ev.bind (impl_AreOwned_ev m v o c hm.2 (by omega) (by omega)) (Ev.bind (spec_AreOwned_ev m v o c (by omega) (by omega)) (evNeg (by simp) (Ev.bind (impl_AreOwned_ev m v o c hm.2 (by omega) (by omega)) ?_))))))
 by_cases h : ownB m v o c = true
 ·exact evPos h (law_l0 m v o c hm hml hv ho h _ [] rfl)
 ·refine evNeg h (evEq ?_ (Ev.now _))
  rw [fewV, if_neg h]
  rfl
end Go.Proofs.Ytiipcophnnfnoaa.Pure
