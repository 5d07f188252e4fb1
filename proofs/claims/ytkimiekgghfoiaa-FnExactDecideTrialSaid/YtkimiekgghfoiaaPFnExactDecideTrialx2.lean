/- What the functions that the law FnExactDecideTrial uses compute, and that the program computes it: walks written by a program of this session. -/
import Derived.Test.YtkimiekgghfoiaaPFnExactDecideTrialx0
import Derived.Test.YtkimiekgghfoiaaPFnExactDecideTrialx1
namespace Go.Proofs.Ytkimiekgghfoiaa.PFnExactDecideTrial
open Go.RowKit Go.Proofs.YtkimiekgghfoiaaW.PrintWords Go.Proofs.YtkimiekgghfoiaaW.PrintLast Go.Proofs.YtkimiekgghfoiaaW.PrintMore
attribute [local go_sem] max2_int min2_int max_two min_two max_three min_three max_four min_four   -- for this text's walks alone
set_option linter.unusedVariables false
set_option linter.unusedSimpArgs false

/-! ### spec_l21Sorted: function 144 -/
open Go.Proofs.Ytkimiekgghfoiaa.Base
/-- A row that a call made: its blocks are those between the two worlds. -/
theorem S_fresh {α : Type} {d : Kd α} {e : Nat} {w w2 W w3 : World} {v : Value} {xs : List α} (h0 : Below w.heap.size w w2) (h1 : Below w2.heap.size w2 W) (ho : Kd.S d e w3 W.heap.size (fun _ => True) v xs) (hb : Below W.heap.size W w3) : Kd.S d e w3 w.heap.size (fun k => w2.heap.size ≤ k ∧ k < w3.heap.size) v xs :=
  Kd.S_lower (Kd.S_mono (Kd.S_bound ho) (fun k hk => ⟨Nat.le_trans h1.size hk.2.1, hk.2.2.1⟩)) (Nat.le_trans h0.size h1.size)
theorem R_fresh {α : Type} {d : Kd α} {e : Nat} {w w2 W w3 : World} {v : Value} {xs : List α} (h0 : Below w.heap.size w w2) (h1 : Below w2.heap.size w2 W) (ho : Kd.R d e w3 W.heap.size (fun _ => True) v xs) (hb : Below W.heap.size W w3) : Kd.R d e w3 w.heap.size (fun k => w2.heap.size ≤ k ∧ k < w3.heap.size) v xs :=
  Kd.R_lower (Kd.R_mono (Kd.R_bound ho) (fun k hk => ⟨Nat.le_trans h1.size hk.2.1, hk.2.2.1⟩)) (Nat.le_trans h0.size h1.size)
/-- A flat row that was written and comes back: its blocks are the same. -/
theorem R_tight' {α β : Type} {d : Kd α} {d' : Kd β} {e e' : Nat} {w w' : World} {b b' : Nat} {ok ok' : Nat → Prop} {v : Value} {xs : List α} {ys : List β} (hE : d.E = []) (h : Kd.R d e w b ok v xs) (h' : Kd.R d' e' w' b' ok' v ys) : Kd.R d e w b ok' v xs :=
  Kd.R_mono (Kd.R_tight hE h) (fun k hk => h'.1 k hk.symm)
theorem calls_cast {P : Program} {f : Nat} {args args' : Array Value} {w : World} {Q : Ending → World → Prop} (h : args = args') (hc : Calls P f args w Q) : Calls P f args' w Q := h ▸ hc

def insI (x : Int) (S : List Int) : List Int := S.takeWhile (fun y => decide (y ≤ x)) ++ x :: S.dropWhile (fun y => decide (y ≤ x))
def sortI (l : List Int) : List Int := l.foldl (fun S x => insI x S) []
theorem insI_perm (x : Int) (S : List Int) : (insI x S).Perm (x :: S) := by
  unfold insI
  refine (List.perm_middle).trans (List.Perm.cons x ?_)
  rw [List.takeWhile_append_dropWhile]
theorem sortI_perm_go : ∀ (l S : List Int), (l.foldl (fun S x => insI x S) S).Perm (S ++ l)
  | [], S => by simp
  | x :: l, S => by
    simp only [List.foldl_cons]
    refine (sortI_perm_go l (insI x S)).trans ?_
    refine ((insI_perm x S).append_right l).trans ?_
    exact (List.perm_middle (a := x) (l₁ := S) (l₂ := l)).symm
theorem sortI_perm (l : List Int) : (sortI l).Perm l := by simpa [sortI] using sortI_perm_go l []
theorem insI_sorted (x : Int) : ∀ (S : List Int), S.Pairwise (· ≤ ·) → (insI x S).Pairwise (· ≤ ·)
  | [], _ => by simp [insI]
  | y :: S, h => by
    rw [List.pairwise_cons] at h
    by_cases hy : y ≤ x
    · have ih := insI_sorted x S h.2
      have e : insI x (y :: S) = y :: insI x S := by simp [insI, hy]
      rw [e, List.pairwise_cons]
      refine ⟨fun z hz => ?_, ih⟩
      have hz' := (insI_perm x S).mem_iff.1 hz
      rcases List.mem_cons.1 hz' with rfl | hz'
      · exact hy
      · exact h.1 z hz'
    · have e : insI x (y :: S) = x :: y :: S := by simp [insI, hy]
      rw [e, List.pairwise_cons]
      refine ⟨fun z hz => ?_, List.pairwise_cons.2 h⟩
      rcases List.mem_cons.1 hz with rfl | hz'
      · omega
      · have := h.1 z hz'; omega
theorem sortI_sorted_go : ∀ (l S : List Int), S.Pairwise (· ≤ ·) → (l.foldl (fun S x => insI x S) S).Pairwise (· ≤ ·)
  | [], _, h => h
  | x :: l, S, h => sortI_sorted_go l _ (insI_sorted x S h)
theorem sortI_sorted (l : List Int) : (sortI l).Pairwise (· ≤ ·) := sortI_sorted_go l [] List.Pairwise.nil
theorem sorted_unique : ∀ {l m : List Int}, l.Perm m → l.Pairwise (· ≤ ·) → m.Pairwise (· ≤ ·) → l = m
  | [], m, hp, _, _ => by simpa using hp.symm.eq_nil.symm
  | x :: l, [], hp, _, _ => by simpa using hp.eq_nil
  | x :: l, y :: m, hp, hl, hm => by
    rw [List.pairwise_cons] at hl hm
    have hx : x ≤ y := by
      rcases List.mem_cons.1 (hp.mem_iff.2 (List.mem_cons_self (a := y) (l := m))) with h | h
      · omega
      · exact hl.1 y h
    have hy : y ≤ x := by
      rcases List.mem_cons.1 (hp.mem_iff.1 (List.mem_cons_self (a := x) (l := l))) with h | h
      · omega
      · exact hm.1 x h
    obtain rfl : x = y := by omega
    rw [sorted_unique ((List.perm_cons x).1 hp) hl.2 hm.2]
theorem sortI_eq (l : List Int) : sortI l = l.mergeSort fun x y => decide (x ≤ y) := by
  refine sorted_unique ((sortI_perm l).trans (List.mergeSort_perm l _).symm) (sortI_sorted l) ?_
  have h := List.pairwise_mergeSort (le := fun x y : Int => decide (x ≤ y)) (by intro a b c h1 h2; simp at h1 h2 ⊢; omega) (by intro a b; simp; omega) l
  simpa using h

theorem readsRow_take {α : Type} {R : α → List Value → Prop} {size : Nat} {w : World} {A : Option Addr} {n : Nat} {ps : List α} (h : ReadsRow R size w A n ps) (m : Nat) (hm : m ≤ n) : ReadsRow R size w A m (ps.take m) := by
  refine ⟨by rw [List.length_take, h.1]; omega, by have := h.2.1; omega, fun hp => ?_⟩
  obtain ⟨ad, e, hc⟩ := h.2.2 (by omega)
  refine ⟨ad, e, fun j p hj => hc j p ?_⟩
  rw [List.getElem?_take] at hj
  split at hj
  · exact hj
  · cases hj
theorem readsRow_drop {α : Type} {R : α → List Value → Prop} {w : World} {A : Option Addr} {n c : Nat} {ps : List α} (h : ReadsRow R 1 w A n ps) (m : Nat) (hm : m ≤ n) (hc : n ≤ c) : ReadsRow R 1 w (if c = m then A else A.map (·.add m)) (n - m) (ps.drop m) := by
  refine ⟨by rw [List.length_drop, h.1], by have := h.2.1; omega, fun hp => ?_⟩
  obtain ⟨ad, rfl, hcell⟩ := h.2.2 (by omega)
  rw [if_neg (by omega)]
  refine ⟨ad.add m, rfl, fun j p hj => ?_⟩
  rw [List.getElem?_drop] at hj
  obtain ⟨cs, h1, h2, h3⟩ := hcell _ _ hj
  refine ⟨cs, h1, h2, fun i u hu => ?_⟩
  have ha : (ad.add m).add (j * 1 + i) = ad.add ((m + j) * 1 + i) := by
    have e1 : (m + j) * 1 + i = m + (j * 1 + i) := by omega
    rw [e1]
    unfold Addr.add
    by_cases h1 : m = 0 <;> by_cases h2 : j * 1 + i = 0 <;> simp_all [Nat.add_assoc]
  rw [ha]
  exact h3 i u hu
theorem R_append_rows_E {α : Type} {P : Program} {ops : Array Oper} {o : Oper} {a : Act} {Kc : Act → World → Prop} {Q : Exit → Act → World → Prop} {E : Prop} {e : Nat} (d : Kd α) {Rr : α → List Value → Prop} {w0 W : World} (base : Nat) (hgd : o.guard = none) (s x : Operand) (t : TypeId)
    (ho : o.op = .call { callee := .builtin .append, args := #[s, x], argTypes := #[t, t] }) (z : Value) (bytes : Nat)
    (ht : P.underlying t = some (.slice e)) (hinfo : (P.info? e).map (fun i => (i.zero, i.size, i.bytes)) = some (some z, d.sz, bytes)) (hz : z.cells.size = d.sz) (hs0 : 0 < d.sz) (hb0 : 0 < bytes)
    (v : Value) (xs ys : List α) (A : Option Addr) (m c : Nat) (ok okp : Nat → Prop) (hs : a.eval s = v) (hx : a.eval x = .slice A m c)
    (HO : d.R e W base ok v xs) (HR : ReadsRow Rr d.sz W A m ys) (hKM : ∀ x cs, Rr x cs → d.M W base okp x cs) (hokp : ∀ k, okp k → ok k ∧ some k ≠ v.ownBlock) (hfresh : ∀ k, W.heap.size ≤ k → ok k)
    (HB : Below base w0 W) (hbase : base ≤ W.heap.size) (hl : (xs.length + m) * bytes ≤ 140737488355328)
    (h : ∀ v1 w1, d.R e w1 base ok v1 (xs ++ ys) → Below base w0 w1 → W.grownBy w1 v.ownBlock → (v1.ownBlock = v.ownBlock ∨ ∃ b, v1.ownBlock = some b ∧ W.heap.size ≤ b) → Kc (a.put o.dst v1) w1) :
    if Region.wanted o (yielded ops a.tmps) = true then Oper.wp P o a W Kc Q else E := by
  have hw : Region.wanted o (yielded ops a.tmps) = true := by simp [Region.wanted, hgd]
  have h1 := Kd.R_append_rows_step (Q := Q) (Kc := Kc) (ops := ops) d base hw s x t e z bytes ho ht hinfo hz hs0 hb0 v xs ys A m c ok okp hs hx HO HR hKM hokp hfresh HB hbase hl h
  rw [if_pos hw] at h1 ⊢
  exact h1
theorem own_blk {w : World} {base g : Nat} {e : Nat} {ok : Nat → Prop} {cs : Array Value} (xs : List Int) (n : Nat) (h : w.heap[g]? = some (.cells cs e (0, 0))) (hn : n = xs.length) (hcs : cs = (encs (Value.int .i64) xs).toArray) (hb : base ≤ g) (hm : xs.length ≤ 9223372036854775807) (hok : ok g) : Kd.R (Kd.int .i64) e w base ok (.slice (some ⟨g, 0, none⟩) n n) xs := by
  subst hn
  subst hcs
  refine Kd.R_of_own (enc := Value.int .i64) (h1 := fun _ => rfl) ⟨by simp [encs], .inr ⟨g, xs.length, _, rfl, hb, h, Nat.le_refl _, hm, by simp [encs], ?_⟩⟩ (fun k hk => ?_)
  · rw [List.take_of_length_le (by simp [encs])]
  · have : g = k := by simpa [Value.ownBlock] using hk
    exact this ▸ hok
theorem reads_blk {w : World} {g : Nat} {e : Nat} {cs : Array Value} (xs : List Int) (n : Nat) (h : w.heap[g]? = some (.cells cs e (0, 0))) (hn : n = xs.length) (hcs : cs = (encs (Value.int .i64) xs).toArray) (hm : xs.length ≤ 9223372036854775807) : ReadsRow (fun y cs => cs = [Value.int .i64 y]) 1 w (some ⟨g, 0, none⟩) n xs := by
  subst hn
  exact (Kd.R_reads' (own_blk (base := 0) (ok := fun _ => True) xs xs.length h rfl hcs (Nat.zero_le _) hm trivial)).2.2
theorem blk_new' (w : World) (o : Obj) (g : Nat) (h : w.heap.size = g) : (w.alloc o).heap[g]? = some o := by subst h; exact blk_new w o
theorem size_alloc' (w : World) (o : Obj) : (w.alloc o).heap.size = w.heap.size + 1 := Array.size_push _
theorem size_drew' (w : World) : w.drew.heap.size = w.heap.size := rfl
theorem size_drewN' (w : World) (n : Nat) : (w.drewN n).heap.size = w.heap.size := rfl
theorem insI_cut (x : Int) : ∀ (a b : List Int), (∀ y ∈ a, y ≤ x) → (∀ z zs, b = z :: zs → x < z) → insI x (a ++ b) = a ++ x :: b
  | [], [], _, _ => by simp [insI]
  | [], z :: zs, _, h => by have := h z zs rfl; simp [insI, show ¬ z ≤ x by omega]
  | y :: a, b, ha, hb => by
    have ih := insI_cut x a b (fun z hz => ha z (by simp [hz])) hb
    have hy := ha y (by simp)
    have e : insI x (y :: (a ++ b)) = y :: insI x (a ++ b) := by simp [insI, hy]
    rw [List.cons_append, e, ih]
    rfl
set_option maxHeartbeats 1000000 in
set_option maxRecDepth 100000 in
theorem spec_l21Sorted_c (A : Option Addr) (c : Nat) (zs : List Int) (w : World) (hr : Kd.C (Kd.int .i64) w A zs.length zs) (hc : zs.length ≤ c) (hl : zs.length ≤ 1048576) :
    Calls Try.prog 144 #[.slice A zs.length c] w fun e w' => ∃ v, e = .returned v ∧ Kd.R (Kd.int .i64) 3 w' w.heap.size (fun _ => True) v (sortI zs) ∧ Below w.heap.size w w' := by
  have HR := Aside0.mk hr
  have HL := Aside0.mk hl
  clear hr hc hl
  go_enter Try.func144, Try.ntmps144
  go_wp2
  go_loopg [3, 4] zs.length (fun gg v3 v4 wr => ∃ (pre suf : List Int), gg = suf.length ∧ Aside0 (zs = pre ++ suf) ∧ v4 = .int .i64 (pre.length : Int) ∧ Aside0 (Kd.R (Kd.int .i64) 3 wr w.heap.size (fun _ => True) v3 (sortI pre)) ∧ Aside0 (Below w.heap.size w wr))
  case atStart =>
    exact ⟨[], zs, rfl, ⟨rfl⟩, rfl, ⟨Kd.R_of_own (own_lit w w.heap.size 3 .i64 [] (Nat.le_refl _) (by simp)) (fun _ _ => trivial)⟩, ⟨by repeat (first | (with_reducible exact Below.refl _ _) | apply below_alloc)⟩⟩
  case round =>
    obtain ⟨pre, suf, hgg, HE, rfl, HO, HB⟩ := hrel
    cases suf with
    | nil =>
      have e0 : zs = pre := by simpa using HE.out
      subst e0
      go_wp2
      go_ret
      exact ⟨_, rfl, HO.out, HB.out⟩
    | cons x suf =>
      have hlen : zs.length = pre.length + (suf.length + 1) := by rw [HE.out]; simp
      have hlt : (pre.length : Int) < (zs.length : Int) := by omega
      obtain ⟨A3, c3, rfl⟩ := Kd.R_slice HO.out
      obtain ⟨S, hS⟩ : ∃ S, S = sortI pre := ⟨_, rfl⟩
      have hSl : S.length = pre.length := by rw [hS]; exact (sortI_perm pre).length_eq
      have HO' := Aside0.mk (show Kd.R (Kd.int .i64) 3 wr w.heap.size (fun _ => True) (.slice A3 S.length c3) S by rw [hS]; exact HO.out)
      rw [← hS]
      have HS := Aside0.mk hS
      have HSL := Aside0.mk hSl
      have HX := Aside0.mk (show rd zs (pre.length : Int) = x by rw [HE.out]; simp [rd])
      have HLN := Aside0.mk hlen
      clear hS hSl HO hlen
      go_wp2
      go_loopg [5] S.length (fun gg v5 wr2 => ∃ (a b : List Int), gg = b.length ∧ Aside0 (S = a ++ b) ∧ Aside0 (∀ y ∈ a, y ≤ x) ∧ v5 = .int .i64 (a.length : Int) ∧ Aside0 (Kd.R (Kd.int .i64) 3 wr2 w.heap.size (fun _ => True) (.slice A3 S.length c3) S) ∧ Aside0 (Below w.heap.size w wr2))
      case atStart => exact ⟨[], S, rfl, ⟨rfl⟩, ⟨by simp⟩, rfl, HO', HB⟩
      case round =>
        clear HO' HB
        obtain ⟨a, b, hg2, HE2, HA, rfl, HO, HB⟩ := hrel
        obtain ⟨ad, rfl, hx⟩ := Kd.at_int (Kd.C_below HR.out HB.out) (pre.length : Int) (by omega) (by omega)
        rw [HX.out, Int.toNat_natCast] at hx
        cases b with
        | nil =>
          have e0 : S = a := by simpa using HE2.out
          subst e0
          have hpl : (pre.length : Int) < (zs.length : Int) := hlt
          have HH := Aside0.mk (show insI x S = S ++ x :: [] by have h_ := insI_cut x S [] HA.out (by simp); rwa [List.append_nil] at h_)
          go_wp2_with fail
          go_region
          go_wp2_with fail
          have hSc := (Kd.R_reads' HO.out).2.1
          have hCS := (Kd.R_reads' HO.out).2.2
          have hab : S.length = S.length + ([] : List Int).length := by simp
          have hT := readsRow_take hCS S.length (by omega)
          have hD := readsRow_drop hCS S.length (by omega) hSc
          rw [show S.take S.length = S by simp] at hT
          rw [show S.drop S.length = ([] : List Int) by simp, show S.length - S.length = ([] : List Int).length by simp] at hD
          have hinfo : (Try.prog.info? 3).map (fun i => (i.zero, i.size, i.bytes)) = some (some (.int .i64 0), 1, 8) := by kernel_rfl
          obtain ⟨i0, hi0, hzz⟩ := Option.map_eq_some_iff.1 hinfo
          simp only [Prod.mk.injEq] at hzz
          have hcut1 := cut_to (P := Try.prog) 25 3 .i64 Try.underlying25 hi0 A3 S.length c3 (S.length : Int) (by omega) (by omega) hSc
          have hcut2 := cut_from (P := Try.prog) 25 3 .i64 Try.underlying25 hi0 1 hzz.2.1 A3 S.length c3 (S.length : Int) (by omega) (by omega)
          rw [Int.toNat_natCast, Nat.mul_one, show S.length - S.length = ([] : List Int).length by simp] at hcut2
          rw [Int.toNat_natCast] at hcut1
          obtain ⟨A4, hA4⟩ : ∃ A4, A4 = (if c3 = S.length then A3 else A3.map (·.add S.length)) := ⟨_, rfl⟩
          rw [← hA4] at hcut2 hD
          have HT := Aside0.mk hT
          have HD := Aside0.mk hD
          have HAB := Aside0.mk hab
          have HIN := Aside0.mk hinfo
          clear hSc hCS hab hT hD hinfo hi0 hzz hA4
          obtain ⟨AT, hAT⟩ : ∃ AT, AT = A3 := ⟨_, rfl⟩
          subst hAT
          go_region_held3 (fun w' => w'.cell? (ad.add pre.length) = some (.int .i64 x)) (first | go_keep | assumption | exact pw_cell_below (by repeat (first | (with_reducible first | exact Below.refl _ _ | exact hB3 | exact hB2 | exact hB1 | apply below_alloc | apply pw_below_drewN | apply below_drew))) hx) (first | (refine R_append_rows_E (Kd.int .i64) (Rr := (fun y cs => cs = [Value.int .i64 y])) (w0 := wr) wr.heap.size (by rfl) _ _ _ (by rfl) (.int .i64 0) 8 Try.underlying25 HIN.out rfl (by decide) (by decide) (.slice (some ⟨_, 0, none⟩) 0 0) ([]) (S) AT (S).length c3 (fun k => wr.heap.size ≤ k) (fun _ => False) (by rfl) (by rfl) ?ha ?hb ?hc ?hd ?he ?hf ?hg ?hh ?_; (case ha => exact own_blk (cs := #[]) [] 0 (by repeat (with_reducible first | apply blk_drew | apply blk_drewN | (refine blk_new' _ _ _ ?_; simp only [size_alloc', size_drew', size_drewN']; done) | apply blk_alloc | refine blk_grown ?_ hg1 (by first | (simp [Value.ownBlock]; done) | (simp [Value.ownBlock]; omega)))) rfl (by rfl) (by omega) (by simp) (by omega)); (case hb => exact ReadsRow.imp_ HT.out (by repeat (first | (with_reducible first | exact Below.refl _ _ | exact hB3 | exact hB2 | exact hB1 | apply below_alloc | apply pw_below_drewN | apply below_drew))) (fun _ _ h => h)); (case hc => exact fun _ _ h => h); (case hd => exact fun k h => h.elim); (case he => exact fun k hk => Nat.le_trans (Below.size (by repeat (first | (with_reducible first | exact Below.refl _ _ | exact hB3 | exact hB2 | exact hB1 | apply below_alloc | apply pw_below_drewN | apply below_drew)))) hk); (case hf => exact (by repeat (first | (with_reducible first | exact Below.refl _ _ | exact hB3 | exact hB2 | exact hB1 | apply below_alloc | apply pw_below_drewN | apply below_drew)))); (case hg => exact Below.size (by repeat (first | (with_reducible first | exact Below.refl _ _ | exact hB3 | exact hB2 | exact hB1 | apply below_alloc | apply pw_below_drewN | apply below_drew)))); (case hh => have := HL.out; have := HLN.out; have := HSL.out; have := HAB.out; first | omega | (simp only [List.length_nil, List.length_cons, List.length_append] at *; omega) | (simp only [List.length_nil, List.length_cons, List.length_append]; omega)); intro v1 w1 hO1 hB1 hg1 ho1; have hz1 := Below.size hB1) | (refine R_append_rows_E (Kd.int .i64) (Rr := (fun y cs => cs = [Value.int .i64 y])) (w0 := wr) wr.heap.size (by rfl) _ _ _ (by rfl) (.int .i64 0) 8 Try.underlying25 HIN.out rfl (by decide) (by decide) v2 ([] ++ S ++ [x]) (([] : List Int)) A4 (([] : List Int)).length _ (fun k => wr.heap.size ≤ k) (fun _ => False) (by rfl) (by rfl) ?ha ?hb ?hc ?hd ?he ?hf ?hg ?hh ?_; (case ha => exact (by (with_reducible repeat (first | apply Kd.R_alloc | apply Kd.R_drewN | apply Kd.R_drew)); exact hO2)); (case hb => exact ReadsRow.imp_ HD.out (by repeat (first | (with_reducible first | exact Below.refl _ _ | exact hB3 | exact hB2 | exact hB1 | apply below_alloc | apply pw_below_drewN | apply below_drew))) (fun _ _ h => h)); (case hc => exact fun _ _ h => h); (case hd => exact fun k h => h.elim); (case he => exact fun k hk => Nat.le_trans (Below.size (by repeat (first | (with_reducible first | exact Below.refl _ _ | exact hB3 | exact hB2 | exact hB1 | apply below_alloc | apply pw_below_drewN | apply below_drew)))) hk); (case hf => exact (by repeat (first | (with_reducible first | exact Below.refl _ _ | exact hB3 | exact hB2 | exact hB1 | apply below_alloc | apply pw_below_drewN | apply below_drew)))); (case hg => exact Below.size (by repeat (first | (with_reducible first | exact Below.refl _ _ | exact hB3 | exact hB2 | exact hB1 | apply below_alloc | apply pw_below_drewN | apply below_drew)))); (case hh => have := HL.out; have := HLN.out; have := HSL.out; have := HAB.out; first | omega | (simp only [List.length_nil, List.length_cons, List.length_append] at *; omega) | (simp only [List.length_nil, List.length_cons, List.length_append]; omega)); intro v3 w3 hO3 hB3 hg3 ho3; have hz3 := Below.size hB3) | (refine R_append_rows_E (Kd.int .i64) (Rr := (fun y cs => cs = [Value.int .i64 y])) (w0 := wr) wr.heap.size (by rfl) _ _ _ (by rfl) (.int .i64 0) 8 Try.underlying25 HIN.out rfl (by decide) (by decide) v1 ([] ++ S) ([x]) _ 1 1 (fun k => wr.heap.size ≤ k) (fun _ => False) (by rfl) (by rfl) ?ha ?hb ?hc ?hd ?he ?hf ?hg ?hh ?_; (case ha => exact (by (with_reducible repeat (first | apply Kd.R_alloc | apply Kd.R_drewN | apply Kd.R_drew)); exact hO1)); (case hb => exact reads_blk (e := 3) (cs := #[.int .i64 x]) [x] 1 (by repeat (with_reducible first | apply blk_drew | apply blk_drewN | (refine blk_new' _ _ _ ?_; simp only [size_alloc', size_drew', size_drewN']; done) | apply blk_alloc | refine blk_grown ?_ hg1 (by first | (simp [Value.ownBlock]; done) | (simp [Value.ownBlock]; omega)))) rfl (by rfl) (by simp)); (case hc => exact fun _ _ h => h); (case hd => exact fun k h => h.elim); (case he => exact fun k hk => Nat.le_trans (Below.size (by repeat (first | (with_reducible first | exact Below.refl _ _ | exact hB3 | exact hB2 | exact hB1 | apply below_alloc | apply pw_below_drewN | apply below_drew)))) hk); (case hf => exact (by repeat (first | (with_reducible first | exact Below.refl _ _ | exact hB3 | exact hB2 | exact hB1 | apply below_alloc | apply pw_below_drewN | apply below_drew)))); (case hg => exact Below.size (by repeat (first | (with_reducible first | exact Below.refl _ _ | exact hB3 | exact hB2 | exact hB1 | apply below_alloc | apply pw_below_drewN | apply below_drew)))); (case hh => have := HL.out; have := HLN.out; have := HSL.out; have := HAB.out; first | omega | (simp only [List.length_nil, List.length_cons, List.length_append] at *; omega) | (simp only [List.length_nil, List.length_cons, List.length_append]; omega)); intro v2 w2 hO2 hB2 hg2 ho2; have hz2 := Below.size hB2))
          all_goals (go_wp2_with fail)
          all_goals (go_roundg suf.length)
          all_goals (first | (case measure => rw [hgg]; simp) | skip)
          all_goals (refine ⟨pre ++ [x], suf, rfl, ⟨by rw [HE.out]; simp⟩, ?_, ⟨?_⟩, ⟨?_⟩⟩)
          all_goals (first | (rw [List.length_append, wsucc (by have := HLN.out; have := HL.out; omega)]; rfl) | exact below_step HB.out (by repeat (first | (with_reducible first | exact Below.refl _ _ | exact hB3 | apply below_alloc | apply pw_below_drewN | apply below_drew))) | skip)
          all_goals (rw [show sortI (pre ++ [x]) = [] ++ S ++ [x] ++ [] by rw [sortI, List.foldl_append]; show insI x (sortI pre) = _; rw [← HS.out, HH.out]; simp]; exact Kd.R_lower (Kd.R_mono hO3 (fun _ _ => trivial)) HB.out.size)
        | cons y b =>
          have hlen2 : S.length = a.length + (b.length + 1) := by rw [HE2.out]; simp
          have hlt2 : (a.length : Int) < (S.length : Int) := by omega
          obtain ⟨g, cap, e1, gb, gl, cl⟩ := Kd.R_form HO.out (by omega)
          injection e1 with e1 e2 e3
          subst e1
          subst e3
          have hy := (Kd.R_cell (0 : Int) HO.out (a.length : Int) (by omega) hlt2).1
          have hyv : rdOf 0 S (a.length : Int) = y := by rw [HE2.out]; simp [rdOf]
          rw [hyv, Int.toNat_natCast] at hy
          have HL2 := Aside0.mk hlen2
          clear hyv cl gb hlen2 e2
          have hpl : (pre.length : Int) < (zs.length : Int) := hlt
          by_cases hc : y ≤ x
          · have hcd : decide (y ≤ x) = true := decide_eq_true hc
            go_wp2_with fail
            go_region_held3 (fun w' => w'.cell? ⟨g, a.length, none⟩ = some (.int .i64 y) ∧ w'.cell? (ad.add pre.length) = some (.int .i64 x)) (go_keep) (fail)
            go_wp2_with fail
            go_roundg b.length
            case measure => rw [hg2]; simp
            case rel =>
              refine ⟨a ++ [y], b, rfl, ⟨by rw [HE2.out]; simp⟩, ⟨?_⟩, ?_, ⟨?_⟩, ⟨?_⟩⟩
              · intro z hz
                rcases List.mem_append.1 hz with h | h
                · exact HA.out z h
                · rw [List.mem_singleton.1 h]; exact hc
              · rw [List.length_append, wsucc (by have := HL2.out; have := HSL.out; have := HLN.out; have := HL.out; omega)]; rfl
              · (with_reducible repeat (first | apply Kd.R_alloc | apply Kd.R_drewN | apply Kd.R_drew)); exact HO.out
              · repeat (first | (with_reducible first | exact HB.out | apply below_alloc | apply pw_below_drewN | apply below_drew1) | exact HB.out)
          · have HH := Aside0.mk (show insI x S = a ++ x :: (y :: b) by rw [HE2.out]; exact insI_cut x a (y :: b) HA.out (by intro z zs e; injection e with e1 e2; omega))
            have hcd : decide (y ≤ x) = false := decide_eq_false hc
            go_wp2_with fail
            go_region_held3 (fun w' => w'.cell? ⟨g, a.length, none⟩ = some (.int .i64 y) ∧ w'.cell? (ad.add pre.length) = some (.int .i64 x)) (go_keep) (fail)
            go_wp2_with fail
            have hSc := (Kd.R_reads' HO.out).2.1
            have hCS := (Kd.R_reads' HO.out).2.2
            have hab : S.length = a.length + (y :: b).length := by rw [HE2.out]; simp
            have hT := readsRow_take hCS a.length (by omega)
            have hD := readsRow_drop hCS a.length (by omega) hSc
            rw [show S.take a.length = a by rw [HE2.out]; simp] at hT
            rw [show S.drop a.length = (y :: b) by rw [HE2.out]; simp, show S.length - a.length = (y :: b).length by omega] at hD
            have hinfo : (Try.prog.info? 3).map (fun i => (i.zero, i.size, i.bytes)) = some (some (.int .i64 0), 1, 8) := by kernel_rfl
            obtain ⟨i0, hi0, hzz⟩ := Option.map_eq_some_iff.1 hinfo
            simp only [Prod.mk.injEq] at hzz
            have hcut1 := cut_to (P := Try.prog) 25 3 .i64 Try.underlying25 hi0 (some ⟨g, 0, none⟩) S.length c3 (a.length : Int) (by omega) (by omega) hSc
            have hcut2 := cut_from (P := Try.prog) 25 3 .i64 Try.underlying25 hi0 1 hzz.2.1 (some ⟨g, 0, none⟩) S.length c3 (a.length : Int) (by omega) (by omega)
            rw [Int.toNat_natCast, Nat.mul_one, show S.length - a.length = (y :: b).length by omega] at hcut2
            rw [Int.toNat_natCast] at hcut1
            obtain ⟨A4, hA4⟩ : ∃ A4, A4 = (if c3 = a.length then some ⟨g, 0, none⟩ else (some (⟨g, 0, none⟩ : Addr)).map (·.add a.length)) := ⟨_, rfl⟩
            rw [← hA4] at hcut2 hD
            have HT := Aside0.mk hT
            have HD := Aside0.mk hD
            have HAB := Aside0.mk hab
            have HIN := Aside0.mk hinfo
            clear hSc hCS hab hT hD hinfo hi0 hzz hA4
            go_region_held3 (fun w' => w'.cell? (ad.add pre.length) = some (.int .i64 x)) (first | go_keep | assumption | exact pw_cell_below (by repeat (first | (with_reducible first | exact Below.refl _ _ | exact hB3 | exact hB2 | exact hB1 | apply below_alloc | apply pw_below_drewN | apply below_drew))) hx) (first | (refine R_append_rows_E (Kd.int .i64) (Rr := (fun y cs => cs = [Value.int .i64 y])) (w0 := wr) wr.heap.size (by rfl) _ _ _ (by rfl) (.int .i64 0) 8 Try.underlying25 HIN.out rfl (by decide) (by decide) (.slice (some ⟨_, 0, none⟩) 0 0) ([]) (a) (some ⟨g, 0, none⟩) (a).length c3 (fun k => wr.heap.size ≤ k) (fun _ => False) (by rfl) (by rfl) ?ha ?hb ?hc ?hd ?he ?hf ?hg ?hh ?_; (case ha => exact own_blk (cs := #[]) [] 0 (by repeat (with_reducible first | apply blk_drew | apply blk_drewN | (refine blk_new' _ _ _ ?_; simp only [size_alloc', size_drew', size_drewN']; done) | apply blk_alloc | refine blk_grown ?_ hg1 (by first | (simp [Value.ownBlock]; done) | (simp [Value.ownBlock]; omega)))) rfl (by rfl) (by omega) (by simp) (by omega)); (case hb => exact ReadsRow.imp_ HT.out (by repeat (first | (with_reducible first | exact Below.refl _ _ | exact hB3 | exact hB2 | exact hB1 | apply below_alloc | apply pw_below_drewN | apply below_drew))) (fun _ _ h => h)); (case hc => exact fun _ _ h => h); (case hd => exact fun k h => h.elim); (case he => exact fun k hk => Nat.le_trans (Below.size (by repeat (first | (with_reducible first | exact Below.refl _ _ | exact hB3 | exact hB2 | exact hB1 | apply below_alloc | apply pw_below_drewN | apply below_drew)))) hk); (case hf => exact (by repeat (first | (with_reducible first | exact Below.refl _ _ | exact hB3 | exact hB2 | exact hB1 | apply below_alloc | apply pw_below_drewN | apply below_drew)))); (case hg => exact Below.size (by repeat (first | (with_reducible first | exact Below.refl _ _ | exact hB3 | exact hB2 | exact hB1 | apply below_alloc | apply pw_below_drewN | apply below_drew)))); (case hh => have := HL.out; have := HLN.out; have := HSL.out; have := HAB.out; first | omega | (simp only [List.length_nil, List.length_cons, List.length_append] at *; omega) | (simp only [List.length_nil, List.length_cons, List.length_append]; omega)); intro v1 w1 hO1 hB1 hg1 ho1; have hz1 := Below.size hB1) | (refine R_append_rows_E (Kd.int .i64) (Rr := (fun y cs => cs = [Value.int .i64 y])) (w0 := wr) wr.heap.size (by rfl) _ _ _ (by rfl) (.int .i64 0) 8 Try.underlying25 HIN.out rfl (by decide) (by decide) v2 ([] ++ a ++ [x]) (y :: b) A4 (y :: b).length _ (fun k => wr.heap.size ≤ k) (fun _ => False) (by rfl) (by rfl) ?ha ?hb ?hc ?hd ?he ?hf ?hg ?hh ?_; (case ha => exact (by (with_reducible repeat (first | apply Kd.R_alloc | apply Kd.R_drewN | apply Kd.R_drew)); exact hO2)); (case hb => exact ReadsRow.imp_ HD.out (by repeat (first | (with_reducible first | exact Below.refl _ _ | exact hB3 | exact hB2 | exact hB1 | apply below_alloc | apply pw_below_drewN | apply below_drew))) (fun _ _ h => h)); (case hc => exact fun _ _ h => h); (case hd => exact fun k h => h.elim); (case he => exact fun k hk => Nat.le_trans (Below.size (by repeat (first | (with_reducible first | exact Below.refl _ _ | exact hB3 | exact hB2 | exact hB1 | apply below_alloc | apply pw_below_drewN | apply below_drew)))) hk); (case hf => exact (by repeat (first | (with_reducible first | exact Below.refl _ _ | exact hB3 | exact hB2 | exact hB1 | apply below_alloc | apply pw_below_drewN | apply below_drew)))); (case hg => exact Below.size (by repeat (first | (with_reducible first | exact Below.refl _ _ | exact hB3 | exact hB2 | exact hB1 | apply below_alloc | apply pw_below_drewN | apply below_drew)))); (case hh => have := HL.out; have := HLN.out; have := HSL.out; have := HAB.out; first | omega | (simp only [List.length_nil, List.length_cons, List.length_append] at *; omega) | (simp only [List.length_nil, List.length_cons, List.length_append]; omega)); intro v3 w3 hO3 hB3 hg3 ho3; have hz3 := Below.size hB3) | (refine R_append_rows_E (Kd.int .i64) (Rr := (fun y cs => cs = [Value.int .i64 y])) (w0 := wr) wr.heap.size (by rfl) _ _ _ (by rfl) (.int .i64 0) 8 Try.underlying25 HIN.out rfl (by decide) (by decide) v1 ([] ++ a) ([x]) _ 1 1 (fun k => wr.heap.size ≤ k) (fun _ => False) (by rfl) (by rfl) ?ha ?hb ?hc ?hd ?he ?hf ?hg ?hh ?_; (case ha => exact (by (with_reducible repeat (first | apply Kd.R_alloc | apply Kd.R_drewN | apply Kd.R_drew)); exact hO1)); (case hb => exact reads_blk (e := 3) (cs := #[.int .i64 x]) [x] 1 (by repeat (with_reducible first | apply blk_drew | apply blk_drewN | (refine blk_new' _ _ _ ?_; simp only [size_alloc', size_drew', size_drewN']; done) | apply blk_alloc | refine blk_grown ?_ hg1 (by first | (simp [Value.ownBlock]; done) | (simp [Value.ownBlock]; omega)))) rfl (by rfl) (by simp)); (case hc => exact fun _ _ h => h); (case hd => exact fun k h => h.elim); (case he => exact fun k hk => Nat.le_trans (Below.size (by repeat (first | (with_reducible first | exact Below.refl _ _ | exact hB3 | exact hB2 | exact hB1 | apply below_alloc | apply pw_below_drewN | apply below_drew)))) hk); (case hf => exact (by repeat (first | (with_reducible first | exact Below.refl _ _ | exact hB3 | exact hB2 | exact hB1 | apply below_alloc | apply pw_below_drewN | apply below_drew)))); (case hg => exact Below.size (by repeat (first | (with_reducible first | exact Below.refl _ _ | exact hB3 | exact hB2 | exact hB1 | apply below_alloc | apply pw_below_drewN | apply below_drew)))); (case hh => have := HL.out; have := HLN.out; have := HSL.out; have := HAB.out; first | omega | (simp only [List.length_nil, List.length_cons, List.length_append] at *; omega) | (simp only [List.length_nil, List.length_cons, List.length_append]; omega)); intro v2 w2 hO2 hB2 hg2 ho2; have hz2 := Below.size hB2))
            all_goals (go_wp2_with fail)
            all_goals (go_roundg suf.length)
            all_goals (first | (case measure => rw [hgg]; simp) | skip)
            all_goals (refine ⟨pre ++ [x], suf, rfl, ⟨by rw [HE.out]; simp⟩, ?_, ⟨?_⟩, ⟨?_⟩⟩)
            all_goals (first | (rw [List.length_append, wsucc (by have := HLN.out; have := HL.out; omega)]; rfl) | exact below_step HB.out (by repeat (first | (with_reducible first | exact Below.refl _ _ | exact hB3 | apply below_alloc | apply pw_below_drewN | apply below_drew))) | skip)
            all_goals (rw [show sortI (pre ++ [x]) = [] ++ a ++ [x] ++ (y :: b) by rw [sortI, List.foldl_append]; show insI x (sortI pre) = _; rw [← HS.out, HH.out]; simp]; exact Kd.R_lower (Kd.R_mono hO3 (fun _ _ => trivial)) HB.out.size)

def spec_l21Sorted.f (l0 : List Int) : Option (List Int) := if l0.length ≤ 1048576 then some (sortI l0) else none
theorem spec_l21Sorted.calls (A0 : Option Addr) (c0 : Nat) (l0 : List Int) (r : List Int) (w : World) (hr0 : Kd.C (Kd.int .i64) w A0 l0.length l0) (hc0 : l0.length ≤ c0) (h : spec_l21Sorted.f l0 = some r) :
    Calls Try.prog 144 #[.slice A0 l0.length c0] w fun e w' => ∃ v, e = .returned v ∧ Kd.R (Kd.int .i64) 3 w' w.heap.size (fun _ => True) v r ∧ Below w.heap.size w w' := by
  unfold spec_l21Sorted.f at h
  split at h
  · rename_i hh
    obtain rfl := Option.some.inj h
    exact spec_l21Sorted_c A0 c0 l0 w hr0 hc0 hh
  · cases h

/-! ### spec_MedianOf: function 91 -/
def spec_MedianOf.f (l0 : List Int) : Option (Int) := if (l0.length : Int) = 0 then (some 0) else ((spec_l21Sorted.f l0).bind fun t117 => (if 0 ≤ (wrap64 ((l0.length : Int) / 2)) then (if (wrap64 ((l0.length : Int) / 2)) < (t117.length : Int) then (some (rd t117 (wrap64 ((l0.length : Int) / 2)))) else (none)) else (none)))
set_option maxHeartbeats 8000000 in
set_option maxRecDepth 100000 in
theorem spec_MedianOf.calls (A0 : Option Addr) (c0 : Nat) (l0 : List Int) (r : Int) (w : World) (hr0 : Kd.C (Kd.int .i64) w A0 l0.length l0) (hc0 : l0.length ≤ c0) (h : spec_MedianOf.f l0 = some r) :
    Calls Try.prog 91 #[.slice A0 l0.length c0] w fun e w' => e = .returned (.int .i64 r) ∧ Below w.heap.size w w' := by
  have HR0 := Aside0.mk hr0
  have HC0 := Aside0.mk hc0
  clear hr0 hc0
  have HB := Aside0.mk (Below.refl w.heap.size w)
  have H : (if (l0.length : Int) = 0 then (some 0) else ((spec_l21Sorted.f l0).bind fun t117 => (if 0 ≤ (wrap64 ((l0.length : Int) / 2)) then (if (wrap64 ((l0.length : Int) / 2)) < (t117.length : Int) then (some (rd t117 (wrap64 ((l0.length : Int) / 2)))) else (none)) else (none)))) = some r := h
  clear h
  by_cases c2 : (l0.length : Int) = 0
  · rw [if_pos c2] at H
    have c2b0 : ((l0.length : Int) == 0) = true := beq_iff_eq.mpr c2
    have c2b1 : ((l0.length : Int) != 0) = false := bne_eq_false_iff_eq.mpr c2
    clear c2
    obtain rfl := Option.some.inj H
    go_enter Try.func91, Try.ntmps91
    go_wp2
    go_ret
    exact ⟨by first | rfl | (simp [errW_none, errW_some] <;> rfl) | (simp [*, errW_none, errW_some] <;> rfl), by repeat (first | (with_reducible first | exact HB.out | apply below_alloc | apply pw_below_drewN | apply below_drew1) | exact HB.out)⟩
  · rw [if_neg c2] at H
    have c2b0 : ((l0.length : Int) == 0) = false := beq_eq_false_iff_ne.mpr c2
    have c2b1 : ((l0.length : Int) != 0) = true := bne_iff_ne.mpr c2
    have c2b2 : ¬ (l0 = []) := fun h_ => c2 (by rw [h_]; rfl)
    replace H := Option.bind_eq_some_iff.mp H
    obtain ⟨t117, A30, H⟩ := H
    replace H : (if 0 ≤ (wrap64 ((l0.length : Int) / 2)) then (if (wrap64 ((l0.length : Int) / 2)) < (t117.length : Int) then (some (rd t117 (wrap64 ((l0.length : Int) / 2)))) else (none)) else (none)) = some r := H
    have A3 := Aside0.mk A30
    clear A30
    obtain ⟨ji4, hji4⟩ : ∃ j_ : Int, (wrap64 ((l0.length : Int) / 2)) = j_ := ⟨_, rfl⟩
    replace H : (if 0 ≤ (ji4) then (if (ji4) < (t117.length : Int) then (some (rd t117 (ji4))) else (none)) else (none)) = some r := by first | (rw [hji4] at H; exact H) | (simp only [hji4] at H ⊢; exact H)
    (try rw [hji4] at A3)
    have hji4w : (IntKind.i64.wrap ((l0.length : Int) / 2)) = ji4 := (i64_w _).trans hji4
    by_cases c5 : 0 ≤ (ji4)
    · rw [if_pos c5] at H
      have c5b0 : decide (0 ≤ (ji4)) = true := decide_eq_true c5
      clear c5
      by_cases c6 : (ji4) < (t117.length : Int)
      · rw [if_pos c6] at H
        have c6b0 : decide ((ji4) < (t117.length : Int)) = true := decide_eq_true c6
        clear c6
        obtain rfl := Option.some.inj H
        go_enter Try.func91, Try.ntmps91
        go_wp2_with (first | ((with_reducible refine gate_callee (f := 144) rfl ?_); refine goesL_ (some 7) rfl rfl Try.func144 (by kernel_rfl) rfl #[.slice A0 l0.length c0] rfl (by (try simp only [List.map_toArray, List.map_cons, List.map_nil]); first | done | rfl | (simp only [List.length_drop, List.length_take]; rfl)) ?_; (with_reducible refine (spec_l21Sorted.calls _ _ l0 t117 _ ?side1 ?side2 A3.out).mono ?_); (case side1 => repeat (first | exact HR0.out | (with_reducible refine Kd.C_alloc ?_ _) | (with_reducible refine Kd.C_drewN ?_ _) | (with_reducible refine Kd.C_drew ?_))); (case side2 => exact HC0.out); rintro e w7 ⟨v118, rfl, ho0, hb⟩; refine ⟨_, rfl, ?_⟩; have n0_ := Aside0.mk (Kd.R_lower ho0 (below_size (by repeat (first | (with_reducible first | exact HB.out | apply below_alloc | apply pw_below_drewN | apply below_drew1) | exact HB.out)))); have n1_ := Aside0.mk (below_step (by repeat (first | (with_reducible first | exact HB.out | apply below_alloc | apply pw_below_drewN | apply below_drew1) | exact HB.out)) hb); clear HB; have HO119 := n0_; have HB := n1_; clear n0_ n1_; (try clear hb); (try clear hb2); (try clear hk); (try clear hi); (try clear ho0); obtain ⟨Ao8, co8, eo8⟩ := Kd.R_slice HO119.out; subst eo8; have p120 : 0 ≤ ((ji4) : Int) := of_decide_eq_true (by first | (with_reducible assumption) | assumption); have q120 : (ji4) < (t117.length : Int) := of_decide_eq_true (by first | (with_reducible assumption) | assumption); obtain ⟨ad120, e120, hx120_0⟩ := Kd.at_int (Kd.R_reads' HO119.out).2.2 (ji4) p120 q120; cases e120; replace p120 := eq_true p120; replace q120 := eq_true q120))
        go_ret
        exact ⟨by first | rfl | (simp [errW_none, errW_some] <;> rfl) | (simp only [← hji4]; first | rfl | (simp [errW_none, errW_some] <;> rfl)) | (simp [*, errW_none, errW_some] <;> rfl), by repeat (first | (with_reducible first | exact HB.out | apply below_alloc | apply pw_below_drewN | apply below_drew1) | exact HB.out)⟩
      · rw [if_neg c6] at H
        exact absurd H (by simp)
    · rw [if_neg c5] at H
      exact absurd H (by simp)

/-! ### spec_IsBetter: function 22 -/
def spec_IsBetter.f (k : Nat) (l0 : List Int) (l1 : List Int) (a2 : Int) : Option (Bool) := (spec_l27List.f k l0).bind fun t121 => (if t121 = true then ((spec_l27List.f k l1).bind fun t122 => (if t122 = true then ((spec_l9Stamp.f a2).bind fun t123 => (if t123 = true then ((spec_MedianOf.f l1).bind fun t124 => ((spec_MedianOf.f l0).bind fun t125 => (some (decide (t124 ≤ (wrap64 (t125 - a2))))))) else (some false))) else (some false))) else (some false))
theorem spec_IsBetter.mono : ∀ a0 a1 a2 k, LeO (spec_IsBetter.f k a0 a1 a2) (spec_IsBetter.f (k + 1) a0 a1 a2) := by
  intro a0 a1 a2 k
  unfold spec_IsBetter.f
  repeat' first
      | (with_reducible exact spec_l27List.mono _ _)
      | (with_reducible exact LeO.refl _)
      | (with_reducible exact LeO.none _)
      | (with_reducible refine LeO.ite ?_ ?_)
      | (with_reducible refine LeO.bind ?_ (fun _ => ?_))
      | exact spec_l27List.mono _ _
      | exact LeO.none _
      | refine LeO.ite ?_ ?_
      | refine LeO.bind ?_ (fun _ => ?_)
set_option maxHeartbeats 8000000 in
set_option maxRecDepth 100000 in
theorem spec_IsBetter.calls (k : Nat) (A0 : Option Addr) (c0 : Nat) (l0 : List Int) (A1 : Option Addr) (c1 : Nat) (l1 : List Int) (a2 : Int) (r : Bool) (w : World) (hr0 : Kd.C (Kd.int .i64) w A0 l0.length l0) (hc0 : l0.length ≤ c0) (hr1 : Kd.C (Kd.int .i64) w A1 l1.length l1) (hc1 : l1.length ≤ c1) (h : spec_IsBetter.f k l0 l1 a2 = some r) :
    Calls Try.prog 22 #[.slice A0 l0.length c0, .slice A1 l1.length c1, .int .i64 a2] w fun e w' => e = .returned (.bool r) ∧ Below w.heap.size w w' := by
  have HR0 := Aside0.mk hr0
  have HC0 := Aside0.mk hc0
  clear hr0 hc0
  have HR1 := Aside0.mk hr1
  have HC1 := Aside0.mk hc1
  clear hr1 hc1
  have HB := Aside0.mk (Below.refl w.heap.size w)
  have H : ((spec_l27List.f k l0).bind fun t121 => (if t121 = true then ((spec_l27List.f k l1).bind fun t122 => (if t122 = true then ((spec_l9Stamp.f a2).bind fun t123 => (if t123 = true then ((spec_MedianOf.f l1).bind fun t124 => ((spec_MedianOf.f l0).bind fun t125 => (some (decide (t124 ≤ (wrap64 (t125 - a2))))))) else (some false))) else (some false))) else (some false))) = some r := h
  clear h
  replace H := Option.bind_eq_some_iff.mp H
  obtain ⟨t121, A40, H⟩ := H
  replace H : (if t121 = true then ((spec_l27List.f k l1).bind fun t122 => (if t122 = true then ((spec_l9Stamp.f a2).bind fun t123 => (if t123 = true then ((spec_MedianOf.f l1).bind fun t124 => ((spec_MedianOf.f l0).bind fun t125 => (some (decide (t124 ≤ (wrap64 (t125 - a2))))))) else (some false))) else (some false))) else (some false)) = some r := H
  have A4 := Aside0.mk A40
  clear A40
  by_cases c5 : t121 = true
  · subst c5
    have H1 : ((spec_l27List.f k l1).bind fun t122 => (if t122 = true then ((spec_l9Stamp.f a2).bind fun t123 => (if t123 = true then ((spec_MedianOf.f l1).bind fun t124 => ((spec_MedianOf.f l0).bind fun t125 => (some (decide (t124 ≤ (wrap64 (t125 - a2))))))) else (some false))) else (some false))) = some r := by rw [if_pos rfl] at H; exact H
    clear H
    have H := H1
    clear H1
    replace H := Option.bind_eq_some_iff.mp H
    obtain ⟨t122, A60, H⟩ := H
    replace H : (if t122 = true then ((spec_l9Stamp.f a2).bind fun t123 => (if t123 = true then ((spec_MedianOf.f l1).bind fun t124 => ((spec_MedianOf.f l0).bind fun t125 => (some (decide (t124 ≤ (wrap64 (t125 - a2))))))) else (some false))) else (some false)) = some r := H
    have A6 := Aside0.mk A60
    clear A60
    by_cases c7 : t122 = true
    · subst c7
      have H1 : ((spec_l9Stamp.f a2).bind fun t123 => (if t123 = true then ((spec_MedianOf.f l1).bind fun t124 => ((spec_MedianOf.f l0).bind fun t125 => (some (decide (t124 ≤ (wrap64 (t125 - a2))))))) else (some false))) = some r := by rw [if_pos rfl] at H; exact H
      clear H
      have H := H1
      clear H1
      replace H := Option.bind_eq_some_iff.mp H
      obtain ⟨t123, A80, H⟩ := H
      replace H : (if t123 = true then ((spec_MedianOf.f l1).bind fun t124 => ((spec_MedianOf.f l0).bind fun t125 => (some (decide (t124 ≤ (wrap64 (t125 - a2))))))) else (some false)) = some r := H
      have A8 := Aside0.mk A80
      clear A80
      by_cases c9 : t123 = true
      · subst c9
        have H1 : ((spec_MedianOf.f l1).bind fun t124 => ((spec_MedianOf.f l0).bind fun t125 => (some (decide (t124 ≤ (wrap64 (t125 - a2))))))) = some r := by rw [if_pos rfl] at H; exact H
        clear H
        have H := H1
        clear H1
        replace H := Option.bind_eq_some_iff.mp H
        obtain ⟨t124, A100, H⟩ := H
        replace H : ((spec_MedianOf.f l0).bind fun t125 => (some (decide (t124 ≤ (wrap64 (t125 - a2)))))) = some r := H
        have A10 := Aside0.mk A100
        clear A100
        replace H := Option.bind_eq_some_iff.mp H
        obtain ⟨t125, A110, H⟩ := H
        replace H : (some (decide (t124 ≤ (wrap64 (t125 - a2))))) = some r := H
        have A11 := Aside0.mk A110
        clear A110
        obtain rfl := Option.some.inj H
        go_enter Try.func22, Try.ntmps22
        go_wp2_with (first | ((with_reducible refine gate_callee (f := 89) rfl ?_); refine goesL_ (some 8) rfl rfl Try.func89 (by kernel_rfl) rfl #[.slice A0 l0.length c0] rfl (by (try simp only [List.map_toArray, List.map_cons, List.map_nil]); first | done | rfl | (simp only [List.length_drop, List.length_take]; rfl)) ?_; (with_reducible refine (spec_l27List.calls k _ _ l0 true _ ?side1 ?side2 A4.out).mono ?_); (case side1 => repeat (first | exact HR0.out | (with_reducible refine Kd.C_alloc ?_ _) | (with_reducible refine Kd.C_drewN ?_ _) | (with_reducible refine Kd.C_drew ?_))); (case side2 => exact HC0.out); rintro e w' ⟨rfl, ⟨nd, rfl⟩⟩; refine ⟨_, rfl, ?_⟩) | (go_at_call 89; (with_reducible refine (spec_l27List.calls k _ _ l1 true _ ?side1 ?side2 A6.out).mono ?_); (case side1 => repeat (first | exact HR1.out | (with_reducible refine Kd.C_alloc ?_ _) | (with_reducible refine Kd.C_drewN ?_ _) | (with_reducible refine Kd.C_drew ?_))); (case side2 => exact HC1.out); rintro e w' ⟨rfl, ⟨nd, rfl⟩⟩) | (go_at_call 90; (with_reducible refine (spec_l9Stamp.calls a2 true _ A8.out).mono ?_); rintro e w' ⟨rfl, ⟨nd, rfl⟩⟩) | (go_at_call 91; (with_reducible refine (spec_MedianOf.calls _ _ l1 t124 _ ?side1 ?side2 A10.out).mono ?_); (case side1 => repeat (first | exact HR1.out | (with_reducible refine Kd.C_alloc ?_ _) | (with_reducible refine Kd.C_drewN ?_ _) | (with_reducible refine Kd.C_drew ?_))); (case side2 => exact HC1.out); rintro e w12 ⟨rfl, hb⟩; have n0_ := Aside0.mk (below_step (by repeat (first | (with_reducible first | exact HB.out | apply below_alloc | apply pw_below_drewN | apply below_drew1) | exact HB.out)) hb); clear HB; have HB := n0_; clear n0_; (try clear hb); (try clear hb2); (try clear hk); (try clear hi)) | (go_at_call 91; (with_reducible refine (spec_MedianOf.calls _ _ l0 t125 _ ?side1 ?side2 A11.out).mono ?_); (case side1 => repeat (first | exact (Kd.C_below HR0.out HB.out) | (with_reducible refine Kd.C_alloc ?_ _) | (with_reducible refine Kd.C_drewN ?_ _) | (with_reducible refine Kd.C_drew ?_))); (case side2 => exact HC0.out); rintro e w13 ⟨rfl, hb⟩; have n0_ := Aside0.mk (below_step (by repeat (first | (with_reducible first | exact HB.out | apply below_alloc | apply pw_below_drewN | apply below_drew1) | exact HB.out)) hb); clear HB; have HB := n0_; clear n0_; (try clear hb); (try clear hb2); (try clear hk); (try clear hi)))
        go_ret
        exact ⟨by first | rfl | (simp [errW_none, errW_some] <;> rfl) | (simp [*, errW_none, errW_some] <;> rfl), by repeat (first | (with_reducible first | exact HB.out | apply below_alloc | apply pw_below_drewN | apply below_drew1) | exact HB.out)⟩
      · replace c9 := Bool.eq_false_iff.mpr c9
        subst c9
        have H1 : (some false) = some r := by rw [if_neg (show ¬ (false = true) by decide)] at H; exact H
        clear H
        have H := H1
        clear H1
        obtain rfl := Option.some.inj H
        go_enter Try.func22, Try.ntmps22
        go_wp2_with (first | ((with_reducible refine gate_callee (f := 89) rfl ?_); refine goesL_ (some 8) rfl rfl Try.func89 (by kernel_rfl) rfl #[.slice A0 l0.length c0] rfl (by (try simp only [List.map_toArray, List.map_cons, List.map_nil]); first | done | rfl | (simp only [List.length_drop, List.length_take]; rfl)) ?_; (with_reducible refine (spec_l27List.calls k _ _ l0 true _ ?side1 ?side2 A4.out).mono ?_); (case side1 => repeat (first | exact HR0.out | (with_reducible refine Kd.C_alloc ?_ _) | (with_reducible refine Kd.C_drewN ?_ _) | (with_reducible refine Kd.C_drew ?_))); (case side2 => exact HC0.out); rintro e w' ⟨rfl, ⟨nd, rfl⟩⟩; refine ⟨_, rfl, ?_⟩) | (go_at_call 89; (with_reducible refine (spec_l27List.calls k _ _ l1 true _ ?side1 ?side2 A6.out).mono ?_); (case side1 => repeat (first | exact HR1.out | (with_reducible refine Kd.C_alloc ?_ _) | (with_reducible refine Kd.C_drewN ?_ _) | (with_reducible refine Kd.C_drew ?_))); (case side2 => exact HC1.out); rintro e w' ⟨rfl, ⟨nd, rfl⟩⟩) | (go_at_call 90; (with_reducible refine (spec_l9Stamp.calls a2 false _ A8.out).mono ?_); rintro e w' ⟨rfl, ⟨nd, rfl⟩⟩))
        go_ret
        exact ⟨by first | rfl | (simp [errW_none, errW_some] <;> rfl) | (simp [*, errW_none, errW_some] <;> rfl), by repeat (first | (with_reducible first | exact HB.out | apply below_alloc | apply pw_below_drewN | apply below_drew1) | exact HB.out)⟩
    · replace c7 := Bool.eq_false_iff.mpr c7
      subst c7
      have H1 : (some false) = some r := by rw [if_neg (show ¬ (false = true) by decide)] at H; exact H
      clear H
      have H := H1
      clear H1
      obtain rfl := Option.some.inj H
      go_enter Try.func22, Try.ntmps22
      go_wp2_with (first | ((with_reducible refine gate_callee (f := 89) rfl ?_); refine goesL_ (some 8) rfl rfl Try.func89 (by kernel_rfl) rfl #[.slice A0 l0.length c0] rfl (by (try simp only [List.map_toArray, List.map_cons, List.map_nil]); first | done | rfl | (simp only [List.length_drop, List.length_take]; rfl)) ?_; (with_reducible refine (spec_l27List.calls k _ _ l0 true _ ?side1 ?side2 A4.out).mono ?_); (case side1 => repeat (first | exact HR0.out | (with_reducible refine Kd.C_alloc ?_ _) | (with_reducible refine Kd.C_drewN ?_ _) | (with_reducible refine Kd.C_drew ?_))); (case side2 => exact HC0.out); rintro e w' ⟨rfl, ⟨nd, rfl⟩⟩; refine ⟨_, rfl, ?_⟩) | (go_at_call 89; (with_reducible refine (spec_l27List.calls k _ _ l1 false _ ?side1 ?side2 A6.out).mono ?_); (case side1 => repeat (first | exact HR1.out | (with_reducible refine Kd.C_alloc ?_ _) | (with_reducible refine Kd.C_drewN ?_ _) | (with_reducible refine Kd.C_drew ?_))); (case side2 => exact HC1.out); rintro e w' ⟨rfl, ⟨nd, rfl⟩⟩))
      go_ret
      exact ⟨by first | rfl | (simp [errW_none, errW_some] <;> rfl) | (simp [*, errW_none, errW_some] <;> rfl), by repeat (first | (with_reducible first | exact HB.out | apply below_alloc | apply pw_below_drewN | apply below_drew1) | exact HB.out)⟩
  · replace c5 := Bool.eq_false_iff.mpr c5
    subst c5
    have H1 : (some false) = some r := by rw [if_neg (show ¬ (false = true) by decide)] at H; exact H
    clear H
    have H := H1
    clear H1
    obtain rfl := Option.some.inj H
    go_enter Try.func22, Try.ntmps22
    go_wp2_with (first | ((with_reducible refine gate_callee (f := 89) rfl ?_); refine goesL_ (some 8) rfl rfl Try.func89 (by kernel_rfl) rfl #[.slice A0 l0.length c0] rfl (by (try simp only [List.map_toArray, List.map_cons, List.map_nil]); first | done | rfl | (simp only [List.length_drop, List.length_take]; rfl)) ?_; (with_reducible refine (spec_l27List.calls k _ _ l0 false _ ?side1 ?side2 A4.out).mono ?_); (case side1 => repeat (first | exact HR0.out | (with_reducible refine Kd.C_alloc ?_ _) | (with_reducible refine Kd.C_drewN ?_ _) | (with_reducible refine Kd.C_drew ?_))); (case side2 => exact HC0.out); rintro e w' ⟨rfl, ⟨nd, rfl⟩⟩; refine ⟨_, rfl, ?_⟩))
    go_ret
    exact ⟨by first | rfl | (simp [errW_none, errW_some] <;> rfl) | (simp [*, errW_none, errW_some] <;> rfl), by repeat (first | (with_reducible first | exact HB.out | apply below_alloc | apply pw_below_drewN | apply below_drew1) | exact HB.out)⟩

/-! ### spec_IsWorse: function 26 -/
def spec_IsWorse.f (k : Nat) (l0 : List Int) (l1 : List Int) (a2 : Int) : Option (Bool) := (spec_l27List.f k l0).bind fun t126 => (if t126 = true then ((spec_l27List.f k l1).bind fun t127 => (if t127 = true then ((spec_l9Stamp.f a2).bind fun t128 => (if t128 = true then ((spec_MedianOf.f l1).bind fun t129 => ((spec_MedianOf.f l0).bind fun t130 => (some (decide ((wrap64 (t129 - a2)) > t130))))) else (some false))) else (some false))) else (some false))
theorem spec_IsWorse.mono : ∀ a0 a1 a2 k, LeO (spec_IsWorse.f k a0 a1 a2) (spec_IsWorse.f (k + 1) a0 a1 a2) := by
  intro a0 a1 a2 k
  unfold spec_IsWorse.f
  repeat' first
      | (with_reducible exact spec_l27List.mono _ _)
      | (with_reducible exact LeO.refl _)
      | (with_reducible exact LeO.none _)
      | (with_reducible refine LeO.ite ?_ ?_)
      | (with_reducible refine LeO.bind ?_ (fun _ => ?_))
      | exact spec_l27List.mono _ _
      | exact LeO.none _
      | refine LeO.ite ?_ ?_
      | refine LeO.bind ?_ (fun _ => ?_)
set_option maxHeartbeats 8000000 in
set_option maxRecDepth 100000 in
theorem spec_IsWorse.calls (k : Nat) (A0 : Option Addr) (c0 : Nat) (l0 : List Int) (A1 : Option Addr) (c1 : Nat) (l1 : List Int) (a2 : Int) (r : Bool) (w : World) (hr0 : Kd.C (Kd.int .i64) w A0 l0.length l0) (hc0 : l0.length ≤ c0) (hr1 : Kd.C (Kd.int .i64) w A1 l1.length l1) (hc1 : l1.length ≤ c1) (h : spec_IsWorse.f k l0 l1 a2 = some r) :
    Calls Try.prog 26 #[.slice A0 l0.length c0, .slice A1 l1.length c1, .int .i64 a2] w fun e w' => e = .returned (.bool r) ∧ Below w.heap.size w w' := by
  have HR0 := Aside0.mk hr0
  have HC0 := Aside0.mk hc0
  clear hr0 hc0
  have HR1 := Aside0.mk hr1
  have HC1 := Aside0.mk hc1
  clear hr1 hc1
  have HB := Aside0.mk (Below.refl w.heap.size w)
  have H : ((spec_l27List.f k l0).bind fun t126 => (if t126 = true then ((spec_l27List.f k l1).bind fun t127 => (if t127 = true then ((spec_l9Stamp.f a2).bind fun t128 => (if t128 = true then ((spec_MedianOf.f l1).bind fun t129 => ((spec_MedianOf.f l0).bind fun t130 => (some (decide ((wrap64 (t129 - a2)) > t130))))) else (some false))) else (some false))) else (some false))) = some r := h
  clear h
  replace H := Option.bind_eq_some_iff.mp H
  obtain ⟨t126, A40, H⟩ := H
  replace H : (if t126 = true then ((spec_l27List.f k l1).bind fun t127 => (if t127 = true then ((spec_l9Stamp.f a2).bind fun t128 => (if t128 = true then ((spec_MedianOf.f l1).bind fun t129 => ((spec_MedianOf.f l0).bind fun t130 => (some (decide ((wrap64 (t129 - a2)) > t130))))) else (some false))) else (some false))) else (some false)) = some r := H
  have A4 := Aside0.mk A40
  clear A40
  by_cases c5 : t126 = true
  · subst c5
    have H1 : ((spec_l27List.f k l1).bind fun t127 => (if t127 = true then ((spec_l9Stamp.f a2).bind fun t128 => (if t128 = true then ((spec_MedianOf.f l1).bind fun t129 => ((spec_MedianOf.f l0).bind fun t130 => (some (decide ((wrap64 (t129 - a2)) > t130))))) else (some false))) else (some false))) = some r := by rw [if_pos rfl] at H; exact H
    clear H
    have H := H1
    clear H1
    replace H := Option.bind_eq_some_iff.mp H
    obtain ⟨t127, A60, H⟩ := H
    replace H : (if t127 = true then ((spec_l9Stamp.f a2).bind fun t128 => (if t128 = true then ((spec_MedianOf.f l1).bind fun t129 => ((spec_MedianOf.f l0).bind fun t130 => (some (decide ((wrap64 (t129 - a2)) > t130))))) else (some false))) else (some false)) = some r := H
    have A6 := Aside0.mk A60
    clear A60
    by_cases c7 : t127 = true
    · subst c7
      have H1 : ((spec_l9Stamp.f a2).bind fun t128 => (if t128 = true then ((spec_MedianOf.f l1).bind fun t129 => ((spec_MedianOf.f l0).bind fun t130 => (some (decide ((wrap64 (t129 - a2)) > t130))))) else (some false))) = some r := by rw [if_pos rfl] at H; exact H
      clear H
      have H := H1
      clear H1
      replace H := Option.bind_eq_some_iff.mp H
      obtain ⟨t128, A80, H⟩ := H
      replace H : (if t128 = true then ((spec_MedianOf.f l1).bind fun t129 => ((spec_MedianOf.f l0).bind fun t130 => (some (decide ((wrap64 (t129 - a2)) > t130))))) else (some false)) = some r := H
      have A8 := Aside0.mk A80
      clear A80
      by_cases c9 : t128 = true
      · subst c9
        have H1 : ((spec_MedianOf.f l1).bind fun t129 => ((spec_MedianOf.f l0).bind fun t130 => (some (decide ((wrap64 (t129 - a2)) > t130))))) = some r := by rw [if_pos rfl] at H; exact H
        clear H
        have H := H1
        clear H1
        replace H := Option.bind_eq_some_iff.mp H
        obtain ⟨t129, A100, H⟩ := H
        replace H : ((spec_MedianOf.f l0).bind fun t130 => (some (decide ((wrap64 (t129 - a2)) > t130)))) = some r := H
        have A10 := Aside0.mk A100
        clear A100
        replace H := Option.bind_eq_some_iff.mp H
        obtain ⟨t130, A110, H⟩ := H
        replace H : (some (decide ((wrap64 (t129 - a2)) > t130))) = some r := H
        have A11 := Aside0.mk A110
        clear A110
        obtain rfl := Option.some.inj H
        go_enter Try.func26, Try.ntmps26
        go_wp2_with (first | ((with_reducible refine gate_callee (f := 89) rfl ?_); refine goesL_ (some 8) rfl rfl Try.func89 (by kernel_rfl) rfl #[.slice A0 l0.length c0] rfl (by (try simp only [List.map_toArray, List.map_cons, List.map_nil]); first | done | rfl | (simp only [List.length_drop, List.length_take]; rfl)) ?_; (with_reducible refine (spec_l27List.calls k _ _ l0 true _ ?side1 ?side2 A4.out).mono ?_); (case side1 => repeat (first | exact HR0.out | (with_reducible refine Kd.C_alloc ?_ _) | (with_reducible refine Kd.C_drewN ?_ _) | (with_reducible refine Kd.C_drew ?_))); (case side2 => exact HC0.out); rintro e w' ⟨rfl, ⟨nd, rfl⟩⟩; refine ⟨_, rfl, ?_⟩) | (go_at_call 89; (with_reducible refine (spec_l27List.calls k _ _ l1 true _ ?side1 ?side2 A6.out).mono ?_); (case side1 => repeat (first | exact HR1.out | (with_reducible refine Kd.C_alloc ?_ _) | (with_reducible refine Kd.C_drewN ?_ _) | (with_reducible refine Kd.C_drew ?_))); (case side2 => exact HC1.out); rintro e w' ⟨rfl, ⟨nd, rfl⟩⟩) | (go_at_call 90; (with_reducible refine (spec_l9Stamp.calls a2 true _ A8.out).mono ?_); rintro e w' ⟨rfl, ⟨nd, rfl⟩⟩) | (go_at_call 91; (with_reducible refine (spec_MedianOf.calls _ _ l1 t129 _ ?side1 ?side2 A10.out).mono ?_); (case side1 => repeat (first | exact HR1.out | (with_reducible refine Kd.C_alloc ?_ _) | (with_reducible refine Kd.C_drewN ?_ _) | (with_reducible refine Kd.C_drew ?_))); (case side2 => exact HC1.out); rintro e w12 ⟨rfl, hb⟩; have n0_ := Aside0.mk (below_step (by repeat (first | (with_reducible first | exact HB.out | apply below_alloc | apply pw_below_drewN | apply below_drew1) | exact HB.out)) hb); clear HB; have HB := n0_; clear n0_; (try clear hb); (try clear hb2); (try clear hk); (try clear hi)) | (go_at_call 91; (with_reducible refine (spec_MedianOf.calls _ _ l0 t130 _ ?side1 ?side2 A11.out).mono ?_); (case side1 => repeat (first | exact (Kd.C_below HR0.out HB.out) | (with_reducible refine Kd.C_alloc ?_ _) | (with_reducible refine Kd.C_drewN ?_ _) | (with_reducible refine Kd.C_drew ?_))); (case side2 => exact HC0.out); rintro e w13 ⟨rfl, hb⟩; have n0_ := Aside0.mk (below_step (by repeat (first | (with_reducible first | exact HB.out | apply below_alloc | apply pw_below_drewN | apply below_drew1) | exact HB.out)) hb); clear HB; have HB := n0_; clear n0_; (try clear hb); (try clear hb2); (try clear hk); (try clear hi)))
        go_ret
        exact ⟨by first | rfl | (simp [errW_none, errW_some] <;> rfl) | (simp [*, errW_none, errW_some] <;> rfl), by repeat (first | (with_reducible first | exact HB.out | apply below_alloc | apply pw_below_drewN | apply below_drew1) | exact HB.out)⟩
      · replace c9 := Bool.eq_false_iff.mpr c9
        subst c9
        have H1 : (some false) = some r := by rw [if_neg (show ¬ (false = true) by decide)] at H; exact H
        clear H
        have H := H1
        clear H1
        obtain rfl := Option.some.inj H
        go_enter Try.func26, Try.ntmps26
        go_wp2_with (first | ((with_reducible refine gate_callee (f := 89) rfl ?_); refine goesL_ (some 8) rfl rfl Try.func89 (by kernel_rfl) rfl #[.slice A0 l0.length c0] rfl (by (try simp only [List.map_toArray, List.map_cons, List.map_nil]); first | done | rfl | (simp only [List.length_drop, List.length_take]; rfl)) ?_; (with_reducible refine (spec_l27List.calls k _ _ l0 true _ ?side1 ?side2 A4.out).mono ?_); (case side1 => repeat (first | exact HR0.out | (with_reducible refine Kd.C_alloc ?_ _) | (with_reducible refine Kd.C_drewN ?_ _) | (with_reducible refine Kd.C_drew ?_))); (case side2 => exact HC0.out); rintro e w' ⟨rfl, ⟨nd, rfl⟩⟩; refine ⟨_, rfl, ?_⟩) | (go_at_call 89; (with_reducible refine (spec_l27List.calls k _ _ l1 true _ ?side1 ?side2 A6.out).mono ?_); (case side1 => repeat (first | exact HR1.out | (with_reducible refine Kd.C_alloc ?_ _) | (with_reducible refine Kd.C_drewN ?_ _) | (with_reducible refine Kd.C_drew ?_))); (case side2 => exact HC1.out); rintro e w' ⟨rfl, ⟨nd, rfl⟩⟩) | (go_at_call 90; (with_reducible refine (spec_l9Stamp.calls a2 false _ A8.out).mono ?_); rintro e w' ⟨rfl, ⟨nd, rfl⟩⟩))
        go_ret
        exact ⟨by first | rfl | (simp [errW_none, errW_some] <;> rfl) | (simp [*, errW_none, errW_some] <;> rfl), by repeat (first | (with_reducible first | exact HB.out | apply below_alloc | apply pw_below_drewN | apply below_drew1) | exact HB.out)⟩
    · replace c7 := Bool.eq_false_iff.mpr c7
      subst c7
      have H1 : (some false) = some r := by rw [if_neg (show ¬ (false = true) by decide)] at H; exact H
      clear H
      have H := H1
      clear H1
      obtain rfl := Option.some.inj H
      go_enter Try.func26, Try.ntmps26
      go_wp2_with (first | ((with_reducible refine gate_callee (f := 89) rfl ?_); refine goesL_ (some 8) rfl rfl Try.func89 (by kernel_rfl) rfl #[.slice A0 l0.length c0] rfl (by (try simp only [List.map_toArray, List.map_cons, List.map_nil]); first | done | rfl | (simp only [List.length_drop, List.length_take]; rfl)) ?_; (with_reducible refine (spec_l27List.calls k _ _ l0 true _ ?side1 ?side2 A4.out).mono ?_); (case side1 => repeat (first | exact HR0.out | (with_reducible refine Kd.C_alloc ?_ _) | (with_reducible refine Kd.C_drewN ?_ _) | (with_reducible refine Kd.C_drew ?_))); (case side2 => exact HC0.out); rintro e w' ⟨rfl, ⟨nd, rfl⟩⟩; refine ⟨_, rfl, ?_⟩) | (go_at_call 89; (with_reducible refine (spec_l27List.calls k _ _ l1 false _ ?side1 ?side2 A6.out).mono ?_); (case side1 => repeat (first | exact HR1.out | (with_reducible refine Kd.C_alloc ?_ _) | (with_reducible refine Kd.C_drewN ?_ _) | (with_reducible refine Kd.C_drew ?_))); (case side2 => exact HC1.out); rintro e w' ⟨rfl, ⟨nd, rfl⟩⟩))
      go_ret
      exact ⟨by first | rfl | (simp [errW_none, errW_some] <;> rfl) | (simp [*, errW_none, errW_some] <;> rfl), by repeat (first | (with_reducible first | exact HB.out | apply below_alloc | apply pw_below_drewN | apply below_drew1) | exact HB.out)⟩
  · replace c5 := Bool.eq_false_iff.mpr c5
    subst c5
    have H1 : (some false) = some r := by rw [if_neg (show ¬ (false = true) by decide)] at H; exact H
    clear H
    have H := H1
    clear H1
    obtain rfl := Option.some.inj H
    go_enter Try.func26, Try.ntmps26
    go_wp2_with (first | ((with_reducible refine gate_callee (f := 89) rfl ?_); refine goesL_ (some 8) rfl rfl Try.func89 (by kernel_rfl) rfl #[.slice A0 l0.length c0] rfl (by (try simp only [List.map_toArray, List.map_cons, List.map_nil]); first | done | rfl | (simp only [List.length_drop, List.length_take]; rfl)) ?_; (with_reducible refine (spec_l27List.calls k _ _ l0 false _ ?side1 ?side2 A4.out).mono ?_); (case side1 => repeat (first | exact HR0.out | (with_reducible refine Kd.C_alloc ?_ _) | (with_reducible refine Kd.C_drewN ?_ _) | (with_reducible refine Kd.C_drew ?_))); (case side2 => exact HC0.out); rintro e w' ⟨rfl, ⟨nd, rfl⟩⟩; refine ⟨_, rfl, ?_⟩))
    go_ret
    exact ⟨by first | rfl | (simp [errW_none, errW_some] <;> rfl) | (simp [*, errW_none, errW_some] <;> rfl), by repeat (first | (with_reducible first | exact HB.out | apply below_alloc | apply pw_below_drewN | apply below_drew1) | exact HB.out)⟩

end Go.Proofs.Ytkimiekgghfoiaa.PFnExactDecideTrial
