/- What the functions that the law FnExactIsChecked uses compute, and that the program computes it: walks written by a program of this session. -/
import Derived.Test.YtkimiekgghfoiaaPFnExactIsCheckedx0
import Derived.Test.YtkimiekgghfoiaaPFnExactIsCheckedx6
import Derived.Test.YtkimiekgghfoiaaPFnExactIsCheckedx7
namespace Go.Proofs.Ytkimiekgghfoiaa.PFnExactIsChecked
open Go.RowKit Go.Proofs.YtkimiekgghfoiaaW.PrintWords Go.Proofs.YtkimiekgghfoiaaW.PrintLast Go.Proofs.YtkimiekgghfoiaaW.PrintMore
attribute [local go_sem] max2_int min2_int max_two min_two max_three min_three max_four min_four   -- for this text's walks alone
set_option linter.unusedVariables false
set_option linter.unusedSimpArgs false

/-! ### impl_IsInSpan: function 106 -/
open Go.Proofs.Ytkimiekgghfoiaa.Base
/-- A row that a call made: its blocks are those between the two worlds. -/
theorem S_fresh {α : Type} {d : Kd α} {e : Nat} {w w2 W w3 : World} {v : Value} {xs : List α} (h0 : Below w.heap.size w w2) (h1 : Below w2.heap.size w2 W) (ho : Kd.S d e w3 W.heap.size (fun _ => True) v xs) (hb : Below W.heap.size W w3) : Kd.S d e w3 w.heap.size (fun k => w2.heap.size ≤ k ∧ k < w3.heap.size) v xs :=
  Kd.S_lower (Kd.S_mono (Kd.S_bound ho) (fun k hk => ⟨Nat.le_trans h1.size hk.2.1, hk.2.2.1⟩)) (Nat.le_trans h0.size h1.size)
theorem R_fresh {α : Type} {d : Kd α} {e : Nat} {w w2 W w3 : World} {v : Value} {xs : List α} (h0 : Below w.heap.size w w2) (h1 : Below w2.heap.size w2 W) (ho : Kd.R d e w3 W.heap.size (fun _ => True) v xs) (hb : Below W.heap.size W w3) : Kd.R d e w3 w.heap.size (fun k => w2.heap.size ≤ k ∧ k < w3.heap.size) v xs :=
  Kd.R_lower (Kd.R_mono (Kd.R_bound ho) (fun k hk => ⟨Nat.le_trans h1.size hk.2.1, hk.2.2.1⟩)) (Nat.le_trans h0.size h1.size)
/-- A flat row that was written and comes back: its blocks are the same. -/
theorem R_tight' {α β : Type} {d : Kd α} {d' : Kd β} {e e' : Nat} {w w' : World} {b b' : Nat} {ok ok' : Nat → Prop} {v : Value} {xs : List α} {ys : List β} (hE : d.E = []) (h : Kd.R d e w b ok v xs) (h' : Kd.R d' e' w' b' ok' v ys) : Kd.R d e w b ok' v xs :=
  Kd.R_mono (Kd.R_tight hE h) (fun k hk => h'.1 k hk.symm)
theorem calls_cast {P : Program} {f : Nat} {args args' : Array Value} {w : World} {Q : Ending → World → Prop} (h : args = args') (hc : Calls P f args w Q) : Calls P f args' w Q := h ▸ hc

/-- The first place (counted from n) at which p holds, or -1. -/
def firstP {α : Type} (p : α → Bool) : List α → Nat → Int
  | [], _ => -1
  | x :: xs, n => if p x = true then (n : Int) else firstP p xs (n + 1)
theorem firstP_any {α : Type} (p : α → Bool) : ∀ (l : List α) (n : Nat), decide (0 ≤ firstP p l n) = l.any p
  | [], _ => by simp [firstP]
  | x :: xs, n => by
    rw [firstP, List.any_cons]
    cases hp : p x with
    | true => simp
    | false => simpa [hp] using firstP_any p xs (n + 1)

def lapl (F : List Nat → Int) (u : Nat → Int) : List Nat → Int
  | [] => 0
  | i :: is => u i * F is - lapl (fun t => F (i :: t)) u is
def dt : List (Nat → Int) → List Nat → Int
  | [], _ => 1
  | u :: us, is => lapl (dt us) u is
theorem lapl_lin (a b : Int) (u : Nat → Int) : ∀ (is : List Nat) (F G : List Nat → Int), lapl (fun t => a * F t + b * G t) u is = a * lapl F u is + b * lapl G u is
  | [], F, G => by simp [lapl]
  | i :: is, F, G => by
    simp only [lapl]
    rw [lapl_lin a b u is (fun t => F (i :: t)) (fun t => G (i :: t))]
    grind
theorem lapl_zero (u : Nat → Int) : ∀ (is : List Nat), lapl (fun _ => 0) u is = 0
  | [] => rfl
  | i :: is => by simp only [lapl]; rw [lapl_zero u is]; simp
theorem lapl_neg (F : List Nat → Int) (u : Nat → Int) (is : List Nat) : lapl (fun t => - F t) u is = - lapl F u is := by
  have h := lapl_lin (-1) 0 u is F F
  have e : (fun t => -1 * F t + 0 * F t) = (fun t => - F t) := by funext t; omega
  rw [e] at h
  omega
theorem lapl_swap (u v : Nat → Int) : ∀ (is : List Nat) (F : List Nat → Int), lapl (lapl F v) u is = - lapl (lapl F u) v is
  | [], F => by simp [lapl]
  | i :: is, F => by
    have h1 : lapl (fun t => lapl F v (i :: t)) u is = v i * lapl F u is + (-1) * lapl (lapl (fun s => F (i :: s)) v) u is := by
      rw [← lapl_lin]; congr 1; funext t; simp only [lapl]; omega
    have h2 : lapl (fun t => lapl F u (i :: t)) v is = u i * lapl F v is + (-1) * lapl (lapl (fun s => F (i :: s)) u) v is := by
      rw [← lapl_lin]; congr 1; funext t; simp only [lapl]; omega
    have ih := lapl_swap u v is (fun s => F (i :: s))
    show u i * lapl F v is - lapl (fun t => lapl F v (i :: t)) u is = -(v i * lapl F u is - lapl (fun t => lapl F u (i :: t)) v is)
    rw [h1, h2]
    omega
theorem dt_rep (u : Nat → Int) : ∀ (us : List (Nat → Int)) (is : List Nat), u ∈ us → dt (u :: us) is = 0
  | [], _, h => by cases h
  | v :: vs, is, h => by
    show lapl (lapl (dt vs) v) u is = 0
    rcases List.mem_cons.1 h with rfl | h
    · have := lapl_swap u u is (dt vs); omega
    · rw [lapl_swap]
      have e : lapl (dt vs) u = fun _ => 0 := by funext t; exact dt_rep u vs t h
      rw [e, lapl_zero]; rfl
/-- moving a vector to the head turns the sign at most -/
theorem dt_head (u : Nat → Int) : ∀ (ls ms : List (Nat → Int)) (is : List Nat), dt (u :: (ls ++ ms)) is = dt (ls ++ u :: ms) is ∨ dt (u :: (ls ++ ms)) is = - dt (ls ++ u :: ms) is := by
  intro ls
  have key : ∀ (ls ms : List (Nat → Int)), (∀ is, dt (u :: (ls ++ ms)) is = dt (ls ++ u :: ms) is) ∨ (∀ is, dt (u :: (ls ++ ms)) is = - dt (ls ++ u :: ms) is) := by
    intro ls
    induction ls with
    | nil => intro ms; exact .inl fun is => rfl
    | cons a ls ih =>
      intro ms
      have sw : ∀ is, dt (u :: a :: (ls ++ ms)) is = - dt (a :: u :: (ls ++ ms)) is := fun is => lapl_swap u a is (dt (ls ++ ms))
      rcases ih ms with h | h
      · right
        intro is
        rw [List.cons_append, sw is]
        show - lapl (dt (u :: (ls ++ ms))) a is = - lapl (dt (ls ++ u :: ms)) a is
        rw [show dt (u :: (ls ++ ms)) = dt (ls ++ u :: ms) from funext h]
      · left
        intro is
        rw [List.cons_append, sw is]
        show - lapl (dt (u :: (ls ++ ms))) a is = lapl (dt (ls ++ u :: ms)) a is
        rw [show dt (u :: (ls ++ ms)) = fun t => - dt (ls ++ u :: ms) t from funext h, lapl_neg]
        omega
  intro ms is
  rcases key ls ms with h | h
  · exact .inl (h is)
  · exact .inr (h is)
/-- spans over the fractions -/
inductive Sp (S : (Nat → Int) → Prop) : (Nat → Int) → Prop
  | zero : Sp S (fun _ => 0)
  | mem {x : Nat → Int} : S x → Sp S x
  | add {x y : Nat → Int} : Sp S x → Sp S y → Sp S (fun j => x j + y j)
  | smul {x : Nat → Int} (a : Int) : Sp S x → Sp S (fun j => a * x j)
  | div {x : Nat → Int} (a : Int) : a ≠ 0 → Sp S (fun j => a * x j) → Sp S x
theorem Sp.trans {S T : (Nat → Int) → Prop} (h : ∀ x, S x → Sp T x) {y : Nat → Int} (hy : Sp S y) : Sp T y := by
  induction hy with
  | zero => exact .zero
  | mem hx => exact h _ hx
  | add _ _ h1 h2 => exact .add h1 h2
  | smul a _ h1 => exact .smul a h1
  | div a ha _ h1 => exact .div a ha h1
theorem Sp.mono {S T : (Nat → Int) → Prop} (h : ∀ x, S x → T x) {y : Nat → Int} (hy : Sp S y) : Sp T y := hy.trans fun x hx => .mem (h x hx)
theorem Sp.of_eq {S : (Nat → Int) → Prop} {x y : Nat → Int} (h : Sp S x) (e : ∀ j, y j = x j) : Sp S y := by
  rw [show y = x from funext e]; exact h
theorem Sp.lin {S : (Nat → Int) → Prop} {x y : Nat → Int} (a b : Int) (hx : Sp S x) (hy : Sp S y) : Sp S (fun j => a * x j + b * y j) := .add (.smul a hx) (.smul b hy)
/-- g·y = a·x + b·z, g not 0 -/
theorem Sp.of_lin {S : (Nat → Int) → Prop} {x y z : Nat → Int} (g a b : Int) (hg : g ≠ 0) (hx : Sp S x) (hz : Sp S z) (e : ∀ j, g * y j = a * x j + b * z j) : Sp S y :=
  .div g hg ((Sp.lin a b hx hz).of_eq e)
/-- what vanishes at a column for all vanishes there for the span -/
theorem Sp.vanish {S : (Nat → Int) → Prop} (c : Nat) (h : ∀ x, S x → x c = 0) {y : Nat → Int} (hy : Sp S y) : y c = 0 := by
  induction hy with
  | zero => rfl
  | mem hx => exact h _ hx
  | add _ _ h1 h2 => simp only; omega
  | smul a _ h1 => simp only; rw [h1]; simp
  | div a ha _ h1 => rcases Int.mul_eq_zero.1 h1 with h | h; exact absurd h ha; exact h
/-- the expansion is a sum of the rows -/
theorem lapl_span (X : Nat → Nat → Int) (S : (Nat → Int) → Prop) : ∀ (is : List Nat) (F : List Nat → Int), (∀ i ∈ is, S (X i)) → Sp S (fun j => lapl F (fun i => X i j) is)
  | [], F, _ => .zero
  | i :: is, F, h => by
    have h1 := lapl_span X S is (fun t => F (i :: t)) (fun k hk => h k (by simp [hk]))
    refine (Sp.lin (F is) (-1) (.mem (h i (by simp))) h1).of_eq fun j => ?_
    simp only [lapl]; rw [Int.mul_comm (X i j)]; omega
/-- clearing -/
def clr (c : Nat) (R y : Nat → Int) : Nat → Int := fun j => y j * R c - R j * y c
def clrs : List (Nat × (Nat → Int)) → (Nat → Int) → (Nat → Int)
  | [], y => y
  | a :: E, y => clrs E (clr a.1 a.2 y)
theorem clrs_lin : ∀ (E : List (Nat × (Nat → Int))) (a b : Int) (x y : Nat → Int) (j : Nat), clrs E (fun j => a * x j + b * y j) j = a * clrs E x j + b * clrs E y j
  | [], a, b, x, y, j => rfl
  | e :: E, a, b, x, y, j => by
    show clrs E (clr e.1 e.2 _) j = a * clrs E (clr e.1 e.2 x) j + b * clrs E (clr e.1 e.2 y) j
    rw [← clrs_lin E]
    congr 1
    funext k
    simp only [clr]; grind
theorem clrs_zero : ∀ (E : List (Nat × (Nat → Int))) (j : Nat), clrs E (fun _ => 0) j = 0
  | [], j => rfl
  | e :: E, j => by
    show clrs E (clr e.1 e.2 _) j = 0
    rw [show clr e.1 e.2 (fun _ => 0) = fun _ => 0 by funext k; simp [clr]]
    exact clrs_zero E j
theorem clrs_smul (E : List (Nat × (Nat → Int))) (a : Int) (x : Nat → Int) (j : Nat) : clrs E (fun j => a * x j) j = a * clrs E x j := by
  have h := clrs_lin E a 0 x x j
  rw [show (fun j => a * x j + 0 * x j) = fun j => a * x j by funext k; omega] at h
  omega
/-- a list of pivots and rows in echelon form -/
structure Ech (E : List (Nat × (Nat → Int))) : Prop where
  apart : E.Pairwise (fun a b => a.1 < b.1 ∧ a.2 b.1 = 0 ∧ b.2 a.1 = 0)
  pos : ∀ a ∈ E, 0 < a.2 a.1
  low : ∀ a ∈ E, ∀ j, j < a.1 → a.2 j = 0
theorem Ech.tail {a : Nat × (Nat → Int)} {E : List (Nat × (Nat → Int))} (h : Ech (a :: E)) : Ech E :=
  ⟨(List.pairwise_cons.1 h.apart).2, fun x hx => h.pos x (by simp [hx]), fun x hx => h.low x (by simp [hx])⟩
def rowsOf (E : List (Nat × (Nat → Int))) : (Nat → Int) → Prop := fun x => ∃ a ∈ E, x = a.2
/-- multiples of a row of the list are cleared away -/
theorem clrs_row : ∀ (E : List (Nat × (Nat → Int))), Ech E → ∀ a ∈ E, ∀ j, clrs E a.2 j = 0
  | [], _, a, h, j => by cases h
  | e :: E, hE, a, h, j => by
    show clrs E (clr e.1 e.2 a.2) j = 0
    have hp := List.pairwise_cons.1 hE.apart
    rcases List.mem_cons.1 h with rfl | h
    · rw [show clr a.1 a.2 a.2 = fun _ => 0 by funext k; simp only [clr]; grind]
      exact clrs_zero E j
    · have h1 := (hp.1 a h).2.2
      rw [show clr e.1 e.2 a.2 = fun k => e.2 e.1 * a.2 k by funext k; simp only [clr, h1]; grind, clrs_smul, clrs_row E hE.tail a h j]
      simp
theorem clrs_span {E : List (Nat × (Nat → Int))} (hE : Ech E) {y : Nat → Int} (hy : Sp (rowsOf E) y) : ∀ j, clrs E y j = 0 := by
  induction hy with
  | zero => exact clrs_zero E
  | mem hx => obtain ⟨a, ha, rfl⟩ := hx; exact clrs_row E hE a ha
  | @add x y _ _ h1 h2 =>
    intro j
    have h := clrs_lin E 1 1 x y j
    rw [h1 j, h2 j] at h
    rw [show (fun j => x j + y j) = fun j => 1 * x j + 1 * y j by funext k; omega]
    simpa using h
  | smul a _ h1 => intro j; rw [clrs_smul, h1 j]; simp
  | div a ha _ h1 =>
    intro j
    have := h1 j
    rw [clrs_smul] at this
    rcases Int.mul_eq_zero.1 this with h | h
    · exact absurd h ha
    · exact h
/-- what vanishes at all pivots is only multiplied -/
theorem clrs_apart : ∀ (E : List (Nat × (Nat → Int))), Ech E → ∃ L : Int, 0 < L ∧ ∀ y : Nat → Int, (∀ a ∈ E, y a.1 = 0) → ∀ j, clrs E y j = L * y j
  | [], _ => ⟨1, by omega, fun y _ j => by simp [clrs]⟩
  | e :: E, hE => by
    obtain ⟨L, hL, h⟩ := clrs_apart E hE.tail
    have hp := hE.pos e (by simp)
    refine ⟨L * e.2 e.1, Int.mul_pos hL hp, fun y hy j => ?_⟩
    show clrs E (clr e.1 e.2 y) j = _
    have h0 := hy e (by simp)
    rw [show clr e.1 e.2 y = fun k => e.2 e.1 * y k by funext k; simp only [clr, h0]; grind, clrs_smul, h y (fun a ha => hy a (by simp [ha])) j]
    grind
theorem ech_zero {E : List (Nat × (Nat → Int))} (hE : Ech E) {y : Nat → Int} (hy : Sp (rowsOf E) y) (h0 : ∀ a ∈ E, y a.1 = 0) : ∀ j, y j = 0 := by
  intro j
  obtain ⟨L, hL, h⟩ := clrs_apart E hE
  have h1 := h y h0 j
  rw [clrs_span hE hy j] at h1
  rcases Int.mul_eq_zero.1 h1.symm with h | h
  · omega
  · exact h
/-- what is cleared away lies in the span -/
theorem span_of_clrs : ∀ (E : List (Nat × (Nat → Int))), (∀ a ∈ E, 0 < a.2 a.1) → ∀ (S : (Nat → Int) → Prop), (∀ a ∈ E, Sp S a.2) → ∀ y : Nat → Int, Sp S (clrs E y) → Sp S y
  | [], _, S, _, y, h => h
  | e :: E, hp, S, hS, y, h => by
    have h1 := span_of_clrs E (fun a ha => hp a (by simp [ha])) S (fun a ha => hS a (by simp [ha])) (clr e.1 e.2 y) h
    refine Sp.of_lin (e.2 e.1) 1 (y e.1) (by have := hp e (by simp); omega) h1 (hS e (by simp)) fun j => ?_
    simp only [clr]; grind
/-- leads of the span are pivots -/
theorem clrs_lead (c : Nat) : ∀ (E : List (Nat × (Nat → Int))), Ech E → (∀ a ∈ E, a.1 ≠ c) → ∀ y : Nat → Int, (∀ j, j < c → y j = 0) → y c ≠ 0 → clrs E y c ≠ 0
  | [], _, _, y, _, h => h
  | e :: E, hE, hc, y, hl, h => by
    have hp := hE.pos e (by simp)
    have key : ∀ j, j ≤ c → clr e.1 e.2 y j = e.2 e.1 * y j := by
      intro j hj
      simp only [clr]
      rcases Nat.lt_or_gt_of_ne (hc e (by simp)) with h1 | h1
      · rw [hl e.1 h1]; grind
      · rw [hE.low e (by simp) j (by omega)]; grind
    show clrs E (clr e.1 e.2 y) c ≠ 0
    refine clrs_lead c E hE.tail (fun a ha => hc a (by simp [ha])) _ (fun j hj => ?_) ?_
    · rw [key j (by omega), hl j hj]; simp
    · rw [key c (Nat.le_refl _)]
      intro h0
      rcases Int.mul_eq_zero.1 h0 with h0 | h0
      · omega
      · exact h h0
theorem lead_pivot {E : List (Nat × (Nat → Int))} (hE : Ech E) {y : Nat → Int} (hy : Sp (rowsOf E) y) (c : Nat) (hl : ∀ j, j < c → y j = 0) (hc : y c ≠ 0) : ∃ a ∈ E, a.1 = c := by
  apply Classical.byContradiction
  intro hn
  exact clrs_lead c E hE (fun a ha e => hn ⟨a, ha, e⟩) y hl hc (clrs_span hE hy c)
/-- nothing but units divide all -/
def Prim (x : Nat → Int) : Prop := ∀ a b : Int, (∀ j, a ∣ b * x j) → a ∣ b
theorem prim_le {x w : Nat → Int} (hx : Prim x) (A b : Int) (hA : A ≠ 0) (e : ∀ j, A * x j = b * w j) : ∃ q : Int, q ≠ 0 ∧ ∀ j, w j = q * x j ∨ x j = 0 := by
  by_cases hb : b = 0
  · refine ⟨1, by omega, fun j => .inr ?_⟩
    have := e j
    rw [hb, Int.zero_mul] at this
    rcases Int.mul_eq_zero.1 this with h | h
    · exact absurd h hA
    · exact h
  · obtain ⟨q, hq⟩ := hx b A (fun j => ⟨w j, e j⟩)
    refine ⟨q, fun h0 => hA (by rw [hq, h0]; simp), fun j => .inl ?_⟩
    have h1 := e j
    rw [hq, Int.mul_assoc] at h1
    exact (Int.eq_of_mul_eq_mul_left hb h1).symm
theorem prim_eq {x y : Nat → Int} (hx : Prim x) (hy : Prim y) (c : Nat) (h1 : 0 < x c) (h2 : 0 < y c) (e : ∀ j, y c * x j = x c * y j) : ∀ j, x j = y j := by
  have d1 : x c ∣ y c := hx (x c) (y c) (fun j => ⟨y j, e j⟩)
  have d2 : y c ∣ x c := hy (y c) (x c) (fun j => ⟨x j, (e j).symm⟩)
  have he : x c = y c := by
    have a1 := Int.le_of_dvd h2 d1
    have a2 := Int.le_of_dvd h1 d2
    omega
  intro j
  have := e j
  rw [he] at this
  exact Int.eq_of_mul_eq_mul_left (by omega) this
/-- one strictly ascending list has the members -/
theorem asc_unique : ∀ {l m : List Nat}, l.Pairwise (· < ·) → m.Pairwise (· < ·) → (∀ x, x ∈ l ↔ x ∈ m) → l = m
  | [], [], _, _, _ => rfl
  | [], y :: m, _, _, h => by have := (h y).2 (by simp); cases this
  | x :: l, [], _, _, h => by have := (h x).1 (by simp); cases this
  | x :: l, y :: m, hl, hm, h => by
    rw [List.pairwise_cons] at hl hm
    have e : x = y := by
      rcases List.mem_cons.1 ((h x).1 (by simp)) with e | e
      · exact e
      · rcases List.mem_cons.1 ((h y).2 (by simp)) with e2 | e2
        · exact e2.symm
        · have := hm.1 x e; have := hl.1 y e2; omega
    subst e
    rw [asc_unique hl.2 hm.2 fun z => ⟨fun hz => ?_, fun hz => ?_⟩]
    · have := hl.1 z hz
      rcases List.mem_cons.1 ((h z).1 (by simp [hz])) with e | e
      · omega
      · exact e
    · have := hm.1 z hz
      rcases List.mem_cons.1 ((h z).2 (by simp [hz])) with e | e
      · omega
      · exact e
theorem Ech.asc {E : List (Nat × (Nat → Int))} (h : Ech E) : (E.map (·.1)).Pairwise (· < ·) := by
  rw [List.pairwise_map]
  exact h.apart.imp fun h => h.1
theorem ech_leads {E : List (Nat × (Nat → Int))} (hE : Ech E) (c : Nat) : c ∈ E.map (·.1) ↔ ∃ y, Sp (rowsOf E) y ∧ (∀ j, j < c → y j = 0) ∧ y c ≠ 0 := by
  constructor
  · intro h
    obtain ⟨a, ha, rfl⟩ := List.mem_map.1 h
    exact ⟨a.2, .mem ⟨a, ha, rfl⟩, hE.low a ha, by have := hE.pos a ha; omega⟩
  · rintro ⟨y, hy, hl, hc⟩
    obtain ⟨a, ha, e⟩ := lead_pivot hE hy c hl hc
    exact List.mem_map.2 ⟨a, ha, e⟩
theorem ech_pivots {E E' : List (Nat × (Nat → Int))} (hE : Ech E) (hE' : Ech E') (h : ∀ y, Sp (rowsOf E) y ↔ Sp (rowsOf E') y) : E.map (·.1) = E'.map (·.1) := by
  refine asc_unique hE.asc hE'.asc fun c => ?_
  rw [ech_leads hE, ech_leads hE']
  constructor
  · rintro ⟨y, h1, h2⟩; exact ⟨y, (h y).1 h1, h2⟩
  · rintro ⟨y, h1, h2⟩; exact ⟨y, (h y).2 h1, h2⟩
/-- the reduced form is one alone -/
theorem ech_unique {E E' : List (Nat × (Nat → Int))} (hE : Ech E) (hE' : Ech E') (hp : ∀ a ∈ E, Prim a.2) (hp' : ∀ a ∈ E', Prim a.2) (h : ∀ y, Sp (rowsOf E) y ↔ Sp (rowsOf E') y) : E = E' := by
  have hc := ech_pivots hE hE' h
  have hlen : E.length = E'.length := by simpa using congrArg List.length hc
  refine List.ext_getElem hlen fun i h1 h2 => ?_
  have e1 : E[i].1 = E'[i].1 := by
    have := congrArg (fun l => l[i]?) hc
    simpa [h1, h2] using this
  have off : ∀ (F : List (Nat × (Nat → Int))), Ech F → ∀ (i k : Nat) (hi : i < F.length) (hk : k < F.length), i ≠ k → F[i].2 F[k].1 = 0 := by
    intro F hF i k hi hk hne
    rcases Nat.lt_or_gt_of_ne hne with hl | hl
    · exact ((List.pairwise_iff_getElem.1 hF.apart) i k hi hk hl).2.1
    · exact ((List.pairwise_iff_getElem.1 hF.apart) k i hk hi hl).2.2
  have hz : ∀ j, E'[i].2 E[i].1 * E[i].2 j + (- E[i].2 E[i].1) * E'[i].2 j = 0 := by
    refine ech_zero hE (y := fun j => E'[i].2 E[i].1 * E[i].2 j + (- E[i].2 E[i].1) * E'[i].2 j) ?_ ?_
    · exact Sp.lin _ _ (.mem ⟨E[i], List.getElem_mem _, rfl⟩) ((h _).2 (.mem ⟨E'[i], List.getElem_mem _, rfl⟩))
    · intro a ha
      obtain ⟨k, hk, rfl⟩ := List.mem_iff_getElem.1 ha
      by_cases hik : i = k
      · subst hik; grind
      · have hk' : k < E'.length := by omega
        have e2 : E[k].1 = E'[k].1 := by
          have := congrArg (fun l => l[k]?) hc
          simpa [hk, hk'] using this
        have o1 := off E hE i k h1 hk hik
        have o2 := off E' hE' i k h2 hk' hik
        rw [o1, e2, o2]
        simp
  have hr : ∀ j, E[i].2 j = E'[i].2 j := by
    refine prim_eq (hp _ (List.getElem_mem _)) (hp' _ (List.getElem_mem _)) E[i].1 (hE.pos _ (List.getElem_mem _)) (by rw [e1]; exact hE'.pos _ (List.getElem_mem _)) fun j => ?_
    have := hz j
    grind
  exact Prod.ext e1 (funext hr)
/-- t is y divided by a number, with no divisor left, its lead positive -/
structure Tid (y t : Nat → Int) : Prop where
  mul : ∃ g : Int, g ≠ 0 ∧ ∀ j, y j = g * t j
  prim : (∀ j, t j = 0) ∨ Prim t
  lead : ∀ c, (∀ j, j < c → t j = 0) → t c ≠ 0 → 0 < t c
theorem Tid.zero {y t : Nat → Int} (h : Tid y t) {j : Nat} : y j = 0 ↔ t j = 0 := by
  obtain ⟨g, hg, e⟩ := h.mul
  rw [e j]
  constructor
  · intro h0; rcases Int.mul_eq_zero.1 h0 with h0 | h0; exact absurd h0 hg; exact h0
  · intro h0; rw [h0]; simp
abbrev inX (X : Nat → Nat → Int) (n : Nat) : (Nat → Int) → Prop := fun z => ∃ i, i < n ∧ z = X i
abbrev inP (X : Nat → Nat → Int) (P : List Nat) : (Nat → Int) → Prop := fun z => ∃ i, i ∈ P ∧ z = X i
abbrev curS (R : (Nat → Int) → Prop) (E : List (Nat × (Nat → Int))) : (Nat → Int) → Prop := fun z => R z ∨ rowsOf E z
abbrev colsOf (X : Nat → Nat → Int) (cs : List Nat) : List (Nat → Int) := cs.map fun c i => X i c
structure RInv (X : Nat → Nat → Int) (n : Nat) (R : (Nat → Int) → Prop) (E : List (Nat × (Nat → Int))) : Prop where
  ech : Ech E
  prim : ∀ a ∈ E, Prim a.2
  van : ∀ x, R x → ∀ a ∈ E, x a.1 = 0
  tid : ∀ x, R x → Tid x x
  span1 : ∀ i, i < n → Sp (curS R E) (X i)
  span2 : ∀ z, curS R E z → Sp (inX X n) z
  min : ∃ P : List Nat, (∀ i ∈ P, i < n) ∧ P.length = E.length ∧ dt (colsOf X (E.map (·.1)).reverse) P ≠ 0 ∧ (∀ i ∈ P, Sp (rowsOf E) (X i)) ∧ (∀ a ∈ E, Sp (inP X P) a.2) ∧ ∀ x, R x → ∃ r, r < n ∧ ∃ a b : Int, a ≠ 0 ∧ Sp (inP X P) (fun j => a * x j + b * X r j)
theorem RInv.init (X : Nat → Nat → Int) (n : Nat) (R : (Nat → Int) → Prop) (h1 : ∀ x, R x → ∃ i, i < n ∧ Tid (X i) x) (h2 : ∀ i, i < n → ∃ x, R x ∧ Tid (X i) x) : RInv X n R [] where
  ech := ⟨List.Pairwise.nil, fun a h => (by cases h), fun a h => (by cases h)⟩
  prim := fun a h => by cases h
  van := fun _ _ a h => by cases h
  tid := fun x hx => by
    obtain ⟨i, _, h⟩ := h1 x hx
    exact ⟨⟨1, by omega, fun j => by omega⟩, h.prim, h.lead⟩
  span1 := fun i hi => by
    obtain ⟨x, hx, h⟩ := h2 i hi
    obtain ⟨g, hg, e⟩ := h.mul
    exact (Sp.smul g (.mem (.inl hx))).of_eq e
  span2 := by
    rintro z (hz | ⟨a, h, _⟩)
    · obtain ⟨i, hi, h⟩ := h1 z hz
      obtain ⟨g, hg, e⟩ := h.mul
      exact .div g hg ((Sp.mem ⟨i, hi, rfl⟩).of_eq fun j => (e j).symm)
    · cases h
  min := by
    refine ⟨[], fun i h => (by cases h), rfl, (by simp [dt, colsOf]), fun i h => (by cases h), fun a h => (by cases h), fun x hx => ?_⟩
    obtain ⟨i, hi, h⟩ := h1 x hx
    obtain ⟨g, hg, e⟩ := h.mul
    exact ⟨i, hi, g, -1, hg, Sp.zero.of_eq fun j => by rw [e j]; omega⟩
/-- the bordered minor, and how a row is a multiple of it -/
theorem RInv.border {X : Nat → Nat → Int} {E : List (Nat × (Nat → Int))} (hE : Ech E) {P : List Nat} (hP : ∀ i ∈ P, Sp (rowsOf E) (X i)) (r : Nat) (a b : Int) (x : Nat → Int) (hx : Sp (inP X P) (fun j => a * x j + b * X r j)) (hv : ∀ e ∈ E, x e.1 = 0) :
    ∀ j, dt (colsOf X (E.map (·.1)).reverse) P * a * x j = - b * dt ((fun i => X i j) :: colsOf X (E.map (·.1)).reverse) (r :: P) := by
  have hw : Sp (inP X P) (fun j => lapl (fun t => dt (colsOf X (E.map (·.1)).reverse) (r :: t)) (fun i => X i j) P) := lapl_span X _ P _ fun i hi => ⟨i, hi, rfl⟩
  have he : ∀ j, dt ((fun i => X i j) :: colsOf X (E.map (·.1)).reverse) (r :: P) = X r j * dt (colsOf X (E.map (·.1)).reverse) P - lapl (fun t => dt (colsOf X (E.map (·.1)).reverse) (r :: t)) (fun i => X i j) P := fun j => rfl
  have hz := ech_zero hE (y := fun j => dt (colsOf X (E.map (·.1)).reverse) P * (a * x j + b * X r j) + (-b) * lapl (fun t => dt (colsOf X (E.map (·.1)).reverse) (r :: t)) (fun i => X i j) P) ((Sp.lin _ _ hx hw).trans (by rintro z ⟨i, hi, rfl⟩; exact hP i hi)) (by
    intro e hee
    have h0 : dt ((fun i => X i e.1) :: colsOf X (E.map (·.1)).reverse) (r :: P) = 0 := dt_rep _ _ _ (List.mem_map.2 ⟨e.1, by simp; exact ⟨e.2, hee⟩, rfl⟩)
    rw [he e.1] at h0
    have := hv e hee
    simp only [this]
    grind)
  intro j
  have := hz j
  rw [he j]
  grind
theorem RInv.step {X : Nat → Nat → Int} {n : Nat} {R R' : (Nat → Int) → Prop} {E E' : List (Nat × (Nat → Int))} (h : RInv X n R E) (c : Nat) (x : Nat → Int) (hx : R x) (hc : x c ≠ 0)
    (hlow : ∀ z, R z → ∀ j, j < c → z j = 0) (hE : ∀ a ∈ E, a.1 < c)
    (r1 : ∀ y, R' y → ∃ z, R z ∧ Tid (clr c x z) y) (r2 : ∀ z, R z → z = x ∨ ∃ y, R' y ∧ Tid (clr c x z) y)
    (hlen : E'.length = E.length) (he : ∀ (i : Nat) (h1 : i < E'.length) (h2 : i < E.length), E'[i].1 = E[i].1 ∧ Tid (clr c x E[i].2) E'[i].2) :
    RInv X n R' (E' ++ [(c, x)]) := by
  have hxp : 0 < x c := (h.tid x hx).lead c (hlow x hx) hc
  have m1 : ∀ b ∈ E', ∃ a ∈ E, b.1 = a.1 ∧ Tid (clr c x a.2) b.2 := by
    intro b hb
    obtain ⟨i, hi, rfl⟩ := List.mem_iff_getElem.1 hb
    exact ⟨E[i], List.getElem_mem _, he i hi (by omega)⟩
  have m2 : ∀ a ∈ E, ∃ b ∈ E', b.1 = a.1 ∧ Tid (clr c x a.2) b.2 := by
    intro b hb
    obtain ⟨i, hi, rfl⟩ := List.mem_iff_getElem.1 hb
    exact ⟨E'[i], List.getElem_mem _, he i (by omega) hi⟩
  have hm : E'.map (·.1) = E.map (·.1) := by
    refine List.ext_getElem (by simpa using hlen) fun i h1 h2 => ?_
    simp only [List.getElem_map]
    exact (he i (by simpa using h1) (by simpa using h2)).1
  have c0 : ∀ z, clr c x z c = 0 := fun z => by simp only [clr]; grind
  have cz : ∀ z, ∀ a ∈ E, z a.1 = 0 → clr c x z a.1 = 0 := fun z a ha h0 => by simp only [clr]; rw [h0, h.van x hx a ha]; simp
  have ech' : Ech (E' ++ [(c, x)]) := by
    refine ⟨?_, ?_, ?_⟩
    · rw [List.pairwise_append]
      refine ⟨?_, List.pairwise_singleton _ _, ?_⟩
      · rw [List.pairwise_iff_getElem]
        intro i k hi hk hik
        have p := (List.pairwise_iff_getElem.1 h.ech.apart) i k (by omega) (by omega) hik
        have a1 := he i hi (by omega)
        have a2 := he k hk (by omega)
        refine ⟨by rw [a1.1, a2.1]; exact p.1, ?_, ?_⟩
        · rw [a2.1, ← a1.2.zero]; exact cz _ _ (List.getElem_mem _) p.2.1
        · rw [a1.1, ← a2.2.zero]; exact cz _ _ (List.getElem_mem _) p.2.2
      · intro b hb y hy
        obtain rfl := List.mem_singleton.1 hy
        obtain ⟨a, ha, e1, e2⟩ := m1 b hb
        refine ⟨by rw [e1]; exact hE a ha, ?_, ?_⟩
        · rw [← e2.zero]; exact c0 _
        · rw [e1]; exact h.van x hx a ha
    · intro b hb
      rcases List.mem_append.1 hb with hb | hb
      · obtain ⟨a, ha, e1, e2⟩ := m1 b hb
        have lw : ∀ j, j < a.1 → b.2 j = 0 := fun j hj => by
          rw [← e2.zero]; simp only [clr]; rw [h.ech.low a ha j hj, hlow x hx j (by have := hE a ha; omega)]; simp
        refine e2.lead b.1 (by rw [e1]; exact lw) ?_
        rw [e1, Ne, ← e2.zero]
        simp only [clr]
        rw [h.van x hx a ha]
        have := Int.mul_pos (h.ech.pos a ha) hxp
        omega
      · obtain rfl := List.mem_singleton.1 hb; exact hxp
    · intro b hb
      rcases List.mem_append.1 hb with hb | hb
      · obtain ⟨a, ha, e1, e2⟩ := m1 b hb
        intro j hj
        rw [e1] at hj
        rw [← e2.zero]; simp only [clr]; rw [h.ech.low a ha j hj, hlow x hx j (by have := hE a ha; omega)]; simp
      · obtain rfl := List.mem_singleton.1 hb; exact hlow x hx
  have xin : rowsOf (E' ++ [(c, x)]) x := ⟨(c, x), by simp, rfl⟩
  have ein : ∀ b ∈ E', rowsOf (E' ++ [(c, x)]) b.2 := fun b hb => ⟨b, by simp [hb], rfl⟩
  have up : ∀ (S : (Nat → Int) → Prop) (z y : Nat → Int), Tid (clr c x z) y → Sp S y → Sp S x → Sp S z := by
    intro S z y ht hy hxS
    obtain ⟨g, hg, e⟩ := ht.mul
    refine Sp.of_lin (x c) g (z c) hc hy hxS fun j => ?_
    have := e j
    simp only [clr] at this
    grind
  have dn : ∀ (S : (Nat → Int) → Prop) (z y : Nat → Int), Tid (clr c x z) y → Sp S z → Sp S x → Sp S y := by
    intro S z y ht hy hxS
    obtain ⟨g, hg, e⟩ := ht.mul
    refine Sp.of_lin g (x c) (- z c) hg hy hxS fun j => ?_
    rw [← e j]
    simp only [clr]
    grind
  have EE : ∀ a ∈ E, Sp (rowsOf (E' ++ [(c, x)])) a.2 := by
    intro a ha
    obtain ⟨b, hb, e1, e2⟩ := m2 a ha
    exact up _ _ _ e2 (.mem (ein b hb)) (.mem xin)
  refine ⟨ech', ?_, ?_, ?_, ?_, ?_, ?_⟩
  · intro b hb
    have hp := ech'.pos b hb
    rcases List.mem_append.1 hb with hb | hb
    · obtain ⟨a, ha, e1, e2⟩ := m1 b hb
      rcases e2.prim with h0 | h0
      · rw [h0 b.1] at hp; omega
      · exact h0
    · obtain rfl := List.mem_singleton.1 hb
      rcases (h.tid x hx).prim with h0 | h0
      · exact absurd (h0 c) hc
      · exact h0
  · intro y hy b hb
    obtain ⟨z, hz, ht⟩ := r1 y hy
    rcases List.mem_append.1 hb with hb | hb
    · obtain ⟨a, ha, e1, e2⟩ := m1 b hb
      rw [e1, ← ht.zero]
      exact cz _ a ha (h.van z hz a ha)
    · obtain rfl := List.mem_singleton.1 hb
      rw [← ht.zero]; exact c0 _
  · intro y hy
    obtain ⟨z, hz, ht⟩ := r1 y hy
    exact ⟨⟨1, by omega, fun j => by omega⟩, ht.prim, ht.lead⟩
  · intro i hi
    refine (h.span1 i hi).trans ?_
    rintro z (hz | ⟨a, ha, rfl⟩)
    · rcases r2 z hz with rfl | ⟨y, hy, ht⟩
      · exact .mem (.inr xin)
      · exact up _ _ _ ht (.mem (.inl hy)) (.mem (.inr xin))
    · exact (EE a ha).mono fun z hz => .inr hz
  · have sx : Sp (inX X n) x := h.span2 x (.inl hx)
    rintro y (hy | ⟨b, hb, rfl⟩)
    · obtain ⟨z, hz, ht⟩ := r1 y hy
      exact dn _ _ _ ht (h.span2 z (.inl hz)) sx
    · rcases List.mem_append.1 hb with hb | hb
      · obtain ⟨a, ha, e1, e2⟩ := m1 b hb
        exact dn _ _ _ e2 (h.span2 _ (.inr ⟨a, ha, rfl⟩)) sx
      · obtain rfl := List.mem_singleton.1 hb; exact sx
  · obtain ⟨P, hPn, hPl, hD, hP1, hP2, hP3⟩ := h.min
    obtain ⟨r, hr, a, b, ha, hsp⟩ := hP3 x hx
    have hb := RInv.border h.ech hP1 r a b x hsp (h.van x hx)
    have hbc := hb c
    have hb0 : b ≠ 0 := by
      intro h0
      rw [h0] at hbc
      have h1 : dt (colsOf X (E.map (·.1)).reverse) P * a * x c = 0 := by rw [hbc]; simp
      rcases Int.mul_eq_zero.1 h1 with h1 | h1
      · rcases Int.mul_eq_zero.1 h1 with h1 | h1
        · exact hD h1
        · exact ha h1
      · exact hc h1
    have xP : Sp (inP X (r :: P)) x := by
      refine Sp.of_lin a 1 (-b) ha (hsp.mono fun z hz => ?_) (.mem ⟨r, by simp, rfl⟩) fun j => ?_
      · obtain ⟨i, hi, rfl⟩ := hz; exact ⟨i, by simp [hi], rfl⟩
      · grind
    have wk : ∀ z, Sp (inP X P) z → Sp (inP X (r :: P)) z := fun z hz => hz.mono fun z hz => by
      obtain ⟨i, hi, rfl⟩ := hz; exact ⟨i, by simp [hi], rfl⟩
    refine ⟨r :: P, ?_, by simp [hPl, hlen], ?_, ?_, ?_, ?_⟩
    · intro i hi
      rcases List.mem_cons.1 hi with rfl | hi
      · exact hr
      · exact hPn i hi
    · rw [List.map_append, hm, List.reverse_append]
      intro h0
      have h0' : dt ((fun i => X i c) :: colsOf X (E.map (·.1)).reverse) (r :: P) = 0 := h0
      rw [h0'] at hbc
      have h1 : dt (colsOf X (E.map (·.1)).reverse) P * a * x c = 0 := by rw [hbc]; simp
      rcases Int.mul_eq_zero.1 h1 with h1 | h1
      · rcases Int.mul_eq_zero.1 h1 with h1 | h1
        · exact hD h1
        · exact ha h1
      · exact hc h1
    · intro i hi
      rcases List.mem_cons.1 hi with rfl | hi
      · refine Sp.of_lin b 1 (-a) hb0 (x := fun j => a * x j + b * X i j) (z := x) ?_ (.mem xin) fun j => by grind
        exact (hsp.trans (by rintro z ⟨k, hk, rfl⟩; exact hP1 k hk)).trans (by rintro z ⟨e, he, rfl⟩; exact EE e he)
      · exact (hP1 i hi).trans (by rintro z ⟨e, he, rfl⟩; exact EE e he)
    · intro b hb
      rcases List.mem_append.1 hb with hb | hb
      · obtain ⟨e, he', e1, e2⟩ := m1 b hb
        exact dn _ _ _ e2 (wk _ (hP2 e he')) xP
      · obtain rfl := List.mem_singleton.1 hb; exact xP
    · intro y hy
      obtain ⟨z, hz, ht⟩ := r1 y hy
      obtain ⟨g, hg, e⟩ := ht.mul
      obtain ⟨r2, hr2, a2, b2, ha2, hs2⟩ := hP3 z hz
      refine ⟨r2, hr2, a2 * g, b2 * x c, ?_, ?_⟩
      · intro h0
        rcases Int.mul_eq_zero.1 h0 with h0 | h0
        · exact ha2 h0
        · exact hg h0
      · refine (Sp.lin (x c) (- (a2 * z c)) (wk _ hs2) xP).of_eq fun j => ?_
        have := e j
        simp only [clr] at this
        grind
def fb (β : Nat → Nat) : List Nat → Nat
  | [] => 1
  | c :: cs => (cs.length + 1) * (β c * fb β cs)
theorem lapl_bound (u : Nat → Int) (b M : Nat) (hu : ∀ i, (u i).natAbs ≤ b) : ∀ (is : List Nat) (F : List Nat → Int), (∀ t, t.length + 1 = is.length → (F t).natAbs ≤ M) → (lapl F u is).natAbs ≤ is.length * (b * M)
  | [], F, _ => by simp [lapl]
  | i :: is, F, h => by
    have h1 := lapl_bound u b M hu is (fun t => F (i :: t)) (fun t ht => h _ (by simp [ht]))
    have h2 : (u i * F is).natAbs ≤ b * M := by rw [Int.natAbs_mul]; exact Nat.mul_le_mul (hu i) (h is (by simp))
    have h3 : (lapl F u (i :: is)).natAbs ≤ (u i * F is).natAbs + (lapl (fun t => F (i :: t)) u is).natAbs := by simp only [lapl]; omega
    rw [List.length_cons, Nat.add_mul, Nat.one_mul]
    omega
theorem dt_bound (X : Nat → Nat → Int) (β : Nat → Nat) (hX : ∀ i c, (X i c).natAbs ≤ β c) : ∀ (cs is : List Nat), is.length = cs.length → (dt (colsOf X cs) is).natAbs ≤ fb β cs
  | [], is, _ => by simp [dt, colsOf, fb]
  | c :: cs, is, h => by
    have h1 := lapl_bound (fun i => X i c) (β c) (fb β cs) (fun i => hX i c) is (dt (colsOf X cs)) (fun t ht => dt_bound X β hX cs t (by simp at h; omega))
    rw [h, List.length_cons] at h1
    exact h1
theorem fb_perm (β : Nat → Nat) {l m : List Nat} (h : l.Perm m) : fb β l = fb β m := by
  induction h with
  | nil => rfl
  | cons x hp ih => simp only [fb]; rw [ih, hp.length_eq]
  | swap x y l => simp only [fb, List.length_cons]; grind
  | trans _ _ h1 h2 => exact h1.trans h2
theorem nodup_len : ∀ (n : Nat) (l : List Nat), l.Nodup → (∀ x ∈ l, x < n) → l.length ≤ n
  | 0, l, _, h => by
    cases l with
    | nil => simp
    | cons x l => have := h x (by simp); omega
  | n + 1, l, hn, h => by
    by_cases hm : n ∈ l
    · have h1 := nodup_len n (l.erase n) (hn.erase n) (fun x hx => by
        rw [hn.mem_erase_iff] at hx
        have := h x hx.2
        have := hx.1
        omega)
      rw [List.length_erase_of_mem hm] at h1
      omega
    · have h1 := nodup_len n l hn (fun x hx => by
        have := h x hx
        have : x ≠ n := fun e => hm (e ▸ hx)
        omega)
      omega
def fact : Nat → Nat
  | 0 => 1
  | n + 1 => (n + 1) * fact n
/-- the cells of a system: at most 2 but for the values behind the columns -/
def cellB (cols : Nat) (c : Nat) : Nat := if c = cols then 1000 else 2
theorem fb_le (cols : Nat) : ∀ (cs : List Nat), cs.Nodup → fb (cellB cols) cs ≤ fact cs.length * (2 ^ cs.length * (if cols ∈ cs then 500 else 1))
  | [], _ => by simp [fb, fact]
  | c :: cs, h => by
    rw [List.nodup_cons] at h
    have ih := fb_le cols cs h.2
    simp only [fb, List.length_cons, fact]
    rw [Nat.mul_assoc]
    refine Nat.mul_le_mul (Nat.le_refl _) ?_
    by_cases hc : c = cols
    · subst hc
      rw [if_neg h.1] at ih
      simp only [cellB, if_true, List.mem_cons, true_or, Nat.pow_succ]
      have := Nat.mul_le_mul (Nat.le_refl 1000) ih
      refine Nat.le_trans this (Nat.le_of_eq ?_)
      grind
    · simp only [cellB, if_neg hc, List.mem_cons]
      have e : (cols = c ∨ cols ∈ cs) = (cols ∈ cs) := by
        apply propext
        constructor
        · rintro (h | h); exact absurd h.symm hc; exact h
        · exact .inr
      simp only [e]
      have := Nat.mul_le_mul (Nat.le_refl 2) ih
      refine Nat.le_trans this (Nat.le_of_eq ?_)
      rw [Nat.pow_succ]
      grind
theorem fact_le {k m : Nat} (h : k ≤ m) : fact k * 2 ^ k ≤ fact m * 2 ^ m := by
  induction h with
  | refl => exact Nat.le_refl _
  | @step m h ih =>
    refine Nat.le_trans ih ?_
    rw [fact, Nat.pow_succ]
    have : fact m * 2 ^ m * 1 ≤ fact m * 2 ^ m * ((m + 1) * 2) := Nat.mul_le_mul (Nat.le_refl _) (by omega)
    refine Nat.le_trans (by omega) (Nat.le_trans this (Nat.le_of_eq ?_))
    grind
theorem fb_num (cols : Nat) (cs : List Nat) (h : cs.Nodup) (h7 : cs.length ≤ 7) : fb (cellB cols) cs ≤ 322560000 := by
  refine Nat.le_trans (fb_le cols cs h) ?_
  have h1 := fact_le h7
  have h2 : (if cols ∈ cs then 500 else 1) ≤ 500 := by split <;> omega
  rw [← Nat.mul_assoc]
  refine Nat.le_trans (Nat.mul_le_mul h1 h2) (by decide)
theorem fb_num6 (cols : Nat) (cs : List Nat) (h : cs.Nodup) (h6 : cs.length ≤ 6) : fb (cellB cols) cs ≤ 23040000 := by
  refine Nat.le_trans (fb_le cols cs h) ?_
  have h1 := fact_le h6
  have h2 : (if cols ∈ cs then 500 else 1) ≤ 500 := by split <;> omega
  rw [← Nat.mul_assoc]
  refine Nat.le_trans (Nat.mul_le_mul h1 h2) (by decide)
theorem fb_num60 (cols : Nat) (cs : List Nat) (h : cs.Nodup) (h6 : cs.length ≤ 6) (hn : cols ∉ cs) : fb (cellB cols) cs ≤ 46080 := by
  refine Nat.le_trans (fb_le cols cs h) ?_
  have h1 := fact_le h6
  rw [if_neg hn, Nat.mul_one]
  exact Nat.le_trans h1 (by decide)
theorem Ech.nodup {E : List (Nat × (Nat → Int))} (h : Ech E) : (E.map (·.1)).Nodup := h.asc.imp fun h => by omega
theorem RInv.rem_le {X : Nat → Nat → Int} {n : Nat} {R : (Nat → Int) → Prop} {E : List (Nat × (Nat → Int))} (h : RInv X n R E) (cols : Nat) (hX : ∀ i c, (X i c).natAbs ≤ cellB cols c) (h6 : cols ≤ 6) (hE : ∀ a ∈ E, a.1 ≤ cols)
    (x : Nat → Int) (hx : R x) (hlen : ∀ j, cols < j → x j = 0) : ∀ j, (x j).natAbs ≤ 322560000 := by
  intro j
  by_cases h0 : x j = 0
  · rw [h0]; simp
  obtain ⟨P, hPn, hPl, hD, hP1, hP2, hP3⟩ := h.min
  obtain ⟨r, hr, a, b, ha, hsp⟩ := hP3 x hx
  have hb := RInv.border h.ech hP1 r a b x hsp (h.van x hx)
  have hp : Prim x := by
    rcases (h.tid x hx).prim with hz | hp
    · exact absurd (hz j) h0
    · exact hp
  obtain ⟨q, hq, hw⟩ := prim_le hp (dt (colsOf X (E.map (·.1)).reverse) P * a) (-b) (fun h0 => by
    rcases Int.mul_eq_zero.1 h0 with h0 | h0
    · exact hD h0
    · exact ha h0) hb
  rcases hw j with hw | hw
  · have hj : j ≤ cols := Nat.le_of_not_lt fun hl => h0 (hlen j hl)
    have hnp : j ∉ E.map (·.1) := fun hm => by
      obtain ⟨e, he, rfl⟩ := List.mem_map.1 hm
      exact h0 (h.van x hx e he)
    have hnd : (j :: (E.map (·.1)).reverse).Nodup := by
      rw [List.nodup_cons]
      exact ⟨by simpa using hnp, List.pairwise_reverse.2 (h.ech.nodup.imp fun h => Ne.symm h)⟩
    have hl7 : (j :: (E.map (·.1)).reverse).length ≤ 7 := by
      refine nodup_len 7 _ hnd fun y hy => ?_
      rcases List.mem_cons.1 hy with rfl | hy
      · omega
      · rw [List.mem_reverse] at hy
        obtain ⟨e, he, rfl⟩ := List.mem_map.1 hy
        have := hE e he
        omega
    have h1 := dt_bound X (cellB cols) hX (j :: (E.map (·.1)).reverse) (r :: P) (by simp [hPl])
    have h2 := fb_num cols _ hnd hl7
    have h3 : (dt ((fun i => X i j) :: colsOf X (E.map (·.1)).reverse) (r :: P)).natAbs ≤ 322560000 := Nat.le_trans h1 h2
    rw [hw, Int.natAbs_mul] at h3
    have : 1 * (x j).natAbs ≤ q.natAbs * (x j).natAbs := Nat.mul_le_mul (by omega) (Nat.le_refl _)
    omega
  · exact absurd hw h0
/-- one common denominator for all rows of the reduced form -/
theorem RInv.dens {X : Nat → Nat → Int} {n : Nat} {R : (Nat → Int) → Prop} {E : List (Nat × (Nat → Int))} (h : RInv X n R E) (β : Nat → Nat) (hX : ∀ i c, (X i c).natAbs ≤ β c) :
    ∃ D : Int, D ≠ 0 ∧ D.natAbs ≤ fb β (E.map (·.1)) ∧ ∀ E1 a E2, E = E1 ++ a :: E2 → ∃ q : Int, q ≠ 0 ∧ (D = q * a.2 a.1 ∨ D = - (q * a.2 a.1)) ∧ ∀ j, a.2 j ≠ 0 → (q * a.2 j).natAbs ≤ fb β (j :: (E1 ++ E2).map (·.1)) := by
  obtain ⟨P, hPn, hPl, hD, hP1, hP2, hP3⟩ := h.min
  refine ⟨_, hD, ?_, ?_⟩
  · rw [← fb_perm β (List.reverse_perm (E.map (·.1)))]
    exact dt_bound X β hX _ _ (by simp [hPl])
  rintro E1 a E2 rfl
  have ham : a ∈ E1 ++ a :: E2 := by simp
  have e0 : ((E1 ++ a :: E2).map (·.1)).reverse = (E2.map (·.1)).reverse ++ a.1 :: (E1.map (·.1)).reverse := by simp
  have hsgn := dt_head (fun i => X i a.1) (colsOf X (E2.map (·.1)).reverse) (colsOf X (E1.map (·.1)).reverse) P
  have e1 : colsOf X ((E1 ++ a :: E2).map (·.1)).reverse = colsOf X (E2.map (·.1)).reverse ++ (fun i => X i a.1) :: colsOf X (E1.map (·.1)).reverse := by rw [e0]; simp [colsOf]
  rw [← e1] at hsgn
  have hvs : Sp (inP X P) (fun j => dt ((fun i => X i j) :: (colsOf X (E2.map (·.1)).reverse ++ colsOf X (E1.map (·.1)).reverse)) P) := lapl_span X _ P _ fun i hi => ⟨i, hi, rfl⟩
  obtain ⟨v, hv⟩ : ∃ v : Nat → Int, v = fun j => dt ((fun i => X i j) :: (colsOf X (E2.map (·.1)).reverse ++ colsOf X (E1.map (·.1)).reverse)) P := ⟨_, rfl⟩
  rw [← hv] at hvs
  have hva : v a.1 = dt (colsOf X ((E1 ++ a :: E2).map (·.1)).reverse) P ∨ v a.1 = - dt (colsOf X ((E1 ++ a :: E2).map (·.1)).reverse) P := by rw [hv]; exact hsgn
  have hap := List.pairwise_append.1 h.ech.apart
  have hap2 := List.pairwise_cons.1 hap.2.1
  have hz := ech_zero h.ech (y := fun j => v a.1 * a.2 j + (- a.2 a.1) * v j) ((Sp.lin _ _ (hP2 a ham) hvs).trans (by rintro z ⟨i, hi, rfl⟩; exact hP1 i hi)) (by
    intro e he
    have hrep : ∀ e : Nat × (Nat → Int), e ∈ E1 ∨ e ∈ E2 → v e.1 = 0 := by
      intro e he
      rw [hv]
      refine dt_rep _ _ _ ?_
      rcases he with he | he
      · exact List.mem_append.2 (.inr (List.mem_map.2 ⟨e.1, by rw [List.mem_reverse]; exact List.mem_map.2 ⟨e, he, rfl⟩, rfl⟩))
      · exact List.mem_append.2 (.inl (List.mem_map.2 ⟨e.1, by rw [List.mem_reverse]; exact List.mem_map.2 ⟨e, he, rfl⟩, rfl⟩))
    rcases List.mem_append.1 he with he | he
    · rw [hrep e (.inl he), (hap.2.2 e he a (by simp)).2.2]
      simp
    · rcases List.mem_cons.1 he with rfl | he
      · grind
      · rw [hrep e (.inr he), (hap2.1 e he).2.1]
        simp)
  have hv0 : v a.1 ≠ 0 := by
    intro h0
    rcases hva with h1 | h1
    · exact hD (by rw [← h1]; exact h0)
    · exact hD (by omega)
  obtain ⟨q, hq, hw⟩ := prim_le (h.prim a ham) (v a.1) (a.2 a.1) hv0 (w := v) (fun j => by have := hz j; grind)
  have hpos := h.ech.pos a ham
  refine ⟨q, hq, ?_, fun j h0 => ?_⟩
  · rcases hw a.1 with hw | hw
    · rw [← hw]
      rcases hva with h1 | h1
      · exact .inl h1.symm
      · right; omega
    · omega
  · rcases hw j with hw | hw
    · rw [← hw, hv]
      have h1 := dt_bound X β hX (j :: ((E2.map (·.1)).reverse ++ (E1.map (·.1)).reverse)) P (by rw [hPl]; simp; omega)
      have h2 : (j :: ((E2.map (·.1)).reverse ++ (E1.map (·.1)).reverse)).Perm (j :: (E1 ++ E2).map (·.1)) := by
        refine List.Perm.cons j ?_
        rw [← List.reverse_append, List.map_append]
        exact List.reverse_perm _
      rw [fb_perm β h2] at h1
      simpa [colsOf] using h1
    · exact absurd hw h0
theorem RInv.out_le {X : Nat → Nat → Int} {n : Nat} {R : (Nat → Int) → Prop} {E : List (Nat × (Nat → Int))} (h : RInv X n R E) (cols : Nat) (hX : ∀ i c, (X i c).natAbs ≤ cellB cols c) (h6 : cols ≤ 6) (hE : ∀ a ∈ E, a.1 ≤ cols)
    (a : Nat × (Nat → Int)) (ha : a ∈ E) (hlen : ∀ j, cols < j → a.2 j = 0) : ∀ j, (a.2 j).natAbs ≤ 322560000 := by
  intro j
  by_cases h0 : a.2 j = 0
  · rw [h0]; simp
  obtain ⟨D, hD, hDb, hall⟩ := h.dens (cellB cols) hX
  obtain ⟨E1, E2, rfl⟩ := List.append_of_mem ha
  obtain ⟨q, hq, _, hj⟩ := hall E1 a E2 rfl
  have hj := hj j h0
  have hap := List.pairwise_append.1 h.ech.apart
  have hap2 := List.pairwise_cons.1 hap.2.1
  have hnp : j ∉ (E1 ++ E2).map (·.1) := fun hm => by
    obtain ⟨e, he, rfl⟩ := List.mem_map.1 hm
    rcases List.mem_append.1 he with he | he
    · exact h0 (hap.2.2 e he a (by simp)).2.2
    · exact h0 (hap2.1 e he).2.1
  have hnd : (j :: (E1 ++ E2).map (·.1)).Nodup := by
    rw [List.nodup_cons]
    refine ⟨hnp, ?_⟩
    have := h.ech.nodup
    simp only [List.map_append, List.map_cons] at this ⊢
    exact (List.nodup_cons.1 ((List.perm_middle.nodup_iff).1 this)).2
  have hl7 : (j :: (E1 ++ E2).map (·.1)).length ≤ 7 := by
    refine nodup_len 7 _ hnd fun y hy => ?_
    rcases List.mem_cons.1 hy with rfl | hy
    · have : y ≤ cols := Nat.le_of_not_lt fun hl => h0 (hlen y hl)
      omega
    · obtain ⟨e, he, rfl⟩ := List.mem_map.1 hy
      have := hE e (by
        rcases List.mem_append.1 he with he | he
        · simp [he]
        · simp [he])
      omega
  have h3 := Nat.le_trans hj (fb_num cols _ hnd hl7)
  rw [Int.natAbs_mul] at h3
  have : 1 * (a.2 j).natAbs ≤ q.natAbs * (a.2 j).natAbs := Nat.mul_le_mul (by omega) (Nat.le_refl _)
  omega
/-! rows as lists -/
def vec (r : List Int) : Nat → Int := fun j => r.getD j 0
def gcdF (g : Int) (r : List Int) : Int := r.foldl (fun g x => ((Int.gcd g x : Nat) : Int)) g
theorem gcdF_dvd (x b : Int) : ∀ (r : List Int) (g : Int), x ∣ b * g → (∀ y ∈ r, x ∣ b * y) → x ∣ b * gcdF g r
  | [], g, h, _ => h
  | y :: r, g, h, hr => by
    refine gcdF_dvd x b r _ ?_ (fun z hz => hr z (by simp [hz]))
    have h1 : (x.natAbs : Int) ∣ ((Int.gcd (b * g) (b * y) : Nat) : Int) := Int.dvd_coe_gcd (Int.natAbs_dvd.2 h) (Int.natAbs_dvd.2 (hr y (by simp)))
    rw [Int.gcd_mul_left] at h1
    rw [← Int.dvd_natAbs, ← Int.natAbs_dvd, Int.natAbs_mul, Int.natAbs_natCast]
    exact h1
theorem gcdF_dvd_all : ∀ (r : List Int) (g : Int), gcdF g r ∣ g ∧ ∀ y ∈ r, gcdF g r ∣ y
  | [], g => ⟨Int.dvd_refl _, fun y h => by cases h⟩
  | x :: r, g => by
    have h := gcdF_dvd_all r ((Int.gcd g x : Nat) : Int)
    refine ⟨Int.dvd_trans h.1 (Int.gcd_dvd_left ..), fun y hy => ?_⟩
    rcases List.mem_cons.1 hy with rfl | hy
    · exact Int.dvd_trans h.1 (Int.gcd_dvd_right ..)
    · exact h.2 y hy
theorem gcdF_nonneg : ∀ (r : List Int) (g : Int), 0 ≤ g → 0 ≤ gcdF g r
  | [], g, h => h
  | x :: r, g, _ => gcdF_nonneg r _ (Int.natCast_nonneg _)
theorem vec_mem (r : List Int) (j : Nat) : vec r j = 0 ∨ vec r j ∈ r := by
  unfold vec
  by_cases h : j < r.length
  · right; rw [List.getD_eq_getElem?_getD, List.getElem?_eq_getElem h]; exact List.getElem_mem h
  · left; rw [List.getD_eq_getElem?_getD, List.getElem?_eq_none (by omega)]; rfl
/-- the index of the first number that is not 0; the length of none -/
def leadL (r : List Int) : Nat := r.findIdx (fun x => !(x == 0))
theorem leadL_low (r : List Int) (j : Nat) (h : j < leadL r) : vec r j = 0 := by
  have h1 := List.not_of_lt_findIdx h
  have hl : j < r.length := Nat.lt_of_lt_of_le h (List.findIdx_le_length)
  simp at h1
  unfold vec
  rw [List.getD_eq_getElem?_getD, List.getElem?_eq_getElem hl]
  exact h1
theorem leadL_at (r : List Int) (h : leadL r < r.length) : vec r (leadL r) ≠ 0 := by
  have h1 := List.findIdx_getElem (w := h)
  simp at h1
  unfold vec
  rw [List.getD_eq_getElem?_getD, List.getElem?_eq_getElem h]
  exact h1
theorem leadL_eq (r : List Int) (c : Nat) (h : c < r.length) (hlow : ∀ j, j < c → vec r j = 0) (hc : vec r c ≠ 0) : leadL r = c := by
  rcases Nat.lt_trichotomy (leadL r) c with h1 | h1 | h1
  · exact absurd (hlow _ h1) (leadL_at r (by omega))
  · exact h1
  · exact absurd (leadL_low r c h1) hc
theorem leadL_zero (r : List Int) (h : ∀ j, vec r j = 0) : leadL r = r.length := by
  rcases Nat.lt_or_ge (leadL r) r.length with h1 | h1
  · exact absurd (h _) (leadL_at r h1)
  · exact Nat.le_antisymm List.findIdx_le_length h1
def sgnG (r : List Int) : Int := if vec r (leadL r) < 0 then - gcdF 0 r else gcdF 0 r
def tidyL (r : List Int) : List Int := if leadL r = r.length then r else r.map fun x => Int.tdiv x (sgnG r)
theorem tidyL_length (r : List Int) : (tidyL r).length = r.length := by unfold tidyL; split <;> simp
theorem vec_map (r : List Int) (f : Int → Int) (h : f 0 = 0) (j : Nat) : vec (r.map f) j = f (vec r j) := by
  unfold vec
  simp only [List.getD_eq_getElem?_getD, List.getElem?_map]
  cases r[j]? <;> simp [h]
theorem gcdF_pos (r : List Int) (h : leadL r ≠ r.length) : 0 < gcdF 0 r := by
  have h1 := gcdF_nonneg r 0 (Int.le_refl 0)
  rcases Int.lt_or_eq_of_le h1 with h2 | h2
  · exact h2
  · exfalso
    have hl : leadL r < r.length := Nat.lt_of_le_of_ne List.findIdx_le_length h
    rcases vec_mem r (leadL r) with h3 | h3
    · exact leadL_at r hl h3
    · have h4 := (gcdF_dvd_all r 0).2 _ h3
      rw [← h2] at h4
      exact leadL_at r hl (Int.zero_dvd.1 h4)
theorem tidyL_tid (r : List Int) : Tid (vec r) (vec (tidyL r)) := by
  by_cases h : leadL r = r.length
  · have hz : ∀ j, vec r j = 0 := fun j => by
      rcases Nat.lt_or_ge j r.length with h1 | h1
      · exact leadL_low r j (by omega)
      · unfold vec; rw [List.getD_eq_getElem?_getD, List.getElem?_eq_none h1]; rfl
    have e : tidyL r = r := by unfold tidyL; rw [if_pos h]
    rw [e]
    exact ⟨⟨1, by omega, fun j => by omega⟩, .inl hz, fun c _ hc => absurd (hz c) hc⟩
  · have hg := gcdF_pos r h
    have hl : leadL r < r.length := Nat.lt_of_le_of_ne List.findIdx_le_length h
    have hs0 : sgnG r ≠ 0 := by unfold sgnG; split <;> omega
    have hdv : ∀ j, sgnG r ∣ vec r j := fun j => by
      have h1 : gcdF 0 r ∣ vec r j := by
        rcases vec_mem r j with h3 | h3
        · rw [h3]; exact Int.dvd_zero _
        · exact (gcdF_dvd_all r 0).2 _ h3
      unfold sgnG
      split
      · exact (Int.neg_dvd).2 h1
      · exact h1
    have ev : ∀ j, vec (tidyL r) j = Int.tdiv (vec r j) (sgnG r) := fun j => by
      unfold tidyL
      rw [if_neg h, vec_map _ _ (by simp)]
    have em : ∀ j, vec r j = sgnG r * vec (tidyL r) j := fun j => by
      rw [ev j, Int.mul_tdiv_cancel' (hdv j)]
    refine ⟨⟨sgnG r, hs0, em⟩, .inr ?_, ?_⟩
    · intro a b hab
      have h1 : a * gcdF 0 r ∣ b * gcdF 0 r := by
        refine gcdF_dvd _ b r 0 (by simp) fun y hy => ?_
        obtain ⟨j, hj, rfl⟩ := List.mem_iff_getElem.1 hy
        have hvj : vec r j = r[j] := by unfold vec; rw [List.getD_eq_getElem?_getD, List.getElem?_eq_getElem hj]; rfl
        obtain ⟨k, hk⟩ := hab j
        have e1 := em j
        rw [hvj] at e1
        rw [e1]
        have hs : sgnG r = gcdF 0 r ∨ sgnG r = - gcdF 0 r := by unfold sgnG; split; exact .inr rfl; exact .inl rfl
        rcases hs with hs | hs
        · exact ⟨k, by rw [hs]; grind⟩
        · exact ⟨-k, by rw [hs]; grind⟩
      exact Int.dvd_of_mul_dvd_mul_right (by omega) h1
    · intro c hlow hc
      have hrc : vec r c ≠ 0 := fun h0 => by
        have := em c
        rw [h0] at this
        rcases Int.mul_eq_zero.1 this.symm with h1 | h1
        · exact hs0 h1
        · exact hc h1
      have hcl : c < r.length := Nat.lt_of_not_le fun h1 => hrc (by unfold vec; rw [List.getD_eq_getElem?_getD, List.getElem?_eq_none h1]; rfl)
      have hle : leadL r = c := leadL_eq r c hcl (fun j hj => by rw [em j, hlow j hj]; simp) hrc
      have e2 := em c
      unfold sgnG at e2
      rw [hle] at e2
      split at e2
      · rename_i hneg
        rw [e2] at hneg
        rcases Int.lt_or_gt_of_ne hc with h1 | h1
        · have := Int.mul_nonneg_of_nonpos_of_nonpos (a := - gcdF 0 r) (b := vec (tidyL r) c) (by omega) (by omega)
          omega
        · exact h1
      · rename_i hpos
        rw [e2] at hpos
        rcases Int.lt_or_gt_of_ne hc with h1 | h1
        · have := Int.mul_neg_of_pos_of_neg hg h1
          omega
        · exact h1
def clearL (a p : List Int) (k : Nat) : List Int := tidyL (List.zipWith (fun x y => x * vec p k - y * vec a k) a p)
theorem clearL_length (a p : List Int) (k : Nat) (h : a.length = p.length) : (clearL a p k).length = a.length := by unfold clearL; rw [tidyL_length]; simp [h]
theorem clearL_tid (a p : List Int) (k : Nat) (h : a.length = p.length) : Tid (clr k (vec p) (vec a)) (vec (clearL a p k)) := by
  have e : clr k (vec p) (vec a) = vec (List.zipWith (fun x y => x * vec p k - y * vec a k) a p) := by
    funext j
    simp only [clr]
    unfold vec
    simp only [List.getD_eq_getElem?_getD, List.getElem?_zipWith]
    by_cases hj : j < a.length
    · rw [List.getElem?_eq_getElem hj, List.getElem?_eq_getElem (by omega : j < p.length)]; simp
    · rw [List.getElem?_eq_none (by omega), List.getElem?_eq_none (by omega : p.length ≤ j)]; simp
  rw [e]
  exact tidyL_tid _
def clearIf (a p : List Int) (k : Nat) : List Int := if vec a k = 0 then a else clearL a p k
theorem clearIf_length (a p : List Int) (k : Nat) (h : a.length = p.length) : (clearIf a p k).length = a.length := by
  unfold clearIf; split
  · rfl
  · exact clearL_length a p k h
theorem clearIf_tid (a p : List Int) (k : Nat) (h : a.length = p.length) (ht : Tid (vec a) (vec a)) (hp : vec p k ≠ 0) : Tid (clr k (vec p) (vec a)) (vec (clearIf a p k)) := by
  unfold clearIf
  split
  · rename_i h0
    refine ⟨⟨vec p k, hp, fun j => by simp only [clr]; rw [h0]; grind⟩, ht.prim, ht.lead⟩
  · exact clearL_tid a p k h
abbrev remS (rem : List (List Int)) : (Nat → Int) → Prop := fun z => ∃ r, r ∈ rem ∧ z = vec r
abbrev outE (out : List (List Int)) : List (Nat × (Nat → Int)) := out.map fun r => (leadL r, vec r)
abbrev xvec (X : List (List Int)) : Nat → Nat → Int := fun i => vec (X.getD i [])
structure CInv (X : List (List Int)) (N c : Nat) (rem out : List (List Int)) : Prop where
  inv : RInv (xvec X) X.length (remS rem) (outE out)
  lenr : ∀ r ∈ rem, r.length = N
  leno : ∀ r ∈ out, r.length = N
  low : ∀ r ∈ rem, ∀ j, j < c → vec r j = 0
  lead : ∀ r ∈ out, leadL r < c
theorem xvec_mem (X : List (List Int)) (i : Nat) (h : i < X.length) : xvec X i = vec X[i] := by
  simp [xvec, List.getD_eq_getElem?_getD, List.getElem?_eq_getElem h]
theorem CInv.init (X : List (List Int)) (N : Nat) (hX : ∀ r ∈ X, r.length = N) : CInv X N 0 (X.map tidyL) [] where
  inv := by
    refine RInv.init _ _ _ ?_ ?_
    · rintro x ⟨r, hr, rfl⟩
      obtain ⟨y, hy, rfl⟩ := List.mem_map.1 hr
      obtain ⟨i, hi, rfl⟩ := List.mem_iff_getElem.1 hy
      exact ⟨i, hi, by rw [xvec_mem X i hi]; exact tidyL_tid _⟩
    · intro i hi
      exact ⟨vec (tidyL X[i]), ⟨tidyL X[i], List.mem_map.2 ⟨X[i], List.getElem_mem _, rfl⟩, rfl⟩, by rw [xvec_mem X i hi]; exact tidyL_tid _⟩
  lenr := fun r hr => by
    obtain ⟨y, hy, rfl⟩ := List.mem_map.1 hr
    rw [tidyL_length]; exact hX y hy
  leno := fun r hr => by cases hr
  low := fun r _ j hj => by omega
  lead := fun r hr => by cases hr
theorem CInv.skip {X : List (List Int)} {N c : Nat} {rem out : List (List Int)} (h : CInv X N c rem out) (h0 : ∀ r ∈ rem, vec r c = 0) : CInv X N (c + 1) rem out :=
  ⟨h.inv, h.lenr, h.leno, fun r hr j hj => by
    rcases Nat.lt_or_eq_of_le (Nat.le_of_lt_succ hj) with h1 | rfl
    · exact h.low r hr j h1
    · exact h0 r hr, fun r hr => Nat.lt_succ_of_lt (h.lead r hr)⟩
theorem CInv.perm {X : List (List Int)} {N c : Nat} {rem rem' out : List (List Int)} (h : CInv X N c rem out) (hp : ∀ r, r ∈ rem ↔ r ∈ rem') : CInv X N c rem' out := by
  have e : remS rem = remS rem' := by funext z; exact propext ⟨fun ⟨r, h1, e⟩ => ⟨r, (hp r).1 h1, e⟩, fun ⟨r, h1, e⟩ => ⟨r, (hp r).2 h1, e⟩⟩
  exact ⟨e ▸ h.inv, fun r hr => h.lenr r ((hp r).2 hr), h.leno, fun r hr => h.low r ((hp r).2 hr), h.lead⟩
theorem CInv.pivot {X : List (List Int)} {N c : Nat} {rem out others : List (List Int)} {x : List Int} (h : CInv X N c rem out) (hc : vec x c ≠ 0) (hp : ∀ r, r ∈ rem ↔ r = x ∨ r ∈ others) :
    CInv X N (c + 1) (others.map fun r => clearIf r x c) (out.map (fun r => clearIf r x c) ++ [x]) := by
  have hx : x ∈ rem := (hp x).2 (.inl rfl)
  have hxN := h.lenr x hx
  have hcN : c < x.length := Nat.lt_of_not_le fun h1 => hc (by unfold vec; rw [List.getD_eq_getElem?_getD, List.getElem?_eq_none h1]; rfl)
  have hlx : leadL x = c := leadL_eq x c hcN (h.low x hx) hc
  have hE : ∀ a ∈ outE out, a.1 < c := by
    intro a ha
    obtain ⟨r, hr, rfl⟩ := List.mem_map.1 ha
    exact h.lead r hr
  have tr : ∀ r ∈ rem, Tid (clr c (vec x) (vec r)) (vec (clearIf r x c)) := fun r hr =>
    clearIf_tid r x c (by rw [h.lenr r hr, hxN]) (h.inv.tid _ ⟨r, hr, rfl⟩) hc
  have tpo : ∀ r ∈ out, Tid (clr c (vec x) (vec r)) (vec (clearIf r x c)) := fun r hr => by
    have hm : (leadL r, vec r) ∈ outE out := List.mem_map.2 ⟨r, hr, rfl⟩
    refine clearIf_tid r x c (by rw [h.leno r hr, hxN]) ⟨⟨1, by omega, fun j => by omega⟩, .inr (h.inv.prim _ hm), fun d hd hdc => ?_⟩ hc
    have hle : leadL r = d := by
      refine leadL_eq r d ?_ hd hdc
      exact Nat.lt_of_not_le fun h1 => hdc (by unfold vec; rw [List.getD_eq_getElem?_getD, List.getElem?_eq_none h1]; rfl)
    have := h.inv.ech.pos _ hm
    simp only [hle] at this
    exact this
  -- leads stay
  have ld : ∀ r ∈ out, leadL (clearIf r x c) = leadL r := by
    intro r hr
    have hm : (leadL r, vec r) ∈ outE out := List.mem_map.2 ⟨r, hr, rfl⟩
    have ht := tpo r hr
    have hv := h.inv.van _ ⟨x, hx, rfl⟩ _ hm
    have hpos := h.inv.ech.pos _ hm
    have hl := h.lead r hr
    have hN := h.leno r hr
    refine leadL_eq _ _ ?_ ?_ ?_
    · rw [clearIf_length r x c (by rw [hN, hxN]), hN, ← hxN]; omega
    · intro j hj
      rw [← ht.zero]
      simp only [clr]
      rw [leadL_low r j hj, h.low x hx j (by omega)]; simp
    · rw [Ne, ← ht.zero]
      simp only [clr]
      simp only at hv hpos
      rw [hv]
      intro h0
      have h1 : vec r (leadL r) * vec x c = 0 := by omega
      rcases Int.mul_eq_zero.1 h1 with h1 | h1
      · omega
      · exact hc h1
  have hEl : outE (out.map (fun r => clearIf r x c) ++ [x]) = outE (out.map (fun r => clearIf r x c)) ++ [(c, vec x)] := by
    simp [outE, hlx]
  refine ⟨?_, ?_, ?_, ?_, ?_⟩
  · rw [hEl]
    refine h.inv.step c (vec x) ⟨x, hx, rfl⟩ hc ?_ hE ?_ ?_ (by simp [outE]) ?_
    · rintro z ⟨r, hr, rfl⟩ j hj; exact h.low r hr j hj
    · rintro y ⟨r, hr, rfl⟩
      obtain ⟨s, hs, rfl⟩ := List.mem_map.1 hr
      have hs' := (hp s).2 (.inr hs)
      exact ⟨vec s, ⟨s, hs', rfl⟩, tr s hs'⟩
    · rintro z ⟨r, hr, rfl⟩
      rcases (hp r).1 hr with rfl | ho
      · exact .inl rfl
      · exact .inr ⟨_, ⟨clearIf r x c, List.mem_map.2 ⟨r, ho, rfl⟩, rfl⟩, tr r hr⟩
    · intro i h1 h2
      have hi : i < out.length := by simpa [outE] using h2
      simp only [outE, List.getElem_map]
      exact ⟨ld _ (List.getElem_mem _), tpo _ (List.getElem_mem _)⟩
  · intro r hr
    obtain ⟨s, hs, rfl⟩ := List.mem_map.1 hr
    have hs' := h.lenr s ((hp s).2 (.inr hs))
    rw [clearIf_length s x c (by rw [hs', hxN]), hs']
  · intro r hr
    rcases List.mem_append.1 hr with hr | hr
    · obtain ⟨s, hs, rfl⟩ := List.mem_map.1 hr
      have hs' := h.leno s hs
      rw [clearIf_length s x c (by rw [hs', hxN]), hs']
    · rw [List.mem_singleton.1 hr]; exact hxN
  · intro r hr j hj
    obtain ⟨s, hs, rfl⟩ := List.mem_map.1 hr
    have hs' := (hp s).2 (.inr hs)
    rw [← (tr s hs').zero]
    simp only [clr]
    rcases Nat.lt_or_eq_of_le (Nat.le_of_lt_succ hj) with h1 | rfl
    · rw [h.low s hs' j h1, h.low x hx j h1]; simp
    · grind
  · intro r hr
    rcases List.mem_append.1 hr with hr | hr
    · obtain ⟨s, hs, rfl⟩ := List.mem_map.1 hr
      rw [ld s hs]
      have := h.lead s hs
      omega
    · rw [List.mem_singleton.1 hr, hlx]; omega
/-- bounds of the cells at every state -/
theorem vec_out (r : List Int) (j : Nat) (h : r.length ≤ j) : vec r j = 0 := by
  unfold vec; rw [List.getD_eq_getElem?_getD, List.getElem?_eq_none h]; rfl
theorem CInv.rem_le {X : List (List Int)} {N c cols : Nat} {rem out : List (List Int)} (h : CInv X N c rem out) (hN : N ≤ cols + 1) (h6 : cols ≤ 6) (hX : ∀ r ∈ X, ∀ j, (vec r j).natAbs ≤ cellB cols j) (hc : c ≤ cols + 1) (r : List Int) (hr : r ∈ rem) (j : Nat) : (vec r j).natAbs ≤ 322560000 := by
  refine h.inv.rem_le cols (fun i k => ?_) h6 ?_ (vec r) ⟨r, hr, rfl⟩ (fun j hj => vec_out r j (by rw [h.lenr r hr]; omega)) j
  · by_cases hi : i < X.length
    · rw [xvec_mem X i hi]; exact hX _ (List.getElem_mem _) k
    · have : xvec X i k = 0 := by simp [xvec, List.getD_eq_getElem?_getD, List.getElem?_eq_none (Nat.le_of_not_lt hi), vec]
      rw [this]; simp
  · intro a ha
    obtain ⟨s, hs, rfl⟩ := List.mem_map.1 ha
    have := h.lead s hs
    simp only
    omega
theorem CInv.out_le {X : List (List Int)} {N c cols : Nat} {rem out : List (List Int)} (h : CInv X N c rem out) (hN : N ≤ cols + 1) (h6 : cols ≤ 6) (hX : ∀ r ∈ X, ∀ j, (vec r j).natAbs ≤ cellB cols j) (hc : c ≤ cols + 1) (r : List Int) (hr : r ∈ out) (j : Nat) : (vec r j).natAbs ≤ 322560000 := by
  refine h.inv.out_le cols (fun i k => ?_) h6 ?_ (leadL r, vec r) (List.mem_map.2 ⟨r, hr, rfl⟩) (fun j hj => vec_out r j (by rw [h.leno r hr]; omega)) j
  · by_cases hi : i < X.length
    · rw [xvec_mem X i hi]; exact hX _ (List.getElem_mem _) k
    · have : xvec X i k = 0 := by simp [xvec, List.getD_eq_getElem?_getD, List.getElem?_eq_none (Nat.le_of_not_lt hi), vec]
      rw [this]; simp
  · intro a ha
    obtain ⟨s, hs, rfl⟩ := List.mem_map.1 ha
    have := h.lead s hs
    simp only
    omega
def bound62 (zs : List Int) : Prop := ∀ x ∈ zs, x.natAbs ≤ 4611686018427387904
theorem vec_of_lt (r : List Int) (j : Nat) (h : j < r.length) : vec r j = r[j] := by
  unfold vec; rw [List.getD_eq_getElem?_getD, List.getElem?_eq_getElem h]; rfl
theorem tdiv_le (x g : Int) : (Int.tdiv x g).natAbs ≤ x.natAbs := by
  rw [Int.natAbs_tdiv]
  exact Nat.div_le_self _ _

set_option maxHeartbeats 2000000 in
theorem idxf_lead (p : Int → Bool) (lb : Array Value) (A0 : Option Addr) (c0 : Nat) (l0 : List Int) (w : World) (hr0 : Kd.C (Kd.int .i64) w A0 l0.length l0) (hl : l0.length ≤ 1048576)
    (hp : ∀ x W, Below w.heap.size w W → x ∈ l0 → Calls Try.prog 183 (#[.int .i64 x] ++ lb) W fun e w' => e = .returned (.bool (p x)) ∧ Below W.heap.size W w') :
    Calls Try.prog 163 #[.slice A0 l0.length c0, .func (.func 183) #[] lb] w fun e w' => e = .returned (.int .i64 (firstP p l0 0)) ∧ Below w.heap.size w w' := by
  have HR0 := Aside0.mk hr0
  have HP := Aside0.mk hp
  have eg : ∀ args w, (callFunc 183 args).run Try.prog w = .ok (.enter 183 args) w := by
    intro args w
    have h1 : Try.f183.name ≠ "runtime.NumGoroutine" := by decide
    obtain ⟨c_, hb⟩ : ∃ c_, Try.f183.body = some c_ := ⟨_, rfl⟩
    simp [callFunc, Try.func183, h1, hb, mark]
  clear hr0 hp
  go_enter Try.func163, Try.ntmps163
  go_wp2
  go_loopg [8] l0.length (fun gg v8 wr => ∃ (pre suf : List Int), gg = suf.length ∧ Aside0 (l0 = pre ++ suf) ∧ v8 = .int .i64 (pre.length : Int) ∧ Aside0 (firstP p suf pre.length = firstP p l0 0) ∧ Aside0 (Below w.heap.size w wr))
  case atStart => exact ⟨[], l0, rfl, ⟨rfl⟩, rfl, ⟨rfl⟩, ⟨by repeat (first | (with_reducible first | exact Below.refl _ _ | apply below_alloc | apply pw_below_drewN | apply below_drew1) | exact Below.refl _ _)⟩⟩
  case round =>
    obtain ⟨pre, suf, hgg, HE, rfl, HA, HB⟩ := hrel
    cases suf with
    | nil =>
      have hlt : ¬ (pre.length : Int) < (l0.length : Int) := by rw [HE.out]; simp
      go_wp2
      go_ret
      exact ⟨by rw [← HA.out]; rfl, HB.out⟩
    | cons x suf =>
      have hlt : (pre.length : Int) < (l0.length : Int) := by rw [HE.out]; simp; omega
      obtain ⟨ad, e, hc⟩ := Kd.at_int HR0.out (pre.length : Int) (by omega) hlt
      have hx : rd l0 (pre.length : Int) = x := by rw [HE.out]; exact rd_mid pre suf x
      rw [hx] at hc
      cases e
      have hc2 : wr.cell? (ad.add pre.length) = some (.int .i64 x) := by have h_ := (HB.out.cell (World.block_lt_of_cell? w _ hc)).trans hc; simpa using h_
      have HCALL := Aside0.mk (HP.out x)
      have HM := Aside0.mk (show x ∈ l0 by rw [HE.out]; simp)
      clear hx hc
      have hb0 := Aside0.mk (Below.refl w.heap.size w)
      cases hp : p x with
      | true =>
        rw [hp] at HCALL
        go_wp2_with fail
        go_at_call 183; (refine (HCALL.out _ ?hbel HM.out).mono ?_); (case hbel => repeat (first | (with_reducible first | exact HB.out | apply below_alloc | apply pw_below_drewN | apply below_drew1) | exact HB.out)); rintro e w' ⟨rfl, hb'⟩
        have HB2 := Aside0.mk (below_step (w := w) (by repeat (first | (with_reducible first | exact HB.out | apply below_alloc | apply pw_below_drewN | apply below_drew1) | exact HB.out)) hb')
        clear hb'
        go_wp2
        go_ret
        exact ⟨by rw [← HA.out, firstP, if_pos hp]; rfl, HB2.out⟩
      | false =>
        rw [hp] at HCALL
        go_wp2_with fail
        go_at_call 183; (refine (HCALL.out _ ?hbel HM.out).mono ?_); (case hbel => repeat (first | (with_reducible first | exact HB.out | apply below_alloc | apply pw_below_drewN | apply below_drew1) | exact HB.out)); rintro e w' ⟨rfl, hb'⟩
        have HB2 := Aside0.mk (below_step (w := w) (by repeat (first | (with_reducible first | exact HB.out | apply below_alloc | apply pw_below_drewN | apply below_drew1) | exact HB.out)) hb')
        clear hb'
        have HL := Aside0.mk hl
        have HLT := Aside0.mk hlt
        clear hl hlt
        go_wp2_with fail
        go_roundg suf.length
        case measure => rw [hgg]; simp
        case rel => exact ⟨pre ++ [x], suf, rfl, ⟨by rw [HE.out]; simp⟩, by rw [wsucc (by have := HL.out; have := HLT.out; omega)]; simp, ⟨by rw [← HA.out, firstP, if_neg (by rw [hp]; decide)]; simp⟩, ⟨HB2.out⟩⟩
set_option maxHeartbeats 1000000 in
theorem lead1_c (x : Int) (w : World) : Calls Try.prog 183 #[.int .i64 x] w fun e w' => e = .returned (.bool (!(x == 0))) ∧ Below w.heap.size w w' := by
  go_enter Try.func183, Try.ntmps183
  go_wp2
  go_ret
  exact ⟨by simp [bne], by repeat (first | (with_reducible first | exact Below.refl _ _ | apply below_alloc | apply pw_below_drewN | apply below_drew1) | exact Below.refl _ _)⟩
def leadI (zs : List Int) : Int := if leadL zs = zs.length then -1 else (leadL zs : Int)
theorem firstP_lead : ∀ (zs : List Int) (n : Nat), firstP (fun x => !(x == 0)) zs n = if leadL zs = zs.length then -1 else ((n + leadL zs : Nat) : Int)
  | [], n => by simp [firstP, leadL]
  | x :: zs, n => by
    by_cases h : x = 0
    · have e : leadL (x :: zs) = leadL zs + 1 := by simp [leadL, List.findIdx_cons, h]
      rw [firstP, if_neg (by simp [h]), firstP_lead zs (n + 1), e, List.length_cons]
      by_cases h2 : leadL zs = zs.length
      · rw [if_pos h2, if_pos (by omega)]
      · rw [if_neg h2, if_neg (by omega)]; omega
    · have hb : (x == 0) = false := by simpa using h
      have e : leadL (x :: zs) = 0 := by simp [leadL, List.findIdx_cons, hb]
      rw [firstP, if_pos (by simp [h]), e, if_neg (by simp)]; simp
set_option maxHeartbeats 1000000 in
theorem impl_lead_c (A : Option Addr) (c : Nat) (zs : List Int) (w : World) (hr : Kd.C (Kd.int .i64) w A zs.length zs) (hl : zs.length ≤ 1048576) :
    Calls Try.prog 168 #[.slice A zs.length c] w fun e w' => e = .returned (.int .i64 (leadI zs)) ∧ Below w.heap.size w w' := by
  have H := Aside0.mk (idxf_lead (fun x => !(x == 0)) #[] A c zs w hr hl (fun x W _ _ => lead1_c x W))
  have e : firstP (fun x => !(x == 0)) zs 0 = leadI zs := by rw [firstP_lead]; simp [leadI]
  rw [e] at H
  clear hr hl e
  go_enter Try.func168, Try.ntmps168
  go_wp2_with fail
  go_at_call 163; refine H.out.mono ?_; rintro e w' ⟨rfl, hb⟩
  have HB := Aside0.mk hb
  clear hb
  go_wp2
  go_ret
  exact ⟨rfl, by repeat (first | (with_reducible first | exact HB.out | apply below_alloc | apply pw_below_drewN | apply below_drew1) | exact HB.out)⟩

theorem impl_gcd_l0 : ∀ (n b a : Nat), b ≤ n → Ev (fun k => impl_gcd.l0 k (a : Int) (b : Int)) ((Nat.gcd a b : Nat) : Int) := by
  intro n
  induction n with
  | zero =>
    intro b a hb
    obtain rfl : b = 0 := by omega
    refine Ev.step (fun k => by rw [impl_gcd.l0]) ?_
    exact evPos rfl (evEq (by simp) (Ev.now _))
  | succ n ih =>
    intro b a hb
    refine Ev.step (fun k => by rw [impl_gcd.l0]) ?_
    by_cases h0 : b = 0
    · subst h0
      exact evPos rfl (evEq (by simp) (Ev.now _))
    · refine evNeg (by omega) ?_
      rw [Int.tmod_eq_emod_of_nonneg (by omega), show (a : Int) % (b : Int) = ((a % b : Nat) : Int) by omega]
      have h := ih (a % b) b (by have := Nat.mod_lt a (by omega : b > 0); omega)
      refine evEq ?_ h
      rw [Nat.gcd_comm a b, Nat.gcd_rec b a, Nat.gcd_comm]
theorem impl_gcd_ev (a b : Int) (ha : a.natAbs ≤ 9223372036854775807) (hb : b.natAbs ≤ 9223372036854775807) : Ev (fun k => impl_gcd.f k a b) ((Int.gcd a b : Nat) : Int) := by
  have key : ∀ a : Int, 0 ≤ a → a.natAbs ≤ 9223372036854775807 → Ev (fun k => impl_gcd.j0 k a b) ((Nat.gcd a.natAbs b.natAbs : Nat) : Int) := by
    intro a h0 h1
    refine Ev.step (fun k => by rw [impl_gcd.j0]) ?_
    have h := impl_gcd_l0 b.natAbs b.natAbs a.natAbs (Nat.le_refl _)
    rw [show ((a.natAbs : Nat) : Int) = a by omega] at h
    by_cases hn : b < 0
    · refine evPos hn (Ev.step (fun k => by rw [impl_gcd.j1]) ?_)
      rw [w64 (by omega) (by omega), show -b = ((b.natAbs : Nat) : Int) by omega]
      exact h
    · refine evNeg hn (Ev.step (fun k => by rw [impl_gcd.j1]) ?_)
      rw [show ((b.natAbs : Nat) : Int) = b by omega] at h
      exact h
  unfold impl_gcd.f
  by_cases hn : a < 0
  · refine evPos hn ?_
    rw [w64 (by omega) (by omega)]
    have h := key (-a) (by omega) (by omega)
    rw [Int.natAbs_neg] at h
    exact h
  · exact evNeg hn (key a (by omega) ha)
theorem gcd_le_of (a b : Int) (M : Nat) (ha : a.natAbs ≤ M) (hb : b.natAbs ≤ M) : Int.gcd a b ≤ M := by
  by_cases h : b = 0
  · subst h; simpa using ha
  · exact Nat.le_trans (Nat.le_of_dvd (by omega) (Nat.gcd_dvd_right a.natAbs b.natAbs)) hb
theorem gcdF_le (M : Nat) : ∀ (r : List Int) (g : Int), g.natAbs ≤ M → (∀ x ∈ r, x.natAbs ≤ M) → (gcdF g r).natAbs ≤ M
  | [], g, h, _ => h
  | x :: r, g, h, hr => gcdF_le M r _ (by
      have := gcd_le_of g x M h (hr x (by simp))
      simpa using this) (fun y hy => hr y (by simp [hy]))
theorem gcdF_append (g : Int) (r : List Int) (x : Int) : gcdF g (r ++ [x]) = ((Int.gcd (gcdF g r) x : Nat) : Int) := by simp [gcdF, List.foldl_append]
theorem gcdF_zero_lead (r : List Int) : gcdF 0 r = 0 ↔ leadL r = r.length := by
  constructor
  · intro h
    apply Classical.byContradiction
    intro hn
    have := gcdF_pos r hn
    omega
  · intro h
    have key : ∀ (s : List Int), (∀ x ∈ s, x = 0) → gcdF 0 s = 0 := by
      intro s
      induction s with
      | nil => intro _; rfl
      | cons x s ih =>
        intro hs
        have hx := hs x (by simp)
        subst hx
        exact ih (fun y hy => hs y (by simp [hy]))
    refine key r fun x hx => ?_
    obtain ⟨j, hj, rfl⟩ := List.mem_iff_getElem.1 hx
    have h1 := leadL_low r j (by omega)
    unfold vec at h1
    rw [List.getD_eq_getElem?_getD, List.getElem?_eq_getElem hj] at h1
    exact h1

/-- What a call turns: the blocks of S alone. -/
structure Trn (S : Nat → Prop) (w w' : World) : Prop where
  os : w'.os = w.os
  tape : w'.tape = w.tape
  output : w'.output = w.output
  size : w.heap.size ≤ w'.heap.size
  block : ∀ k, k < w.heap.size → ¬ S k → w'.heap[k]? = w.heap[k]?
theorem Trn.refl (S : Nat → Prop) (w : World) : Trn S w w := ⟨rfl, rfl, rfl, Nat.le_refl _, fun _ _ _ => rfl⟩
theorem Trn.trans {S : Nat → Prop} {a b c : World} (h : Trn S a b) (k : Trn S b c) : Trn S a c :=
  ⟨k.os.trans h.os, k.tape.trans h.tape, k.output.trans h.output, Nat.le_trans h.size k.size, fun i hi hs => (k.block i (Nat.lt_of_lt_of_le hi h.size) hs).trans (h.block i hi hs)⟩
theorem Trn.of_below {S : Nat → Prop} {a b : World} (h : Below a.heap.size a b) : Trn S a b := ⟨h.os, h.tape, h.output, h.size, fun i hi _ => h.block i hi⟩
theorem Trn.then_below {S : Nat → Prop} {a b c : World} (h : Trn S a b) (k : Below b.heap.size b c) : Trn S a c := h.trans (.of_below k)
theorem Trn.mono {S T : Nat → Prop} {a b : World} (h : Trn S a b) (hs : ∀ k, S k → T k) : Trn T a b := ⟨h.os, h.tape, h.output, h.size, fun i hi ht => h.block i hi fun hk => ht (hs i hk)⟩
theorem Trn.setCell {S : Nat → Prop} {a b : World} (h : Trn S a b) (p : Addr) (u : Value) (hp : S p.block) : Trn S a (b.setCell p u) :=
  ⟨h.os, h.tape, h.output, by rw [World.size_setCell]; exact h.size, fun i hi hs => (Below.heap_setCell b p u i (fun e => hs (e ▸ hp))).trans (h.block i hi hs)⟩
theorem Trn.below {S : Nat → Prop} {B : Nat} {w0 a b : World} (hS : ∀ k, S k → B ≤ k) (h : Below B w0 a) (hB : B ≤ a.heap.size) (k : Trn S a b) : Below B w0 b :=
  ⟨k.os.trans h.os, k.tape.trans h.tape, k.output.trans h.output, Nat.le_trans h.size k.size, fun i hi => (k.block i (Nat.lt_of_lt_of_le hi hB) (fun hs => by have := hS i hs; omega)).trans (h.block i hi)⟩

abbrev GR (w : World) (B b cap : Nat) (r : List Int) : Prop := Kd.R (Kd.int .i64) 3 w B (fun k => k = b) (.slice (some ⟨b, 0, none⟩) r.length cap) r
abbrev GRn (w : World) (B b cap n : Nat) (r : List Int) : Prop := Kd.R (Kd.int .i64) 3 w B (fun k => k = b) (.slice (some ⟨b, 0, none⟩) n cap) r
theorem GR.lt {w : World} {B b cap : Nat} {r : List Int} (h : GR w B b cap r) : b < w.heap.size := ((Kd.own_of_R h).lt b rfl).2
theorem GR.base {w : World} {B b cap : Nat} {r : List Int} (h : GR w B b cap r) : B ≤ b := ((Kd.own_of_R h).lt b rfl).1
theorem GR.move {w w' : World} {B b cap : Nat} {r : List Int} (h : GR w B b cap r) (e : w'.heap[b]? = w.heap[b]?) : GR w' B b cap r := Kd.R_move h (fun k hk => hk ▸ e)
theorem GR.trn {S : Nat → Prop} {w w' : World} {B b cap : Nat} {r : List Int} (h : GR w B b cap r) (k : Trn S w w') (hs : ¬ S b) : GR w' B b cap r := h.move (k.block b h.lt hs)
theorem GR.reads {w : World} {B b cap : Nat} {r : List Int} (h : GR w B b cap r) : Kd.C (Kd.int .i64) w (some ⟨b, 0, none⟩) r.length r := (Kd.R_reads' h).2.2
theorem GRn.cell {w : World} {B b cap n : Nat} {r : List Int} (h : GRn w B b cap n r) (hn : r.length = n) (j : Nat) (hj : j < n) : w.cell? ⟨b, j, none⟩ = some (.int .i64 (vec r j)) ∧ w.frozen? ⟨b, j, none⟩ = false := by
  subst hn
  have h1 := Kd.R_cell (0 : Int) h (j : Int) (by omega) (by omega)
  rwa [show rdOf 0 r (j : Int) = vec r j by simp [rdOf, vec], Int.toNat_natCast] at h1
theorem GRn.put {w : World} {B b cap n : Nat} {r : List Int} (h : GRn w B b cap n r) (hn : r.length = n) (j : Nat) (x : Int) : GRn (w.setCell ⟨b, j, none⟩ (.int .i64 x)) B b cap n (r.set j x) := by
  subst hn
  have h1 := (Kd.R_put h (j : Int) x).1
  rwa [Int.toNat_natCast] at h1
theorem vec_mid (pre suf : List Int) (x : Int) (n : Nat) (hn : pre.length = n) : vec (pre ++ x :: suf) n = x := by
  subst hn; simp [vec]
theorem gcdF_take_le {zs pre suf : List Int} (h : bound62 zs) (e : zs = pre ++ suf) : 0 ≤ gcdF 0 pre ∧ gcdF 0 pre ≤ 4611686018427387904 := by
  have h1 := gcdF_le 4611686018427387904 pre 0 (by simp) (fun x hx => h x (by rw [e]; simp [hx]))
  have h2 := gcdF_nonneg pre 0 (Int.le_refl 0)
  omega
set_option maxHeartbeats 1000000 in
set_option maxRecDepth 100000 in
theorem impl_tidy_c (B b cap : Nat) (zs : List Int) (w : World) (hr : GR w B b cap zs) (hl : zs.length ≤ 1048576) (hb : bound62 zs) :
    Calls Try.prog 177 #[.slice (some ⟨b, 0, none⟩) zs.length cap] w fun e w' => e = .returned (.tuple #[]) ∧ GR w' B b cap (tidyL zs) ∧ Trn (fun k => k = b) w w' := by
  have HR := Aside0.mk hr
  have HL := Aside0.mk hl
  have HBD := Aside0.mk hb
  clear hr hl hb
  go_enter Try.func177, Try.ntmps177
  go_wp2
  go_loopg [2, 8] zs.length (fun gg v2 v8 wr => ∃ (pre suf : List Int), gg = suf.length ∧ Aside0 (zs = pre ++ suf) ∧ v2 = .int .i64 (gcdF 0 pre) ∧ v8 = .int .i64 (pre.length : Int) ∧ Aside0 (Below w.heap.size w wr))
  case atStart => exact ⟨[], zs, rfl, ⟨rfl⟩, rfl, rfl, ⟨by repeat (first | (with_reducible first | exact Below.refl _ _ | apply below_alloc | apply pw_below_drewN | apply below_drew1) | exact Below.refl _ _)⟩⟩
  case round =>
    obtain ⟨pre, suf, hgg, HE, rfl, rfl, HB⟩ := hrel
    cases suf with
    | cons x suf =>
      have hlt : (pre.length : Int) < (zs.length : Int) := by rw [HE.out]; simp; omega
      have hc := (Kd.R_cell (0 : Int) (HR.out.trn (Trn.of_below (S := fun _ => False) HB.out) (fun h => h)) (pre.length : Int) (by omega) hlt).1
      have hx : rdOf 0 zs (pre.length : Int) = x := by rw [HE.out]; simp [rdOf]
      rw [hx, Int.toNat_natCast] at hc
      obtain ⟨k, hk⟩ := (impl_gcd_ev (gcdF 0 pre) x (by have := gcdF_take_le HBD.out HE.out; omega) (by have := HBD.out x (by rw [HE.out]; simp); omega)).rounds
      rw [← gcdF_append] at hk
      have HK := Aside0.mk hk
      have HLT := Aside0.mk hlt
      clear hx hk
      go_wp2_with fail
      go_at_call 196; refine (impl_gcd.calls k _ _ _ _ HK.out).mono ?_; rintro e w' ⟨rfl, ⟨nd, rfl⟩⟩
      clear hlt
      go_wp2_with fail
      go_roundg suf.length
      case measure => rw [hgg]; simp
      case rel => exact ⟨pre ++ [x], suf, rfl, ⟨by rw [HE.out]; simp⟩, rfl, by rw [wsucc (by have := HL.out; have := HLT.out; omega)]; simp, ⟨by repeat (first | (with_reducible first | exact HB.out | apply below_alloc | apply pw_below_drewN | apply below_drew1) | exact HB.out)⟩⟩
    | nil =>
      have e0 : zs = pre := by simpa using HE.out
      subst e0
      have hlt : ¬ (zs.length : Int) < (zs.length : Int) := by omega
      have HR2 := Aside0.mk (HR.out.trn (Trn.of_below (S := fun _ => False) HB.out) (fun h => h))
      by_cases hz : leadL zs = zs.length
      · have hg0 : gcdF 0 zs = 0 := (gcdF_zero_lead zs).2 hz
        have hgd : (gcdF 0 zs == 0) = true := by rw [hg0]; rfl
        have HT := Aside0.mk (show tidyL zs = zs by unfold tidyL; rw [if_pos hz])
        rw [hg0]
        clear hgd hg0 hz
        go_wp2
        refine bodyPost_ret (results_none rfl _ _ _) rfl ?_
        exact ⟨rfl, by rw [HT.out]; exact HR2.out, .of_below HB.out⟩
      · have hp := gcdF_pos zs hz
        have hgne : (gcdF 0 zs == 0) = false := by simp; omega
        have hle := (gcdF_take_le HBD.out (show zs = zs ++ [] by simp)).2
        have hll : leadL zs < zs.length := Nat.lt_of_le_of_ne List.findIdx_le_length hz
        have HLD := Aside0.mk (impl_lead_c (some ⟨b, 0, none⟩) cap zs wr HR2.out.reads HL.out)
        have hli : leadI zs = (leadL zs : Int) := by unfold leadI; rw [if_neg hz]
        rw [hli] at HLD
        obtain ⟨g, hg⟩ : ∃ g, g = gcdF 0 zs := ⟨_, rfl⟩
        rw [← hg] at hp hgne hle ⊢
        obtain ⟨p, hpl⟩ : ∃ p, p = leadL zs := ⟨_, rfl⟩
        rw [← hpl] at hll HLD
        have HG := Aside0.mk hg
        have HPL := Aside0.mk hpl
        have HP := Aside0.mk hp
        have HLE := Aside0.mk hle
        have HZ := Aside0.mk hz
        have hlti : (p : Int) < (zs.length : Int) := by omega
        have hcell : wr.cell? ⟨b, p, none⟩ = some (.int .i64 (vec zs p)) := by
          have h := (Kd.R_cell (0 : Int) HR2.out (p : Int) (by omega) hlti).1
          rwa [show rdOf 0 zs (p : Int) = vec zs p by simp [rdOf, vec], Int.toNat_natCast] at h
        have HC := Aside0.mk hcell
        obtain ⟨q, hq⟩ : ∃ q, q = vec zs p := ⟨_, rfl⟩
        rw [← hq] at HC
        have HQ := Aside0.mk hq
        clear hg hpl hli hz hp hle hll hcell hq
        go_wp2_with fail
        go_at_call 168; refine HLD.out.mono ?_; rintro e w2 ⟨rfl, hb2⟩
        have HB2 := Aside0.mk hb2
        have hcell2 : w2.cell? ⟨b, p, none⟩ = some (.int .i64 q) := pw_cell_below hb2 HC.out
        clear hb2
        by_cases hneg : q < 0
        · have hd : decide (q < 0) = true := decide_eq_true hneg
          go_wp2_with fail
          obtain ⟨s, hs⟩ : ∃ s, s = - g := ⟨_, rfl⟩
          have hw : wrap64 (-g) = s := by rw [hs]; exact w64 (by have := HLE.out; omega) (by have := HP.out; omega)
          rw [hw]
          have HS2 := Aside0.mk hs
          have HS := Aside0.mk (show sgnG zs = s by unfold sgnG; rw [← HPL.out, ← HQ.out, if_pos hneg, ← HG.out, hs])
          have HSN := Aside0.mk (show s ≠ 0 by have := HP.out; omega)
          clear hs hw hneg hd
          go_loopg [28] zs.length (fun gg v28 wr2 => ∃ (pre suf : List Int), gg = suf.length ∧ Aside0 (zs = pre ++ suf) ∧ v28 = .int .i64 (pre.length : Int) ∧ Aside0 (GRn wr2 B b cap zs.length (pre.map (fun x => Int.tdiv x s) ++ suf)) ∧ Aside0 (Trn (fun k => k = b) w wr2))
          case atStart => exact ⟨[], zs, rfl, ⟨rfl⟩, rfl, ⟨by simpa using HR2.out.trn (Trn.of_below (S := fun _ => False) (by repeat (first | (with_reducible first | exact HB2.out | apply below_alloc | apply pw_below_drewN | apply below_drew1) | exact HB2.out))) (fun h => h)⟩, ⟨(Trn.of_below HB.out).then_below (by repeat (first | (with_reducible first | exact HB2.out | apply below_alloc | apply pw_below_drewN | apply below_drew1) | exact HB2.out))⟩⟩
          case round =>
            obtain ⟨pre, suf, hgg2, HE2, rfl, HRR, HTT⟩ := hrel
            cases suf with
            | nil =>
              have e0 : zs = pre := by simpa using HE2.out
              subst e0
              have hlt : ¬ (zs.length : Int) < (zs.length : Int) := by omega
              go_wp2
              refine bodyPost_end (results_none rfl _ _ _) rfl ?_
              refine ⟨rfl, ?_, HTT.out⟩
              have h := HRR.out
              have e : tidyL zs = zs.map (fun x => Int.tdiv x s) := by unfold tidyL; rw [if_neg HZ.out, HS.out]
              unfold GR
              rw [e]
              simpa [GRn] using h
            | cons x suf =>
              have hlen : (pre.map (fun x => Int.tdiv x s) ++ x :: suf).length = zs.length := by rw [HE2.out]; simp
              have hlt : (pre.length : Int) < (zs.length : Int) := by rw [HE2.out]; simp; omega
              have hc := HRR.out.cell hlen pre.length (by omega)
              have hx : vec (pre.map (fun x => Int.tdiv x s) ++ x :: suf) pre.length = x := vec_mid _ _ _ _ (by simp)
              rw [hx] at hc
              have hc1 := hc.1
              have hc2 := hc.2
              have hsne : s ≠ 0 := HSN.out
              have hsd : (s == 0) = false := by simpa using hsne
              have HLEN := Aside0.mk hlen
              have HLT := Aside0.mk hlt
              have hx1 := HBD.out x (by rw [HE2.out]; simp)
              have hx2 := tdiv_le x s
              obtain ⟨d, hd0⟩ : ∃ d, d = Int.tdiv x s := ⟨_, rfl⟩
              have hwd : IntKind.i64.wrap (Int.tdiv x s) = d := by rw [hd0, IntKind.wrap_i64]; omega
              have HD := Aside0.mk hd0
              clear hc hx hlen hx1 hx2 hd0
              go_wp2_with fail
              go_roundg suf.length
              case measure => rw [hgg2]; simp
              case rel =>
                refine ⟨pre ++ [x], suf, rfl, ⟨by rw [HE2.out]; simp⟩, by rw [wsucc (by have := HL.out; have := HLT.out; omega)]; simp, ⟨?_⟩, ⟨HTT.out.setCell _ _ rfl⟩⟩
                have h := HRR.out.put HLEN.out pre.length d
                rwa [show (pre.map (fun x => Int.tdiv x s) ++ x :: suf).set pre.length d = (pre ++ [x]).map (fun x => Int.tdiv x s) ++ suf by rw [HD.out]; simp] at h
        · have hd : decide (q < 0) = false := decide_eq_false hneg
          go_wp2_with fail
          obtain ⟨s, hs⟩ : ∃ s, s = g := ⟨_, rfl⟩
          have HS := Aside0.mk (show sgnG zs = s by unfold sgnG; rw [← HPL.out, ← HQ.out, if_neg (by omega), ← HG.out, hs])
          have HSN := Aside0.mk (show s ≠ 0 by have := HP.out; omega)
          rw [← hs]
          clear hs hneg hd
          go_loopg [28] zs.length (fun gg v28 wr2 => ∃ (pre suf : List Int), gg = suf.length ∧ Aside0 (zs = pre ++ suf) ∧ v28 = .int .i64 (pre.length : Int) ∧ Aside0 (GRn wr2 B b cap zs.length (pre.map (fun x => Int.tdiv x s) ++ suf)) ∧ Aside0 (Trn (fun k => k = b) w wr2))
          case atStart => exact ⟨[], zs, rfl, ⟨rfl⟩, rfl, ⟨by simpa using HR2.out.trn (Trn.of_below (S := fun _ => False) (by repeat (first | (with_reducible first | exact HB2.out | apply below_alloc | apply pw_below_drewN | apply below_drew1) | exact HB2.out))) (fun h => h)⟩, ⟨(Trn.of_below HB.out).then_below (by repeat (first | (with_reducible first | exact HB2.out | apply below_alloc | apply pw_below_drewN | apply below_drew1) | exact HB2.out))⟩⟩
          case round =>
            obtain ⟨pre, suf, hgg2, HE2, rfl, HRR, HTT⟩ := hrel
            cases suf with
            | nil =>
              have e0 : zs = pre := by simpa using HE2.out
              subst e0
              have hlt : ¬ (zs.length : Int) < (zs.length : Int) := by omega
              go_wp2
              refine bodyPost_end (results_none rfl _ _ _) rfl ?_
              refine ⟨rfl, ?_, HTT.out⟩
              have h := HRR.out
              have e : tidyL zs = zs.map (fun x => Int.tdiv x s) := by unfold tidyL; rw [if_neg HZ.out, HS.out]
              unfold GR
              rw [e]
              simpa [GRn] using h
            | cons x suf =>
              have hlen : (pre.map (fun x => Int.tdiv x s) ++ x :: suf).length = zs.length := by rw [HE2.out]; simp
              have hlt : (pre.length : Int) < (zs.length : Int) := by rw [HE2.out]; simp; omega
              have hc := HRR.out.cell hlen pre.length (by omega)
              have hx : vec (pre.map (fun x => Int.tdiv x s) ++ x :: suf) pre.length = x := vec_mid _ _ _ _ (by simp)
              rw [hx] at hc
              have hc1 := hc.1
              have hc2 := hc.2
              have hsne : s ≠ 0 := HSN.out
              have hsd : (s == 0) = false := by simpa using hsne
              have HLEN := Aside0.mk hlen
              have HLT := Aside0.mk hlt
              have hx1 := HBD.out x (by rw [HE2.out]; simp)
              have hx2 := tdiv_le x s
              obtain ⟨d, hd0⟩ : ∃ d, d = Int.tdiv x s := ⟨_, rfl⟩
              have hwd : IntKind.i64.wrap (Int.tdiv x s) = d := by rw [hd0, IntKind.wrap_i64]; omega
              have HD := Aside0.mk hd0
              clear hc hx hlen hx1 hx2 hd0
              go_wp2_with fail
              go_roundg suf.length
              case measure => rw [hgg2]; simp
              case rel =>
                refine ⟨pre ++ [x], suf, rfl, ⟨by rw [HE2.out]; simp⟩, by rw [wsucc (by have := HL.out; have := HLT.out; omega)]; simp, ⟨?_⟩, ⟨HTT.out.setCell _ _ rfl⟩⟩
                have h := HRR.out.put HLEN.out pre.length d
                rwa [show (pre.map (fun x => Int.tdiv x s) ++ x :: suf).set pre.length d = (pre ++ [x]).map (fun x => Int.tdiv x s) ++ suf by rw [HD.out]; simp] at h

/-- A row in memory: its block, its capacity, its numbers. -/
abbrev RT := Nat × Nat × List Int
def rv (t : RT) : Value := .slice (some ⟨t.1, 0, none⟩) t.2.2.length t.2.1
def kr : Kd RT := Kd.scalar rv (fun _ => rfl)
abbrev GL (w : World) (B : Nat) (v : Value) (L : List RT) : Prop := kr.R 25 w B (fun k => some k = v.ownBlock) v L
theorem GL.move {w w' : World} {B : Nat} {v : Value} {L : List RT} (h : GL w B v L) (e : ∀ k, some k = v.ownBlock → w'.heap[k]? = w.heap[k]?) : GL w' B v L := Kd.R_move h e
theorem GL.lt {w : World} {B : Nat} {v : Value} {L : List RT} (h : GL w B v L) {k : Nat} (hk : some k = v.ownBlock) : k < w.heap.size := ((Kd.own_of_R h).lt k hk.symm).2
theorem GL.base {w : World} {B : Nat} {v : Value} {L : List RT} (h : GL w B v L) {k : Nat} (hk : some k = v.ownBlock) : B ≤ k := ((Kd.own_of_R h).lt k hk.symm).1
theorem GL.trn {S : Nat → Prop} {w w' : World} {B : Nat} {v : Value} {L : List RT} (h : GL w B v L) (t : Trn S w w') (hs : ∀ k, some k = v.ownBlock → ¬ S k) : GL w' B v L := h.move fun k hk => t.block k (h.lt hk) (hs k hk)
theorem GL.typed {w : World} {B : Nat} {v : Value} {L : List RT} (h : GL w B v L) {k : Nat} (hk : some k = v.ownBlock) : ∃ cs, w.heap[k]? = some (.cells cs 25 (0, 0)) := own_typed (Kd.own_of_R h) k hk.symm
theorem GR.typed {w : World} {B b cap : Nat} {r : List Int} (h : GR w B b cap r) : ∃ cs, w.heap[b]? = some (.cells cs 3 (0, 0)) := own_typed (Kd.own_of_R h) b rfl
theorem GL.ne {w : World} {B B' : Nat} {v : Value} {L : List RT} (h : GL w B v L) {k b cap : Nat} {r : List Int} (hk : some k = v.ownBlock) (h2 : GR w B' b cap r) : k ≠ b := by
  obtain ⟨c1, e1⟩ := h.typed hk
  obtain ⟨c2, e2⟩ := h2.typed
  exact blk_ne e1 e2 (by decide)
theorem kr_erase {w : World} {g n cap B : Nat} {L : List RT} (h : GL w B (.slice (some ⟨g, 0, none⟩) n cap) L) : w.frozen? ⟨g, n, none⟩ = false ∧ (n < cap → (w.cell? ⟨g, n, none⟩).isSome = true) := by
  have ho := Kd.own_of_R h
  rcases ho.2 with ⟨h', _⟩ | ⟨g', cap', cur, h', hb, hg, hnc, hcm, hcs, htake⟩
  · simp at h'
  · simp only [Value.slice.injEq, Option.some.injEq, Addr.mk.injEq, and_true, true_and] at h'
    obtain ⟨rfl, rfl, rfl⟩ := h'
    refine ⟨blk_frozen hg _, fun hlt => ?_⟩
    rw [blk_cell hg]
    simp [hcs, hlt]
theorem kr_tail {w : World} {g m cap B : Nat} {L : List RT} (h : GL w B (.slice (some ⟨g, 0, none⟩) m cap) L) (u : Value) : GL (w.setCell ⟨g, m, none⟩ u) B (.slice (some ⟨g, 0, none⟩) m cap) L := by
  obtain ⟨rfl, _⟩ := Kd.R_reads' h
  have ho := ((Kd.own_of_R h).stored L.length u).1
  have e : (encs rv L).set L.length u = encs rv L := List.set_eq_of_length_le (by simp [encs])
  rw [e] at ho
  exact Kd.R_of_own ho h.1
theorem Trn.of_grown {w w' : World} {g : Nat} (h : w.drew.grownBy w' (some g)) : Trn (fun k => k = g) w w' :=
  ⟨h.os, h.tape, h.output, h.size, fun k hk hs => h.block k hk (fun e => hs (by injection e))⟩
theorem R_delete_E {α : Type} {P : Program} {ops : Array Oper} {o : Oper} {a : Act} {Kc : Act → World → Prop} {Q : Exit → Act → World → Prop} {E : Prop} (d : Kd α) {w0 W : World} (base : Nat) (hgd : o.guard = none) (s x : Operand) (t e : TypeId) (ho : o.op = .call { callee := .builtin .append, args := #[s, x], argTypes := #[t, t] })
    (ht : P.underlying t = some (.slice e)) (hinfo : (P.info? e).map (·.size) = some d.sz) {g n c k m c2 : Nat} {A : Option Addr} {xs : List α} {ok : Nat → Prop}
    (hs : a.eval s = .slice (some ⟨g, 0, none⟩) k c) (hx : a.eval x = .slice A m c2) (hA : A = if c = k + 1 then some ⟨g, 0, none⟩ else (some (⟨g, 0, none⟩ : Addr)).map (·.add ((k + 1) * d.sz))) (hm : m = n - (k + 1))
    (HO : d.R e W base ok (.slice (some ⟨g, 0, none⟩) n c) xs) (hk : k < n) (HB : Below base w0 W) (hbase : base ≤ W.heap.size)
    (h : ∀ w1, d.R e w1 base ok (.slice (some ⟨g, 0, none⟩) (n - 1) c) (xs.eraseIdx k) → Below base w0 w1 → W.grownBy w1 (some g) → Kc (a.put o.dst (.slice (some ⟨g, 0, none⟩) (n - 1) c)) w1) :
    if Region.wanted o (yielded ops a.tmps) = true then Oper.wp P o a W Kc Q else E := by
  have hw : Region.wanted o (yielded ops a.tmps) = true := by simp [Region.wanted, hgd]
  have h1 := Kd.R_delete_step (Q := Q) (Kc := Kc) (ops := ops) d base hw s x t e ho ht hinfo hs hx hA hm HO hk HB hbase h
  rw [if_pos hw] at h1 ⊢
  exact h1
set_option maxHeartbeats 1000000 in
set_option maxRecDepth 100000 in
theorem slices_Delete_c (B g n cap i : Nat) (L : List RT) (w : World) (hr : GL w B (.slice (some ⟨g, 0, none⟩) n cap) L) (hn : n = L.length) (hi : i < n) (hl : n ≤ 1048576) :
    Calls Try.prog 179 #[.slice (some ⟨g, 0, none⟩) n cap, .int .i64 (i : Int), .int .i64 ((i : Int) + 1)] w fun e w' => e = .returned (.slice (some ⟨g, 0, none⟩) (n - 1) cap) ∧ GL w' B (.slice (some ⟨g, 0, none⟩) (n - 1) cap) (L.eraseIdx i) ∧ Trn (fun k => k = g) w w' := by
  have hcap : n ≤ cap := by
    subst hn
    exact (Kd.R_reads' hr).2.1
  have HR := Aside0.mk hr
  have HN := Aside0.mk hn
  have e1 : ((i : Int) == (i : Int) + 1) = false := by simp; omega
  have hg0 : B ≤ w.heap.size := Nat.le_of_lt (Nat.lt_of_le_of_lt (hr.base (k := g) rfl) (hr.lt (k := g) rfl))
  have HB0 := Aside0.mk hg0
  clear hr hn hg0
  go_enter Try.func179, Try.ntmps179
  go_wp2_with fail
  have hinfo : (Try.prog.info? 25).map (·.size) = some 1 := by kernel_rfl
  obtain ⟨i0, hi0, hzz⟩ := Option.map_eq_some_iff.1 hinfo
  have hcut1 := cut_to (P := Try.prog) 47 25 .i64 Try.underlying47 hi0 (some ⟨g, 0, none⟩) n cap (i : Int) (by omega) (by omega) hcap
  have hcut2 := cut_from (P := Try.prog) 47 25 .i64 Try.underlying47 hi0 1 hzz (some ⟨g, 0, none⟩) n cap ((i : Int) + 1) (by omega) (by omega)
  rw [Int.toNat_natCast] at hcut1
  rw [show ((i : Int) + 1).toNat = i + 1 by omega] at hcut2
  obtain ⟨A4, hA4⟩ : ∃ A4, A4 = (if cap = i + 1 then some ⟨g, 0, none⟩ else (some (⟨g, 0, none⟩ : Addr)).map (·.add ((i + 1) * 1))) := ⟨_, rfl⟩
  rw [← hA4] at hcut2
  have HA4 := Aside0.mk hA4
  have HI := Aside0.mk hinfo
  have HII := Aside0.mk hi
  clear hA4 hinfo hi0 hzz hi
  go_region_held3 (fun _ => True) (trivial) ((refine R_delete_E kr (w0 := w) B (by rfl) _ _ _ _ (by rfl) Try.underlying47 HI.out (g := g) (n := n) (c := cap) (k := i) (m := n - (i + 1)) (c2 := cap - (i + 1)) (A := A4) (xs := L) (ok := fun k => some k = some g) (by rfl) (by rfl) HA4.out rfl HR.out HII.out ?ha ?hb ?_; (case ha => repeat (first | (with_reducible first | exact Below.refl _ _ | apply below_alloc | apply pw_below_drewN | apply below_drew1) | exact Below.refl _ _)); (case hb => exact HB0.out); intro w1 hO1 hB1 hg1))
  obtain ⟨m, hm⟩ : ∃ m, n = m + 1 := ⟨n - 1, by have := HII.out; omega⟩
  subst hm
  rw [show m + 1 - 1 = m by omega] at *
  have hO2 : GL w1 B (.slice (some ⟨g, 0, none⟩) m cap) (L.eraseIdx i) := Kd.R_mono hO1 (fun k hk => hk)
  have hke := kr_erase hO2
  have hmc : m < cap := by omega
  have hcl : ∀ ty, (Builtin.clear_ #[47] ty #[.slice (some ⟨g, m, none⟩) 1 (cap - m)]).run Try.prog w1 = .ok (.tuple #[]) (w1.setCells g m (List.replicate 1 (.slice none 0 0))) :=
    fun ty => Lib.run_clear_slice w1 47 25 ty _ Try.underlying47 Try.zeroValue25 rfl rfl g m 1 (cap - m) (by omega) (fun j hj => by have h0 : j = 0 := (by omega); subst h0; exact hke.2 hmc) (fun j hj => by have h0 : j = 0 := (by omega); subst h0; exact hke.1)
  have HO2 := Aside0.mk hO2
  have HG1 := Aside0.mk hg1
  clear hcut1 hcut2 hO1 hB1 hg1 hke hO2 e1
  have hm1 : (m : Int) ≤ ((m + 1 : Nat) : Int) := by omega
  have hm2 : ((m + 1 : Nat) : Int) ≤ (cap : Int) := by omega
  have hm3 : (0 : Int) ≤ (m : Int) := by omega
  have hm4 : m + 1 - m = 1 := by omega
  have hm5 : ¬ cap = m := by omega
  go_wp2_with fail
  go_ret
  rw [show m + 1 - 1 = m by omega]
  exact ⟨rfl, kr_tail HO2.out _, (Trn.of_grown HG1.out).setCell _ _ rfl⟩

theorem kr_at {w : World} {A : Option Addr} {L : List RT} (h : kr.C w A L.length L) (j : Nat) (t : RT) (hj : L[j]? = some t) : ∃ ad, A = some ad ∧ w.cell? (ad.add j) = some (rv t) := by
  have hl := (List.getElem?_eq_some_iff.1 hj).1
  obtain ⟨ad, e, hc⟩ := h.2.2 (by omega)
  obtain ⟨c, hc1, hc2, hc3⟩ := hc j t hj
  refine ⟨ad, e, ?_⟩
  have hc2' : c = [rv t] := hc2
  have h3 := hc3 0 (rv t) (by rw [hc2']; rfl)
  rwa [show j * kr.sz + 0 = j by show j * 1 + 0 = j; omega] at h3
set_option maxHeartbeats 2000000 in
theorem idxf_rows (p : RT → Bool) (lb : Array Value) (A0 : Option Addr) (c0 : Nat) (l0 : List RT) (w : World) (hr0 : kr.C w A0 l0.length l0) (hl : l0.length ≤ 1048576)
    (hp : ∀ x W, Below w.heap.size w W → x ∈ l0 → Calls Try.prog 178 (#[rv x] ++ lb) W fun e w' => e = .returned (.bool (p x)) ∧ Below W.heap.size W w') :
    Calls Try.prog 169 #[.slice A0 l0.length c0, .func (.func 178) #[] lb] w fun e w' => e = .returned (.int .i64 (firstP p l0 0)) ∧ Below w.heap.size w w' := by
  have HR0 := Aside0.mk hr0
  have HP := Aside0.mk hp
  have eg : ∀ args w, (callFunc 178 args).run Try.prog w = .ok (.enter 178 args) w := by
    intro args w
    have h1 : Try.f178.name ≠ "runtime.NumGoroutine" := by decide
    obtain ⟨c_, hb⟩ : ∃ c_, Try.f178.body = some c_ := ⟨_, rfl⟩
    simp [callFunc, Try.func178, h1, hb, mark]
  clear hr0 hp
  go_enter Try.func169, Try.ntmps169
  go_wp2
  go_loopg [8] l0.length (fun gg v8 wr => ∃ (pre suf : List RT), gg = suf.length ∧ Aside0 (l0 = pre ++ suf) ∧ v8 = .int .i64 (pre.length : Int) ∧ Aside0 (firstP p suf pre.length = firstP p l0 0) ∧ Aside0 (Below w.heap.size w wr))
  case atStart => exact ⟨[], l0, rfl, ⟨rfl⟩, rfl, ⟨rfl⟩, ⟨by repeat (first | (with_reducible first | exact Below.refl _ _ | apply below_alloc | apply pw_below_drewN | apply below_drew1) | exact Below.refl _ _)⟩⟩
  case round =>
    obtain ⟨pre, suf, hgg, HE, rfl, HA, HB⟩ := hrel
    cases suf with
    | nil =>
      have hlt : ¬ (pre.length : Int) < (l0.length : Int) := by rw [HE.out]; simp
      go_wp2
      go_ret
      exact ⟨by rw [← HA.out]; rfl, HB.out⟩
    | cons x suf =>
      have hlt : (pre.length : Int) < (l0.length : Int) := by rw [HE.out]; simp; omega
      obtain ⟨ad, e, hc⟩ := kr_at HR0.out pre.length x (by rw [HE.out]; simp)
      cases e
      have hc2 : wr.cell? (ad.add pre.length) = some (rv x) := (HB.out.cell (World.block_lt_of_cell? w _ hc)).trans hc
      have HCALL := Aside0.mk (HP.out x)
      have HM := Aside0.mk (show x ∈ l0 by rw [HE.out]; simp)
      clear hc
      have hb0 := Aside0.mk (Below.refl w.heap.size w)
      cases hp : p x with
      | true =>
        rw [hp] at HCALL
        go_wp2_with fail
        go_at_call 178; (refine (HCALL.out _ ?hbel HM.out).mono ?_); (case hbel => repeat (first | (with_reducible first | exact HB.out | apply below_alloc | apply pw_below_drewN | apply below_drew1) | exact HB.out)); rintro e w' ⟨rfl, hb'⟩
        have HB2 := Aside0.mk (below_step (w := w) (by repeat (first | (with_reducible first | exact HB.out | apply below_alloc | apply pw_below_drewN | apply below_drew1) | exact HB.out)) hb')
        clear hb'
        go_wp2
        go_ret
        exact ⟨by rw [← HA.out, firstP, if_pos hp]; rfl, HB2.out⟩
      | false =>
        rw [hp] at HCALL
        go_wp2_with fail
        go_at_call 178; (refine (HCALL.out _ ?hbel HM.out).mono ?_); (case hbel => repeat (first | (with_reducible first | exact HB.out | apply below_alloc | apply pw_below_drewN | apply below_drew1) | exact HB.out)); rintro e w' ⟨rfl, hb'⟩
        have HB2 := Aside0.mk (below_step (w := w) (by repeat (first | (with_reducible first | exact HB.out | apply below_alloc | apply pw_below_drewN | apply below_drew1) | exact HB.out)) hb')
        clear hb'
        have HL := Aside0.mk hl
        have HLT := Aside0.mk hlt
        clear hl hlt
        go_wp2_with fail
        go_roundg suf.length
        case measure => rw [hgg]; simp
        case rel => exact ⟨pre ++ [x], suf, rfl, ⟨by rw [HE.out]; simp⟩, by rw [wsucc (by have := HL.out; have := HLT.out; omega)]; simp, ⟨by rw [← HA.out, firstP, if_neg (by rw [hp]; decide)]; simp⟩, ⟨HB2.out⟩⟩
set_option maxHeartbeats 1000000 in
theorem redu1_c (B gc : Nat) (t : RT) (c : Int) (w : World) (hr : GR w B t.1 t.2.1 t.2.2) (hl : t.2.2.length ≤ 1048576) (hc : w.heap[gc]? = some (.cells #[.int .i64 c] 3 (0, 0))) :
    Calls Try.prog 178 #[rv t, .pointer (some ⟨gc, 0, none⟩)] w fun e w' => e = .returned (.bool (leadI t.2.2 == c)) ∧ Below w.heap.size w w' := by
  have H := Aside0.mk (fun (W : World) (hb : Below w.heap.size w W) => impl_lead_c (some ⟨t.1, 0, none⟩) t.2.1 t.2.2 W (hr.trn (Trn.of_below (S := fun _ => False) hb) (fun h => h)).reads hl)
  have hcell : w.cell? ⟨gc, 0, none⟩ = some (.int .i64 c) := (blk_cell hc 0).trans rfl
  have HC := Aside0.mk hcell
  clear hr hl hc
  unfold rv
  go_enter Try.func178, Try.ntmps178
  go_wp2_with fail
  go_region_held3 (fun w' => w'.cell? ⟨gc, 0, none⟩ = some (.int .i64 c)) (first | go_keep | assumption | exact pw_cell_below hb2 (by assumption)) ((go_at_call 168; (refine (H.out _ ?hbel).mono ?_); (case hbel => repeat (first | (with_reducible first | exact Below.refl _ _ | apply below_alloc | apply pw_below_drewN | apply below_drew1) | exact Below.refl _ _)); rintro e w2 ⟨rfl, hb2⟩))
  all_goals (go_wp2)
  all_goals (go_ret)
  all_goals (refine ⟨rfl, ?_⟩)
  all_goals (exact below_step (w := w) (by repeat (first | (with_reducible first | exact Below.refl _ _ | apply below_alloc | apply pw_below_drewN | apply below_drew1) | exact Below.refl _ _)) hb2)

def stepI (c : Nat) (s : List (List Int) × List (List Int)) : List (List Int) × List (List Int) :=
  if s.1.findIdx (fun r => leadL r == c) < s.1.length then
    ((s.1.eraseIdx (s.1.findIdx (fun r => leadL r == c))).map (fun r => clearIf r (s.1.getD (s.1.findIdx (fun r => leadL r == c)) []) c),
      s.2.map (fun r => clearIf r (s.1.getD (s.1.findIdx (fun r => leadL r == c)) []) c) ++ [s.1.getD (s.1.findIdx (fun r => leadL r == c)) []])
  else s
def runI (X : List (List Int)) : Nat → List (List Int) × List (List Int)
  | 0 => (X.map tidyL, [])
  | c + 1 => stepI c (runI X c)
def redI (X : List (List Int)) (cols : Nat) : List (List Int) := (runI X cols).2
theorem CInv.stepC {X : List (List Int)} {N c : Nat} {s : List (List Int) × List (List Int)} (h : CInv X N c s.1 s.2) (hc : c < N) : CInv X N (c + 1) (stepI c s).1 (stepI c s).2 := by
  unfold stepI
  obtain ⟨k, hk⟩ : ∃ k, k = s.1.findIdx (fun r => leadL r == c) := ⟨_, rfl⟩
  rw [← hk]
  by_cases hl : k < s.1.length
  · rw [if_pos hl]
    have hx : s.1.getD k [] = s.1[k] := by rw [List.getD_eq_getElem?_getD, List.getElem?_eq_getElem hl]; rfl
    rw [hx]
    have hp : (leadL s.1[k] == c) = true := by
      subst hk
      exact List.findIdx_getElem (w := hl)
    have hlead : leadL s.1[k] = c := by simpa using hp
    have hN := h.lenr _ (List.getElem_mem hl)
    refine h.pivot (x := s.1[k]) ?_ ?_
    · have := leadL_at s.1[k] (by rw [hlead, hN]; exact hc)
      rwa [hlead] at this
    · intro r
      rw [List.mem_eraseIdx_iff_getElem]
      constructor
      · intro hr
        obtain ⟨j, hj, rfl⟩ := List.mem_iff_getElem.1 hr
        by_cases e : j = k
        · left; subst e; rfl
        · right; exact ⟨j, hj, e, rfl⟩
      · rintro (rfl | ⟨j, hj, _, rfl⟩)
        · exact List.getElem_mem _
        · exact List.getElem_mem _
  · rw [if_neg hl]
    refine h.skip fun r hr => ?_
    apply Classical.byContradiction
    intro hne
    obtain ⟨j, hj, rfl⟩ := List.mem_iff_getElem.1 hr
    have hlead : leadL s.1[j] = c := leadL_eq _ _ (by rw [h.lenr _ (List.getElem_mem hj)]; exact hc) (h.low _ (List.getElem_mem hj)) hne
    have h1 : j < k := by omega
    rw [hk] at h1
    have := List.not_of_lt_findIdx h1
    simp [hlead] at this
theorem runI_CInv (X : List (List Int)) (N : Nat) (hX : ∀ r ∈ X, r.length = N) : ∀ c, c ≤ N → CInv X N c (runI X c).1 (runI X c).2
  | 0, _ => CInv.init X N hX
  | c + 1, h => (runI_CInv X N hX c (by omega)).stepC (by omega)
theorem mul_bd {a b : Int} (ha : a.natAbs ≤ 322560000) (hb : b.natAbs ≤ 322560000) : (a * b).natAbs ≤ 104044953600000000 := by
  rw [Int.natAbs_mul]
  exact Nat.mul_le_mul ha hb
theorem runI_len (X : List (List Int)) : ∀ c, (runI X c).1.length + (runI X c).2.length = X.length
  | 0 => by simp [runI]
  | c + 1 => by
    have ih := runI_len X c
    show (stepI c (runI X c)).1.length + (stepI c (runI X c)).2.length = X.length
    unfold stepI
    by_cases hl : (runI X c).1.findIdx (fun r => leadL r == c) < (runI X c).1.length
    · rw [if_pos hl]
      simp only [List.length_map, List.length_append, List.length_cons, List.length_nil, List.length_eraseIdx]
      rw [if_pos hl]
      omega
    · rw [if_neg hl]
      exact ih
theorem tidy_id {x : List Int} (h : Tid (vec x) (vec x)) : tidyL x = x := by
  unfold tidyL
  by_cases hz : leadL x = x.length
  · rw [if_pos hz]
  · have hl : leadL x < x.length := Nat.lt_of_le_of_ne List.findIdx_le_length hz
    have hne := leadL_at x hl
    have hp : Prim (vec x) := by
      rcases h.prim with h0 | hp
      · exact absurd (h0 _) hne
      · exact hp
    have hg := gcdF_pos x hz
    have hd : gcdF 0 x ∣ 1 := hp _ _ fun j => by
      rw [Int.one_mul]
      rcases vec_mem x j with h3 | h3
      · rw [h3]; exact Int.dvd_zero _
      · exact (gcdF_dvd_all x 0).2 _ h3
    have hg1 : gcdF 0 x = 1 := by
      have := Int.le_of_dvd (by omega) hd
      omega
    have hpos := h.lead (leadL x) (fun j hj => leadL_low x j hj) hne
    have hs : sgnG x = 1 := by unfold sgnG; rw [if_neg (by omega), hg1]
    rw [if_neg hz, hs]
    exact List.map_id'' (fun x => Int.tdiv_one x) x

theorem firstP_find {α : Type} (p : α → Bool) : ∀ (l : List α) (n : Nat), firstP p l n = if l.findIdx p < l.length then ((n + l.findIdx p : Nat) : Int) else -1
  | [], n => by simp [firstP]
  | x :: l, n => by
    rw [firstP, List.findIdx_cons]
    cases hp : p x with
    | true => simp
    | false =>
      rw [if_neg (by simp), firstP_find p l (n + 1)]
      simp only [cond_false, List.length_cons]
      by_cases h : l.findIdx p < l.length
      · rw [if_pos h, if_pos (by omega)]; omega
      · rw [if_neg h, if_neg (by omega)]
/-- rows in memory, apart from each other -/
structure GZ (w : World) (B : Nat) (Z : List RT) : Prop where
  rows : ∀ t ∈ Z, GR w B t.1 t.2.1 t.2.2
  nd : (Z.map (·.1)).Nodup
theorem GZ.trn {S : Nat → Prop} {w w' : World} {B : Nat} {Z : List RT} (h : GZ w B Z) (k : Trn S w w') (hs : ∀ t ∈ Z, ¬ S t.1) : GZ w' B Z := ⟨fun t ht => (h.rows t ht).trn k (hs t ht), h.nd⟩
theorem GZ.below {w w' : World} {B : Nat} {Z : List RT} (h : GZ w B Z) (k : Below w.heap.size w w') : GZ w' B Z := h.trn (Trn.of_below (S := fun _ => False) k) (fun _ _ h => h)
theorem GZ.perm {w : World} {B : Nat} {Z Z' : List RT} (h : GZ w B Z) (hp : Z.Perm Z') : GZ w B Z' := ⟨fun t ht => h.rows t (hp.mem_iff.2 ht), ((hp.map (·.1)).nodup_iff).1 h.nd⟩
theorem GZ.apart {w : World} {B : Nat} {U V : List RT} {t : RT} (h : GZ w B (U ++ t :: V)) : ∀ s, s ∈ U ∨ s ∈ V → s.1 ≠ t.1 := by
  intro s hs e
  have hn := (((List.perm_middle (a := t) (l₁ := U) (l₂ := V)).map (·.1)).nodup_iff).1 h.nd
  rw [List.map_cons, List.nodup_cons] at hn
  refine hn.1 (List.mem_map.2 ⟨s, ?_, e⟩)
  rcases hs with hs | hs <;> simp [hs]
/-- one row is turned -/
theorem GZ.turn {w w' : World} {B : Nat} {U V : List RT} {t : RT} {r' : List Int} (h : GZ w B (U ++ t :: V)) (k : Trn (fun b => b = t.1) w w') (hr : GR w' B t.1 t.2.1 r') : GZ w' B (U ++ (t.1, t.2.1, r') :: V) := by
  refine ⟨fun s hs => ?_, ?_⟩
  · rcases List.mem_append.1 hs with hs | hs
    · exact (h.rows s (by simp [hs])).trn k (h.apart s (.inl hs))
    · rcases List.mem_cons.1 hs with rfl | hs
      · exact hr
      · exact (h.rows s (by simp [hs])).trn k (h.apart s (.inr hs))
  · have := h.nd
    simpa using this
theorem GL.congr {w : World} {B : Nat} {v : Value} {L L' : List RT} (h : GL w B v L) (e : L.map rv = L'.map rv) : GL w B v L' := by
  have hl : L.length = L'.length := by simpa using congrArg List.length e
  have ho := Kd.own_of_R h
  rw [show encs rv L = encs rv L' from e, hl] at ho
  exact Kd.R_of_own ho h.1
theorem GL.below {w w' : World} {B : Nat} {v : Value} {L : List RT} (h : GL w B v L) (k : Below w.heap.size w w') : GL w' B v L := h.trn (Trn.of_below (S := fun _ => False) k) (fun _ _ h => h)
theorem GL.turn {w w' : World} {B : Nat} {v : Value} {L : List RT} {b cap : Nat} {r : List Int} (h : GL w B v L) (k : Trn (fun i => i = b) w w') (hr : GR w B b cap r) : GL w' B v L := h.trn k (fun i hi e => h.ne hi hr e)
/-- the row as the two passes write it -/
def mixL (r p : List Int) (pc f : Int) (i : Nat) : List Int := (List.zipWith (fun x y => x * pc - y * f) (r.take i) (p.take i)) ++ r.drop i
theorem mixL_length (r p : List Int) (pc f : Int) (i : Nat) (h : r.length = p.length) : (mixL r p pc f i).length = r.length := by simp [mixL]; omega
theorem mixL_zero (r p : List Int) (pc f : Int) : mixL r p pc f 0 = r := by simp [mixL]
theorem mixL_all (r p : List Int) (c : Nat) (h : r.length = p.length) : tidyL (mixL r p (vec p c) (vec r c) r.length) = clearL r p c := by
  unfold clearL mixL
  rw [List.take_length, h, List.take_length, ← h, List.drop_length, List.append_nil]
theorem mixL_at (r p : List Int) (pc f : Int) (i : Nat) (h : r.length = p.length) : vec (mixL r p pc f i) i = vec r i := by
  unfold mixL vec
  rw [List.getD_eq_getElem?_getD, List.getD_eq_getElem?_getD]
  by_cases hi : i < r.length
  · rw [List.getElem?_append_right (by simp; omega), List.getElem?_drop]
    congr 2
    simp; omega
  · rw [List.getElem?_eq_none (by simp; omega), List.getElem?_eq_none (by omega)]
theorem mixL_succ (r p : List Int) (pc f : Int) (i : Nat) (h : r.length = p.length) (hi : i < r.length) : (mixL r p pc f i).set i (vec r i * pc - vec p i * f) = mixL r p pc f (i + 1) := by
  refine List.ext_getElem (by simp [mixL]; omega) fun j h1 h2 => ?_
  rw [List.getElem_set]
  have hr : vec r i = r[i] := vec_of_lt r i hi
  have hp : vec p i = p[i] := vec_of_lt p i (by omega)
  by_cases e : i = j
  · subst e
    rw [if_pos rfl]
    simp only [mixL]
    rw [List.getElem_append_left (by simp; omega), List.getElem_zipWith, List.getElem_take, List.getElem_take, hr, hp]
  · rw [if_neg e]
    simp only [mixL]
    by_cases hj : j < i
    · rw [List.getElem_append_left (by simp; omega), List.getElem_append_left (by simp; omega)]
      simp
    · rw [List.getElem_append_right (by simp; omega), List.getElem_append_right (by simp; omega)]
      simp only [List.length_zipWith, List.length_take, List.getElem_drop]
      congr 1
      omega
theorem mixL_bound {r p : List Int} {pc f : Int} {i : Nat} (hr : ∀ j, (vec r j).natAbs ≤ 322560000) (hp : ∀ j, (vec p j).natAbs ≤ 322560000) (h1 : pc.natAbs ≤ 322560000) (h2 : f.natAbs ≤ 322560000) : bound62 (mixL r p pc f i) := by
  intro x hx
  rcases List.mem_append.1 hx with hx | hx
  · obtain ⟨j, hj, rfl⟩ := List.mem_iff_getElem.1 hx
    rw [List.getElem_zipWith, List.getElem_take, List.getElem_take]
    simp at hj
    have e1 := hr j
    have e2 := hp j
    rw [vec_of_lt r j (by omega)] at e1
    rw [vec_of_lt p j (by omega)] at e2
    have m1 := mul_bd e1 h1
    have m2 := mul_bd e2 h2
    omega
  · have hx' := List.mem_of_mem_drop hx
    obtain ⟨j, hj, rfl⟩ := List.mem_iff_getElem.1 hx'
    have e1 := hr j
    rw [vec_of_lt r j hj] at e1
    omega
/-- a list of what exists at each place -/
theorem list_of {α : Type} {P : Nat → α → Prop} : ∀ (n : Nat), (∀ j, j < n → ∃ t, P j t) → ∃ L : List α, L.length = n ∧ ∀ j t, L[j]? = some t → P j t
  | 0, _ => ⟨[], rfl, fun j t h => by simp at h⟩
  | n + 1, h => by
    obtain ⟨L, hl, hp⟩ := list_of n (fun j hj => h j (by omega))
    obtain ⟨t, ht⟩ := h n (by omega)
    refine ⟨L ++ [t], by simp [hl], fun j s hj => ?_⟩
    by_cases e : j < n
    · rw [List.getElem?_append_left (by omega)] at hj
      exact hp j s hj
    · have hj2 := (List.getElem?_eq_some_iff.1 hj).1
      simp at hj2
      have e2 : j = n := by omega
      subst e2
      rw [List.getElem?_append_right (by omega), hl] at hj
      simp at hj
      rw [← hj]; exact ht
theorem rows_of_S {w : World} {B : Nat} {v : Value} {X : List (List Int)} (h : Kd.S (Kd.slice 3 (Kd.int .i64)) 25 w B (fun _ => True) v X) (hX : ∀ r ∈ X, 0 < r.length) : ∃ L : List RT, L.map (·.2.2) = X ∧ GL w B v L ∧ GZ w B L := by
  obtain ⟨f, h0, inner, ho, hr⟩ := h
  rw [List.length_zipIdx] at ho
  have hil : inner.length = X.length := by
    have h1 := ho.1
    rw [show (Kd.tag f (Kd.slice 3 (Kd.int .i64))).sz = 1 from rfl, Nat.mul_one] at h1
    exact h1
  have key : ∀ j, j < X.length → ∃ t : RT, X[j]? = some t.2.2 ∧ inner[j]? = some (rv t) ∧ GR w B t.1 t.2.1 t.2.2 ∧ f t.1 = j := by
    intro j hj
    obtain ⟨u, hu, hR⟩ := hr.2 j (X[j], j) (by rw [List.getElem?_zipIdx, List.getElem?_eq_getElem hj]; simp)
    obtain ⟨g, cap, hv, _⟩ := Kd.R_form hR (hX _ (List.getElem_mem hj))
    subst hv
    refine ⟨(g, cap, X[j]), List.getElem?_eq_getElem hj, ?_, ?_, ?_⟩
    · have h1 : ((inner.drop (j * 1)).take 1) = [rv (g, cap, X[j])] := hu
      rw [Nat.mul_one] at h1
      have h2 : ((inner.drop j).take 1)[0]? = some (rv (g, cap, X[j])) := by rw [h1]; rfl
      rw [List.getElem?_take, if_pos (by omega), List.getElem?_drop] at h2
      simpa using h2
    · refine Kd.R_mono (Kd.R_tight rfl hR) (fun k hk => ?_)
      have : g = k := by simpa [Value.ownBlock] using hk.symm
      exact this.symm
    · exact (hR.1 g rfl).2
  obtain ⟨L, hL, hP⟩ := list_of X.length key
  have hX' : L.map (·.2.2) = X := by
    refine List.ext_getElem? fun j => ?_
    rw [List.getElem?_map]
    by_cases hj : j < L.length
    · rw [List.getElem?_eq_getElem hj]
      exact (hP j L[j] (List.getElem?_eq_getElem hj)).1.symm
    · rw [List.getElem?_eq_none (by omega), List.getElem?_eq_none (by omega)]; rfl
  have hin : inner = encs rv L := by
    refine List.ext_getElem? fun j => ?_
    unfold encs
    rw [List.getElem?_map]
    by_cases hj : j < L.length
    · rw [List.getElem?_eq_getElem hj]
      exact (hP j L[j] (List.getElem?_eq_getElem hj)).2.1
    · rw [List.getElem?_eq_none (by omega), List.getElem?_eq_none (by omega)]; rfl
  refine ⟨L, hX', ?_, ?_, ?_⟩
  · rw [← hL, hin] at ho
    exact Kd.R_of_own ho (fun k hk => hk.symm)
  · intro t ht
    obtain ⟨j, hj, rfl⟩ := List.mem_iff_getElem.1 ht
    exact (hP j _ (List.getElem?_eq_getElem hj)).2.2.1
  · rw [List.Nodup, List.pairwise_map, List.pairwise_iff_getElem]
    intro i j hi hj hij e
    have e1 := (hP i _ (List.getElem?_eq_getElem hi)).2.2.2
    have e2 := (hP j _ (List.getElem?_eq_getElem hj)).2.2.2
    rw [e] at e1
    omega
theorem rows_R {w : World} {B : Nat} {v : Value} {L : List RT} (h : GL w B v L) (hz : ∀ t ∈ L, GR w B t.1 t.2.1 t.2.2) : Kd.R (Kd.slice 3 (Kd.int .i64)) 25 w B (fun _ => True) v (L.map (·.2.2)) := by
  refine ⟨fun _ _ => trivial, encs rv L, ?_, ?_, ?_⟩
  · rw [List.length_map]; exact Kd.own_of_R h
  · simp [encs, Kd.slice]
  · intro j r hj
    rw [List.getElem?_map] at hj
    obtain ⟨t, ht, rfl⟩ := Option.map_eq_some_iff.1 hj
    have hg := hz t (List.mem_of_getElem? ht)
    refine ⟨rv t, ?_, ?_⟩
    · have hl := (List.getElem?_eq_some_iff.1 ht).1
      show ((encs rv L).drop (j * 1)).take 1 = [rv t]
      rw [Nat.mul_one]
      refine List.ext_getElem? fun i => ?_
      rw [List.getElem?_take]
      by_cases hi : i < 1
      · obtain rfl : i = 0 := by omega
        rw [if_pos hi, List.getElem?_drop]
        simp [encs, ht]
      · rw [if_neg hi, List.getElem?_eq_none (by simp; omega)]
    · exact Kd.R_mono hg (fun k hk => ⟨trivial, fun e => h.ne e hg hk⟩)
theorem idx_rows {N : Nat} (i : Nat) (hi : i < N) : ∀ (L : List RT), (∀ t ∈ L, t.2.2.length = N) → L.findIdx (fun t => leadI t.2.2 == (i : Int)) = (L.map (·.2.2)).findIdx (fun r => leadL r == i)
  | [], _ => rfl
  | t :: L, h => by
    have ih := idx_rows i hi L (fun s hs => h s (by simp [hs]))
    have ht := h t (by simp)
    have e : (leadI t.2.2 == (i : Int)) = (leadL t.2.2 == i) := by
      unfold leadI
      by_cases hl : leadL t.2.2 = t.2.2.length
      · rw [if_pos hl]
        have h1 : (leadL t.2.2 == i) = false := by simp; omega
        rw [h1]
        simp
      · rw [if_neg hl]
        by_cases h2 : leadL t.2.2 = i
        · simp [h2]
        · have h1 : (leadL t.2.2 == i) = false := by simpa using h2
          rw [h1]
          simp; omega
    rw [List.map_cons, List.findIdx_cons, List.findIdx_cons, e, ih]
theorem impl_tidy_n (B b cap n : Nat) (zs : List Int) (w : World) (hn : zs.length = n) (hr : GRn w B b cap n zs) (hl : n ≤ 1048576) (hb : bound62 zs) :
    Calls Try.prog 177 #[.slice (some ⟨b, 0, none⟩) n cap] w fun e w' => e = .returned (.tuple #[]) ∧ GRn w' B b cap n (tidyL zs) ∧ Trn (fun k => k = b) w w' := by
  subst hn
  have h := impl_tidy_c B b cap zs w hr hl hb
  unfold GR at h
  rw [tidyL_length] at h
  exact h
def clrT (p : List Int) (i : Nat) (t : RT) : RT := (t.1, t.2.1, clearIf t.2.2 p i)
theorem clrT_rv (p : List Int) (i : Nat) (L : List RT) (h : ∀ t ∈ L, t.2.2.length = p.length) : (L.map (clrT p i)).map rv = L.map rv := by
  rw [List.map_map]
  refine List.map_congr_left fun t ht => ?_
  simp [clrT, rv, clearIf_length _ _ _ (h t ht)]
theorem clrT_row (p : List Int) (i : Nat) (L : List RT) : (L.map (clrT p i)).map (·.2.2) = (L.map (·.2.2)).map (fun r => clearIf r p i) := by
  rw [List.map_map, List.map_map]; rfl
theorem GZ.cellp {w : World} {B : Nat} {Z : List RT} (h : GZ w B Z) {t : RT} (ht : t ∈ Z) (j : Nat) (hj : j < t.2.2.length) : w.cell? ⟨t.1, j, none⟩ = some (.int .i64 (vec t.2.2 j)) := (GRn.cell (h.rows t ht) rfl j hj).1
theorem erase_perm {α : Type} : ∀ (L : List α) (k : Nat) (p : α), L[k]? = some p → L.Perm (p :: L.eraseIdx k)
  | [], k, p, h => by simp at h
  | x :: L, 0, p, h => by
    obtain rfl : x = p := by simpa using h
    exact List.Perm.refl _
  | x :: L, k + 1, p, h => by
    have ih := erase_perm L k p (by simpa using h)
    exact (ih.cons x).trans (List.Perm.swap p x _)
theorem under159 : Try.prog.underlying 159 = some (.array 2 47) := by kernel_rfl
theorem ix0 (va vb : Value) (W : World) : (Instr.index 159 (.agg #[va, vb]) (.int .i64 0)).run Try.prog W = .ok va W := by
  simp [Instr.index, run_underlying under159, asIntOf, go_sem]
theorem ix1 (va vb : Value) (W : World) : (Instr.index 159 (.agg #[va, vb]) (.int .i64 1)).run Try.prog W = .ok vb W := by
  simp [Instr.index, run_underlying under159, asIntOf, go_sem]
theorem keep_set {w : World} {a b : Addr} {u v : Value} (h : w.cell? b = some v) (hne : a.block ≠ b.block) : (w.setCell a u).drew.cell? b = some v := by
  have h1 : (w.setCell a u).cell? b = w.cell? b := World.cell?_of_block (Below.heap_setCell w a u b.block (fun e => hne e.symm))
  exact h1.trans h
theorem erase_map {α β : Type} (f : α → β) : ∀ (L : List α) (k : Nat), (L.map f).eraseIdx k = (L.eraseIdx k).map f
  | [], _ => by simp
  | x :: L, 0 => by simp
  | x :: L, k + 1 => by simp [erase_map f L k]

theorem impl_copyRows_l0 : ∀ (suf pre : List (List Int)), (pre ++ suf).length ≤ 1048576 → (∀ r ∈ suf, r.length ≤ 1048576) →
    Ev (fun k => impl_copyRows.l0 k pre (pre ++ suf) ((pre ++ suf).length : Int) (pre.length : Int)) (pre ++ suf) := by
  intro suf
  induction suf with
  | nil =>
    intro pre hb hr
    refine Ev.step (fun k => by rw [impl_copyRows.l0]) ?_
    exact evNeg (by simp) (evEq (by simp) (Ev.now _))
  | cons x suf ih =>
    intro pre hb hr
    simp only [List.length_append, List.length_cons] at hb
    refine Ev.step (fun k => by rw [impl_copyRows.l0]) ?_
    refine evPos (by simp only [List.length_append, List.length_cons]; omega) (evPos (by omega) (evPos (by simp only [List.length_append, List.length_cons]; omega) ?_))
    rw [rd_L1, getD_mid, wsucc (by omega)]
    have hx := hr x (by simp)
    have hcl : slices_Clone_int_int_131.f x = some x := by
      unfold slices_Clone_int_int_131.f
      simp
      omega
    refine evSome hcl (evPos (by omega) ?_)
    have h := ih (pre ++ [x]) (by simp; omega) (fun r h => hr r (by simp [h]))
    refine evEq ?_ (Ev.congr (fun k => ?_) h)
    · simp
    · simp
theorem impl_copyRows_ev (l : List (List Int)) (hl : l.length ≤ 1048576) (hr : ∀ r ∈ l, r.length ≤ 1048576) : Ev (fun k => impl_copyRows.f k l) l := by
  unfold impl_copyRows.f
  have h := impl_copyRows_l0 l [] (by simpa using hl) hr
  simpa using h

theorem calls_at {P : Program} {f : Nat} {args : Array Value} {w : World} {Q : Ending → World → Prop} (R : World → Prop) (hR : R w) (h : ∀ w', R w' → Calls P f args w' Q) : Calls P f args w Q := h w hR
def tidyT (t : RT) : RT := (t.1, t.2.1, tidyL t.2.2)
theorem tidyT_rv (L : List RT) : (L.map tidyT).map rv = L.map rv := by
  rw [List.map_map]
  refine List.map_congr_left fun t _ => ?_
  simp [tidyT, rv, tidyL_length]
theorem tidyT_row (L : List RT) : (L.map tidyT).map (·.2.2) = (L.map (·.2.2)).map tidyL := by
  rw [List.map_map, List.map_map]; rfl
theorem bound_cell {r : List Int} {cb : Nat} (h : ∀ j, (vec r j).natAbs ≤ cellB cb j) : bound62 r := by
  intro x hx
  obtain ⟨j, hj, rfl⟩ := List.mem_iff_getElem.1 hx
  have h1 := h j
  rw [vec_of_lt r j hj] at h1
  unfold cellB at h1
  split at h1 <;> omega
set_option maxHeartbeats 4000000 in
set_option maxRecDepth 100000 in
theorem impl_reduceAny_c (A : Option Addr) (c : Nat) (X : List (List Int)) (N cols cb : Nat) (w : World) (hr : Kd.C (Kd.slice 3 (Kd.int .i64)) w A X.length X) (hc : X.length ≤ c) (hl : X.length ≤ 1048576) (hN : ∀ r ∈ X, r.length = N) (hN1 : 1 ≤ N) (hNc : N ≤ cb + 1) (h6 : cb ≤ 6)
    (hX : ∀ r ∈ X, ∀ j, (vec r j).natAbs ≤ cellB cb j) (hcols : cols ≤ N) :
    Calls Try.prog 156 #[.slice A X.length c, .int .i64 (cols : Int)] w fun e w' => ∃ v, e = .returned v ∧ Kd.R (Kd.slice 3 (Kd.int .i64)) 25 w' w.heap.size (fun _ => True) v (redI X cols) ∧ Below w.heap.size w w' := by
  obtain ⟨k, hk⟩ := (impl_copyRows_ev X hl (fun r hr => by have := hN r hr; omega)).rounds
  have HCP := Aside0.mk (impl_copyRows.calls k A c X X w hr hc hk)
  have HN := Aside0.mk hN
  have HX := Aside0.mk hX
  have HCI := Aside0.mk (runI_CInv X N hN)
  have HL := Aside0.mk hl
  have HCO := Aside0.mk hcols
  have HN1 := Aside0.mk hN1
  have HNC := Aside0.mk (And.intro hNc h6)
  clear hk hr hc hN hX hl hcols hN1 hNc h6
  go_enter Try.func156, Try.ntmps156
  go_wp2_with fail
  go_at_call 176; refine HCP.out.mono ?_; rintro e w1 ⟨v5, rfl, hS, hB1⟩
  obtain ⟨B, hB⟩ : ∃ B, B = w.heap.size := ⟨_, rfl⟩
  rw [← hB] at hS
  obtain ⟨L0, hL0, hGL, hGZ⟩ := rows_of_S hS (fun r hr => by have := HN.out r hr; have := HN1.out; omega)
  obtain ⟨A5, c5, hv5⟩ := Kd.R_slice hGL
  subst hv5
  have HB1 := Aside0.mk hB1
  have HBB := Aside0.mk hB
  have HL0 := Aside0.mk hL0
  have HGL := Aside0.mk hGL
  have HGZ := Aside0.mk hGZ
  have HLL := Aside0.mk (show L0.length = X.length by rw [← hL0]; simp)
  clear hS hB1 hB hL0 hGL hGZ HCP
  go_wp2_with fail
  go_loopg [22] L0.length (fun gg v22 wr => ∃ (pre suf : List RT), gg = suf.length ∧ Aside0 (L0 = pre ++ suf) ∧ v22 = .int .i64 (pre.length : Int) ∧ Aside0 (GZ wr B (pre.map tidyT ++ suf)) ∧ Aside0 (GL wr B (.slice A5 L0.length c5) L0) ∧ Aside0 (Below w.heap.size w wr))
  case atStart => exact ⟨[], L0, rfl, ⟨rfl⟩, rfl, ⟨by simpa using HGZ.out⟩, HGL, HB1⟩
  case round =>
    clear HGL HGZ HB1
    obtain ⟨pre, suf, hgg, HE, rfl, HZ, HV, HB⟩ := hrel
    cases suf with
    | cons t suf =>
      have hlt : (pre.length : Int) < (L0.length : Int) := by rw [HE.out]; simp; omega
      obtain ⟨ad, e, hc⟩ := kr_at (Kd.R_reads' HV.out).2.2 pre.length t (by rw [HE.out]; simp)
      cases e
      have htX : t.2.2 ∈ X := by rw [← HL0.out]; exact List.mem_map.2 ⟨t, by rw [HE.out]; simp, rfl⟩
      have HT := Aside0.mk (impl_tidy_c B t.1 t.2.1 t.2.2 wr (HZ.out.rows t (by simp)) (by have := HN.out _ htX; have := HNC.out; omega) (bound_cell (HX.out _ htX)))
      have HGT := Aside0.mk (HZ.out.rows t (by simp))
      have HLT := Aside0.mk hlt
      clear htX
      go_wp2_with fail
      go_at_call 177; refine HT.out.mono ?_; rintro e w2 ⟨rfl, hG2, hT2⟩
      have HZ2 := Aside0.mk (HZ.out.turn hT2 hG2)
      have HV2 := Aside0.mk (HV.out.turn hT2 HGT.out)
      have HB2 := Aside0.mk (Trn.below (S := fun k => k = t.1) (B := w.heap.size) (by intro k hk; rw [hk, ← HBB.out]; exact HGT.out.base) HB.out HB.out.size hT2)
      clear hG2 hT2 hlt hc
      go_wp2_with fail
      go_roundg suf.length
      case measure => rw [hgg]; simp
      case rel => exact ⟨pre ++ [t], suf, rfl, ⟨by rw [HE.out]; simp⟩, by rw [wsucc (by have := HL.out; have := HLL.out; have := HLT.out; omega)]; simp, ⟨by simpa [tidyT] using HZ2.out⟩, HV2, HB2⟩
    | nil =>
      have e0 : L0 = pre := by simpa using HE.out
      subst e0
      have hlt : ¬ (L0.length : Int) < (L0.length : Int) := by omega
      have HZ0 := Aside0.mk (show GZ wr B (L0.map tidyT ++ []) from by simpa using HZ.out)
      have HV0 := Aside0.mk (HV.out.congr (tidyT_rv L0).symm)
      clear HZ HV hlt HE
      go_wp2_with fail
      go_loopg [5, 8, 30] cols (fun gg v5 v8 v30 wc => ∃ (i : Nat) (L O : List RT), gg + i = cols ∧ v30 = .int .i64 (i : Int) ∧ Aside0 (L.map (·.2.2) = (runI X i).1 ∧ O.map (·.2.2) = (runI X i).2) ∧ Aside0 (GL wc B v5 L) ∧ Aside0 (GL wc B v8 O) ∧ Aside0 (GZ wc B (L ++ O)) ∧ Aside0 (∀ k, some k = v5.ownBlock → some k ≠ v8.ownBlock) ∧ Aside0 (Below w.heap.size w wc))
      case atStart => exact ⟨0, L0.map tidyT, [], rfl, rfl, ⟨by rw [tidyT_row, HL0.out]; exact ⟨rfl, rfl⟩⟩, by simpa using HV0, ⟨Kd.R_nil _ _ _ _ _⟩, HZ0, ⟨fun k _ h => by simp [Value.ownBlock] at h⟩, HB⟩
      case round =>
        clear HB HZ0 HV0
        obtain ⟨i, L, O, hgg2, rfl, HRUN, HGL, HGO, HZ, HNE, HB⟩ := hrel
        obtain ⟨Ar, cr, hvr⟩ := Kd.R_slice HGL.out
        subst hvr
        obtain ⟨Ao, co, hvo⟩ := Kd.R_slice HGO.out
        subst hvo
        by_cases hlt : i < cols
        · have hlt2 : (i : Int) < (cols : Int) := by omega
          have HLT := Aside0.mk hlt
          clear hlt
          have CI := HCI.out i (by have := HLT.out; have := HCO.out; omega)
          have hlenL : ∀ t ∈ L, t.2.2.length = N := fun t ht => CI.lenr _ (by rw [← HRUN.out.1]; exact List.mem_map.2 ⟨t, ht, rfl⟩)
          have hlenO : ∀ t ∈ O, t.2.2.length = N := fun t ht => CI.leno _ (by rw [← HRUN.out.2]; exact List.mem_map.2 ⟨t, ht, rfl⟩)
          have hll : L.length + O.length = X.length := by
            have h := runI_len X i
            rw [← HRUN.out.1, ← HRUN.out.2, List.length_map, List.length_map] at h
            exact h
          have hiN : i < N := by have := HLT.out; have := HCO.out; omega
          have hN7 : N ≤ 7 := by have := HNC.out; omega
          have HCIi := Aside0.mk CI
          have HLENL := Aside0.mk hlenL
          have HLENO := Aside0.mk hlenO
          have HLEN2 := Aside0.mk hll
          have HIN := Aside0.mk (And.intro hiN hN7)
          clear CI hlenL hlenO hll hiN hN7
          go_wp2_with fail
          refine calls_at (fun W => Below wr.heap.size wr W ∧ W.heap[wr.heap.size]? = some (.cells #[.int .i64 (i : Int)] 3 (0, 0))) ⟨below_alloc (Below.refl _ _) _, blk_new _ _⟩ ?_
          rintro W1 ⟨hb1, hbox⟩
          obtain ⟨gc, hgc⟩ : ∃ gc, gc = wr.heap.size := ⟨_, rfl⟩
          rw [← hgc] at hbox ⊢
          have hL1 := HGL.out.below hb1
          have hO1 := HGO.out.below hb1
          have hZ1 := HZ.out.below hb1
          have hcall := idxf_rows (fun t => leadI t.2.2 == (i : Int)) #[.pointer (some ⟨gc, 0, none⟩)] Ar cr L W1 (Kd.R_reads' hL1).2.2 (by have := HLEN2.out; have := HL.out; omega)
            (fun x W hbW hx => redu1_c B gc x (i : Int) W ((hZ1.rows x (by simp [hx])).trn (Trn.of_below (S := fun _ => False) hbW) (fun h => h)) (by have := HLENL.out x hx; have := HIN.out; omega) (blk_below hbox hbW))
          rw [firstP_find, Nat.zero_add, idx_rows i HIN.out.1 L HLENL.out, HRUN.out.1] at hcall
          go_at_call 169; refine hcall.mono ?_; rintro e W2 ⟨rfl, hb2⟩
          have HL2 := Aside0.mk (hL1.below hb2)
          have HO2 := Aside0.mk (hO1.below hb2)
          have HZ2 := Aside0.mk (hZ1.below hb2)
          have HBX := Aside0.mk (blk_below hbox hb2)
          have HGC := Aside0.mk (show (∀ t ∈ L ++ O, t.1 ≠ gc) ∧ B ≤ gc from ⟨fun t ht e => by have := (HZ.out.rows t ht).lt; omega, by have := HB.out.size; have := HBB.out; omega⟩)
          have HB2 := Aside0.mk (below_step (below_step HB.out hb1) hb2)
          clear hL1 hO1 hZ1 hb1 hb2 hbox hgc hcall HGL HGO HZ HB
          by_cases hk : (runI X i).1.findIdx (fun r => leadL r == i) < L.length
          · rw [if_pos hk]
            obtain ⟨k0, hk0⟩ : ∃ k0, k0 = (runI X i).1.findIdx (fun r => leadL r == i) := ⟨_, rfl⟩
            rw [← hk0] at hk ⊢
            obtain ⟨g, cap, e1, _, _, _⟩ := Kd.R_form HL2.out (by omega)
            injection e1 with e1 _ e3
            subst e1
            subst e3
            obtain ⟨⟨pb, pcp, pr⟩, hp⟩ : ∃ p, L[k0]? = some p := ⟨_, List.getElem?_eq_getElem hk⟩
            have hprN : pr.length = N := HLENL.out _ (List.mem_of_getElem? hp)
            have hcp := (Kd.R_celln ((0, 0, []) : RT) HL2.out (k0 : Int) (by omega) (by omega)).1
            rw [show rdOf ((0, 0, []) : RT) L (k0 : Int) = (pb, pcp, pr) by simp [rdOf, hp], Int.toNat_natCast] at hcp
            have hcp2 : W2.cell? ⟨g, k0, none⟩ = some (.slice (some ⟨pb, 0, none⟩) N pcp) := by rw [← hprN]; exact hcp
            have hdel := slices_Delete_c B g L.length cr k0 L W2 HL2.out rfl hk (by have := HLEN2.out; have := HL.out; omega)
            have hk7 : k0 < 1048577 := by have := HLEN2.out; have := HL.out; omega
            have HK0 := Aside0.mk hk0
            have HDEL := Aside0.mk hdel
            have HPP := Aside0.mk hp
            have HPN := Aside0.mk hprN
            have HK := Aside0.mk hk
            have hk2 : ¬ (k0 : Int) < 0 := by omega
            have hk3 : (k0 : Int) < (L.length : Int) := by omega
            clear hk hk0 hdel hp hcp hprN
            go_wp2_with fail
            go_at_call 179; refine HDEL.out.mono ?_; rintro e W3 ⟨rfl, hG3, hT3⟩
            have hgne : ∀ t ∈ L ++ O, t.1 ≠ g := fun t ht e => HL2.out.ne (k := g) rfl (HZ2.out.rows t ht) e.symm
            have HZ3 := Aside0.mk ((HZ2.out.trn hT3 hgne).perm ((erase_perm L k0 _ HPP.out).append_right O))
            have HO3 := Aside0.mk (HO2.out.trn hT3 (fun k hk e => HNE.out g rfl (e ▸ hk)))
            have HBX3 := Aside0.mk ((hT3.block gc (blk_lt HBX.out) (fun e => by obtain ⟨cs, hcs⟩ := HL2.out.typed (k := g) rfl; exact blk_ne HBX.out hcs (by decide) e)).trans HBX.out)
            have HB3 := Aside0.mk (Trn.below (S := fun k => k = g) (B := w.heap.size) (by intro k hk; rw [hk, ← HBB.out]; exact HL2.out.base (k := g) rfl) HB2.out HB2.out.size hT3)
            obtain ⟨Ag, hAg⟩ : ∃ Ag : Option Addr, Ag = some ⟨g, 0, none⟩ := ⟨_, rfl⟩
            obtain ⟨nn, hnn⟩ : ∃ nn, nn = L.length - 1 := ⟨_, rfl⟩
            obtain ⟨L', hL'⟩ : ∃ L', L' = L.eraseIdx k0 := ⟨_, rfl⟩
            rw [← hAg, ← hnn, ← hL'] at hG3
            rw [← hL'] at HZ3
            have HG3 := Aside0.mk hG3
            have HNN := Aside0.mk (show L'.length = nn ∧ nn ≤ 1048576 ∧ O.length ≤ 1048576 by rw [hL', List.length_eraseIdx, if_pos HK.out, hnn]; have := HLEN2.out; have := HL.out; omega)
            have HLA := Aside0.mk (show ∀ t : RT, t ∈ L' ∨ t ∈ O → t.2.2.length = N by
              rintro t (ht | ht)
              · rw [hL'] at ht; exact HLENL.out t (List.mem_of_mem_eraseIdx ht)
              · exact HLENO.out t ht)
            have HGA := Aside0.mk hAg
            have HLP := Aside0.mk hL'
            have HNNE := Aside0.mk (show ∀ k, some k = (Value.slice Ag nn cr).ownBlock → some k ≠ (Value.slice Ao O.length co).ownBlock by rw [hAg]; exact HNE.out)
            rw [← hAg, ← hnn]
            clear hG3 hT3 hgne hAg hnn hL' HZ2 HO2 HBX HB2 HL2 HNE HDEL hcp2 hk2 hk3
            go_wp2_with fail
            go_loopg [50] 2 (fun gg v50 wd => ∃ Z : List RT, ((v50 = .int .i64 0 ∧ gg = 2 ∧ Z = (pb, pcp, pr) :: (L' ++ O)) ∨ (v50 = .int .i64 1 ∧ gg = 1 ∧ Z = (pb, pcp, pr) :: (L'.map (clrT pr i) ++ O)) ∨ (v50 = .int .i64 2 ∧ gg = 0 ∧ Z = (pb, pcp, pr) :: (L'.map (clrT pr i) ++ O.map (clrT pr i)))) ∧ Aside0 (GZ wd B Z) ∧ Aside0 (GL wd B (.slice Ag nn cr) L') ∧ Aside0 (GL wd B (.slice Ao O.length co) O) ∧ Aside0 (wd.heap[gc]? = some (.cells #[.int .i64 (i : Int)] 3 (0, 0))) ∧ Aside0 (Below w.heap.size w wd))
            case atStart => exact ⟨_, .inl ⟨rfl, rfl, rfl⟩, HZ3, HG3, HO3, HBX3, HB3⟩
            case round =>
              clear HZ3 HG3 HO3 HBX3 HB3
              obtain ⟨Z, hcase, HZC, HVR, HVO, HBX, HB⟩ := hrel
              rcases hcase with ⟨rfl, hgg3, rfl⟩ | ⟨rfl, hgg3, rfl⟩ | ⟨rfl, hgg3, rfl⟩
              · have hix : ∀ W, (Instr.index 159 (.agg #[.slice Ag nn cr, .slice Ao O.length co]) (.int .i64 0)).run Try.prog W = .ok (.slice Ag nn cr) W := fun W => ix0 _ _ W
                go_wp2_with fail
                go_loopg [55] nn (fun gg v55 we => ∃ (pre suf : List RT), gg = suf.length ∧ Aside0 (L' = pre ++ suf) ∧ v55 = .int .i64 (pre.length : Int) ∧ Aside0 (GZ we B ([(pb, pcp, pr)] ++ (pre.map (clrT pr i) ++ suf) ++ O)) ∧ Aside0 (GL we B (.slice Ag nn cr) L') ∧ Aside0 (GL we B (.slice Ao O.length co) O) ∧ Aside0 (we.heap[gc]? = some (.cells #[.int .i64 (i : Int)] 3 (0, 0))) ∧ Aside0 (Below w.heap.size w we))
                case atStart => exact ⟨[], L', by first | rfl | simp [HNN.out], ⟨rfl⟩, rfl, ⟨by simpa using HZC.out⟩, HVR, HVO, HBX, HB⟩
                case round =>
                  clear HZC HVR HVO HBX HB
                  obtain ⟨pre, suf, hgg4, HE4, rfl, HZD, HVR, HVO, HBX, HB⟩ := hrel
                  cases suf with
                  | nil =>
                    have e0 : L' = pre := by simpa using HE4.out
                    have hlt5 : ¬ (pre.length : Int) < (nn : Int) := by rw [← e0]; have := HNN.out; omega
                    have HZE := Aside0.mk (show GZ wr B ([(pb, pcp, pr)] ++ L'.map (clrT pr i) ++ O) by rw [e0]; simpa using HZD.out)
                    clear e0
                    go_wp2_with fail
                    go_roundg 1
                    case measure => omega
                    case rel => exact ⟨_, .inr (.inl ⟨rfl, rfl, rfl⟩), ⟨by simpa using HZE.out⟩, HVR, HVO, HBX, HB⟩
                  | cons t suf =>
                    obtain ⟨b, cp, r⟩ := t
                    have hlt5 : (pre.length : Int) < (nn : Int) := by
                      have h1 := congrArg List.length HE4.out
                      rw [List.length_append, List.length_cons] at h1
                      have := HNN.out
                      omega
                    have hmem : (b, cp, r) ∈ L' := by rw [HE4.out]; simp
                    have hrN : r.length = N := HLA.out (b, cp, r) (by first | exact .inl hmem | exact .inr hmem)
                    obtain ⟨ad, e, hc⟩ := kr_at (Kd.R_reads' HVR.out).2.2 pre.length (b, cp, r) (by rw [HE4.out]; simp)
                    have hc2 : wr.cell? (ad.add pre.length) = some (.slice (some ⟨b, 0, none⟩) N cp) := by rw [← hrN]; exact hc
                    cases e
                    have hzm : (b, cp, r) ∈ [(pb, pcp, pr)] ++ (pre.map (clrT pr i) ++ (b, cp, r) :: suf) ++ O := by simp
                    have hf := HZD.out.cellp hzm i (by show i < r.length; have := HIN.out; omega)
                    have hbx := blk_cell HBX.out 0
                    have hbx2 : wr.cell? ⟨gc, 0, none⟩ = some (.int .i64 (i : Int)) := hbx.trans rfl
                    have hiN2 : (i : Int) < (N : Int) := by have := HIN.out; omega
                    have hi0 : (0 : Int) ≤ (i : Int) := by omega
                    obtain ⟨f, hfd⟩ : ∃ f, f = vec r i := ⟨_, rfl⟩
                    rw [← hfd] at hf
                    have HFD := Aside0.mk hfd
                    have HRN := Aside0.mk hrN
                    have HMEM := Aside0.mk hmem
                    have HLT5 := Aside0.mk hlt5
                    clear hc hzm hbx hfd hrN hmem
                    by_cases hf0 : f = 0
                    · have hfe : (f == 0) = true := by simpa using hf0
                      have HCT := Aside0.mk (show clrT pr i (b, cp, r) = (b, cp, r) by unfold clrT clearIf; simp only; rw [← HFD.out, if_pos hf0])
                      clear hf0
                      go_wp2_with fail
                      go_roundg suf.length
                      case measure => first | (rw [hgg4]; simp; done) | simp
                      case rel => exact ⟨pre ++ [(b, cp, r)], suf, rfl, ⟨by rw [HE4.out]; simp⟩, by rw [wsucc (by have := HLT5.out; have := HNN.out; omega)]; simp, ⟨by rw [List.map_append, List.map_cons, List.map_nil, HCT.out]; simpa using HZD.out⟩, HVR, HVO, HBX, HB⟩
                    · have hfe : (f == 0) = false := by simpa using hf0
                      have HAP := Aside0.mk (show pb ≠ b from (show GZ wr B (([(pb, pcp, pr)] ++ pre.map (clrT pr i)) ++ (b, cp, r) :: (suf ++ O)) from by simpa using HZD.out).apart (pb, pcp, pr) (.inl (by simp)))
                      have HGB := Aside0.mk (show b ≠ gc from HGC.out.1 (b, cp, r) (by rw [HLP.out] at HMEM; have h_ := List.mem_of_mem_eraseIdx HMEM.out; simp [h_]))
                      have HRB := Aside0.mk (show ∀ j, (vec r j).natAbs ≤ 322560000 from fun j => HCIi.out.rem_le HNC.out.1 HNC.out.2 HX.out (by have := HIN.out; have := HNC.out; omega) r (by rw [← HRUN.out.1]; have h_ := HMEM.out; rw [HLP.out] at h_; exact List.mem_map.2 ⟨_, List.mem_of_mem_eraseIdx h_, rfl⟩) j)
                      have HPB := Aside0.mk (show ∀ j, (vec pr j).natAbs ≤ 322560000 from fun j => HCIi.out.rem_le HNC.out.1 HNC.out.2 HX.out (by have := HIN.out; have := HNC.out; omega) pr (by rw [← HRUN.out.1]; exact List.mem_map.2 ⟨_, List.mem_of_getElem? HPP.out, rfl⟩) j)
                      have HPC := Aside0.mk (show ∀ j, j < N → wr.cell? ⟨pb, j, none⟩ = some (.int .i64 (vec pr j)) from fun j hj => HZD.out.cellp (t := (pb, pcp, pr)) (by simp) j (by show j < pr.length; rw [HPN.out]; exact hj))
                      have HGR := Aside0.mk (show GRn wr B b cp N r by rw [← HRN.out]; exact HZD.out.rows (b, cp, r) (by simp))
                      have HF0 := Aside0.mk hf0
                      obtain ⟨pc, hpc⟩ : ∃ pc, pc = vec pr i := ⟨_, rfl⟩
                      have HPCD := Aside0.mk hpc
                      have HMX := Aside0.mk (show ∀ m, (mixL r pr pc f m).length = N from fun m => by rw [mixL_length _ _ _ _ _ (by rw [HRN.out, HPN.out]), HRN.out])
                      clear hf0 hpc
                      go_wp2_with fail
                      go_loopg [67] N (fun gg v67 wf => ∃ m : Nat, gg + m = N ∧ v67 = .int .i64 (m : Int) ∧ Aside0 (GRn wf B b cp N (mixL r pr pc f m)) ∧ Aside0 (Trn (fun k => k = b) wr wf))
                      case atStart => exact ⟨0, rfl, rfl, ⟨by rw [mixL_zero]; exact HGR.out⟩, ⟨Trn.refl _ _⟩⟩
                      case round =>
                        obtain ⟨m, hgg5, rfl, HRR, HTR⟩ := hrel
                        by_cases hm : m < N
                        · have hm2 : (m : Int) < (N : Int) := by omega
                          have hA := HRR.out.cell (HMX.out m) m hm
                          rw [mixL_at _ _ _ _ _ (by rw [HRN.out, HPN.out])] at hA
                          obtain ⟨x, hx⟩ : ∃ x, x = vec r m := ⟨_, rfl⟩
                          obtain ⟨y, hy⟩ : ∃ y, y = vec pr m := ⟨_, rfl⟩
                          rw [← hx] at hA
                          have hA1 := hA.1
                          have hA2 := hA.2
                          have hB1 : wr.cell? ⟨gc, 0, none⟩ = some (.int .i64 (i : Int)) := (blk_cell ((HTR.out.block gc (blk_lt HBX.out) (fun e => HGB.out e.symm)).trans HBX.out) 0).trans rfl
                          have hkeep : ∀ j, j < N → wr.cell? ⟨pb, j, none⟩ = some (.int .i64 (vec pr j)) := fun j hj => by
                            have h1 := HPC.out j hj
                            exact (World.cell?_of_block (HTR.out.block pb (World.block_lt_of_cell? _ _ h1) (fun e => HAP.out e))).trans h1
                          have hC1 := hkeep i HIN.out.1
                          have hD1 := hkeep m hm
                          rw [← HPCD.out] at hC1
                          rw [← hy] at hD1
                          have hne1 : gc ≠ b := fun e => HGB.out e.symm
                          have hne2 : pb ≠ b := HAP.out
                          have HXX := Aside0.mk hx
                          have HYY := Aside0.mk hy
                          have HM := Aside0.mk hm
                          clear hx hy hA hkeep hm
                          go_wp2_with fail
                          refine start_ (n := 20) (S := fun w' => w'.cell? ⟨b, m, none⟩ = some (.int .i64 x) ∧ w'.cell? ⟨gc, 0, none⟩ = some (.int .i64 (i : Int)) ∧ w'.cell? ⟨pb, i, none⟩ = some (.int .i64 pc) ∧ w'.cell? ⟨pb, m, none⟩ = some (.int .i64 y)) (ds := [19]) #[false, false, false, false, false, false, false, false, false, false, false, false, false, false, false, false, false, false, false, false] (by kernel_rfl) rfl rfl ⟨hA1, hB1, hC1, hD1⟩ (fun hHeld => ?_)
                          refine take_ (i := 0) (N := some 70) (v := ?_) (a' := ?_) #[true, false, false, false, false, false, false, false, false, false, false, false, false, false, false, false, false, false, false, false] rfl rfl (by kernel_rfl) (fun _ _ _ h => h) (Or.inl ⟨by rfl, ?_⟩) hHeld ?_ ?_
                          rotate_left
                          · rintro w' ⟨s0, s1, s2, s3⟩
                            go_simp
                            with_reducible rfl
                          rotate_left
                          · simp only [Act.put, List.setIfInBounds_toArray, List.set_cons_zero, List.set_cons_succ]
                            rfl
                          refine take_ (i := 1) (N := some 71) (v := ?_) (a' := ?_) #[true, true, false, false, false, false, false, false, false, false, false, false, false, false, false, false, false, false, false, false] rfl rfl (by kernel_rfl) (fun _ _ _ h => h) (Or.inl ⟨by rfl, ?_⟩) hHeld ?_ ?_
                          rotate_left
                          · rintro w' ⟨s0, s1, s2, s3⟩
                            go_simp
                            with_reducible rfl
                          rotate_left
                          · simp only [Act.put, List.setIfInBounds_toArray, List.set_cons_zero, List.set_cons_succ]
                            rfl
                          refine take_ (i := 2) (N := some 72) (v := ?_) (a' := ?_) #[true, true, true, false, false, false, false, false, false, false, false, false, false, false, false, false, false, false, false, false] rfl rfl (by kernel_rfl) (fun _ _ _ h => h) (Or.inl ⟨by rfl, ?_⟩) hHeld ?_ ?_
                          rotate_left
                          · rintro w' ⟨s0, s1, s2, s3⟩
                            go_simp
                            with_reducible rfl
                          rotate_left
                          · simp only [Act.put, List.setIfInBounds_toArray, List.set_cons_zero, List.set_cons_succ]
                            rfl
                          refine take_ (i := 3) (N := some 73) (v := ?_) (a' := ?_) #[true, true, true, true, false, false, false, false, false, false, false, false, false, false, false, false, false, false, false, false] rfl rfl (by kernel_rfl) (fun _ _ _ h => h) (Or.inl ⟨by rfl, ?_⟩) hHeld ?_ ?_
                          rotate_left
                          · rintro w' ⟨s0, s1, s2, s3⟩
                            go_simp
                            with_reducible rfl
                          rotate_left
                          · simp only [Act.put, List.setIfInBounds_toArray, List.set_cons_zero, List.set_cons_succ]
                            rfl
                          refine take_ (i := 4) (N := some 74) (v := ?_) (a' := ?_) #[true, true, true, true, true, false, false, false, false, false, false, false, false, false, false, false, false, false, false, false] rfl rfl (by kernel_rfl) (fun _ _ _ h => h) (Or.inl ⟨by rfl, ?_⟩) hHeld ?_ ?_
                          rotate_left
                          · rintro w' ⟨s0, s1, s2, s3⟩
                            go_simp
                            with_reducible rfl
                          rotate_left
                          · simp only [Act.put, List.setIfInBounds_toArray, List.set_cons_zero, List.set_cons_succ]
                            rfl
                          refine take_ (i := 5) (N := some 75) (v := ?_) (a' := ?_) #[true, true, true, true, true, true, false, false, false, false, false, false, false, false, false, false, false, false, false, false] rfl rfl (by kernel_rfl) (fun _ _ _ h => h) (Or.inl ⟨by rfl, ?_⟩) hHeld ?_ ?_
                          rotate_left
                          · rintro w' ⟨s0, s1, s2, s3⟩
                            go_simp
                            with_reducible rfl
                          rotate_left
                          · simp only [Act.put, List.setIfInBounds_toArray, List.set_cons_zero, List.set_cons_succ]
                            rfl
                          refine take_ (i := 6) (N := some 76) (v := ?_) (a' := ?_) #[true, true, true, true, true, true, true, false, false, false, false, false, false, false, false, false, false, false, false, false] rfl rfl (by kernel_rfl) (fun _ _ _ h => h) (Or.inl ⟨by rfl, ?_⟩) hHeld ?_ ?_
                          rotate_left
                          · rintro w' ⟨s0, s1, s2, s3⟩
                            go_simp
                            with_reducible rfl
                          rotate_left
                          · simp only [Act.put, List.setIfInBounds_toArray, List.set_cons_zero, List.set_cons_succ]
                            rfl
                          refine take_ (i := 7) (N := some 77) (v := ?_) (a' := ?_) #[true, true, true, true, true, true, true, true, false, false, false, false, false, false, false, false, false, false, false, false] rfl rfl (by kernel_rfl) (fun _ _ _ h => h) (Or.inl ⟨by rfl, ?_⟩) hHeld ?_ ?_
                          rotate_left
                          · rintro w' ⟨s0, s1, s2, s3⟩
                            go_simp
                            with_reducible rfl
                          rotate_left
                          · simp only [Act.put, List.setIfInBounds_toArray, List.set_cons_zero, List.set_cons_succ]
                            rfl
                          refine take_ (i := 8) (N := some 78) (v := ?_) (a' := ?_) #[true, true, true, true, true, true, true, true, true, false, false, false, false, false, false, false, false, false, false, false] rfl rfl (by kernel_rfl) (fun _ _ _ h => h) (Or.inl ⟨by rfl, ?_⟩) hHeld ?_ ?_
                          rotate_left
                          · rintro w' ⟨s0, s1, s2, s3⟩
                            go_simp
                            with_reducible rfl
                          rotate_left
                          · simp only [Act.put, List.setIfInBounds_toArray, List.set_cons_zero, List.set_cons_succ]
                            rfl
                          refine take_ (i := 9) (N := some 79) (v := ?_) (a' := ?_) #[true, true, true, true, true, true, true, true, true, true, false, false, false, false, false, false, false, false, false, false] rfl rfl (by kernel_rfl) (fun _ _ _ h => h) (Or.inl ⟨by rfl, ?_⟩) hHeld ?_ ?_
                          rotate_left
                          · rintro w' ⟨s0, s1, s2, s3⟩
                            go_simp
                            with_reducible rfl
                          rotate_left
                          · simp only [Act.put, List.setIfInBounds_toArray, List.set_cons_zero, List.set_cons_succ]
                            rfl
                          refine take_ (i := 10) (N := some 80) (v := ?_) (a' := ?_) #[true, true, true, true, true, true, true, true, true, true, true, false, false, false, false, false, false, false, false, false] rfl rfl (by kernel_rfl) (fun _ _ _ h => h) (Or.inl ⟨by rfl, ?_⟩) hHeld ?_ ?_
                          rotate_left
                          · rintro w' ⟨s0, s1, s2, s3⟩
                            go_simp
                            with_reducible rfl
                          rotate_left
                          · simp only [Act.put, List.setIfInBounds_toArray, List.set_cons_zero, List.set_cons_succ]
                            rfl
                          refine take_ (i := 11) (N := some 81) (v := ?_) (a' := ?_) #[true, true, true, true, true, true, true, true, true, true, true, true, false, false, false, false, false, false, false, false] rfl rfl (by kernel_rfl) (fun _ _ _ h => h) (Or.inl ⟨by rfl, ?_⟩) hHeld ?_ ?_
                          rotate_left
                          · rintro w' ⟨s0, s1, s2, s3⟩
                            go_simp
                            with_reducible rfl
                          rotate_left
                          · simp only [Act.put, List.setIfInBounds_toArray, List.set_cons_zero, List.set_cons_succ]
                            rfl
                          refine take_ (i := 12) (N := some 82) (v := ?_) (a' := ?_) #[true, true, true, true, true, true, true, true, true, true, true, true, true, false, false, false, false, false, false, false] rfl rfl (by kernel_rfl) (fun _ _ _ h => h) (Or.inl ⟨by rfl, ?_⟩) hHeld ?_ ?_
                          rotate_left
                          · rintro w' ⟨s0, s1, s2, s3⟩
                            go_simp
                            with_reducible rfl
                          rotate_left
                          · simp only [Act.put, List.setIfInBounds_toArray, List.set_cons_zero, List.set_cons_succ]
                            rfl
                          refine take_ (i := 13) (N := some 83) (v := ?_) (a' := ?_) #[true, true, true, true, true, true, true, true, true, true, true, true, true, true, false, false, false, false, false, false] rfl rfl (by kernel_rfl) (fun _ _ _ h => h) (Or.inl ⟨by rfl, ?_⟩) hHeld ?_ ?_
                          rotate_left
                          · rintro w' ⟨s0, s1, s2, s3⟩
                            go_simp
                            with_reducible rfl
                          rotate_left
                          · simp only [Act.put, List.setIfInBounds_toArray, List.set_cons_zero, List.set_cons_succ]
                            rfl
                          refine take_ (i := 14) (N := some 84) (v := ?_) (a' := ?_) #[true, true, true, true, true, true, true, true, true, true, true, true, true, true, true, false, false, false, false, false] rfl rfl (by kernel_rfl) (fun _ _ _ h => h) (Or.inl ⟨by rfl, ?_⟩) hHeld ?_ ?_
                          rotate_left
                          · rintro w' ⟨s0, s1, s2, s3⟩
                            go_simp
                            with_reducible rfl
                          rotate_left
                          · simp only [Act.put, List.setIfInBounds_toArray, List.set_cons_zero, List.set_cons_succ]
                            rfl
                          refine take_ (i := 15) (N := some 85) (v := ?_) (a' := ?_) #[true, true, true, true, true, true, true, true, true, true, true, true, true, true, true, true, false, false, false, false] rfl rfl (by kernel_rfl) (fun _ _ _ h => h) (Or.inl ⟨by rfl, ?_⟩) hHeld ?_ ?_
                          rotate_left
                          · rintro w' ⟨s0, s1, s2, s3⟩
                            go_simp
                            with_reducible rfl
                          rotate_left
                          · simp only [Act.put, List.setIfInBounds_toArray, List.set_cons_zero, List.set_cons_succ]
                            rfl
                          refine take_ (i := 16) (N := some 86) (v := ?_) (a' := ?_) #[true, true, true, true, true, true, true, true, true, true, true, true, true, true, true, true, true, false, false, false] rfl rfl (by kernel_rfl) (fun _ _ _ h => h) (Or.inl ⟨by rfl, ?_⟩) hHeld ?_ ?_
                          rotate_left
                          · rintro w' ⟨s0, s1, s2, s3⟩
                            go_simp
                            with_reducible rfl
                          rotate_left
                          · simp only [Act.put, List.setIfInBounds_toArray, List.set_cons_zero, List.set_cons_succ]
                            rfl
                          refine take_ (i := 17) (N := some 87) (v := ?_) (a' := ?_) #[true, true, true, true, true, true, true, true, true, true, true, true, true, true, true, true, true, true, false, false] rfl rfl (by kernel_rfl) (fun _ _ _ h => h) (Or.inl ⟨by rfl, ?_⟩) hHeld ?_ ?_
                          rotate_left
                          · rintro w' ⟨s0, s1, s2, s3⟩
                            go_simp
                            with_reducible rfl
                          rotate_left
                          · simp only [Act.put, List.setIfInBounds_toArray, List.set_cons_zero, List.set_cons_succ]
                            rfl
                          refine take_ (i := 18) (N := some 88) (v := ?_) (a' := ?_) #[true, true, true, true, true, true, true, true, true, true, true, true, true, true, true, true, true, true, true, false] rfl rfl (by kernel_rfl) (fun _ _ _ h => h) (Or.inl ⟨by rfl, ?_⟩) hHeld ?_ ?_
                          rotate_left
                          · rintro w' ⟨s0, s1, s2, s3⟩
                            go_simp
                            with_reducible rfl
                          rotate_left
                          · simp only [Act.put, List.setIfInBounds_toArray, List.set_cons_zero, List.set_cons_succ]
                            rfl
                          refine last_ (i := 19) (N := none) #[true, true, true, true, true, true, true, true, true, true, true, true, true, true, true, true, true, true, true, true] rfl rfl (by kernel_rfl) (by decide) (fun K hK => ?_)
                          refine skip_ (w1 := ?_) (by rfl) rfl ?_ ?_
                          rotate_left
                          · go_simp
                            rfl
                          refine hK.out _ _ ?_
                          clear hK K
                          refine done_ (by kernel_rfl) ?_
                          have hw : IntKind.i64.wrap (IntKind.i64.wrap (x * pc) - IntKind.i64.wrap (y * f)) = x * pc - y * f := by
                            have m1 := mul_bd (a := x) (b := pc) (by rw [HXX.out]; exact HRB.out m) (by rw [HPCD.out]; exact HPB.out i)
                            have m2 := mul_bd (a := y) (b := f) (by rw [HYY.out]; exact HPB.out m) (by rw [HFD.out]; exact HRB.out i)
                            rw [IntKind.wrap_i64, IntKind.wrap_i64, IntKind.wrap_i64]
                            omega
                          rw [hw]
                          have HG5 := Aside0.mk (HRR.out.put (HMX.out m) m (x * pc - y * f))
                          have HT5 := Aside0.mk (HTR.out.setCell ⟨b, m, none⟩ (.int .i64 (x * pc - y * f)) rfl)
                          clear hw hA1 hA2 hB1 hC1 hD1 hne1 hne2
                          go_wp2_with fail
                          go_roundg (N - (m + 1))
                          case measure => have := HM.out; omega
                          case rel =>
                            refine ⟨m + 1, by have := HM.out; omega, by rw [wsucc (by have := HM.out; have := HIN.out; omega)], ⟨?_⟩, ⟨HT5.out.then_below (by repeat (first | (with_reducible first | exact Below.refl _ _ | apply below_alloc | apply pw_below_drewN | apply below_drew1) | exact Below.refl _ _))⟩⟩
                            have h_ := HG5.out
                            rw [HXX.out, HYY.out, mixL_succ _ _ _ _ _ (by rw [HRN.out, HPN.out]) (by rw [HRN.out]; exact HM.out)] at h_
                            rw [HXX.out, HYY.out]
                            (with_reducible repeat (first | apply Kd.R_alloc | apply Kd.R_drewN | apply Kd.R_drew))
                            exact h_
                        · have hmN : m = N := by omega
                          subst hmN
                          have hm3 : ¬ (m : Int) < (m : Int) := by omega
                          have HT := Aside0.mk (impl_tidy_n B b cp m (mixL r pr pc f m) wr (HMX.out m) HRR.out (by have := HIN.out; omega) (mixL_bound HRB.out HPB.out (by rw [HPCD.out]; exact HPB.out i) (by rw [HFD.out]; exact HRB.out i)))
                          have hcl : tidyL (mixL r pr pc f m) = clearL r pr i := by
                            have h_ := mixL_all r pr i (by rw [HRN.out, HPN.out])
                            rwa [HRN.out, ← HPCD.out, ← HFD.out] at h_
                          rw [hcl] at HT
                          have hci : clearL r pr i = clearIf r pr i := by unfold clearIf; rw [if_neg (by rw [← HFD.out]; exact HF0.out)]
                          rw [hci] at HT
                          clear hcl hci hm
                          go_wp2_with fail
                          go_at_call 177; refine HT.out.mono ?_; rintro e w4 ⟨rfl, hG4, hT4⟩
                          have HTT := Aside0.mk (HTR.out.trans hT4)
                          have hG4' : GR w4 B b cp (clearIf r pr i) := by
                            unfold GR
                            rw [clearIf_length _ _ _ (by rw [HRN.out, HPN.out]), HRN.out]
                            exact hG4
                          have HZ5 := Aside0.mk ((show GZ _ B (([(pb, pcp, pr)] ++ pre.map (clrT pr i)) ++ (b, cp, r) :: (suf ++ O)) from by simpa using HZD.out).turn HTT.out hG4')
                          have HGB2 := HZD.out.rows (b, cp, r) (by simp)
                          have HVR5 := Aside0.mk (HVR.out.turn HTT.out HGB2)
                          have HVO5 := Aside0.mk (HVO.out.turn HTT.out HGB2)
                          have HBX5 := Aside0.mk ((HTT.out.block gc (blk_lt HBX.out) (fun e => HGB.out e.symm)).trans HBX.out)
                          have HB5 := Aside0.mk (Trn.below (S := fun k => k = b) (B := w.heap.size) (by intro k hk; rw [hk, ← HBB.out]; exact HGB2.base) HB.out HB.out.size HTT.out)
                          clear hG4 hT4 hG4' HGB2
                          go_wp2_with fail
                          go_roundg suf.length
                          case measure => first | (rw [hgg4]; simp; done) | simp
                          case rel => exact ⟨pre ++ [(b, cp, r)], suf, rfl, ⟨by rw [HE4.out]; simp⟩, by rw [wsucc (by have := HLT5.out; have := HNN.out; omega)]; simp, ⟨by simpa [clrT] using HZ5.out⟩, HVR5, HVO5, HBX5, HB5⟩
              · have hix : ∀ W, (Instr.index 159 (.agg #[.slice Ag nn cr, .slice Ao O.length co]) (.int .i64 1)).run Try.prog W = .ok (.slice Ao O.length co) W := fun W => ix1 _ _ W
                go_wp2_with fail
                go_loopg [55] O.length (fun gg v55 we => ∃ (pre suf : List RT), gg = suf.length ∧ Aside0 (O = pre ++ suf) ∧ v55 = .int .i64 (pre.length : Int) ∧ Aside0 (GZ we B (((pb, pcp, pr) :: L'.map (clrT pr i)) ++ (pre.map (clrT pr i) ++ suf) ++ ([] : List RT))) ∧ Aside0 (GL we B (.slice Ag nn cr) L') ∧ Aside0 (GL we B (.slice Ao O.length co) O) ∧ Aside0 (we.heap[gc]? = some (.cells #[.int .i64 (i : Int)] 3 (0, 0))) ∧ Aside0 (Below w.heap.size w we))
                case atStart => exact ⟨[], O, by first | rfl | simp [HNN.out], ⟨rfl⟩, rfl, ⟨by simpa using HZC.out⟩, HVR, HVO, HBX, HB⟩
                case round =>
                  clear HZC HVR HVO HBX HB
                  obtain ⟨pre, suf, hgg4, HE4, rfl, HZD, HVR, HVO, HBX, HB⟩ := hrel
                  cases suf with
                  | nil =>
                    have e0 : O = pre := by simpa using HE4.out
                    have hlt5 : ¬ (pre.length : Int) < (O.length : Int) := by rw [← e0]; have := HNN.out; omega
                    have HZE := Aside0.mk (show GZ wr B (((pb, pcp, pr) :: L'.map (clrT pr i)) ++ O.map (clrT pr i) ++ ([] : List RT)) by rw [e0]; simpa using HZD.out)
                    clear e0
                    go_wp2_with fail
                    go_roundg 0
                    case measure => omega
                    case rel => exact ⟨_, .inr (.inr ⟨rfl, rfl, rfl⟩), ⟨by simpa using HZE.out⟩, HVR, HVO, HBX, HB⟩
                  | cons t suf =>
                    obtain ⟨b, cp, r⟩ := t
                    have hlt5 : (pre.length : Int) < (O.length : Int) := by
                      have h1 := congrArg List.length HE4.out
                      rw [List.length_append, List.length_cons] at h1
                      have := HNN.out
                      omega
                    have hmem : (b, cp, r) ∈ O := by rw [HE4.out]; simp
                    have hrN : r.length = N := HLA.out (b, cp, r) (by first | exact .inl hmem | exact .inr hmem)
                    obtain ⟨ad, e, hc⟩ := kr_at (Kd.R_reads' HVO.out).2.2 pre.length (b, cp, r) (by rw [HE4.out]; simp)
                    have hc2 : wr.cell? (ad.add pre.length) = some (.slice (some ⟨b, 0, none⟩) N cp) := by rw [← hrN]; exact hc
                    cases e
                    have hzm : (b, cp, r) ∈ ((pb, pcp, pr) :: L'.map (clrT pr i)) ++ (pre.map (clrT pr i) ++ (b, cp, r) :: suf) ++ ([] : List RT) := by simp
                    have hf := HZD.out.cellp hzm i (by show i < r.length; have := HIN.out; omega)
                    have hbx := blk_cell HBX.out 0
                    have hbx2 : wr.cell? ⟨gc, 0, none⟩ = some (.int .i64 (i : Int)) := hbx.trans rfl
                    have hiN2 : (i : Int) < (N : Int) := by have := HIN.out; omega
                    have hi0 : (0 : Int) ≤ (i : Int) := by omega
                    obtain ⟨f, hfd⟩ : ∃ f, f = vec r i := ⟨_, rfl⟩
                    rw [← hfd] at hf
                    have HFD := Aside0.mk hfd
                    have HRN := Aside0.mk hrN
                    have HMEM := Aside0.mk hmem
                    have HLT5 := Aside0.mk hlt5
                    clear hc hzm hbx hfd hrN hmem
                    by_cases hf0 : f = 0
                    · have hfe : (f == 0) = true := by simpa using hf0
                      have HCT := Aside0.mk (show clrT pr i (b, cp, r) = (b, cp, r) by unfold clrT clearIf; simp only; rw [← HFD.out, if_pos hf0])
                      clear hf0
                      go_wp2_with fail
                      go_roundg suf.length
                      case measure => first | (rw [hgg4]; simp; done) | simp
                      case rel => exact ⟨pre ++ [(b, cp, r)], suf, rfl, ⟨by rw [HE4.out]; simp⟩, by rw [wsucc (by have := HLT5.out; have := HNN.out; omega)]; simp, ⟨by rw [List.map_append, List.map_cons, List.map_nil, HCT.out]; simpa using HZD.out⟩, HVR, HVO, HBX, HB⟩
                    · have hfe : (f == 0) = false := by simpa using hf0
                      have HAP := Aside0.mk (show pb ≠ b from (show GZ wr B ((((pb, pcp, pr) :: L'.map (clrT pr i)) ++ pre.map (clrT pr i)) ++ (b, cp, r) :: (suf ++ ([] : List RT))) from by simpa using HZD.out).apart (pb, pcp, pr) (.inl (by simp)))
                      have HGB := Aside0.mk (show b ≠ gc from HGC.out.1 (b, cp, r) (by simp [HMEM.out]))
                      have HRB := Aside0.mk (show ∀ j, (vec r j).natAbs ≤ 322560000 from fun j => HCIi.out.out_le HNC.out.1 HNC.out.2 HX.out (by have := HIN.out; have := HNC.out; omega) r (by rw [← HRUN.out.2]; exact List.mem_map.2 ⟨_, HMEM.out, rfl⟩) j)
                      have HPB := Aside0.mk (show ∀ j, (vec pr j).natAbs ≤ 322560000 from fun j => HCIi.out.rem_le HNC.out.1 HNC.out.2 HX.out (by have := HIN.out; have := HNC.out; omega) pr (by rw [← HRUN.out.1]; exact List.mem_map.2 ⟨_, List.mem_of_getElem? HPP.out, rfl⟩) j)
                      have HPC := Aside0.mk (show ∀ j, j < N → wr.cell? ⟨pb, j, none⟩ = some (.int .i64 (vec pr j)) from fun j hj => HZD.out.cellp (t := (pb, pcp, pr)) (by simp) j (by show j < pr.length; rw [HPN.out]; exact hj))
                      have HGR := Aside0.mk (show GRn wr B b cp N r by rw [← HRN.out]; exact HZD.out.rows (b, cp, r) (by simp))
                      have HF0 := Aside0.mk hf0
                      obtain ⟨pc, hpc⟩ : ∃ pc, pc = vec pr i := ⟨_, rfl⟩
                      have HPCD := Aside0.mk hpc
                      have HMX := Aside0.mk (show ∀ m, (mixL r pr pc f m).length = N from fun m => by rw [mixL_length _ _ _ _ _ (by rw [HRN.out, HPN.out]), HRN.out])
                      clear hf0 hpc
                      go_wp2_with fail
                      go_loopg [67] N (fun gg v67 wf => ∃ m : Nat, gg + m = N ∧ v67 = .int .i64 (m : Int) ∧ Aside0 (GRn wf B b cp N (mixL r pr pc f m)) ∧ Aside0 (Trn (fun k => k = b) wr wf))
                      case atStart => exact ⟨0, rfl, rfl, ⟨by rw [mixL_zero]; exact HGR.out⟩, ⟨Trn.refl _ _⟩⟩
                      case round =>
                        obtain ⟨m, hgg5, rfl, HRR, HTR⟩ := hrel
                        by_cases hm : m < N
                        · have hm2 : (m : Int) < (N : Int) := by omega
                          have hA := HRR.out.cell (HMX.out m) m hm
                          rw [mixL_at _ _ _ _ _ (by rw [HRN.out, HPN.out])] at hA
                          obtain ⟨x, hx⟩ : ∃ x, x = vec r m := ⟨_, rfl⟩
                          obtain ⟨y, hy⟩ : ∃ y, y = vec pr m := ⟨_, rfl⟩
                          rw [← hx] at hA
                          have hA1 := hA.1
                          have hA2 := hA.2
                          have hB1 : wr.cell? ⟨gc, 0, none⟩ = some (.int .i64 (i : Int)) := (blk_cell ((HTR.out.block gc (blk_lt HBX.out) (fun e => HGB.out e.symm)).trans HBX.out) 0).trans rfl
                          have hkeep : ∀ j, j < N → wr.cell? ⟨pb, j, none⟩ = some (.int .i64 (vec pr j)) := fun j hj => by
                            have h1 := HPC.out j hj
                            exact (World.cell?_of_block (HTR.out.block pb (World.block_lt_of_cell? _ _ h1) (fun e => HAP.out e))).trans h1
                          have hC1 := hkeep i HIN.out.1
                          have hD1 := hkeep m hm
                          rw [← HPCD.out] at hC1
                          rw [← hy] at hD1
                          have hne1 : gc ≠ b := fun e => HGB.out e.symm
                          have hne2 : pb ≠ b := HAP.out
                          have HXX := Aside0.mk hx
                          have HYY := Aside0.mk hy
                          have HM := Aside0.mk hm
                          clear hx hy hA hkeep hm
                          go_wp2_with fail
                          refine start_ (n := 20) (S := fun w' => w'.cell? ⟨b, m, none⟩ = some (.int .i64 x) ∧ w'.cell? ⟨gc, 0, none⟩ = some (.int .i64 (i : Int)) ∧ w'.cell? ⟨pb, i, none⟩ = some (.int .i64 pc) ∧ w'.cell? ⟨pb, m, none⟩ = some (.int .i64 y)) (ds := [19]) #[false, false, false, false, false, false, false, false, false, false, false, false, false, false, false, false, false, false, false, false] (by kernel_rfl) rfl rfl ⟨hA1, hB1, hC1, hD1⟩ (fun hHeld => ?_)
                          refine take_ (i := 0) (N := some 70) (v := ?_) (a' := ?_) #[true, false, false, false, false, false, false, false, false, false, false, false, false, false, false, false, false, false, false, false] rfl rfl (by kernel_rfl) (fun _ _ _ h => h) (Or.inl ⟨by rfl, ?_⟩) hHeld ?_ ?_
                          rotate_left
                          · rintro w' ⟨s0, s1, s2, s3⟩
                            go_simp
                            with_reducible rfl
                          rotate_left
                          · simp only [Act.put, List.setIfInBounds_toArray, List.set_cons_zero, List.set_cons_succ]
                            rfl
                          refine take_ (i := 1) (N := some 71) (v := ?_) (a' := ?_) #[true, true, false, false, false, false, false, false, false, false, false, false, false, false, false, false, false, false, false, false] rfl rfl (by kernel_rfl) (fun _ _ _ h => h) (Or.inl ⟨by rfl, ?_⟩) hHeld ?_ ?_
                          rotate_left
                          · rintro w' ⟨s0, s1, s2, s3⟩
                            go_simp
                            with_reducible rfl
                          rotate_left
                          · simp only [Act.put, List.setIfInBounds_toArray, List.set_cons_zero, List.set_cons_succ]
                            rfl
                          refine take_ (i := 2) (N := some 72) (v := ?_) (a' := ?_) #[true, true, true, false, false, false, false, false, false, false, false, false, false, false, false, false, false, false, false, false] rfl rfl (by kernel_rfl) (fun _ _ _ h => h) (Or.inl ⟨by rfl, ?_⟩) hHeld ?_ ?_
                          rotate_left
                          · rintro w' ⟨s0, s1, s2, s3⟩
                            go_simp
                            with_reducible rfl
                          rotate_left
                          · simp only [Act.put, List.setIfInBounds_toArray, List.set_cons_zero, List.set_cons_succ]
                            rfl
                          refine take_ (i := 3) (N := some 73) (v := ?_) (a' := ?_) #[true, true, true, true, false, false, false, false, false, false, false, false, false, false, false, false, false, false, false, false] rfl rfl (by kernel_rfl) (fun _ _ _ h => h) (Or.inl ⟨by rfl, ?_⟩) hHeld ?_ ?_
                          rotate_left
                          · rintro w' ⟨s0, s1, s2, s3⟩
                            go_simp
                            with_reducible rfl
                          rotate_left
                          · simp only [Act.put, List.setIfInBounds_toArray, List.set_cons_zero, List.set_cons_succ]
                            rfl
                          refine take_ (i := 4) (N := some 74) (v := ?_) (a' := ?_) #[true, true, true, true, true, false, false, false, false, false, false, false, false, false, false, false, false, false, false, false] rfl rfl (by kernel_rfl) (fun _ _ _ h => h) (Or.inl ⟨by rfl, ?_⟩) hHeld ?_ ?_
                          rotate_left
                          · rintro w' ⟨s0, s1, s2, s3⟩
                            go_simp
                            with_reducible rfl
                          rotate_left
                          · simp only [Act.put, List.setIfInBounds_toArray, List.set_cons_zero, List.set_cons_succ]
                            rfl
                          refine take_ (i := 5) (N := some 75) (v := ?_) (a' := ?_) #[true, true, true, true, true, true, false, false, false, false, false, false, false, false, false, false, false, false, false, false] rfl rfl (by kernel_rfl) (fun _ _ _ h => h) (Or.inl ⟨by rfl, ?_⟩) hHeld ?_ ?_
                          rotate_left
                          · rintro w' ⟨s0, s1, s2, s3⟩
                            go_simp
                            with_reducible rfl
                          rotate_left
                          · simp only [Act.put, List.setIfInBounds_toArray, List.set_cons_zero, List.set_cons_succ]
                            rfl
                          refine take_ (i := 6) (N := some 76) (v := ?_) (a' := ?_) #[true, true, true, true, true, true, true, false, false, false, false, false, false, false, false, false, false, false, false, false] rfl rfl (by kernel_rfl) (fun _ _ _ h => h) (Or.inl ⟨by rfl, ?_⟩) hHeld ?_ ?_
                          rotate_left
                          · rintro w' ⟨s0, s1, s2, s3⟩
                            go_simp
                            with_reducible rfl
                          rotate_left
                          · simp only [Act.put, List.setIfInBounds_toArray, List.set_cons_zero, List.set_cons_succ]
                            rfl
                          refine take_ (i := 7) (N := some 77) (v := ?_) (a' := ?_) #[true, true, true, true, true, true, true, true, false, false, false, false, false, false, false, false, false, false, false, false] rfl rfl (by kernel_rfl) (fun _ _ _ h => h) (Or.inl ⟨by rfl, ?_⟩) hHeld ?_ ?_
                          rotate_left
                          · rintro w' ⟨s0, s1, s2, s3⟩
                            go_simp
                            with_reducible rfl
                          rotate_left
                          · simp only [Act.put, List.setIfInBounds_toArray, List.set_cons_zero, List.set_cons_succ]
                            rfl
                          refine take_ (i := 8) (N := some 78) (v := ?_) (a' := ?_) #[true, true, true, true, true, true, true, true, true, false, false, false, false, false, false, false, false, false, false, false] rfl rfl (by kernel_rfl) (fun _ _ _ h => h) (Or.inl ⟨by rfl, ?_⟩) hHeld ?_ ?_
                          rotate_left
                          · rintro w' ⟨s0, s1, s2, s3⟩
                            go_simp
                            with_reducible rfl
                          rotate_left
                          · simp only [Act.put, List.setIfInBounds_toArray, List.set_cons_zero, List.set_cons_succ]
                            rfl
                          refine take_ (i := 9) (N := some 79) (v := ?_) (a' := ?_) #[true, true, true, true, true, true, true, true, true, true, false, false, false, false, false, false, false, false, false, false] rfl rfl (by kernel_rfl) (fun _ _ _ h => h) (Or.inl ⟨by rfl, ?_⟩) hHeld ?_ ?_
                          rotate_left
                          · rintro w' ⟨s0, s1, s2, s3⟩
                            go_simp
                            with_reducible rfl
                          rotate_left
                          · simp only [Act.put, List.setIfInBounds_toArray, List.set_cons_zero, List.set_cons_succ]
                            rfl
                          refine take_ (i := 10) (N := some 80) (v := ?_) (a' := ?_) #[true, true, true, true, true, true, true, true, true, true, true, false, false, false, false, false, false, false, false, false] rfl rfl (by kernel_rfl) (fun _ _ _ h => h) (Or.inl ⟨by rfl, ?_⟩) hHeld ?_ ?_
                          rotate_left
                          · rintro w' ⟨s0, s1, s2, s3⟩
                            go_simp
                            with_reducible rfl
                          rotate_left
                          · simp only [Act.put, List.setIfInBounds_toArray, List.set_cons_zero, List.set_cons_succ]
                            rfl
                          refine take_ (i := 11) (N := some 81) (v := ?_) (a' := ?_) #[true, true, true, true, true, true, true, true, true, true, true, true, false, false, false, false, false, false, false, false] rfl rfl (by kernel_rfl) (fun _ _ _ h => h) (Or.inl ⟨by rfl, ?_⟩) hHeld ?_ ?_
                          rotate_left
                          · rintro w' ⟨s0, s1, s2, s3⟩
                            go_simp
                            with_reducible rfl
                          rotate_left
                          · simp only [Act.put, List.setIfInBounds_toArray, List.set_cons_zero, List.set_cons_succ]
                            rfl
                          refine take_ (i := 12) (N := some 82) (v := ?_) (a' := ?_) #[true, true, true, true, true, true, true, true, true, true, true, true, true, false, false, false, false, false, false, false] rfl rfl (by kernel_rfl) (fun _ _ _ h => h) (Or.inl ⟨by rfl, ?_⟩) hHeld ?_ ?_
                          rotate_left
                          · rintro w' ⟨s0, s1, s2, s3⟩
                            go_simp
                            with_reducible rfl
                          rotate_left
                          · simp only [Act.put, List.setIfInBounds_toArray, List.set_cons_zero, List.set_cons_succ]
                            rfl
                          refine take_ (i := 13) (N := some 83) (v := ?_) (a' := ?_) #[true, true, true, true, true, true, true, true, true, true, true, true, true, true, false, false, false, false, false, false] rfl rfl (by kernel_rfl) (fun _ _ _ h => h) (Or.inl ⟨by rfl, ?_⟩) hHeld ?_ ?_
                          rotate_left
                          · rintro w' ⟨s0, s1, s2, s3⟩
                            go_simp
                            with_reducible rfl
                          rotate_left
                          · simp only [Act.put, List.setIfInBounds_toArray, List.set_cons_zero, List.set_cons_succ]
                            rfl
                          refine take_ (i := 14) (N := some 84) (v := ?_) (a' := ?_) #[true, true, true, true, true, true, true, true, true, true, true, true, true, true, true, false, false, false, false, false] rfl rfl (by kernel_rfl) (fun _ _ _ h => h) (Or.inl ⟨by rfl, ?_⟩) hHeld ?_ ?_
                          rotate_left
                          · rintro w' ⟨s0, s1, s2, s3⟩
                            go_simp
                            with_reducible rfl
                          rotate_left
                          · simp only [Act.put, List.setIfInBounds_toArray, List.set_cons_zero, List.set_cons_succ]
                            rfl
                          refine take_ (i := 15) (N := some 85) (v := ?_) (a' := ?_) #[true, true, true, true, true, true, true, true, true, true, true, true, true, true, true, true, false, false, false, false] rfl rfl (by kernel_rfl) (fun _ _ _ h => h) (Or.inl ⟨by rfl, ?_⟩) hHeld ?_ ?_
                          rotate_left
                          · rintro w' ⟨s0, s1, s2, s3⟩
                            go_simp
                            with_reducible rfl
                          rotate_left
                          · simp only [Act.put, List.setIfInBounds_toArray, List.set_cons_zero, List.set_cons_succ]
                            rfl
                          refine take_ (i := 16) (N := some 86) (v := ?_) (a' := ?_) #[true, true, true, true, true, true, true, true, true, true, true, true, true, true, true, true, true, false, false, false] rfl rfl (by kernel_rfl) (fun _ _ _ h => h) (Or.inl ⟨by rfl, ?_⟩) hHeld ?_ ?_
                          rotate_left
                          · rintro w' ⟨s0, s1, s2, s3⟩
                            go_simp
                            with_reducible rfl
                          rotate_left
                          · simp only [Act.put, List.setIfInBounds_toArray, List.set_cons_zero, List.set_cons_succ]
                            rfl
                          refine take_ (i := 17) (N := some 87) (v := ?_) (a' := ?_) #[true, true, true, true, true, true, true, true, true, true, true, true, true, true, true, true, true, true, false, false] rfl rfl (by kernel_rfl) (fun _ _ _ h => h) (Or.inl ⟨by rfl, ?_⟩) hHeld ?_ ?_
                          rotate_left
                          · rintro w' ⟨s0, s1, s2, s3⟩
                            go_simp
                            with_reducible rfl
                          rotate_left
                          · simp only [Act.put, List.setIfInBounds_toArray, List.set_cons_zero, List.set_cons_succ]
                            rfl
                          refine take_ (i := 18) (N := some 88) (v := ?_) (a' := ?_) #[true, true, true, true, true, true, true, true, true, true, true, true, true, true, true, true, true, true, true, false] rfl rfl (by kernel_rfl) (fun _ _ _ h => h) (Or.inl ⟨by rfl, ?_⟩) hHeld ?_ ?_
                          rotate_left
                          · rintro w' ⟨s0, s1, s2, s3⟩
                            go_simp
                            with_reducible rfl
                          rotate_left
                          · simp only [Act.put, List.setIfInBounds_toArray, List.set_cons_zero, List.set_cons_succ]
                            rfl
                          refine last_ (i := 19) (N := none) #[true, true, true, true, true, true, true, true, true, true, true, true, true, true, true, true, true, true, true, true] rfl rfl (by kernel_rfl) (by decide) (fun K hK => ?_)
                          refine skip_ (w1 := ?_) (by rfl) rfl ?_ ?_
                          rotate_left
                          · go_simp
                            rfl
                          refine hK.out _ _ ?_
                          clear hK K
                          refine done_ (by kernel_rfl) ?_
                          have hw : IntKind.i64.wrap (IntKind.i64.wrap (x * pc) - IntKind.i64.wrap (y * f)) = x * pc - y * f := by
                            have m1 := mul_bd (a := x) (b := pc) (by rw [HXX.out]; exact HRB.out m) (by rw [HPCD.out]; exact HPB.out i)
                            have m2 := mul_bd (a := y) (b := f) (by rw [HYY.out]; exact HPB.out m) (by rw [HFD.out]; exact HRB.out i)
                            rw [IntKind.wrap_i64, IntKind.wrap_i64, IntKind.wrap_i64]
                            omega
                          rw [hw]
                          have HG5 := Aside0.mk (HRR.out.put (HMX.out m) m (x * pc - y * f))
                          have HT5 := Aside0.mk (HTR.out.setCell ⟨b, m, none⟩ (.int .i64 (x * pc - y * f)) rfl)
                          clear hw hA1 hA2 hB1 hC1 hD1 hne1 hne2
                          go_wp2_with fail
                          go_roundg (N - (m + 1))
                          case measure => have := HM.out; omega
                          case rel =>
                            refine ⟨m + 1, by have := HM.out; omega, by rw [wsucc (by have := HM.out; have := HIN.out; omega)], ⟨?_⟩, ⟨HT5.out.then_below (by repeat (first | (with_reducible first | exact Below.refl _ _ | apply below_alloc | apply pw_below_drewN | apply below_drew1) | exact Below.refl _ _))⟩⟩
                            have h_ := HG5.out
                            rw [HXX.out, HYY.out, mixL_succ _ _ _ _ _ (by rw [HRN.out, HPN.out]) (by rw [HRN.out]; exact HM.out)] at h_
                            rw [HXX.out, HYY.out]
                            (with_reducible repeat (first | apply Kd.R_alloc | apply Kd.R_drewN | apply Kd.R_drew))
                            exact h_
                        · have hmN : m = N := by omega
                          subst hmN
                          have hm3 : ¬ (m : Int) < (m : Int) := by omega
                          have HT := Aside0.mk (impl_tidy_n B b cp m (mixL r pr pc f m) wr (HMX.out m) HRR.out (by have := HIN.out; omega) (mixL_bound HRB.out HPB.out (by rw [HPCD.out]; exact HPB.out i) (by rw [HFD.out]; exact HRB.out i)))
                          have hcl : tidyL (mixL r pr pc f m) = clearL r pr i := by
                            have h_ := mixL_all r pr i (by rw [HRN.out, HPN.out])
                            rwa [HRN.out, ← HPCD.out, ← HFD.out] at h_
                          rw [hcl] at HT
                          have hci : clearL r pr i = clearIf r pr i := by unfold clearIf; rw [if_neg (by rw [← HFD.out]; exact HF0.out)]
                          rw [hci] at HT
                          clear hcl hci hm
                          go_wp2_with fail
                          go_at_call 177; refine HT.out.mono ?_; rintro e w4 ⟨rfl, hG4, hT4⟩
                          have HTT := Aside0.mk (HTR.out.trans hT4)
                          have hG4' : GR w4 B b cp (clearIf r pr i) := by
                            unfold GR
                            rw [clearIf_length _ _ _ (by rw [HRN.out, HPN.out]), HRN.out]
                            exact hG4
                          have HZ5 := Aside0.mk ((show GZ _ B ((((pb, pcp, pr) :: L'.map (clrT pr i)) ++ pre.map (clrT pr i)) ++ (b, cp, r) :: (suf ++ ([] : List RT))) from by simpa using HZD.out).turn HTT.out hG4')
                          have HGB2 := HZD.out.rows (b, cp, r) (by simp)
                          have HVR5 := Aside0.mk (HVR.out.turn HTT.out HGB2)
                          have HVO5 := Aside0.mk (HVO.out.turn HTT.out HGB2)
                          have HBX5 := Aside0.mk ((HTT.out.block gc (blk_lt HBX.out) (fun e => HGB.out e.symm)).trans HBX.out)
                          have HB5 := Aside0.mk (Trn.below (S := fun k => k = b) (B := w.heap.size) (by intro k hk; rw [hk, ← HBB.out]; exact HGB2.base) HB.out HB.out.size HTT.out)
                          clear hG4 hT4 hG4' HGB2
                          go_wp2_with fail
                          go_roundg suf.length
                          case measure => first | (rw [hgg4]; simp; done) | simp
                          case rel => exact ⟨pre ++ [(b, cp, r)], suf, rfl, ⟨by rw [HE4.out]; simp⟩, by rw [wsucc (by have := HLT5.out; have := HNN.out; omega)]; simp, ⟨by simpa [clrT] using HZ5.out⟩, HVR5, HVO5, HBX5, HB5⟩
              · have hinf : (Try.prog.info? 25).map (fun i => (i.zero, i.size, i.bytes)) = some (some (.slice none 0 0), 1, 24) := by kernel_rfl
                have HINF := Aside0.mk hinf
                have HBQ := Aside0.mk (show Below B w wr by rw [HBB.out]; exact HB.out)
                have HCELL := Aside0.mk (show [Value.slice (some ⟨pb, 0, none⟩) N pcp] = [rv (pb, pcp, pr)] by unfold rv; rw [HPN.out])
                clear hinf
                go_wp2_with ((with_reducible refine gate_builtin (b := .append) (xs := #[.tmp 94, .tmp 96]) rfl ?_); at_builtin; refine Kd.R_append kr (w0 := w) B rfl (.tmp 94) (.tmp 96) 47 25 (.slice none 0 0) 24 rfl Try.underlying47 HINF.out rfl (by decide) (by omega) (.slice Ao O.length co) O (pb, pcp, pr) [Value.slice (some ⟨pb, 0, none⟩) N pcp] (fun _ => True) (fun _ => False) rfl rfl HCELL.out (fun _ h => h.elim) ?aF ?aO ?aB ?aS ?aL ?_; (case aF => exact fun _ _ => trivial); (case aO => exact Kd.R_mono HVO.out (fun _ _ => trivial)); (case aB => exact HBQ.out); (case aS => rw [HBB.out]; exact HB.out.size); (case aL => have := HNN.out; omega); intro v1 w5 hO5 hB5 hg5 hat5)
                have hL6 : GL w5 B (.slice Ag nn cr) L' := HVR.out.move (fun k hk => hg5.block k (HVR.out.lt hk) (HNNE.out k hk))
                have hZ6 := (show GZ w5 B _ from ⟨fun t ht => (HZC.out.rows t ht).move (hg5.block t.1 (HZC.out.rows t ht).lt (fun e => HVO.out.ne e (HZC.out.rows t ht) rfl)), HZC.out.nd⟩)
                have hO6 : GL w5 B v1 (O ++ [(pb, pcp, pr)]) := Kd.R_tight rfl hO5
                have hlen : ∀ t : RT, t ∈ L' ∨ t ∈ O → t.2.2.length = pr.length := fun t ht => by rw [HLA.out t ht, HPN.out]
                have HL6 := Aside0.mk (hL6.congr (clrT_rv pr i L' (fun t ht => hlen t (.inl ht))).symm)
                have HO6 := Aside0.mk (hO6.congr (L' := O.map (clrT pr i) ++ [(pb, pcp, pr)]) (by rw [List.map_append, List.map_append, clrT_rv pr i O (fun t ht => hlen t (.inr ht))]))
                have HZ6 := Aside0.mk (hZ6.perm (show List.Perm _ (L'.map (clrT pr i) ++ (O.map (clrT pr i) ++ [(pb, pcp, pr)])) from by rw [← List.append_assoc]; exact (List.perm_append_singleton _ _).symm))
                have HNE6 := Aside0.mk (show ∀ k, some k = (Value.slice Ag nn cr).ownBlock → some k ≠ v1.ownBlock from fun k hk e => by
                  rcases hat5 with h | ⟨q, h, hq⟩
                  · exact HNNE.out k hk (e.trans h)
                  · have h1 := HVR.out.lt hk
                    rw [h] at e
                    injection e with e
                    omega)
                have HB6 := Aside0.mk (show Below w.heap.size w w5 by rw [← HBB.out]; exact hB5)
                have hget : (runI X i).1.getD k0 [] = pr := by
                  rw [← HRUN.out.1, List.getD_eq_getElem?_getD, List.getElem?_map, HPP.out]; rfl
                have her : (runI X i).1.eraseIdx k0 = L'.map (·.2.2) := by rw [← HRUN.out.1, HLP.out, erase_map]
                have hstep : stepI i (runI X i) = ((L'.map (·.2.2)).map (fun r => clearIf r pr i), (O.map (·.2.2)).map (fun r => clearIf r pr i) ++ [pr]) := by
                  unfold stepI
                  rw [← HK0.out, if_pos (by rw [← HRUN.out.1, List.length_map]; exact HK.out), hget, her, HRUN.out.2]
                have HST := Aside0.mk hstep
                clear hL6 hZ6 hO6 hlen hget her hstep hO5 hB5 hg5 hat5
                go_wp2_with fail
                go_roundg (cols - (i + 1))
                case measure => have := HLT.out; omega
                case rel => exact ⟨i + 1, L'.map (clrT pr i), O.map (clrT pr i) ++ [(pb, pcp, pr)], by have := HLT.out; omega, by rw [wsucc (by have := HIN.out; omega)], ⟨by show _ = (stepI i (runI X i)).1 ∧ _ = (stepI i (runI X i)).2; rw [HST.out]; exact ⟨clrT_row pr i L', by rw [List.map_append, clrT_row]; rfl⟩⟩, HL6, HO6, HZ6, HNE6, HB6⟩
          · rw [if_neg hk]
            have hstep : stepI i (runI X i) = runI X i := by
              unfold stepI
              rw [if_neg (by rw [← HRUN.out.1, List.length_map, HRUN.out.1]; exact hk)]
            have HST := Aside0.mk hstep
            clear hk hstep
            go_wp2_with fail
            go_roundg (cols - (i + 1))
            case measure => have := HLT.out; omega
            case rel => exact ⟨i + 1, L, O, by have := HLT.out; omega, by rw [wsucc (by have := HIN.out; omega)], ⟨by show L.map _ = (stepI i (runI X i)).1 ∧ O.map _ = (stepI i (runI X i)).2; rw [HST.out]; exact HRUN.out⟩, HL2, HO2, HZ2, HNE, HB2⟩
        · have hlt2 : ¬ (i : Int) < (cols : Int) := by omega
          have hic : i = cols := by omega
          subst hic
          go_wp2
          go_ret
          refine ⟨_, rfl, ?_, HB.out⟩
          have h := rows_R HGO.out (fun t ht => HZ.out.rows t (by simp [ht]))
          rw [HRUN.out.2] at h
          rw [← HBB.out]
          exact h

theorem impl_InRange_eq (a b c : Int) : impl_InRange.f a b c = some (decide (b ≤ a ∧ a ≤ c)) := by
  unfold impl_InRange.f
  by_cases h : b ≤ a
  · rw [if_pos h]
    simp [h]
  · rw [if_neg h]
    simp [h]

theorem impl_allIn_l0 (lo hi : Int) : ∀ (suf pre : List Int), (pre ++ suf).length ≤ 1048576 →
    Ev (fun k => impl_allIn.l0 k lo hi (pre ++ suf) ((pre ++ suf).length : Int) (pre.length : Int)) (suf.all fun x => decide (lo ≤ x ∧ x ≤ hi)) := by
  intro suf
  induction suf with
  | nil =>
    intro pre hb
    refine Ev.step (fun k => by rw [impl_allIn.l0]) ?_
    exact evNeg (by simp) (Ev.now _)
  | cons x suf ih =>
    intro pre hb
    simp only [List.length_append, List.length_cons] at hb
    refine Ev.step (fun k => by rw [impl_allIn.l0]) ?_
    refine evPos (by simp only [List.length_append, List.length_cons]; omega) (evPos (by omega) (evPos (by simp only [List.length_append, List.length_cons]; omega) ?_))
    rw [rd_mid, wsucc (by omega)]
    refine evSome (impl_InRange_eq _ _ _) ?_
    by_cases hx : lo ≤ x ∧ x ≤ hi
    · refine evPos (by simp [hx]) ?_
      have h := ih (pre ++ [x]) (by simp; omega)
      refine evEq ?_ (Ev.congr (fun k => ?_) h)
      · simp [hx]
      · simp
    · refine evNeg (by simpa using hx) (evEq ?_ (Ev.now _))
      simp [hx]
theorem impl_allIn_ev (l : List Int) (lo hi : Int) (hl : l.length ≤ 1048576) : Ev (fun k => impl_allIn.f k l lo hi) (l.all fun x => decide (lo ≤ x ∧ x ≤ hi)) := by
  have h := impl_allIn_l0 lo hi l [] (by simpa using hl)
  simpa [impl_allIn.f] using h

def cellR (v : Int) : Bool := decide (-2 ≤ v ∧ v ≤ 2)
def matB (m : List (List Int)) (c : Int) : Bool := decide (1 ≤ c ∧ c ≤ 6) && (decide (m.length ≤ 12) && m.all fun r => decide ((r.length : Int) = c) && r.all cellR)
theorem impl_IsMatrix_l0 (c : Int) : ∀ (suf pre : List (List Int)), (pre ++ suf).length ≤ 12 → (∀ r ∈ suf, r.length ≤ 1048576) →
    Ev (fun k => impl_IsMatrix.l0 k c (pre ++ suf) ((pre ++ suf).length : Int) (pre.length : Int)) (suf.all fun r => decide ((r.length : Int) = c) && r.all cellR) := by
  intro suf
  induction suf with
  | nil =>
    intro pre hb hr
    refine Ev.step (fun k => by rw [impl_IsMatrix.l0]) ?_
    exact evNeg (by simp) (Ev.now _)
  | cons x suf ih =>
    intro pre hb hr
    simp only [List.length_append, List.length_cons] at hb
    refine Ev.step (fun k => by rw [impl_IsMatrix.l0]) ?_
    refine evPos (by simp only [List.length_append, List.length_cons]; omega) (evPos (by omega) (evPos (by simp only [List.length_append, List.length_cons]; omega) ?_))
    rw [rd_L1, getD_mid, wsucc (by omega)]
    have h := ih (pre ++ [x]) (by simp; omega) (fun r h => hr r (by simp [h]))
    have h' : Ev (fun k => impl_IsMatrix.l0 k c (pre ++ x :: suf) ((pre ++ x :: suf).length : Int) ((pre.length + 1 : Nat) : Int)) (suf.all fun r => decide ((r.length : Int) = c) && r.all cellR) := by simpa using h
    by_cases hx : (x.length : Int) = c
    · refine evPos hx (Ev.bind (impl_allIn_ev x (-2) 2 (hr x (by simp))) ?_)
      have ea : (x.all fun v => decide (-2 ≤ v ∧ v ≤ 2)) = x.all cellR := rfl
      rw [ea]
      by_cases ha : x.all cellR = true
      · refine evPos ha (evEq ?_ h')
        simp only [List.all_cons, decide_eq_true hx, ha, Bool.true_and]
      · have ha' : x.all cellR = false := by simpa using ha
        refine evNeg ha (evEq ?_ (Ev.now _))
        simp only [List.all_cons, ha', Bool.and_false, Bool.false_and]
    · refine evNeg hx (evEq ?_ (Ev.now _))
      simp only [List.all_cons, decide_eq_false hx, Bool.false_and]
theorem impl_IsMatrix_ev (m : List (List Int)) (c : Int) (hr : ∀ r ∈ m, r.length ≤ 1048576) : Ev (fun k => impl_IsMatrix.f k m c) (matB m c) := by
  unfold impl_IsMatrix.f
  refine evSome (impl_InRange_eq _ _ _) ?_
  by_cases h1 : 1 ≤ c ∧ c ≤ 6
  · refine evPos (by simpa using h1) (Ev.step (fun k => by rw [impl_IsMatrix.j0]) ?_)
    by_cases h2 : m.length ≤ 12
    · refine evNeg (by simp; omega) (evEq ?_ (impl_IsMatrix_l0 c m [] (by simpa using h2) hr))
      simp only [matB, decide_eq_true h1, decide_eq_true h2, Bool.true_and]
    · refine evPos (by simp; omega) (evEq ?_ (Ev.now _))
      simp only [matB, decide_eq_false h2, Bool.and_false, Bool.false_and]
  · refine evNeg (by simpa using h1) (Ev.step (fun k => by rw [impl_IsMatrix.j0]) (evPos rfl (evEq ?_ (Ev.now _))))
    simp only [matB, decide_eq_false h1, Bool.false_and]

theorem vec_inj {r s : List Int} (hl : r.length = s.length) (h : ∀ j, vec r j = vec s j) : r = s := by
  refine List.ext_getElem hl fun j h1 h2 => ?_
  have := h j
  rwa [vec_of_lt r j h1, vec_of_lt s j h2] at this
abbrev ofL (X : List (List Int)) : (Nat → Int) → Prop := fun z => ∃ r, r ∈ X ∧ z = vec r
theorem inX_ofL (X : List (List Int)) (y : Nat → Int) : Sp (inX (xvec X) X.length) y ↔ Sp (ofL X) y := by
  constructor
  · intro h
    refine h.mono ?_
    rintro z ⟨i, hi, rfl⟩
    exact ⟨X[i], List.getElem_mem _, xvec_mem X i hi⟩
  · intro h
    refine h.mono ?_
    rintro z ⟨r, hr, rfl⟩
    obtain ⟨i, hi, rfl⟩ := List.mem_iff_getElem.1 hr
    exact ⟨i, hi, (xvec_mem X i hi).symm⟩
theorem outE_rows (O : List (List Int)) (z : Nat → Int) : rowsOf (outE O) z ↔ ofL O z := by
  constructor
  · rintro ⟨a, ha, rfl⟩
    obtain ⟨r, hr, rfl⟩ := List.mem_map.1 ha
    exact ⟨r, hr, rfl⟩
  · rintro ⟨r, hr, rfl⟩
    exact ⟨(leadL r, vec r), List.mem_map.2 ⟨r, hr, rfl⟩, rfl⟩
/-- rows that vanish everywhere add nothing -/
theorem CInv.span {X : List (List Int)} {N c : Nat} {R O : List (List Int)} (h : CInv X N c R O) (hz : ∀ r ∈ R, ∀ j, vec r j = 0) (y : Nat → Int) : Sp (rowsOf (outE O)) y ↔ Sp (ofL X) y := by
  rw [← inX_ofL]
  constructor
  · intro hy
    refine hy.trans fun z hz' => h.inv.span2 z (.inr hz')
  · intro hy
    refine hy.trans ?_
    rintro z ⟨i, hi, rfl⟩
    refine (h.inv.span1 i hi).trans ?_
    rintro z (⟨r, hr, rfl⟩ | hz')
    · exact Sp.zero.of_eq (hz r hr)
    · exact .mem hz'
theorem CInv.zeros {X : List (List Int)} {N : Nat} {R O : List (List Int)} (h : CInv X N N R O) : ∀ r ∈ R, ∀ j, vec r j = 0 := fun r hr j => by
  by_cases hj : j < N
  · exact h.low r hr j hj
  · exact vec_out r j (by rw [h.lenr r hr]; omega)
theorem CInv.unique {X X' : List (List Int)} {N c c' : Nat} {R O R' O' : List (List Int)} (h : CInv X N c R O) (h' : CInv X' N c' R' O') (hz : ∀ r ∈ R, ∀ j, vec r j = 0) (hz' : ∀ r ∈ R', ∀ j, vec r j = 0) (hs : ∀ y, Sp (ofL X) y ↔ Sp (ofL X') y) : O = O' := by
  have e := ech_unique h.inv.ech h'.inv.ech h.inv.prim h'.inv.prim (fun y => by rw [h.span hz, h'.span hz', hs])
  have hl : O.length = O'.length := by simpa [outE] using congrArg List.length e
  refine List.ext_getElem hl fun i h1 h2 => ?_
  refine vec_inj (by rw [h.leno _ (List.getElem_mem _), h'.leno _ (List.getElem_mem _)]) fun j => ?_
  have e1 := congrArg (fun l => l[i]?) e
  simp [outE, h1, h2] at e1
  rw [e1.2]
theorem subset_len {α : Type} [DecidableEq α] : ∀ (l m : List α), l.Nodup → (∀ x ∈ l, x ∈ m) → l.length ≤ m.length
  | [], m, _, _ => by simp
  | x :: l, m, hn, h => by
    rw [List.nodup_cons] at hn
    have hx := h x (by simp)
    have ih := subset_len l (m.erase x) hn.2 (fun y hy => by
      have hne : y ≠ x := fun e => hn.1 (e ▸ hy)
      rw [List.mem_erase_of_ne hne]
      exact h y (by simp [hy]))
    rw [List.length_erase_of_mem hx] at ih
    have : 0 < m.length := List.length_pos_of_mem hx
    simp only [List.length_cons]
    omega
theorem same_members {α : Type} [DecidableEq α] {l m : List α} (hn : l.Nodup) (h : ∀ x ∈ l, x ∈ m) (hl : m.length ≤ l.length) : ∀ x ∈ m, x ∈ l := by
  intro x hx
  apply Classical.byContradiction
  intro hnx
  have := subset_len (x :: l) m (List.nodup_cons.2 ⟨hnx, hn⟩) (fun y hy => by
    rcases List.mem_cons.1 hy with rfl | hy
    · exact hx
    · exact h y hy)
  simp only [List.length_cons] at this
  omega
/-- a row is cleared by the pivots one behind the other -/
def goL : List (List Int) → List Int → List Int
  | [], x => x
  | r :: O, x => goL O (clearIf x r (leadL r))
theorem clearIf_clr (x r : List Int) (k : Nat) (h : x.length = r.length) (hr : vec r k ≠ 0) : ∃ g : Int, g ≠ 0 ∧ ∀ j, clr k (vec r) (vec x) j = g * vec (clearIf x r k) j := by
  unfold clearIf
  split
  · rename_i h0
    exact ⟨vec r k, hr, fun j => by simp only [clr]; rw [h0]; grind⟩
  · exact (clearL_tid x r k h).mul
theorem clearIf_sp (S : (Nat → Int) → Prop) (x r : List Int) (k : Nat) (h : x.length = r.length) (hr : vec r k ≠ 0) (hS : Sp S (vec r)) : Sp S (vec (clearIf x r k)) ↔ Sp S (vec x) := by
  obtain ⟨g, hg, e⟩ := clearIf_clr x r k h hr
  constructor
  · intro hy
    refine Sp.of_lin (vec r k) g (vec x k) hr hy hS fun j => ?_
    have := e j
    simp only [clr] at this
    grind
  · intro hx
    refine Sp.of_lin g (vec r k) (- vec x k) hg hx hS fun j => ?_
    rw [← e j]
    simp only [clr]
    grind
theorem clearIf_zero {x r : List Int} {k : Nat} (h : x.length = r.length) (hr : vec r k ≠ 0) (j : Nat) : vec (clearIf x r k) j = 0 ↔ vec x j * vec r k = vec r j * vec x k := by
  obtain ⟨g, hg, e⟩ := clearIf_clr x r k h hr
  have h1 := e j
  simp only [clr] at h1
  constructor
  · intro h0
    rw [h0] at h1
    simp at h1
    omega
  · intro h0
    have h2 : g * vec (clearIf x r k) j = 0 := by omega
    rcases Int.mul_eq_zero.1 h2 with h2 | h2
    · exact absurd h2 hg
    · exact h2
theorem goL_length {N : Nat} : ∀ (O : List (List Int)) (x : List Int), (∀ r ∈ O, r.length = N) → x.length = N → (goL O x).length = N
  | [], x, _, h => h
  | r :: O, x, hO, h => goL_length O _ (fun s hs => hO s (by simp [hs])) (by rw [clearIf_length _ _ _ (by rw [h, hO r (by simp)])]; exact h)
theorem goL_sp {N : Nat} (S : (Nat → Int) → Prop) : ∀ (O : List (List Int)) (x : List Int), (∀ r ∈ O, r.length = N ∧ vec r (leadL r) ≠ 0 ∧ Sp S (vec r)) → x.length = N → (Sp S (vec (goL O x)) ↔ Sp S (vec x))
  | [], x, _, _ => Iff.rfl
  | r :: O, x, hO, h => by
    have hr := hO r (by simp)
    have hl : x.length = r.length := by rw [h, hr.1]
    rw [show goL (r :: O) x = goL O (clearIf x r (leadL r)) from rfl, goL_sp S O _ (fun s hs => hO s (by simp [hs])) (by rw [clearIf_length _ _ _ hl]; exact h)]
    exact clearIf_sp S x r _ hl hr.2.1 hr.2.2
/-- what is cleared vanishes at the pivots -/
theorem goL_van {N : Nat} : ∀ (O : List (List Int)) (x : List Int), Ech (outE O) → (∀ r ∈ O, r.length = N) → x.length = N → ∀ c, ((∃ r ∈ O, leadL r = c) ∨ (vec x c = 0 ∧ ∀ r ∈ O, vec r c = 0)) → vec (goL O x) c = 0
  | [], x, _, _, _, c, h => by
    rcases h with ⟨r, hr, _⟩ | h
    · cases hr
    · exact h.1
  | r :: O, x, hE, hO, hx, c, h => by
    have hrl := hO r (by simp)
    have hl : x.length = r.length := by rw [hx, hrl]
    have hp : vec r (leadL r) ≠ 0 := by have := hE.pos (leadL r, vec r) (by simp [outE]); simp only at this; omega
    have hpw := List.pairwise_cons.1 hE.apart
    refine goL_van O _ hE.tail (fun s hs => hO s (by simp [hs])) (by rw [clearIf_length _ _ _ hl]; exact hx) c ?_
    by_cases hc : leadL r = c
    · right
      refine ⟨?_, fun s hs => ?_⟩
      · rw [clearIf_zero hl hp]; rw [hc]; grind
      · have := (hpw.1 (leadL s, vec s) (List.mem_map.2 ⟨s, hs, rfl⟩)).2.2
        rw [← hc]; exact this
    · rcases h with ⟨s, hs, e⟩ | ⟨h1, h2⟩
      · rcases List.mem_cons.1 hs with rfl | hs
        · exact absurd e hc
        · exact .inl ⟨s, hs, e⟩
      · right
        refine ⟨?_, fun s hs => h2 s (by simp [hs])⟩
        rw [clearIf_zero hl hp, h1, h2 r (by simp)]; simp
theorem goL_zero {X : List (List Int)} {N c : Nat} {R O : List (List Int)} (h : CInv X N c R O) (hz : ∀ r ∈ R, ∀ j, vec r j = 0) (x : List Int) (hx : x.length = N) : (∀ j, vec (goL O x) j = 0) ↔ Sp (ofL X) (vec x) := by
  have hO : ∀ r ∈ O, r.length = N ∧ vec r (leadL r) ≠ 0 ∧ Sp (rowsOf (outE O)) (vec r) := fun r hr => by
    have hm : (leadL r, vec r) ∈ outE O := List.mem_map.2 ⟨r, hr, rfl⟩
    refine ⟨h.leno r hr, ?_, .mem ⟨_, hm, rfl⟩⟩
    have := h.inv.ech.pos _ hm
    simp only at this
    omega
  rw [← h.span hz, ← goL_sp _ O x hO hx]
  constructor
  · intro h0; exact Sp.zero.of_eq h0
  · intro hs
    refine ech_zero h.inv.ech hs ?_
    intro a ha
    obtain ⟨r, hr, rfl⟩ := List.mem_map.1 ha
    exact goL_van O x h.inv.ech h.leno hx _ (.inl ⟨r, hr, rfl⟩)
/-- the rank tells whether a row lies in the span -/
theorem rank_span {X : List (List Int)} {x : List Int} {N c c' : Nat} {R O R' O' : List (List Int)} (h : CInv X N c R O) (h' : CInv (X ++ [x]) N c' R' O') (hz : ∀ r ∈ R, ∀ j, vec r j = 0) (hz' : ∀ r ∈ R', ∀ j, vec r j = 0) (hx : x.length = N) : O.length = O'.length ↔ Sp (ofL X) (vec x) := by
  have sub : ∀ y, Sp (ofL X) y → Sp (ofL (X ++ [x])) y := fun y hy => hy.mono (by rintro z ⟨r, hr, rfl⟩; exact ⟨r, by simp [hr], rfl⟩)
  constructor
  · intro hl
    have hsub : ∀ c ∈ (outE O).map (·.1), c ∈ (outE O').map (·.1) := by
      intro c hc
      rw [ech_leads h.inv.ech] at hc
      rw [ech_leads h'.inv.ech]
      obtain ⟨y, hy, hr⟩ := hc
      exact ⟨y, (h'.span hz' y).2 (sub y ((h.span hz y).1 hy)), hr⟩
    have hback := same_members h.inv.ech.nodup hsub (by simp [outE]; omega)
    rw [← goL_zero h hz x hx]
    have hO : ∀ r ∈ O, r.length = N ∧ vec r (leadL r) ≠ 0 ∧ Sp (rowsOf (outE O')) (vec r) := fun r hr => by
      have hm : (leadL r, vec r) ∈ outE O := List.mem_map.2 ⟨r, hr, rfl⟩
      refine ⟨h.leno r hr, ?_, ?_⟩
      · have := h.inv.ech.pos _ hm
        simp only at this
        omega
      · exact (h'.span hz' _).2 (sub _ ((h.span hz _).1 (.mem ⟨_, hm, rfl⟩)))
    refine ech_zero h'.inv.ech ((goL_sp _ O x hO hx).2 ((h'.span hz' _).2 (.mem ⟨x, by simp, rfl⟩))) ?_
    intro a ha
    have hm := hback a.1 (List.mem_map.2 ⟨a, ha, rfl⟩)
    obtain ⟨b, hb, e⟩ := List.mem_map.1 hm
    obtain ⟨r, hr, rfl⟩ := List.mem_map.1 hb
    exact goL_van O x h.inv.ech h.leno hx _ (.inl ⟨r, hr, e⟩)
  · intro hs
    have e := ech_pivots h.inv.ech h'.inv.ech (fun y => by
      rw [h.span hz, h'.span hz']
      constructor
      · exact sub y
      · intro hy
        refine hy.trans ?_
        rintro z ⟨r, hr, rfl⟩
        rcases List.mem_append.1 hr with hr | hr
        · exact .mem ⟨r, hr, rfl⟩
        · rw [List.mem_singleton.1 hr]; exact hs)
    simpa [outE] using congrArg List.length e
/-- the cells of a row while it is cleared -/
theorem goL_bound (D : Int) (hD : D ≠ 0) (x0 : Nat → Int) (M : Nat) : ∀ (O : List (List Int)) (x : List Int) (z : Nat → Int) (A b : Int) (K : Nat), Ech (outE O) → (∀ r ∈ O, r.length = x.length ∧ ∃ q : Int, D = q * vec r (leadL r) ∧ ∀ j, (x0 (leadL r) * (q * vec r j)).natAbs ≤ M) →
    A ≠ 0 → (∀ j, A * vec x j = b * z j) → (∀ r ∈ O, z (leadL r) = D * x0 (leadL r)) → (∀ j, (z j).natAbs ≤ K) → (∀ j, (vec x j).natAbs ≤ K) →
    ∀ O1 O2, O = O1 ++ O2 → ∀ j, (vec (goL O1 x) j).natAbs ≤ K + O1.length * M
  | [], x, z, A, b, K, _, _, _, _, _, _, hxK, O1, O2, e, j => by
    obtain ⟨rfl, _⟩ := List.append_eq_nil_iff.1 e.symm
    have := hxK j
    simp [goL]; omega
  | r :: O, x, z, A, b, K, hE, hO, hA, hxz, hzD, hzK, hxK, O1, O2, e, j => by
    cases O1 with
    | nil =>
      have := hxK j
      simp [goL]; omega
    | cons s O1 =>
      injection e with e1 e2
      subst e1
      obtain ⟨hl, q, hq, hqM⟩ := hO r (by simp)
      have hp : vec r (leadL r) ≠ 0 := by have := hE.pos (leadL r, vec r) (by simp [outE]); simp only at this; omega
      have hpw := List.pairwise_cons.1 hE.apart
      have hzr := hzD r (by simp)
      obtain ⟨z', hz'⟩ : ∃ z' : Nat → Int, z' = fun j => z j - x0 (leadL r) * (q * vec r j) := ⟨_, rfl⟩
      have hz'K : ∀ j, (z' j).natAbs ≤ K + M := fun j => by
        have h1 := hzK j
        have h2 := hqM j
        rw [hz']
        simp only
        omega
      obtain ⟨g, hg, hcl⟩ := clearIf_clr x r (leadL r) hl.symm hp
      have hA' : A * g ≠ 0 := fun h0 => by
        rcases Int.mul_eq_zero.1 h0 with h0 | h0
        · exact hA h0
        · exact hg h0
      have hpar : ∀ j, A * g * vec (clearIf x r (leadL r)) j = b * vec r (leadL r) * z' j := fun j => by
        have h1 := hcl j
        simp only [clr] at h1
        have h2 := hxz j
        have h3 := hxz (leadL r)
        rw [hzr, hq] at h3
        rw [hz']
        simp only
        grind
      have hxK' : ∀ j, (vec (clearIf x r (leadL r)) j).natAbs ≤ K + M := by
        intro j
        unfold clearIf
        split
        · have := hxK j; omega
        · rename_i hne
          have ht := clearL_tid x r (leadL r) hl.symm
          rcases ht.prim with h0 | hpr
          · rw [h0 j]; simp
          · have hpar' := hpar
            unfold clearIf at hpar'
            rw [if_neg hne] at hpar'
            obtain ⟨w, hw, hw2⟩ := prim_le hpr (A * g) (b * vec r (leadL r)) hA' hpar'
            rcases hw2 j with h1 | h1
            · have h2 := hz'K j
              rw [h1, Int.natAbs_mul] at h2
              have : 1 * (vec (clearL x r (leadL r)) j).natAbs ≤ w.natAbs * (vec (clearL x r (leadL r)) j).natAbs := Nat.mul_le_mul (by omega) (Nat.le_refl _)
              omega
            · rw [h1]; simp
      have ih := goL_bound D hD x0 M O (clearIf x r (leadL r)) z' (A * g) (b * vec r (leadL r)) (K + M) hE.tail (fun s hs => by
        have h1 := hO s (by simp [hs])
        exact ⟨by rw [clearIf_length _ _ _ hl.symm]; exact h1.1, h1.2⟩) hA' hpar (fun s hs => by
        have h1 := hzD s (by simp [hs])
        have h2 := (hpw.1 (leadL s, vec s) (List.mem_map.2 ⟨s, hs, rfl⟩)).2.1
        simp only at h2
        rw [hz']
        simp only
        rw [h1, h2]; simp) hz'K hxK' O1 O2 e2 j
      rw [show goL (r :: O1) x = goL O1 (clearIf x r (leadL r)) from rfl, List.length_cons, Nat.add_mul]
      omega

def spanV (m : List (List Int)) (row : List Int) : Bool := matB m (row.length : Int) && matB [row] (row.length : Int) && decide ((redI m row.length).length = (redI (m ++ [row]) row.length).length)
theorem matB_rows {m : List (List Int)} {N : Nat} (h : matB m (N : Int) = true) : (1 ≤ N ∧ N ≤ 6) ∧ m.length ≤ 12 ∧ (∀ r ∈ m, r.length = N) ∧ ∀ r ∈ m, ∀ j, (vec r j).natAbs ≤ 2 := by
  simp only [matB, Bool.and_eq_true, List.all_eq_true, decide_eq_true_eq] at h
  refine ⟨by omega, h.2.1, fun r hr => by have := (h.2.2 r hr).1; omega, fun r hr j => ?_⟩
  rcases vec_mem r j with h0 | h0
  · rw [h0]; simp
  · have := (h.2.2 r hr).2 _ h0
    simp only [cellR, decide_eq_true_eq] at this
    omega
theorem matB_cell {m : List (List Int)} {N : Nat} (h : matB m (N : Int) = true) : ∀ r ∈ m, ∀ j, (vec r j).natAbs ≤ cellB 6 j := fun r hr j => by
  have h1 := (matB_rows h).2.2.2 r hr j
  unfold cellB
  split <;> omega

abbrev ST := Option Addr × Nat × Nat
def sv (t : ST) : Value := .slice t.1 t.2.1 t.2.2
def ks : Kd ST := Kd.scalar sv (fun _ => rfl)
def inRd (w : World) (t : ST) (r : List Int) : Prop := t.2.1 = r.length ∧ r.length ≤ t.2.2 ∧ Kd.C (Kd.int .i64) w t.1 r.length r
theorem inRd.below {w w' : World} {t : ST} {r : List Int} (h : inRd w t r) (k : Below w.heap.size w w') : inRd w' t r := ⟨h.1, h.2.1, Kd.C_below h.2.2 k⟩
theorem rows_ks {w : World} {A : Option Addr} {l : List (List Int)} (h : Kd.C (Kd.slice 3 (Kd.int .i64)) w A l.length l) : ∃ T : List ST, T.length = l.length ∧ ks.C w A l.length T ∧ ∀ (j : Nat) (t : ST) (r : List Int), T[j]? = some t → l[j]? = some r → inRd w t r := by
  obtain ⟨h1, h2, h3⟩ := h
  by_cases h0 : 0 < l.length
  · obtain ⟨ad, rfl, hc⟩ := h3 h0
    obtain ⟨T, hT, hP⟩ := list_of (P := fun j (t : ST) => ∀ r, l[j]? = some r → inRd w t r ∧ w.cell? (ad.add j) = some (sv t)) l.length (fun j hj => by
      obtain ⟨c, _, ⟨A1, c1, rfl, hl, hC⟩, hcell⟩ := hc j l[j] (List.getElem?_eq_getElem hj)
      refine ⟨(A1, l[j].length, c1), fun r hr => ?_⟩
      obtain rfl : l[j] = r := by rw [List.getElem?_eq_getElem hj] at hr; exact Option.some.inj hr
      refine ⟨⟨rfl, hl, hC⟩, ?_⟩
      have := hcell 0 _ rfl
      rwa [show j * (Kd.slice 3 (Kd.int .i64)).sz + 0 = j by show j * 1 + 0 = j; omega] at this)
    refine ⟨T, hT, ⟨hT, h2, fun _ => ⟨ad, rfl, fun j t ht => ?_⟩⟩, fun j t r ht hr => (hP j t ht r hr).1⟩
    have hj := (List.getElem?_eq_some_iff.1 ht).1
    have hcell := (hP j t ht l[j] (List.getElem?_eq_getElem (by omega))).2
    refine ⟨[sv t], rfl, rfl, fun i u hu => ?_⟩
    have hi : i = 0 := by
      have := (List.getElem?_eq_some_iff.1 hu).1
      simp at this
      omega
    subst hi
    have hu' : sv t = u := by simpa using hu
    subst hu'
    rwa [show j * ks.sz + 0 = j by show j * 1 + 0 = j; omega]
  · refine ⟨[], by simp; omega, ⟨by simp; omega, h2, fun h => absurd h h0⟩, fun j t r ht _ => by simp at ht⟩
theorem ks_rows {w : World} {A : Option Addr} {T : List ST} {l : List (List Int)} (h : ks.C w A T.length T) (hl : T.length = l.length) (hP : ∀ (j : Nat) (t : ST) (r : List Int), T[j]? = some t → l[j]? = some r → inRd w t r) : Kd.C (Kd.slice 3 (Kd.int .i64)) w A l.length l := by
  obtain ⟨h1, h2, h3⟩ := h
  refine ⟨rfl, by omega, fun h0 => ?_⟩
  obtain ⟨ad, rfl, hc⟩ := h3 (by omega)
  refine ⟨ad, rfl, fun j r hr => ?_⟩
  have hj := (List.getElem?_eq_some_iff.1 hr).1
  have ht : T[j]? = some (T[j]'(by omega)) := List.getElem?_eq_getElem (by omega)
  obtain ⟨c, hc1, hc2, hc3⟩ := hc j _ ht
  have hi := hP j _ r ht hr
  have hc2' : c = [sv (T[j]'(by omega))] := hc2
  refine ⟨[sv (T[j]'(by omega))], rfl, ⟨(T[j]'(by omega)).1, (T[j]'(by omega)).2.2, ?_, hi.2.1, hi.2.2⟩, fun i u hu => ?_⟩
  · unfold sv; rw [hi.1]
  · exact hc3 i u (by rw [hc2']; exact hu)
set_option maxHeartbeats 2000000 in
set_option maxRecDepth 100000 in
theorem clone_rows_c (A : Option Addr) (c : Nat) (T : List ST) (w : World) (h : ks.C w A T.length T) (hl : T.length ≤ 1048576) :
    Calls Try.prog 157 #[.slice A T.length c] w fun e w' => ∃ v, e = .returned v ∧ ks.R 25 w' w.heap.size (fun _ => True) v T ∧ Below w.heap.size w w' := by
  cases A with
  | none =>
    have hT : T = [] := by
      cases T with
      | nil => rfl
      | cons x xs =>
        obtain ⟨_, _, h3⟩ := h
        obtain ⟨ad, ha, _⟩ := h3 (by simp)
        cases ha
    subst hT
    clear h hl
    have EQ_ : ∀ W : World, (binOp .eql 47 (.slice none 0 c) (.slice none 0 0)).run Try.prog W = .ok (.bool true) W := fun W => by rw [run_eql_slice_nil W 47 _ _ _ _ Try.underlying47]; rfl
    go_enter Try.func157, Try.ntmps157
    go_wp2
    go_ret
    exact ⟨_, rfl, Kd.R_nil _ _ _ _ _, by repeat (first | (with_reducible first | exact Below.refl _ _ | apply below_alloc | apply pw_below_drewN | apply below_drew1) | exact Below.refl _ _)⟩
  | some ad =>
    have EQ_ : ∀ W : World, (binOp .eql 47 (.slice (some ad) T.length c) (.slice none 0 0)).run Try.prog W = .ok (.bool false) W := fun W => by rw [run_eql_slice_nil W 47 _ _ _ _ Try.underlying47]; rfl
    have hinf : (Try.prog.info? 25).map (fun i => (i.zero, i.size, i.bytes)) = some (some (.slice none 0 0), 1, 24) := by kernel_rfl
    have HINF := Aside0.mk hinf
    have HC := Aside0.mk h
    have HL := Aside0.mk hl
    clear hinf h hl
    go_enter Try.func157, Try.ntmps157
    go_wp2_with ((with_reducible refine gate_builtin (b := .append) (xs := #[.tmp 5, .tmp 6]) rfl ?_); at_builtin; refine Kd.R_append_rows ks (Rr := fun t cs => cs = [sv t]) (w0 := w) w.heap.size rfl (.tmp 5) (.tmp 6) 47 25 (.slice none 0 0) 24 rfl Try.underlying47 HINF.out rfl (by decide) (by omega) _ [] T (some ad) T.length c (fun _ => True) (fun _ => False) rfl rfl ?aO ?aR (fun _ _ h => h) (fun _ h => h.elim) ?aF ?aB ?aS ?aL ?_; (case aF => exact fun _ _ => trivial); (case aO => exact Kd.R_of_own (own_lit_of _ w.heap.size 25 [] (Nat.le_refl _) (by simp)) (fun _ _ => trivial)); (case aR => exact ReadsRow.imp_ HC.out (by repeat (first | (with_reducible first | exact Below.refl _ _ | apply below_alloc | apply pw_below_drewN | apply below_drew1) | exact Below.refl _ _)) (fun _ _ h => h)); (case aB => repeat (first | (with_reducible first | exact Below.refl _ _ | apply below_alloc | apply pw_below_drewN | apply below_drew1) | exact Below.refl _ _)); (case aS => exact Below.size (w := w) (B := w.heap.size) (by repeat (first | (with_reducible first | exact Below.refl _ _ | apply below_alloc | apply pw_below_drewN | apply below_drew1) | exact Below.refl _ _))); (case aL => have := HL.out; simp only [List.length_nil]; omega); intro v1 w5 hO5 hB5 hg5 hat5)
    go_ret
    exact ⟨_, rfl, hO5, hB5⟩
theorem one_row' {w : World} {g : Nat} {A : Option Addr} {c : Nat} {l : List Int} (h : w.heap[g]? = some (.cells #[.slice A l.length c] 25 (0, 0))) (hc : l.length ≤ c) (hr : Kd.C (Kd.int .i64) w A l.length l) : Kd.C (Kd.slice 3 (Kd.int .i64)) w (some ⟨g, 0, none⟩) 1 [l] := by
  refine ⟨rfl, by omega, fun _ => ⟨⟨g, 0, none⟩, rfl, fun j p hj => ?_⟩⟩
  obtain ⟨hj0, hp⟩ : j = 0 ∧ p = l := by
    cases j with
    | zero => exact ⟨rfl, by simpa using hj.symm⟩
    | succ j => simp at hj
  subst hj0
  subst hp
  refine ⟨[.slice A p.length c], rfl, ⟨A, c, rfl, hc, hr⟩, fun i u hu => ?_⟩
  have hi : i = 0 := by
    have := (List.getElem?_eq_some_iff.1 hu).1
    simp at this
    omega
  subst hi
  have hu' : Value.slice A p.length c = u := by simpa using hu
  subst hu'
  have := blk_cell h 0
  simpa [Addr.add] using this
set_option maxHeartbeats 4000000 in
set_option maxRecDepth 100000 in
theorem impl_IsInSpan_c (A0 : Option Addr) (c0 : Nat) (l0 : List (List Int)) (A1 : Option Addr) (c1 : Nat) (l1 : List Int) (w : World) (hr0 : Kd.C (Kd.slice 3 (Kd.int .i64)) w A0 l0.length l0) (hc0 : l0.length ≤ c0) (hr1 : Kd.C (Kd.int .i64) w A1 l1.length l1) (hc1 : l1.length ≤ c1) (hl0 : l0.length ≤ 1048576) (hl1 : l1.length ≤ 1048576) (hll : ∀ r ∈ l0, r.length ≤ 1048576) :
    Calls Try.prog 106 #[.slice A0 l0.length c0, .slice A1 l1.length c1] w fun e w' => e = .returned (.bool (spanV l0 l1)) ∧ Below w.heap.size w w' := by
  obtain ⟨k1, hk1⟩ := (impl_IsMatrix_ev l0 (l1.length : Int) hll).rounds
  obtain ⟨k2, hk2⟩ := (impl_IsMatrix_ev [l1] (l1.length : Int) (fun r hr => by rw [List.mem_singleton.1 hr]; exact hl1)).rounds
  have HK2 := Aside0.mk hk2
  have HM1 := Aside0.mk (impl_IsMatrix.calls k1 A0 c0 l0 (l1.length : Int) _ w hr0 hc0 hk1)
  have HR0 := Aside0.mk hr0
  have HC0 := Aside0.mk hc0
  have HR1 := Aside0.mk hr1
  have HC1 := Aside0.mk hc1
  have HL0 := Aside0.mk hl0
  have HL1 := Aside0.mk hl1
  obtain ⟨res, hres⟩ : ∃ res, res = spanV l0 l1 := ⟨_, rfl⟩
  rw [← hres]
  have HRES := Aside0.mk hres
  clear hk1 hk2 hr0 hc0 hr1 hc1 hl0 hl1 hll hres
  by_cases hb1 : matB l0 (l1.length : Int) = true
  · rw [hb1] at HM1
    by_cases hb2 : matB [l1] (l1.length : Int) = true
    · rw [hb2] at HK2
      have M1 := matB_rows hb1
      have M2 := matB_rows hb2
      have hX1 := matB_cell hb1
      have hX2 : ∀ r ∈ l0 ++ [l1], ∀ j, (vec r j).natAbs ≤ cellB 6 j := fun r hr j => by
        rcases List.mem_append.1 hr with hr | hr
        · exact hX1 r hr j
        · exact matB_cell hb2 r hr j
      have hN2 : ∀ r ∈ l0 ++ [l1], r.length = l1.length := fun r hr => by
        rcases List.mem_append.1 hr with hr | hr
        · exact M1.2.2.1 r hr
        · rw [List.mem_singleton.1 hr]
      have HS := Aside0.mk (show res = decide ((redI l0 l1.length).length = (redI (l0 ++ [l1]) l1.length).length) by rw [HRES.out]; unfold spanV; rw [hb1, hb2]; rfl)
      have HMM := Aside0.mk M1
      have HX2 := Aside0.mk (And.intro hX2 hN2)
      have HX1 := Aside0.mk hX1
      clear hb1 hb2 M1 M2 hX1 hX2 hN2
      go_enter Try.func106, Try.ntmps106
      go_wp2_with fail
      go_at_call 155; refine HM1.out.mono ?_; rintro e w1 ⟨rfl, hd⟩
      have HB := Aside0.mk hd.below
      clear hd
      go_wp2_with fail
      go_at_call 155; refine (impl_IsMatrix.calls k2 (some ⟨_, 0, none⟩) 1 [l1] (l1.length : Int) true _ ?hr (by simp) HK2.out).mono ?_; (case hr => exact one_row' (by repeat (with_reducible first | apply blk_drew | apply blk_drewN | exact blk_new _ _)) HC1.out (Kd.C_below HR1.out (by repeat (first | (with_reducible first | exact HB.out | apply below_alloc | apply pw_below_drewN | apply below_drew1) | exact HB.out)))); rintro e w2 ⟨rfl, hd⟩
      have HB2 := Aside0.mk (below_step (w := w) (by repeat (first | (with_reducible first | exact HB.out | apply below_alloc | apply pw_below_drewN | apply below_drew1) | exact HB.out)) hd.below)
      clear hd
      go_wp2_with fail
      have hred := impl_reduceAny_c A0 c0 l0 l1.length l1.length 6 w2 (Kd.C_below HR0.out HB2.out) HC0.out HL0.out HMM.out.2.2.1 HMM.out.1.1 (by have := HMM.out.1; omega) (by omega) HX1.out (Nat.le_refl _)
      go_at_call 156; refine hred.mono ?_; rintro e w3 ⟨v1, rfl, hR1, hb3⟩
      obtain ⟨Aq, cq, rfl⟩ := Kd.R_slice hR1
      have HB3 := Aside0.mk (below_step HB2.out hb3)
      obtain ⟨T, hT, hks, hP⟩ := rows_ks (Kd.C_below HR0.out HB3.out)
      have HP := Aside0.mk hP
      have HT := Aside0.mk hT
      rw [← hT] at hks
      have hclone := clone_rows_c A0 c0 T w3 hks (by have := HL0.out; omega)
      rw [hT] at hclone
      have hinf : (Try.prog.info? 25).map (fun i => (i.zero, i.size, i.bytes)) = some (some (.slice none 0 0), 1, 24) := by kernel_rfl
      have HINF := Aside0.mk hinf
      have HCLN := Aside0.mk hclone
      clear hred hR1 hb3 hT hks hP hclone hinf
      go_wp2_with fail
      go_at_call 157; refine HCLN.out.mono ?_; rintro e w4 ⟨v2, rfl, hR2, hb4⟩
      have HR2 := Aside0.mk hR2
      have HB4 := Aside0.mk hb4
      clear hR2 hb4
      go_wp2_with ((with_reducible refine gate_builtin (b := .append) (xs := #[.tmp 24, .tmp 26]) rfl ?_); at_builtin; refine Kd.R_append ks (w0 := w3) w3.heap.size rfl (.tmp 24) (.tmp 26) 47 25 (.slice none 0 0) 24 rfl Try.underlying47 HINF.out rfl (by decide) (by omega) v2 T (A1, l1.length, c1) [.slice A1 l1.length c1] (fun _ => True) (fun _ => False) rfl rfl rfl (fun _ h => h.elim) ?aF ?aO ?aB ?aS ?aL ?_; (case aF => exact fun _ _ => trivial); (case aO => exact HR2.out); (case aB => exact HB4.out); (case aS => exact HB4.out.size); (case aL => have := HT.out; have := HL0.out; omega); intro v3 w5 hO5 hB5 hg5 hat5)
      obtain ⟨A3, c3, hv3⟩ := Kd.R_slice hO5
      subst hv3
      have hrd := Kd.R_reads' hO5
      have hlen : (T ++ [((A1, l1.length, c1) : ST)]).length = (l0 ++ [l1]).length := by simp [HT.out]
      have hks5 := ks_rows (l := l0 ++ [l1]) hrd.2.2 hlen (fun j t r ht hr => by
        by_cases hj : j < T.length
        · rw [List.getElem?_append_left hj] at ht
          rw [List.getElem?_append_left (by have := HT.out; omega)] at hr
          exact (HP.out j t r ht hr).below hB5
        · have hj2 := (List.getElem?_eq_some_iff.1 ht).1
          simp at hj2
          have hjT : j = T.length := by omega
          subst hjT
          rw [List.getElem?_append_right (by omega), Nat.sub_self] at ht
          rw [List.getElem?_append_right (by have := HT.out; omega), show T.length - l0.length = 0 by have := HT.out; omega] at hr
          have ht' : (A1, l1.length, c1) = t := by simpa using ht
          have hr' : l1 = r := by simpa using hr
          subst ht'
          subst hr'
          exact ⟨rfl, HC1.out, Kd.C_below HR1.out (below_step HB3.out hB5)⟩)
      have hred2 := impl_reduceAny_c A3 c3 (l0 ++ [l1]) l1.length l1.length 6 w5 hks5 (by have := hrd.2.1; omega) (by have := HMM.out.2.1; simp; omega) HX2.out.2 HMM.out.1.1 (by have := HMM.out.1; omega) (by omega) HX2.out.1 (Nat.le_refl _)
      rw [← hlen] at hred2
      have HB5 := Aside0.mk (below_step HB3.out hB5)
      clear hO5 hB5 hg5 hat5 hrd hlen hks5
      go_at_call 156; refine hred2.mono ?_; rintro e w6 ⟨v4, rfl, hR4, hb6⟩
      obtain ⟨A4, c4, rfl⟩ := Kd.R_slice hR4
      have HB6 := Aside0.mk (below_step HB5.out hb6)
      clear hred2 hR4 hb6
      go_wp2_with fail
      go_ret
      refine ⟨?_, by repeat (first | (with_reducible first | exact HB6.out | apply below_alloc | apply pw_below_drewN | apply below_drew1) | exact HB6.out)⟩
      rw [HS.out]
      congr 2
      by_cases hq : (redI l0 l1.length).length = (redI (l0 ++ [l1]) l1.length).length
      · rw [decide_eq_true hq, hq]; simp
      · rw [decide_eq_false hq]; simp; omega
    · have hb2' : matB [l1] (l1.length : Int) = false := by simpa using hb2
      rw [hb2'] at HK2
      have HS := Aside0.mk (show res = false by rw [HRES.out]; unfold spanV; rw [hb2']; simp)
      clear hb1 hb2 hb2'
      go_enter Try.func106, Try.ntmps106
      go_wp2_with fail
      go_at_call 155; refine HM1.out.mono ?_; rintro e w1 ⟨rfl, hd⟩
      have HB := Aside0.mk hd.below
      clear hd
      go_wp2_with fail
      go_at_call 155; refine (impl_IsMatrix.calls k2 (some ⟨_, 0, none⟩) 1 [l1] (l1.length : Int) false _ ?hr (by simp) HK2.out).mono ?_; (case hr => exact one_row' (by repeat (with_reducible first | apply blk_drew | apply blk_drewN | exact blk_new _ _)) HC1.out (Kd.C_below HR1.out (by repeat (first | (with_reducible first | exact HB.out | apply below_alloc | apply pw_below_drewN | apply below_drew1) | exact HB.out)))); rintro e w2 ⟨rfl, hd⟩
      have HB2 := Aside0.mk (below_step (w := w) (by repeat (first | (with_reducible first | exact HB.out | apply below_alloc | apply pw_below_drewN | apply below_drew1) | exact HB.out)) hd.below)
      clear hd
      go_wp2_with fail
      go_ret
      exact ⟨by rw [HS.out]; rfl, by repeat (first | (with_reducible first | exact HB2.out | apply below_alloc | apply pw_below_drewN | apply below_drew1) | exact HB2.out)⟩
  · have hb1' : matB l0 (l1.length : Int) = false := by simpa using hb1
    rw [hb1'] at HM1
    have HS := Aside0.mk (show res = false by rw [HRES.out]; unfold spanV; rw [hb1']; simp)
    clear hb1 hb1'
    go_enter Try.func106, Try.ntmps106
    go_wp2_with fail
    go_at_call 155; refine HM1.out.mono ?_; rintro e w1 ⟨rfl, hd⟩
    have HB := Aside0.mk hd.below
    clear hd
    go_wp2_with fail
    go_ret
    exact ⟨by rw [HS.out]; rfl, by repeat (first | (with_reducible first | exact HB.out | apply below_alloc | apply pw_below_drewN | apply below_drew1) | exact HB.out)⟩

def impl_IsInSpan.f (l0 : List (List Int)) (l1 : List Int) : Option Bool := if l0.length ≤ 1048576 ∧ l1.length ≤ 1048576 ∧ (∀ r ∈ l0, r.length ≤ 1048576) then some (spanV l0 l1) else none
theorem impl_IsInSpan.calls (A0 : Option Addr) (c0 : Nat) (l0 : List (List Int)) (A1 : Option Addr) (c1 : Nat) (l1 : List Int) (r : Bool) (w : World) (hr0 : Kd.C (Kd.slice 3 (Kd.int .i64)) w A0 l0.length l0) (hc0 : l0.length ≤ c0) (hr1 : Kd.C (Kd.int .i64) w A1 l1.length l1) (hc1 : l1.length ≤ c1) (h : impl_IsInSpan.f l0 l1 = some r) :
    Calls Try.prog 106 #[.slice A0 l0.length c0, .slice A1 l1.length c1] w fun e w' => e = .returned (.bool r) ∧ Below w.heap.size w w' := by
  unfold impl_IsInSpan.f at h
  split at h
  · rename_i hh
    obtain rfl := Option.some.inj h
    exact impl_IsInSpan_c A0 c0 l0 A1 c1 l1 w hr0 hc0 hr1 hc1 hh.1 hh.2.1 hh.2.2
  · cases h

end Go.Proofs.Ytkimiekgghfoiaa.PFnExactIsChecked
