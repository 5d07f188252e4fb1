/- What the functions that the law FnLiars uses compute, and that the program computes it: walks written by a program of this session. -/
import Derived.Test.YtiipcophnnfnoaaPFnLiarsx0
namespace Go.Proofs.Ytiipcophnnfnoaa.PFnLiars
open Go.RowKit Go.Proofs.YtiipcophnnfnoaaW.PrintWords Go.Proofs.YtiipcophnnfnoaaW.PrintLast Go.Proofs.YtiipcophnnfnoaaW.PrintMore
attribute [local go_sem] max2_int min2_int max_two min_two max_three min_three max_four min_four   -- for this text's walks alone
set_option linter.unusedVariables false
set_option linter.unusedSimpArgs false

/-! ### impl_lead: function 159 -/
open Go.Proofs.Ytiipcophnnfnoaa.Base
/-- A row that a call made: its blocks are those between the two worlds. -/
theorem S_fresh {α : Type} {d : Kd α} {e : Nat} {w w2 W w3 : World} {v : Value} {xs : List α} (h0 : Below w.heap.size w w2) (h1 : Below w2.heap.size w2 W) (ho : Kd.S d e w3 W.heap.size (fun _ => True) v xs) (hb : Below W.heap.size W w3) : Kd.S d e w3 w.heap.size (fun k => w2.heap.size ≤ k ∧ k < w3.heap.size) v xs :=
 Kd.S_lower (Kd.S_mono (Kd.S_bound ho) (fun k hk => ⟨Nat.le_trans h1.size hk.2.1, hk.2.2.1⟩)) (Nat.le_trans h0.size h1.size)
theorem R_fresh {α : Type} {d : Kd α} {e : Nat} {w w2 W w3 : World} {v : Value} {xs : List α} (h0 : Below w.heap.size w w2) (h1 : Below w2.heap.size w2 W) (ho : Kd.R d e w3 W.heap.size (fun _ => True) v xs) (hb : Below W.heap.size W w3) : Kd.R d e w3 w.heap.size (fun k => w2.heap.size ≤ k ∧ k < w3.heap.size) v xs :=
 Kd.R_lower (Kd.R_mono (Kd.R_bound ho) (fun k hk => ⟨Nat.le_trans h1.size hk.2.1, hk.2.2.1⟩)) (Nat.le_trans h0.size h1.size)
/-- A flat row that was written and comes back: its blocks are the same. -/
theorem R_tight' {α β : Type} {d : Kd α} {d' : Kd β} {e e' : Nat} {w w' : World} {b b' : Nat} {ok ok' : Nat → Prop} {v : Value} {xs : List α} {ys : List β} (hE : d.E = []) (h : Kd.R d e w b ok v xs) (h' : Kd.R d' e' w' b' ok' v ys) : Kd.R d e w b ok' v xs :=
 Kd.R_mono (Kd.R_tight hE h) (fun k hk => h'.1 k hk.symm)
theorem calls_cast {P : Program} {f : Nat} {args args' : Array Value} {w : World} {Q : Ending → World → Prop} (h : args = args') (hc : Calls P f args w Q) : Calls P f args' w Q := h ▸ hc
/-- The first place (counted from n) at which p holds, or -1. -/
def firstP {α : Type} (p : α → Bool) : List α → Nat → Int
 | [], _ => -1
 | x :: xs, n => if p x = true then (n : Int) else firstP p xs (n + 1)
theorem firstP_any {α : Type} (p : α → Bool) : ∀ (l : List α) (n : Nat), decide (0 ≤ firstP p l n) = l.any p
 | [], _ => by simp [firstP]
 | x :: xs, n => by
  rw [firstP, List.any_cons]
  cases hp : p x with
  | true => simp
  | false => simpa [hp] using firstP_any p xs (n + 1)
def lapl (F : List Nat → Int) (u : Nat → Int) : List Nat → Int
 | [] => 0
 | i :: is => u i * F is - lapl (fun t => F (i :: t)) u is
def dt : List (Nat → Int) → List Nat → Int
 | [], _ => 1
 | u :: us, is => lapl (dt us) u is
theorem lapl_lin (a b : Int) (u : Nat → Int) : ∀ (is : List Nat) (F G : List Nat → Int), lapl (fun t => a * F t + b * G t) u is = a * lapl F u is + b * lapl G u is
 | [], F, G => by simp [lapl]
 | i :: is, F, G => by
  simp only [lapl]
  rw [lapl_lin a b u is (fun t => F (i :: t)) (fun t => G (i :: t))]
  grind
theorem lapl_zero (u : Nat → Int) : ∀ (is : List Nat), lapl (fun _ => 0) u is = 0
 | [] => rfl
 | i :: is => by simp only [lapl]; rw [lapl_zero u is]; simp
theorem lapl_neg (F : List Nat → Int) (u : Nat → Int) (is : List Nat) : lapl (fun t => - F t) u is = - lapl F u is := by
 have h := lapl_lin (-1) 0 u is F F
 have e : (fun t => -1 * F t + 0 * F t) = (fun t => - F t) := by funext t; omega
 rw [e] at h
 omega
theorem lapl_swap (u v : Nat → Int) : ∀ (is : List Nat) (F : List Nat → Int), lapl (lapl F v) u is = - lapl (lapl F u) v is
 | [], F => by simp [lapl]
 | i :: is, F => by
  have h1 : lapl (fun t => lapl F v (i :: t)) u is = v i * lapl F u is + (-1) * lapl (lapl (fun s => F (i :: s)) v) u is := by
   rw [← lapl_lin]; congr 1; funext t; simp only [lapl]; omega
  have h2 : lapl (fun t => lapl F u (i :: t)) v is = u i * lapl F v is + (-1) * lapl (lapl (fun s => F (i :: s)) u) v is := by
   rw [← lapl_lin]; congr 1; funext t; simp only [lapl]; omega
  have ih := lapl_swap u v is (fun s => F (i :: s))
  show u i * lapl F v is - lapl (fun t => lapl F v (i :: t)) u is = -(v i * lapl F u is - lapl (fun t => lapl F u (i :: t)) v is)
  rw [h1, h2]
  omega
theorem dt_rep (u : Nat → Int) : ∀ (us : List (Nat → Int)) (is : List Nat), u ∈ us → dt (u :: us) is = 0
 | [], _, h => by cases h
 | v :: vs, is, h => by
  show lapl (lapl (dt vs) v) u is = 0
  rcases List.mem_cons.1 h with rfl | h
  ·have := lapl_swap u u is (dt vs); omega
  ·rw [lapl_swap]
   have e : lapl (dt vs) u = fun _ => 0 := by funext t; exact dt_rep u vs t h
   rw [e, lapl_zero]; rfl
/-- moving a vector to the head turns the sign at most -/
theorem dt_head (u : Nat → Int) : ∀ (ls ms : List (Nat → Int)) (is : List Nat), dt (u :: (ls ++ ms)) is = dt (ls ++ u :: ms) is ∨ dt (u :: (ls ++ ms)) is = - dt (ls ++ u :: ms) is := by
 intro ls
 have key : ∀ (ls ms : List (Nat → Int)), (∀ is, dt (u :: (ls ++ ms)) is = dt (ls ++ u :: ms) is) ∨ (∀ is, dt (u :: (ls ++ ms)) is = - dt (ls ++ u :: ms) is) := by
  intro ls
  induction ls with
  | nil => intro ms; exact .inl fun is => rfl
  | cons a ls ih =>
   intro ms
   have sw : ∀ is, dt (u :: a :: (ls ++ ms)) is = - dt (a :: u :: (ls ++ ms)) is := fun is => lapl_swap u a is (dt (ls ++ ms))
   rcases ih ms with h | h
   ·right
    intro is
    rw [List.cons_append, sw is]
    show - lapl (dt (u :: (ls ++ ms))) a is = - lapl (dt (ls ++ u :: ms)) a is
    rw [show dt (u :: (ls ++ ms)) = dt (ls ++ u :: ms) from funext h]
   ·left
    intro is
    rw [List.cons_append, sw is]
    show - lapl (dt (u :: (ls ++ ms))) a is = lapl (dt (ls ++ u :: ms)) a is
    rw [show dt (u :: (ls ++ ms)) = fun t => - dt (ls ++ u :: ms) t from funext h, lapl_neg]
    omega
 intro ms is
 rcases key ls ms with h | h
 ·exact .inl (h is)
 ·exact .inr (h is)
/-- spans over the fractions -/
inductive Sp (S : (Nat → Int) → Prop) : (Nat → Int) → Prop
 | zero : Sp S (fun _ => 0)
 | mem {x : Nat → Int} : S x → Sp S x
 | add {x y : Nat → Int} : Sp S x → Sp S y → Sp S (fun j => x j + y j)
 | smul {x : Nat → Int} (a : Int) : Sp S x → Sp S (fun j => a * x j)
 | div {x : Nat → Int} (a : Int) : a ≠ 0 → Sp S (fun j => a * x j) → Sp S x
theorem Sp.trans {S T : (Nat → Int) → Prop} (h : ∀ x, S x → Sp T x) {y : Nat → Int} (hy : Sp S y) : Sp T y := by
 induction hy with
 | zero => exact .zero
 | mem hx => exact h _ hx
 | add _ _ h1 h2 => exact .add h1 h2
 | smul a _ h1 => exact .smul a h1
 | div a ha _ h1 => exact .div a ha h1
theorem Sp.mono {S T : (Nat → Int) → Prop} (h : ∀ x, S x → T x) {y : Nat → Int} (hy : Sp S y) : Sp T y := hy.trans fun x hx => .mem (h x hx)
theorem Sp.of_eq {S : (Nat → Int) → Prop} {x y : Nat → Int} (h : Sp S x) (e : ∀ j, y j = x j) : Sp S y := by
 rw [show y = x from funext e]; exact h
theorem Sp.lin {S : (Nat → Int) → Prop} {x y : Nat → Int} (a b : Int) (hx : Sp S x) (hy : Sp S y) : Sp S (fun j => a * x j + b * y j) := .add (.smul a hx) (.smul b hy)
/-- g·y = a·x + b·z, g not 0 -/
theorem Sp.of_lin {S : (Nat → Int) → Prop} {x y z : Nat → Int} (g a b : Int) (hg : g ≠ 0) (hx : Sp S x) (hz : Sp S z) (e : ∀ j, g * y j = a * x j + b * z j) : Sp S y :=
 .div g hg ((Sp.lin a b hx hz).of_eq e)
/-- what vanishes at a column for all vanishes there for the span -/
theorem Sp.vanish {S : (Nat → Int) → Prop} (c : Nat) (h : ∀ x, S x → x c = 0) {y : Nat → Int} (hy : Sp S y) : y c = 0 := by
 induction hy with
 | zero => rfl
 | mem hx => exact h _ hx
 | add _ _ h1 h2 => simp only; omega
 | smul a _ h1 => simp only; rw [h1]; simp
 | div a ha _ h1 => rcases Int.mul_eq_zero.1 h1 with h | h; exact absurd h ha; exact h
/-- the expansion is a sum of the rows -/
theorem lapl_span (X : Nat → Nat → Int) (S : (Nat → Int) → Prop) : ∀ (is : List Nat) (F : List Nat → Int), (∀ i ∈ is, S (X i)) → Sp S (fun j => lapl F (fun i => X i j) is)
 | [], F, _ => .zero
 | i :: is, F, h => by
  have h1 := lapl_span X S is (fun t => F (i :: t)) (fun k hk => h k (by simp [hk]))
  refine (Sp.lin (F is) (-1) (.mem (h i (by simp))) h1).of_eq fun j => ?_
  simp only [lapl]; rw [Int.mul_comm (X i j)]; omega
/-- clearing -/
def clr (c : Nat) (R y : Nat → Int) : Nat → Int := fun j => y j * R c - R j * y c
def clrs : List (Nat × (Nat → Int)) → (Nat → Int) → (Nat → Int)
 | [], y => y
 | a :: E, y => clrs E (clr a.1 a.2 y)
theorem clrs_lin : ∀ (E : List (Nat × (Nat → Int))) (a b : Int) (x y : Nat → Int) (j : Nat), clrs E (fun j => a * x j + b * y j) j = a * clrs E x j + b * clrs E y j
 | [], a, b, x, y, j => rfl
 | e :: E, a, b, x, y, j => by
  show clrs E (clr e.1 e.2 _) j = a * clrs E (clr e.1 e.2 x) j + b * clrs E (clr e.1 e.2 y) j
  rw [← clrs_lin E]
  congr 1
  funext k
  simp only [clr]; grind
theorem clrs_zero : ∀ (E : List (Nat × (Nat → Int))) (j : Nat), clrs E (fun _ => 0) j = 0
 | [], j => rfl
 | e :: E, j => by
  show clrs E (clr e.1 e.2 _) j = 0
  rw [show clr e.1 e.2 (fun _ => 0) = fun _ => 0 by funext k; simp [clr]]
  exact clrs_zero E j
theorem clrs_smul (E : List (Nat × (Nat → Int))) (a : Int) (x : Nat → Int) (j : Nat) : clrs E (fun j => a * x j) j = a * clrs E x j := by
 have h := clrs_lin E a 0 x x j
 rw [show (fun j => a * x j + 0 * x j) = fun j => a * x j by funext k; omega] at h
 omega
/-- a list of pivots and rows in echelon form -/
structure Ech (E : List (Nat × (Nat → Int))) : Prop where
 apart : E.Pairwise (fun a b => a.1 < b.1 ∧ a.2 b.1 = 0 ∧ b.2 a.1 = 0)
 pos : ∀ a ∈ E, 0 < a.2 a.1
 low : ∀ a ∈ E, ∀ j, j < a.1 → a.2 j = 0
theorem Ech.tail {a : Nat × (Nat → Int)} {E : List (Nat × (Nat → Int))} (h : Ech (a :: E)) : Ech E :=
 ⟨(List.pairwise_cons.1 h.apart).2, fun x hx => h.pos x (by simp [hx]), fun x hx => h.low x (by simp [hx])⟩
def rowsOf (E : List (Nat × (Nat → Int))) : (Nat → Int) → Prop := fun x => ∃ a ∈ E, x = a.2
/-- multiples of a row of the list are cleared away -/
theorem clrs_row : ∀ (E : List (Nat × (Nat → Int))), Ech E → ∀ a ∈ E, ∀ j, clrs E a.2 j = 0
 | [], _, a, h, j => by cases h
 | e :: E, hE, a, h, j => by
  show clrs E (clr e.1 e.2 a.2) j = 0
  have hp := List.pairwise_cons.1 hE.apart
  rcases List.mem_cons.1 h with rfl | h
  ·rw [show clr a.1 a.2 a.2 = fun _ => 0 by funext k; simp only [clr]; grind]
   exact clrs_zero E j
  ·have h1 := (hp.1 a h).2.2
   rw [show clr e.1 e.2 a.2 = fun k => e.2 e.1 * a.2 k by funext k; simp only [clr, h1]; grind, clrs_smul, clrs_row E hE.tail a h j]
   simp
theorem clrs_span {E : List (Nat × (Nat → Int))} (hE : Ech E) {y : Nat → Int} (hy : Sp (rowsOf E) y) : ∀ j, clrs E y j = 0 := by
 induction hy with
 | zero => exact clrs_zero E
 | mem hx => obtain ⟨a, ha, rfl⟩ := hx; exact clrs_row E hE a ha
 | @add x y _ _ h1 h2 =>
  intro j
  have h := clrs_lin E 1 1 x y j
  rw [h1 j, h2 j] at h
  rw [show (fun j => x j + y j) = fun j => 1 * x j + 1 * y j by funext k; omega]
  simpa using h
 | smul a _ h1 => intro j; rw [clrs_smul, h1 j]; simp
 | div a ha _ h1 =>
  intro j
  have := h1 j
  rw [clrs_smul] at this
  rcases Int.mul_eq_zero.1 this with h | h
  ·exact absurd h ha
  ·exact h
/-- what vanishes at all pivots is only multiplied -/
theorem clrs_apart : ∀ (E : List (Nat × (Nat → Int))), Ech E → ∃ L : Int, 0 < L ∧ ∀ y : Nat → Int, (∀ a ∈ E, y a.1 = 0) → ∀ j, clrs E y j = L * y j
 | [], _ => ⟨1, by omega, fun y _ j => by simp [clrs]⟩
 | e :: E, hE => by
  obtain ⟨L, hL, h⟩ := clrs_apart E hE.tail
  have hp := hE.pos e (by simp)
  refine ⟨L * e.2 e.1, Int.mul_pos hL hp, fun y hy j => ?_⟩
  show clrs E (clr e.1 e.2 y) j = _
  have h0 := hy e (by simp)
  rw [show clr e.1 e.2 y = fun k => e.2 e.1 * y k by funext k; simp only [clr, h0]; grind, clrs_smul, h y (fun a ha => hy a (by simp [ha])) j]
  grind
theorem ech_zero {E : List (Nat × (Nat → Int))} (hE : Ech E) {y : Nat → Int} (hy : Sp (rowsOf E) y) (h0 : ∀ a ∈ E, y a.1 = 0) : ∀ j, y j = 0 := by
 intro j
 obtain ⟨L, hL, h⟩ := clrs_apart E hE
 have h1 := h y h0 j
 rw [clrs_span hE hy j] at h1
 rcases Int.mul_eq_zero.1 h1.symm with h | h
 ·omega
 ·exact h
/-- what is cleared away lies in the span -/
theorem span_of_clrs : ∀ (E : List (Nat × (Nat → Int))), (∀ a ∈ E, 0 < a.2 a.1) → ∀ (S : (Nat → Int) → Prop), (∀ a ∈ E, Sp S a.2) → ∀ y : Nat → Int, Sp S (clrs E y) → Sp S y
 | [], _, S, _, y, h => h
 | e :: E, hp, S, hS, y, h => by
  have h1 := span_of_clrs E (fun a ha => hp a (by simp [ha])) S (fun a ha => hS a (by simp [ha])) (clr e.1 e.2 y) h
  refine Sp.of_lin (e.2 e.1) 1 (y e.1) (by have := hp e (by simp); omega) h1 (hS e (by simp)) fun j => ?_
  simp only [clr]; grind
/-- leads of the span are pivots -/
theorem clrs_lead (c : Nat) : ∀ (E : List (Nat × (Nat → Int))), Ech E → (∀ a ∈ E, a.1 ≠ c) → ∀ y : Nat → Int, (∀ j, j < c → y j = 0) → y c ≠ 0 → clrs E y c ≠ 0
 | [], _, _, y, _, h => h
 | e :: E, hE, hc, y, hl, h => by
  have hp := hE.pos e (by simp)
  have key : ∀ j, j ≤ c → clr e.1 e.2 y j = e.2 e.1 * y j := by
   intro j hj
   simp only [clr]
   rcases Nat.lt_or_gt_of_ne (hc e (by simp)) with h1 | h1
   ·rw [hl e.1 h1]; grind
   ·rw [hE.low e (by simp) j (by omega)]; grind
  show clrs E (clr e.1 e.2 y) c ≠ 0
  refine clrs_lead c E hE.tail (fun a ha => hc a (by simp [ha])) _ (fun j hj => ?_) ?_
  ·rw [key j (by omega), hl j hj]; simp
  ·rw [key c (Nat.le_refl _)]
   intro h0
   rcases Int.mul_eq_zero.1 h0 with h0 | h0
   ·omega
   ·exact h h0
theorem lead_pivot {E : List (Nat × (Nat → Int))} (hE : Ech E) {y : Nat → Int} (hy : Sp (rowsOf E) y) (c : Nat) (hl : ∀ j, j < c → y j = 0) (hc : y c ≠ 0) : ∃ a ∈ E, a.1 = c := by
 apply Classical.byContradiction
 intro hn
 exact clrs_lead c E hE (fun a ha e => hn ⟨a, ha, e⟩) y hl hc (clrs_span hE hy c)
/-- nothing but units divide all -/
def Prim (x : Nat → Int) : Prop := ∀ a b : Int, (∀ j, a ∣ b * x j) → a ∣ b
theorem prim_le {x w : Nat → Int} (hx : Prim x) (A b : Int) (hA : A ≠ 0) (e : ∀ j, A * x j = b * w j) : ∃ q : Int, q ≠ 0 ∧ ∀ j, w j = q * x j ∨ x j = 0 := by
 by_cases hb : b = 0
 ·refine ⟨1, by omega, fun j => .inr ?_⟩
  have := e j
  rw [hb, Int.zero_mul] at this
  rcases Int.mul_eq_zero.1 this with h | h
  ·exact absurd h hA
  ·exact h
 ·obtain ⟨q, hq⟩ := hx b A (fun j => ⟨w j, e j⟩)
  refine ⟨q, fun h0 => hA (by rw [hq, h0]; simp), fun j => .inl ?_⟩
  have h1 := e j
  rw [hq, Int.mul_assoc] at h1
  exact (Int.eq_of_mul_eq_mul_left hb h1).symm
theorem prim_eq {x y : Nat → Int} (hx : Prim x) (hy : Prim y) (c : Nat) (h1 : 0 < x c) (h2 : 0 < y c) (e : ∀ j, y c * x j = x c * y j) : ∀ j, x j = y j := by
 have d1 : x c ∣ y c := hx (x c) (y c) (fun j => ⟨y j, e j⟩)
 have d2 : y c ∣ x c := hy (y c) (x c) (fun j => ⟨x j, (e j).symm⟩)
 have he : x c = y c := by
  have a1 := Int.le_of_dvd h2 d1
  have a2 := Int.le_of_dvd h1 d2
  omega
 intro j
 have := e j
 rw [he] at this
 exact Int.eq_of_mul_eq_mul_left (by omega) this
/-- one strictly ascending list has the members -/
theorem asc_unique : ∀ {l m : List Nat}, l.Pairwise (· < ·) → m.Pairwise (· < ·) → (∀ x, x ∈ l ↔ x ∈ m) → l = m
 | [], [], _, _, _ => rfl
 | [], y :: m, _, _, h => by have := (h y).2 (by simp); cases this
 | x :: l, [], _, _, h => by have := (h x).1 (by simp); cases this
 | x :: l, y :: m, hl, hm, h => by
  rw [List.pairwise_cons] at hl hm
  have e : x = y := by
   rcases List.mem_cons.1 ((h x).1 (by simp)) with e | e
   ·exact e
   ·rcases List.mem_cons.1 ((h y).2 (by simp)) with e2 | e2
    ·exact e2.symm
    ·have := hm.1 x e; have := hl.1 y e2; omega
  subst e
  rw [asc_unique hl.2 hm.2 fun z => ⟨fun hz => ?_, fun hz => ?_⟩]
  ·have := hl.1 z hz
   rcases List.mem_cons.1 ((h z).1 (by simp [hz])) with e | e
   ·omega
   ·exact e
  ·have := hm.1 z hz
   rcases List.mem_cons.1 ((h z).2 (by simp [hz])) with e | e
   ·omega
   ·exact e
theorem Ech.asc {E : List (Nat × (Nat → Int))} (h : Ech E) : (E.map (·.1)).Pairwise (· < ·) := by
 rw [List.pairwise_map]
 exact h.apart.imp fun h => h.1
theorem ech_leads {E : List (Nat × (Nat → Int))} (hE : Ech E) (c : Nat) : c ∈ E.map (·.1) ↔ ∃ y, Sp (rowsOf E) y ∧ (∀ j, j < c → y j = 0) ∧ y c ≠ 0 := by
 constructor
 ·intro h
  obtain ⟨a, ha, rfl⟩ := List.mem_map.1 h
  exact ⟨a.2, .mem ⟨a, ha, rfl⟩, hE.low a ha, by have := hE.pos a ha; omega⟩
 ·rintro ⟨y, hy, hl, hc⟩
  obtain ⟨a, ha, e⟩ := lead_pivot hE hy c hl hc
  exact List.mem_map.2 ⟨a, ha, e⟩
theorem ech_pivots {E E' : List (Nat × (Nat → Int))} (hE : Ech E) (hE' : Ech E') (h : ∀ y, Sp (rowsOf E) y ↔ Sp (rowsOf E') y) : E.map (·.1) = E'.map (·.1) := by
 refine asc_unique hE.asc hE'.asc fun c => ?_
 rw [ech_leads hE, ech_leads hE']
 constructor
 ·rintro ⟨y, h1, h2⟩; exact ⟨y, (h y).1 h1, h2⟩
 ·rintro ⟨y, h1, h2⟩; exact ⟨y, (h y).2 h1, h2⟩
/-- the reduced form is one alone -/
theorem ech_unique {E E' : List (Nat × (Nat → Int))} (hE : Ech E) (hE' : Ech E') (hp : ∀ a ∈ E, Prim a.2) (hp' : ∀ a ∈ E', Prim a.2) (h : ∀ y, Sp (rowsOf E) y ↔ Sp (rowsOf E') y) : E = E' := by
 have hc := ech_pivots hE hE' h
 have hlen : E.length = E'.length := by simpa using congrArg List.length hc
 refine List.ext_getElem hlen fun i h1 h2 => ?_
 have e1 : E[i].1 = E'[i].1 := by
  have := congrArg (fun l => l[i]?) hc
  simpa [h1, h2] using this
 have off : ∀ (F : List (Nat × (Nat → Int))), Ech F → ∀ (i k : Nat) (hi : i < F.length) (hk : k < F.length), i ≠ k → F[i].2 F[k].1 = 0 := by
  intro F hF i k hi hk hne
  rcases Nat.lt_or_gt_of_ne hne with hl | hl
  ·exact ((List.pairwise_iff_getElem.1 hF.apart) i k hi hk hl).2.1
  ·exact ((List.pairwise_iff_getElem.1 hF.apart) k i hk hi hl).2.2
 have hz : ∀ j, E'[i].2 E[i].1 * E[i].2 j + (- E[i].2 E[i].1) * E'[i].2 j = 0 := by
  refine ech_zero hE (y := fun j => E'[i].2 E[i].1 * E[i].2 j + (- E[i].2 E[i].1) * E'[i].2 j) ?_ ?_
  ·exact Sp.lin _ _ (.mem ⟨E[i], List.getElem_mem _, rfl⟩) ((h _).2 (.mem ⟨E'[i], List.getElem_mem _, rfl⟩))
  ·intro a ha
   obtain ⟨k, hk, rfl⟩ := List.mem_iff_getElem.1 ha
   by_cases hik : i = k
   ·subst hik; grind
   ·have hk' : k < E'.length := by omega
    have e2 : E[k].1 = E'[k].1 := by
     have := congrArg (fun l => l[k]?) hc
     simpa [hk, hk'] using this
    have o1 := off E hE i k h1 hk hik
    have o2 := off E' hE' i k h2 hk' hik
    rw [o1, e2, o2]
    simp
 have hr : ∀ j, E[i].2 j = E'[i].2 j := by
  refine prim_eq (hp _ (List.getElem_mem _)) (hp' _ (List.getElem_mem _)) E[i].1 (hE.pos _ (List.getElem_mem _)) (by rw [e1]; exact hE'.pos _ (List.getElem_mem _)) fun j => ?_
  have := hz j
  grind
 exact Prod.ext e1 (funext hr)
/-- t is y divided by a number, with no divisor left, its lead positive -/
structure Tid (y t : Nat → Int) : Prop where
 mul : ∃ g : Int, g ≠ 0 ∧ ∀ j, y j = g * t j
 prim : (∀ j, t j = 0) ∨ Prim t
 lead : ∀ c, (∀ j, j < c → t j = 0) → t c ≠ 0 → 0 < t c
theorem Tid.zero {y t : Nat → Int} (h : Tid y t) {j : Nat} : y j = 0 ↔ t j = 0 := by
 obtain ⟨g, hg, e⟩ := h.mul
 rw [e j]
 constructor
 ·intro h0; rcases Int.mul_eq_zero.1 h0 with h0 | h0; exact absurd h0 hg; exact h0
 ·intro h0; rw [h0]; simp
abbrev inX (X : Nat → Nat → Int) (n : Nat) : (Nat → Int) → Prop := fun z => ∃ i, i < n ∧ z = X i
abbrev inP (X : Nat → Nat → Int) (P : List Nat) : (Nat → Int) → Prop := fun z => ∃ i, i ∈ P ∧ z = X i
abbrev curS (R : (Nat → Int) → Prop) (E : List (Nat × (Nat → Int))) : (Nat → Int) → Prop := fun z => R z ∨ rowsOf E z
abbrev colsOf (X : Nat → Nat → Int) (cs : List Nat) : List (Nat → Int) := cs.map fun c i => X i c
structure RInv (X : Nat → Nat → Int) (n : Nat) (R : (Nat → Int) → Prop) (E : List (Nat × (Nat → Int))) : Prop where
 ech : Ech E
 prim : ∀ a ∈ E, Prim a.2
 van : ∀ x, R x → ∀ a ∈ E, x a.1 = 0
 tid : ∀ x, R x → Tid x x
 span1 : ∀ i, i < n → Sp (curS R E) (X i)
 span2 : ∀ z, curS R E z → Sp (inX X n) z
 min : ∃ P : List Nat, (∀ i ∈ P, i < n) ∧ P.length = E.length ∧ dt (colsOf X (E.map (·.1)).reverse) P ≠ 0 ∧ (∀ i ∈ P, Sp (rowsOf E) (X i)) ∧ (∀ a ∈ E, Sp (inP X P) a.2) ∧ ∀ x, R x → ∃ r, r < n ∧ ∃ a b : Int, a ≠ 0 ∧ Sp (inP X P) (fun j => a * x j + b * X r j)
theorem RInv.init (X : Nat → Nat → Int) (n : Nat) (R : (Nat → Int) → Prop) (h1 : ∀ x, R x → ∃ i, i < n ∧ Tid (X i) x) (h2 : ∀ i, i < n → ∃ x, R x ∧ Tid (X i) x) : RInv X n R [] where
 ech := ⟨List.Pairwise.nil, fun a h => (by cases h), fun a h => (by cases h)⟩
 prim := fun a h => by cases h
 van := fun _ _ a h => by cases h
 tid := fun x hx => by
  obtain ⟨i, _, h⟩ := h1 x hx
  exact ⟨⟨1, by omega, fun j => by omega⟩, h.prim, h.lead⟩
 span1 := fun i hi => by
  obtain ⟨x, hx, h⟩ := h2 i hi
  obtain ⟨g, hg, e⟩ := h.mul
  exact (Sp.smul g (.mem (.inl hx))).of_eq e
 span2 := by
  rintro z (hz | ⟨a, h, _⟩)
  ·obtain ⟨i, hi, h⟩ := h1 z hz
   obtain ⟨g, hg, e⟩ := h.mul
   exact .div g hg ((Sp.mem ⟨i, hi, rfl⟩).of_eq fun j => (e j).symm)
  ·cases h
 min := by
  refine ⟨[], fun i h => (by cases h), rfl, (by simp [dt, colsOf]), fun i h => (by cases h), fun a h => (by cases h), fun x hx => ?_⟩
  obtain ⟨i, hi, h⟩ := h1 x hx
  obtain ⟨g, hg, e⟩ := h.mul
  exact ⟨i, hi, g, -1, hg, Sp.zero.of_eq fun j => by rw [e j]; omega⟩
/-- the bordered minor, and how a row is a multiple of it -/
theorem RInv.border {X : Nat → Nat → Int} {E : List (Nat × (Nat → Int))} (hE : Ech E) {P : List Nat} (hP : ∀ i ∈ P, Sp (rowsOf E) (X i)) (r : Nat) (a b : Int) (x : Nat → Int) (hx : Sp (inP X P) (fun j => a * x j + b * X r j)) (hv : ∀ e ∈ E, x e.1 = 0) :
  ∀ j, dt (colsOf X (E.map (·.1)).reverse) P * a * x j = - b * dt ((fun i => X i j) :: colsOf X (E.map (·.1)).reverse) (r :: P) := by
 have hw : Sp (inP X P) (fun j => lapl (fun t => dt (colsOf X (E.map (·.1)).reverse) (r :: t)) (fun i => X i j) P) := lapl_span X _ P _ fun i hi => ⟨i, hi, rfl⟩
 have he : ∀ j, dt ((fun i => X i j) :: colsOf X (E.map (·.1)).reverse) (r :: P) = X r j * dt (colsOf X (E.map (·.1)).reverse) P - lapl (fun t => dt (colsOf X (E.map (·.1)).reverse) (r :: t)) (fun i => X i j) P := fun j => rfl
 have hz := ech_zero hE (y := fun j => dt (colsOf X (E.map (·.1)).reverse) P * (a * x j + b * X r j) + (-b) * lapl (fun t => dt (colsOf X (E.map (·.1)).reverse) (r :: t)) (fun i => X i j) P) ((Sp.lin _ _ hx hw).trans (by rintro z ⟨i, hi, rfl⟩; exact hP i hi)) (by
  intro e hee
  have h0 : dt ((fun i => X i e.1) :: colsOf X (E.map (·.1)).reverse) (r :: P) = 0 := dt_rep _ _ _ (List.mem_map.2 ⟨e.1, by simp; exact ⟨e.2, hee⟩, rfl⟩)
  rw [he e.1] at h0
  have := hv e hee
  simp only [this]
  grind)
 intro j
 have := hz j
 rw [he j]
 grind
theorem RInv.step {X : Nat → Nat → Int} {n : Nat} {R R' : (Nat → Int) → Prop} {E E' : List (Nat × (Nat → Int))} (h : RInv X n R E) (c : Nat) (x : Nat → Int) (hx : R x) (hc : x c ≠ 0)
  (hlow : ∀ z, R z → ∀ j, j < c → z j = 0) (hE : ∀ a ∈ E, a.1 < c)
  (r1 : ∀ y, R' y → ∃ z, R z ∧ Tid (clr c x z) y) (r2 : ∀ z, R z → z = x ∨ ∃ y, R' y ∧ Tid (clr c x z) y)
  (hlen : E'.length = E.length) (he : ∀ (i : Nat) (h1 : i < E'.length) (h2 : i < E.length), E'[i].1 = E[i].1 ∧ Tid (clr c x E[i].2) E'[i].2) :
  RInv X n R' (E' ++ [(c, x)]) := by
 have hxp : 0 < x c := (h.tid x hx).lead c (hlow x hx) hc
 have m1 : ∀ b ∈ E', ∃ a ∈ E, b.1 = a.1 ∧ Tid (clr c x a.2) b.2 := by
  intro b hb
  obtain ⟨i, hi, rfl⟩ := List.mem_iff_getElem.1 hb
  exact ⟨E[i], List.getElem_mem _, he i hi (by omega)⟩
 have m2 : ∀ a ∈ E, ∃ b ∈ E', b.1 = a.1 ∧ Tid (clr c x a.2) b.2 := by
  intro b hb
  obtain ⟨i, hi, rfl⟩ := List.mem_iff_getElem.1 hb
  exact ⟨E'[i], List.getElem_mem _, he i (by omega) hi⟩
 have hm : E'.map (·.1) = E.map (·.1) := by
  refine List.ext_getElem (by simpa using hlen) fun i h1 h2 => ?_
  simp only [List.getElem_map]
  exact (he i (by simpa using h1) (by simpa using h2)).1
 have c0 : ∀ z, clr c x z c = 0 := fun z => by simp only [clr]; grind
 have cz : ∀ z, ∀ a ∈ E, z a.1 = 0 → clr c x z a.1 = 0 := fun z a ha h0 => by simp only [clr]; rw [h0, h.van x hx a ha]; simp
 have ech' : Ech (E' ++ [(c, x)]) := by
  refine ⟨?_, ?_, ?_⟩
  ·rw [List.pairwise_append]
   refine ⟨?_, List.pairwise_singleton _ _, ?_⟩
   ·rw [List.pairwise_iff_getElem]
    intro i k hi hk hik
    have p := (List.pairwise_iff_getElem.1 h.ech.apart) i k (by omega) (by omega) hik
    have a1 := he i hi (by omega)
    have a2 := he k hk (by omega)
    refine ⟨by rw [a1.1, a2.1]; exact p.1, ?_, ?_⟩
    ·rw [a2.1, ← a1.2.zero]; exact cz _ _ (List.getElem_mem _) p.2.1
    ·rw [a1.1, ← a2.2.zero]; exact cz _ _ (List.getElem_mem _) p.2.2
   ·intro b hb y hy
    obtain rfl := List.mem_singleton.1 hy
    obtain ⟨a, ha, e1, e2⟩ := m1 b hb
    refine ⟨by rw [e1]; exact hE a ha, ?_, ?_⟩
    ·rw [← e2.zero]; exact c0 _
    ·rw [e1]; exact h.van x hx a ha
  ·intro b hb
   rcases List.mem_append.1 hb with hb | hb
   ·obtain ⟨a, ha, e1, e2⟩ := m1 b hb
    have lw : ∀ j, j < a.1 → b.2 j = 0 := fun j hj => by
     rw [← e2.zero]; simp only [clr]; rw [h.ech.low a ha j hj, hlow x hx j (by have := hE a ha; omega)]; simp
    refine e2.lead b.1 (by rw [e1]; exact lw) ?_
    rw [e1, Ne, ← e2.zero]
    simp only [clr]
    rw [h.van x hx a ha]
    have := Int.mul_pos (h.ech.pos a ha) hxp
    omega
   ·obtain rfl := List.mem_singleton.1 hb; exact hxp
  ·intro b hb
   rcases List.mem_append.1 hb with hb | hb
   ·obtain ⟨a, ha, e1, e2⟩ := m1 b hb
    intro j hj
    rw [e1] at hj
    rw [← e2.zero]; simp only [clr]; rw [h.ech.low a ha j hj, hlow x hx j (by have := hE a ha; omega)]; simp
   ·obtain rfl := List.mem_singleton.1 hb; exact hlow x hx
 have xin : rowsOf (E' ++ [(c, x)]) x := ⟨(c, x), by simp, rfl⟩
 have ein : ∀ b ∈ E', rowsOf (E' ++ [(c, x)]) b.2 := fun b hb => ⟨b, by simp [hb], rfl⟩
 have up : ∀ (S : (Nat → Int) → Prop) (z y : Nat → Int), Tid (clr c x z) y → Sp S y → Sp S x → Sp S z := by
  intro S z y ht hy hxS
  obtain ⟨g, hg, e⟩ := ht.mul
  refine Sp.of_lin (x c) g (z c) hc hy hxS fun j => ?_
  have := e j
  simp only [clr] at this
  grind
 have dn : ∀ (S : (Nat → Int) → Prop) (z y : Nat → Int), Tid (clr c x z) y → Sp S z → Sp S x → Sp S y := by
  intro S z y ht hy hxS
  obtain ⟨g, hg, e⟩ := ht.mul
  refine Sp.of_lin g (x c) (- z c) hg hy hxS fun j => ?_
  rw [← e j]
  simp only [clr]
  grind
 have EE : ∀ a ∈ E, Sp (rowsOf (E' ++ [(c, x)])) a.2 := by
  intro a ha
  obtain ⟨b, hb, e1, e2⟩ := m2 a ha
  exact up _ _ _ e2 (.mem (ein b hb)) (.mem xin)
 refine ⟨ech', ?_, ?_, ?_, ?_, ?_, ?_⟩
 ·intro b hb
  have hp := ech'.pos b hb
  rcases List.mem_append.1 hb with hb | hb
  ·obtain ⟨a, ha, e1, e2⟩ := m1 b hb
   rcases e2.prim with h0 | h0
   ·rw [h0 b.1] at hp; omega
   ·exact h0
  ·obtain rfl := List.mem_singleton.1 hb
   rcases (h.tid x hx).prim with h0 | h0
   ·exact absurd (h0 c) hc
   ·exact h0
 ·intro y hy b hb
  obtain ⟨z, hz, ht⟩ := r1 y hy
  rcases List.mem_append.1 hb with hb | hb
  ·obtain ⟨a, ha, e1, e2⟩ := m1 b hb
   rw [e1, ← ht.zero]
   exact cz _ a ha (h.van z hz a ha)
  ·obtain rfl := List.mem_singleton.1 hb
   rw [← ht.zero]; exact c0 _
 ·intro y hy
  obtain ⟨z, hz, ht⟩ := r1 y hy
  exact ⟨⟨1, by omega, fun j => by omega⟩, ht.prim, ht.lead⟩
 ·intro i hi
  refine (h.span1 i hi).trans ?_
  rintro z (hz | ⟨a, ha, rfl⟩)
  ·rcases r2 z hz with rfl | ⟨y, hy, ht⟩
   ·exact .mem (.inr xin)
   ·exact up _ _ _ ht (.mem (.inl hy)) (.mem (.inr xin))
  ·exact (EE a ha).mono fun z hz => .inr hz
 ·have sx : Sp (inX X n) x := h.span2 x (.inl hx)
  rintro y (hy | ⟨b, hb, rfl⟩)
  ·obtain ⟨z, hz, ht⟩ := r1 y hy
   exact dn _ _ _ ht (h.span2 z (.inl hz)) sx
  ·rcases List.mem_append.1 hb with hb | hb
   ·obtain ⟨a, ha, e1, e2⟩ := m1 b hb
    exact dn _ _ _ e2 (h.span2 _ (.inr ⟨a, ha, rfl⟩)) sx
   ·obtain rfl := List.mem_singleton.1 hb; exact sx
 ·obtain ⟨P, hPn, hPl, hD, hP1, hP2, hP3⟩ := h.min
  obtain ⟨r, hr, a, b, ha, hsp⟩ := hP3 x hx
  have hb := RInv.border h.ech hP1 r a b x hsp (h.van x hx)
  have hbc := hb c
  have hb0 : b ≠ 0 := by
   intro h0
   rw [h0] at hbc
   have h1 : dt (colsOf X (E.map (·.1)).reverse) P * a * x c = 0 := by rw [hbc]; simp
   rcases Int.mul_eq_zero.1 h1 with h1 | h1
   ·rcases Int.mul_eq_zero.1 h1 with h1 | h1
    ·exact hD h1
    ·exact ha h1
   ·exact hc h1
  have xP : Sp (inP X (r :: P)) x := by
   refine Sp.of_lin a 1 (-b) ha (hsp.mono fun z hz => ?_) (.mem ⟨r, by simp, rfl⟩) fun j => ?_
   ·obtain ⟨i, hi, rfl⟩ := hz; exact ⟨i, by simp [hi], rfl⟩
   ·grind
  have wk : ∀ z, Sp (inP X P) z → Sp (inP X (r :: P)) z := fun z hz => hz.mono fun z hz => by
   obtain ⟨i, hi, rfl⟩ := hz; exact ⟨i, by simp [hi], rfl⟩
  refine ⟨r :: P, ?_, by simp [hPl, hlen], ?_, ?_, ?_, ?_⟩
  ·intro i hi
   rcases List.mem_cons.1 hi with rfl | hi
   ·exact hr
   ·exact hPn i hi
  ·rw [List.map_append, hm, List.reverse_append]
   intro h0
   have h0' : dt ((fun i => X i c) :: colsOf X (E.map (·.1)).reverse) (r :: P) = 0 := h0
   rw [h0'] at hbc
   have h1 : dt (colsOf X (E.map (·.1)).reverse) P * a * x c = 0 := by rw [hbc]; simp
   rcases Int.mul_eq_zero.1 h1 with h1 | h1
   ·rcases Int.mul_eq_zero.1 h1 with h1 | h1
    ·exact hD h1
    ·exact ha h1
   ·exact hc h1
  ·intro i hi
   rcases List.mem_cons.1 hi with rfl | hi
   ·refine Sp.of_lin b 1 (-a) hb0 (x := fun j => a * x j + b * X i j) (z := x) ?_ (.mem xin) fun j => by grind
    exact (hsp.trans (by rintro z ⟨k, hk, rfl⟩; exact hP1 k hk)).trans (by rintro z ⟨e, he, rfl⟩; exact EE e he)
   ·exact (hP1 i hi).trans (by rintro z ⟨e, he, rfl⟩; exact EE e he)
  ·intro b hb
   rcases List.mem_append.1 hb with hb | hb
   ·obtain ⟨e, he', e1, e2⟩ := m1 b hb
    exact dn _ _ _ e2 (wk _ (hP2 e he')) xP
   ·obtain rfl := List.mem_singleton.1 hb; exact xP
  ·intro y hy
   obtain ⟨z, hz, ht⟩ := r1 y hy
   obtain ⟨g, hg, e⟩ := ht.mul
   obtain ⟨r2, hr2, a2, b2, ha2, hs2⟩ := hP3 z hz
   refine ⟨r2, hr2, a2 * g, b2 * x c, ?_, ?_⟩
   ·intro h0
    rcases Int.mul_eq_zero.1 h0 with h0 | h0
    ·exact ha2 h0
    ·exact hg h0
   ·refine (Sp.lin (x c) (- (a2 * z c)) (wk _ hs2) xP).of_eq fun j => ?_
    have := e j
    simp only [clr] at this
    grind
def fb (β : Nat → Nat) : List Nat → Nat
 | [] => 1
 | c :: cs => (cs.length + 1) * (β c * fb β cs)
theorem lapl_bound (u : Nat → Int) (b M : Nat) (hu : ∀ i, (u i).natAbs ≤ b) : ∀ (is : List Nat) (F : List Nat → Int), (∀ t, t.length + 1 = is.length → (F t).natAbs ≤ M) → (lapl F u is).natAbs ≤ is.length * (b * M)
 | [], F, _ => by simp [lapl]
 | i :: is, F, h => by
  have h1 := lapl_bound u b M hu is (fun t => F (i :: t)) (fun t ht => h _ (by simp [ht]))
  have h2 : (u i * F is).natAbs ≤ b * M := by rw [Int.natAbs_mul]; exact Nat.mul_le_mul (hu i) (h is (by simp))
  have h3 : (lapl F u (i :: is)).natAbs ≤ (u i * F is).natAbs + (lapl (fun t => F (i :: t)) u is).natAbs := by simp only [lapl]; omega
  rw [List.length_cons, Nat.add_mul, Nat.one_mul]
  omega
theorem dt_bound (X : Nat → Nat → Int) (β : Nat → Nat) (hX : ∀ i c, (X i c).natAbs ≤ β c) : ∀ (cs is : List Nat), is.length = cs.length → (dt (colsOf X cs) is).natAbs ≤ fb β cs
 | [], is, _ => by simp [dt, colsOf, fb]
 | c :: cs, is, h => by
  have h1 := lapl_bound (fun i => X i c) (β c) (fb β cs) (fun i => hX i c) is (dt (colsOf X cs)) (fun t ht => dt_bound X β hX cs t (by simp at h; omega))
  rw [h, List.length_cons] at h1
  exact h1
theorem fb_perm (β : Nat → Nat) {l m : List Nat} (h : l.Perm m) : fb β l = fb β m := by
 induction h with
 | nil => rfl
 | cons x hp ih => simp only [fb]; rw [ih, hp.length_eq]
 | swap x y l => simp only [fb, List.length_cons]; grind
 | trans _ _ h1 h2 => exact h1.trans h2
theorem nodup_len : ∀ (n : Nat) (l : List Nat), l.Nodup → (∀ x ∈ l, x < n) → l.length ≤ n
 | 0, l, _, h => by
  cases l with
  | nil => simp
  | cons x l => have := h x (by simp); omega
 | n + 1, l, hn, h => by
  by_cases hm : n ∈ l
  ·have h1 := nodup_len n (l.erase n) (hn.erase n) (fun x hx => by
    rw [hn.mem_erase_iff] at hx
    have := h x hx.2
    have := hx.1
    omega)
   rw [List.length_erase_of_mem hm] at h1
   omega
  ·have h1 := nodup_len n l hn (fun x hx => by
    have := h x hx
    have : x ≠ n := fun e => hm (e ▸ hx)
    omega)
   omega
def fact : Nat → Nat
 | 0 => 1
 | n + 1 => (n + 1) * fact n
/-- the cells of a system: at most 2 but for the values behind the columns -/
def cellB (cols : Nat) (c : Nat) : Nat := if c = cols then 1000 else 2
theorem fb_le (cols : Nat) : ∀ (cs : List Nat), cs.Nodup → fb (cellB cols) cs ≤ fact cs.length * (2 ^ cs.length * (if cols ∈ cs then 500 else 1))
 | [], _ => by simp [fb, fact]
 | c :: cs, h => by
  rw [List.nodup_cons] at h
  have ih := fb_le cols cs h.2
  simp only [fb, List.length_cons, fact]
  rw [Nat.mul_assoc]
  refine Nat.mul_le_mul (Nat.le_refl _) ?_
  by_cases hc : c = cols
  ·subst hc
   rw [if_neg h.1] at ih
   simp only [cellB, if_true, List.mem_cons, true_or, Nat.pow_succ]
   have := Nat.mul_le_mul (Nat.le_refl 1000) ih
   refine Nat.le_trans this (Nat.le_of_eq ?_)
   grind
  ·simp only [cellB, if_neg hc, List.mem_cons]
   have e : (cols = c ∨ cols ∈ cs) = (cols ∈ cs) := by
    apply propext
    constructor
    ·rintro (h | h); exact absurd h.symm hc; exact h
    ·exact .inr
   simp only [e]
   have := Nat.mul_le_mul (Nat.le_refl 2) ih
   refine Nat.le_trans this (Nat.le_of_eq ?_)
   rw [Nat.pow_succ]
   grind
theorem fact_le {k m : Nat} (h : k ≤ m) : fact k * 2 ^ k ≤ fact m * 2 ^ m := by
 induction h with
 | refl => exact Nat.le_refl _
 | @step m h ih =>
  refine Nat.le_trans ih ?_
  rw [fact, Nat.pow_succ]
  have : fact m * 2 ^ m * 1 ≤ fact m * 2 ^ m * ((m + 1) * 2) := Nat.mul_le_mul (Nat.le_refl _) (by omega)
  refine Nat.le_trans (by omega) (Nat.le_trans this (Nat.le_of_eq ?_))
  grind
theorem fb_num (cols : Nat) (cs : List Nat) (h : cs.Nodup) (h7 : cs.length ≤ 7) : fb (cellB cols) cs ≤ 322560000 := by
 refine Nat.le_trans (fb_le cols cs h) ?_
 have h1 := fact_le h7
 have h2 : (if cols ∈ cs then 500 else 1) ≤ 500 := by split <;> omega
 rw [← Nat.mul_assoc]
 refine Nat.le_trans (Nat.mul_le_mul h1 h2) (by decide)
theorem fb_num6 (cols : Nat) (cs : List Nat) (h : cs.Nodup) (h6 : cs.length ≤ 6) : fb (cellB cols) cs ≤ 23040000 := by
 refine Nat.le_trans (fb_le cols cs h) ?_
 have h1 := fact_le h6
 have h2 : (if cols ∈ cs then 500 else 1) ≤ 500 := by split <;> omega
 rw [← Nat.mul_assoc]
 refine Nat.le_trans (Nat.mul_le_mul h1 h2) (by decide)
theorem fb_num60 (cols : Nat) (cs : List Nat) (h : cs.Nodup) (h6 : cs.length ≤ 6) (hn : cols ∉ cs) : fb (cellB cols) cs ≤ 46080 := by
 refine Nat.le_trans (fb_le cols cs h) ?_
 have h1 := fact_le h6
 rw [if_neg hn, Nat.mul_one]
 exact Nat.le_trans h1 (by decide)
theorem Ech.nodup {E : List (Nat × (Nat → Int))} (h : Ech E) : (E.map (·.1)).Nodup := h.asc.imp fun h => by omega
theorem RInv.rem_le {X : Nat → Nat → Int} {n : Nat} {R : (Nat → Int) → Prop} {E : List (Nat × (Nat → Int))} (h : RInv X n R E) (cols : Nat) (hX : ∀ i c, (X i c).natAbs ≤ cellB cols c) (h6 : cols ≤ 6) (hE : ∀ a ∈ E, a.1 ≤ cols)
  (x : Nat → Int) (hx : R x) (hlen : ∀ j, cols < j → x j = 0) : ∀ j, (x j).natAbs ≤ 322560000 := by
 intro j
 by_cases h0 : x j = 0
 ·rw [h0]; simp
 obtain ⟨P, hPn, hPl, hD, hP1, hP2, hP3⟩ := h.min
 obtain ⟨r, hr, a, b, ha, hsp⟩ := hP3 x hx
 have hb := RInv.border h.ech hP1 r a b x hsp (h.van x hx)
 have hp : Prim x := by
  rcases (h.tid x hx).prim with hz | hp
  ·exact absurd (hz j) h0
  ·exact hp
 obtain ⟨q, hq, hw⟩ := prim_le hp (dt (colsOf X (E.map (·.1)).reverse) P * a) (-b) (fun h0 => by
  rcases Int.mul_eq_zero.1 h0 with h0 | h0
  ·exact hD h0
  ·exact ha h0) hb
 rcases hw j with hw | hw
 ·have hj : j ≤ cols := Nat.le_of_not_lt fun hl => h0 (hlen j hl)
  have hnp : j ∉ E.map (·.1) := fun hm => by
   obtain ⟨e, he, rfl⟩ := List.mem_map.1 hm
   exact h0 (h.van x hx e he)
  have hnd : (j :: (E.map (·.1)).reverse).Nodup := by
   rw [List.nodup_cons]
   exact ⟨by simpa using hnp, List.pairwise_reverse.2 (h.ech.nodup.imp fun h => Ne.symm h)⟩
  have hl7 : (j :: (E.map (·.1)).reverse).length ≤ 7 := by
   refine nodup_len 7 _ hnd fun y hy => ?_
   rcases List.mem_cons.1 hy with rfl | hy
   ·omega
   ·rw [List.mem_reverse] at hy
    obtain ⟨e, he, rfl⟩ := List.mem_map.1 hy
    have := hE e he
    omega
  have h1 := dt_bound X (cellB cols) hX (j :: (E.map (·.1)).reverse) (r :: P) (by simp [hPl])
  have h2 := fb_num cols _ hnd hl7
  have h3 : (dt ((fun i => X i j) :: colsOf X (E.map (·.1)).reverse) (r :: P)).natAbs ≤ 322560000 := Nat.le_trans h1 h2
  rw [hw, Int.natAbs_mul] at h3
  have : 1 * (x j).natAbs ≤ q.natAbs * (x j).natAbs := Nat.mul_le_mul (by omega) (Nat.le_refl _)
  omega
 ·exact absurd hw h0
/-- one common denominator for all rows of the reduced form -/
theorem RInv.dens {X : Nat → Nat → Int} {n : Nat} {R : (Nat → Int) → Prop} {E : List (Nat × (Nat → Int))} (h : RInv X n R E) (β : Nat → Nat) (hX : ∀ i c, (X i c).natAbs ≤ β c) :
  ∃ D : Int, D ≠ 0 ∧ D.natAbs ≤ fb β (E.map (·.1)) ∧ ∀ E1 a E2, E = E1 ++ a :: E2 → ∃ q : Int, q ≠ 0 ∧ (D = q * a.2 a.1 ∨ D = - (q * a.2 a.1)) ∧ ∀ j, a.2 j ≠ 0 → (q * a.2 j).natAbs ≤ fb β (j :: (E1 ++ E2).map (·.1)) := by
 obtain ⟨P, hPn, hPl, hD, hP1, hP2, hP3⟩ := h.min
 refine ⟨_, hD, ?_, ?_⟩
 ·rw [← fb_perm β (List.reverse_perm (E.map (·.1)))]
  exact dt_bound X β hX _ _ (by simp [hPl])
 rintro E1 a E2 rfl
 have ham : a ∈ E1 ++ a :: E2 := by simp
 have e0 : ((E1 ++ a :: E2).map (·.1)).reverse = (E2.map (·.1)).reverse ++ a.1 :: (E1.map (·.1)).reverse := by simp
 have hsgn := dt_head (fun i => X i a.1) (colsOf X (E2.map (·.1)).reverse) (colsOf X (E1.map (·.1)).reverse) P
 have e1 : colsOf X ((E1 ++ a :: E2).map (·.1)).reverse = colsOf X (E2.map (·.1)).reverse ++ (fun i => X i a.1) :: colsOf X (E1.map (·.1)).reverse := by rw [e0]; simp [colsOf]
 rw [← e1] at hsgn
 have hvs : Sp (inP X P) (fun j => dt ((fun i => X i j) :: (colsOf X (E2.map (·.1)).reverse ++ colsOf X (E1.map (·.1)).reverse)) P) := lapl_span X _ P _ fun i hi => ⟨i, hi, rfl⟩
 obtain ⟨v, hv⟩ : ∃ v : Nat → Int, v = fun j => dt ((fun i => X i j) :: (colsOf X (E2.map (·.1)).reverse ++ colsOf X (E1.map (·.1)).reverse)) P := ⟨_, rfl⟩
 rw [← hv] at hvs
 have hva : v a.1 = dt (colsOf X ((E1 ++ a :: E2).map (·.1)).reverse) P ∨ v a.1 = - dt (colsOf X ((E1 ++ a :: E2).map (·.1)).reverse) P := by rw [hv]; exact hsgn
 have hap := List.pairwise_append.1 h.ech.apart
 have hap2 := List.pairwise_cons.1 hap.2.1
 have hz := ech_zero h.ech (y := fun j => v a.1 * a.2 j + (- a.2 a.1) * v j) ((Sp.lin _ _ (hP2 a ham) hvs).trans (by rintro z ⟨i, hi, rfl⟩; exact hP1 i hi)) (by
  intro e he
  have hrep : ∀ e : Nat × (Nat → Int), e ∈ E1 ∨ e ∈ E2 → v e.1 = 0 := by
   intro e he
   rw [hv]
   refine dt_rep _ _ _ ?_
   rcases he with he | he
   ·exact List.mem_append.2 (.inr (List.mem_map.2 ⟨e.1, by rw [List.mem_reverse]; exact List.mem_map.2 ⟨e, he, rfl⟩, rfl⟩))
   ·exact List.mem_append.2 (.inl (List.mem_map.2 ⟨e.1, by rw [List.mem_reverse]; exact List.mem_map.2 ⟨e, he, rfl⟩, rfl⟩))
  rcases List.mem_append.1 he with he | he
  ·rw [hrep e (.inl he), (hap.2.2 e he a (by simp)).2.2]
   simp
  ·rcases List.mem_cons.1 he with rfl | he
   ·grind
   ·rw [hrep e (.inr he), (hap2.1 e he).2.1]
    simp)
 have hv0 : v a.1 ≠ 0 := by
  intro h0
  rcases hva with h1 | h1
  ·exact hD (by rw [← h1]; exact h0)
  ·exact hD (by omega)
 obtain ⟨q, hq, hw⟩ := prim_le (h.prim a ham) (v a.1) (a.2 a.1) hv0 (w := v) (fun j => by have := hz j; grind)
 have hpos := h.ech.pos a ham
 refine ⟨q, hq, ?_, fun j h0 => ?_⟩
 ·rcases hw a.1 with hw | hw
  ·rw [← hw]
   rcases hva with h1 | h1
   ·exact .inl h1.symm
   ·right; omega
  ·omega
 ·rcases hw j with hw | hw
  ·rw [← hw, hv]
   have h1 := dt_bound X β hX (j :: ((E2.map (·.1)).reverse ++ (E1.map (·.1)).reverse)) P (by rw [hPl]; simp; omega)
   have h2 : (j :: ((E2.map (·.1)).reverse ++ (E1.map (·.1)).reverse)).Perm (j :: (E1 ++ E2).map (·.1)) := by
    refine List.Perm.cons j ?_
    rw [← List.reverse_append, List.map_append]
    exact List.reverse_perm _
   rw [fb_perm β h2] at h1
   simpa [colsOf] using h1
  ·exact absurd hw h0
theorem RInv.out_le {X : Nat → Nat → Int} {n : Nat} {R : (Nat → Int) → Prop} {E : List (Nat × (Nat → Int))} (h : RInv X n R E) (cols : Nat) (hX : ∀ i c, (X i c).natAbs ≤ cellB cols c) (h6 : cols ≤ 6) (hE : ∀ a ∈ E, a.1 ≤ cols)
  (a : Nat × (Nat → Int)) (ha : a ∈ E) (hlen : ∀ j, cols < j → a.2 j = 0) : ∀ j, (a.2 j).natAbs ≤ 322560000 := by
 intro j
 by_cases h0 : a.2 j = 0
 ·rw [h0]; simp
 obtain ⟨D, hD, hDb, hall⟩ := h.dens (cellB cols) hX
 obtain ⟨E1, E2, rfl⟩ := List.append_of_mem ha
 obtain ⟨q, hq, _, hj⟩ := hall E1 a E2 rfl
 have hj := hj j h0
 have hap := List.pairwise_append.1 h.ech.apart
 have hap2 := List.pairwise_cons.1 hap.2.1
 have hnp : j ∉ (E1 ++ E2).map (·.1) := fun hm => by
  obtain ⟨e, he, rfl⟩ := List.mem_map.1 hm
  rcases List.mem_append.1 he with he | he
  ·exact h0 (hap.2.2 e he a (by simp)).2.2
  ·exact h0 (hap2.1 e he).2.1
 have hnd : (j :: (E1 ++ E2).map (·.1)).Nodup := by
  rw [List.nodup_cons]
  refine ⟨hnp, ?_⟩
  have := h.ech.nodup
  simp only [List.map_append, List.map_cons] at this ⊢
  exact (List.nodup_cons.1 ((List.perm_middle.nodup_iff).1 this)).2
 have hl7 : (j :: (E1 ++ E2).map (·.1)).length ≤ 7 := by
  refine nodup_len 7 _ hnd fun y hy => ?_
  rcases List.mem_cons.1 hy with rfl | hy
  ·have : y ≤ cols := Nat.le_of_not_lt fun hl => h0 (hlen y hl)
   omega
  ·obtain ⟨e, he, rfl⟩ := List.mem_map.1 hy
   have := hE e (by
    rcases List.mem_append.1 he with he | he
    ·simp [he]
    ·simp [he])
   omega
 have h3 := Nat.le_trans hj (fb_num cols _ hnd hl7)
 rw [Int.natAbs_mul] at h3
 have : 1 * (a.2 j).natAbs ≤ q.natAbs * (a.2 j).natAbs := Nat.mul_le_mul (by omega) (Nat.le_refl _)
 omega
/-! rows as lists -/
def vec (r : List Int) : Nat → Int := fun j => r.getD j 0
def gcdF (g : Int) (r : List Int) : Int := r.foldl (fun g x => ((Int.gcd g x : Nat) : Int)) g
theorem gcdF_dvd (x b : Int) : ∀ (r : List Int) (g : Int), x ∣ b * g → (∀ y ∈ r, x ∣ b * y) → x ∣ b * gcdF g r
 | [], g, h, _ => h
 | y :: r, g, h, hr => by
  refine gcdF_dvd x b r _ ?_ (fun z hz => hr z (by simp [hz]))
  have h1 : (x.natAbs : Int) ∣ ((Int.gcd (b * g) (b * y) : Nat) : Int) := Int.dvd_coe_gcd (Int.natAbs_dvd.2 h) (Int.natAbs_dvd.2 (hr y (by simp)))
  rw [Int.gcd_mul_left] at h1
  rw [← Int.dvd_natAbs, ← Int.natAbs_dvd, Int.natAbs_mul, Int.natAbs_natCast]
  exact h1
theorem gcdF_dvd_all : ∀ (r : List Int) (g : Int), gcdF g r ∣ g ∧ ∀ y ∈ r, gcdF g r ∣ y
 | [], g => ⟨Int.dvd_refl _, fun y h => by cases h⟩
 | x :: r, g => by
  have h := gcdF_dvd_all r ((Int.gcd g x : Nat) : Int)
  refine ⟨Int.dvd_trans h.1 (Int.gcd_dvd_left ..), fun y hy => ?_⟩
  rcases List.mem_cons.1 hy with rfl | hy
  ·exact Int.dvd_trans h.1 (Int.gcd_dvd_right ..)
  ·exact h.2 y hy
theorem gcdF_nonneg : ∀ (r : List Int) (g : Int), 0 ≤ g → 0 ≤ gcdF g r
 | [], g, h => h
 | x :: r, g, _ => gcdF_nonneg r _ (Int.natCast_nonneg _)
theorem vec_mem (r : List Int) (j : Nat) : vec r j = 0 ∨ vec r j ∈ r := by
 unfold vec
 by_cases h : j < r.length
 ·right; rw [List.getD_eq_getElem?_getD, List.getElem?_eq_getElem h]; exact List.getElem_mem h
 ·left; rw [List.getD_eq_getElem?_getD, List.getElem?_eq_none (by omega)]; rfl
/-- the index of the first number that is not 0; the length of none -/
def leadL (r : List Int) : Nat := r.findIdx (fun x => !(x == 0))
theorem leadL_low (r : List Int) (j : Nat) (h : j < leadL r) : vec r j = 0 := by
 have h1 := List.not_of_lt_findIdx h
 have hl : j < r.length := Nat.lt_of_lt_of_le h (List.findIdx_le_length)
 simp at h1
 unfold vec
 rw [List.getD_eq_getElem?_getD, List.getElem?_eq_getElem hl]
 exact h1
theorem leadL_at (r : List Int) (h : leadL r < r.length) : vec r (leadL r) ≠ 0 := by
 have h1 := List.findIdx_getElem (w := h)
 simp at h1
 unfold vec
 rw [List.getD_eq_getElem?_getD, List.getElem?_eq_getElem h]
 exact h1
theorem leadL_eq (r : List Int) (c : Nat) (h : c < r.length) (hlow : ∀ j, j < c → vec r j = 0) (hc : vec r c ≠ 0) : leadL r = c := by
 rcases Nat.lt_trichotomy (leadL r) c with h1 | h1 | h1
 ·exact absurd (hlow _ h1) (leadL_at r (by omega))
 ·exact h1
 ·exact absurd (leadL_low r c h1) hc
theorem leadL_zero (r : List Int) (h : ∀ j, vec r j = 0) : leadL r = r.length := by
 rcases Nat.lt_or_ge (leadL r) r.length with h1 | h1
 ·exact absurd (h _) (leadL_at r h1)
 ·exact Nat.le_antisymm List.findIdx_le_length h1
def sgnG (r : List Int) : Int := if vec r (leadL r) < 0 then - gcdF 0 r else gcdF 0 r
def tidyL (r : List Int) : List Int := if leadL r = r.length then r else r.map fun x => Int.tdiv x (sgnG r)
theorem tidyL_length (r : List Int) : (tidyL r).length = r.length := by unfold tidyL; split <;> simp
theorem vec_map (r : List Int) (f : Int → Int) (h : f 0 = 0) (j : Nat) : vec (r.map f) j = f (vec r j) := by
 unfold vec
 simp only [List.getD_eq_getElem?_getD, List.getElem?_map]
 cases r[j]? <;> simp [h]
theorem gcdF_pos (r : List Int) (h : leadL r ≠ r.length) : 0 < gcdF 0 r := by
 have h1 := gcdF_nonneg r 0 (Int.le_refl 0)
 rcases Int.lt_or_eq_of_le h1 with h2 | h2
 ·exact h2
 ·exfalso
  have hl : leadL r < r.length := Nat.lt_of_le_of_ne List.findIdx_le_length h
  rcases vec_mem r (leadL r) with h3 | h3
  ·exact leadL_at r hl h3
  ·have h4 := (gcdF_dvd_all r 0).2 _ h3
   rw [← h2] at h4
   exact leadL_at r hl (Int.zero_dvd.1 h4)
theorem tidyL_tid (r : List Int) : Tid (vec r) (vec (tidyL r)) := by
 by_cases h : leadL r = r.length
 ·have hz : ∀ j, vec r j = 0 := fun j => by
   rcases Nat.lt_or_ge j r.length with h1 | h1
   ·exact leadL_low r j (by omega)
   ·unfold vec; rw [List.getD_eq_getElem?_getD, List.getElem?_eq_none h1]; rfl
  have e : tidyL r = r := by unfold tidyL; rw [if_pos h]
  rw [e]
  exact ⟨⟨1, by omega, fun j => by omega⟩, .inl hz, fun c _ hc => absurd (hz c) hc⟩
 ·have hg := gcdF_pos r h
  have hl : leadL r < r.length := Nat.lt_of_le_of_ne List.findIdx_le_length h
  have hs0 : sgnG r ≠ 0 := by unfold sgnG; split <;> omega
  have hdv : ∀ j, sgnG r ∣ vec r j := fun j => by
   have h1 : gcdF 0 r ∣ vec r j := by
    rcases vec_mem r j with h3 | h3
    ·rw [h3]; exact Int.dvd_zero _
    ·exact (gcdF_dvd_all r 0).2 _ h3
   unfold sgnG
   split
   ·exact (Int.neg_dvd).2 h1
   ·exact h1
  have ev : ∀ j, vec (tidyL r) j = Int.tdiv (vec r j) (sgnG r) := fun j => by
   unfold tidyL
   rw [if_neg h, vec_map _ _ (by simp)]
  have em : ∀ j, vec r j = sgnG r * vec (tidyL r) j := fun j => by
   rw [ev j, Int.mul_tdiv_cancel' (hdv j)]
  refine ⟨⟨sgnG r, hs0, em⟩, .inr ?_, ?_⟩
  ·intro a b hab
   have h1 : a * gcdF 0 r ∣ b * gcdF 0 r := by
    refine gcdF_dvd _ b r 0 (by simp) fun y hy => ?_
    obtain ⟨j, hj, rfl⟩ := List.mem_iff_getElem.1 hy
    have hvj : vec r j = r[j] := by unfold vec; rw [List.getD_eq_getElem?_getD, List.getElem?_eq_getElem hj]; rfl
    obtain ⟨k, hk⟩ := hab j
    have e1 := em j
    rw [hvj] at e1
    rw [e1]
    have hs : sgnG r = gcdF 0 r ∨ sgnG r = - gcdF 0 r := by unfold sgnG; split; exact .inr rfl; exact .inl rfl
    rcases hs with hs | hs
    ·exact ⟨k, by rw [hs]; grind⟩
    ·exact ⟨-k, by rw [hs]; grind⟩
   exact Int.dvd_of_mul_dvd_mul_right (by omega) h1
  ·intro c hlow hc
   have hrc : vec r c ≠ 0 := fun h0 => by
    have := em c
    rw [h0] at this
    rcases Int.mul_eq_zero.1 this.symm with h1 | h1
    ·exact hs0 h1
    ·exact hc h1
   have hcl : c < r.length := Nat.lt_of_not_le fun h1 => hrc (by unfold vec; rw [List.getD_eq_getElem?_getD, List.getElem?_eq_none h1]; rfl)
   have hle : leadL r = c := leadL_eq r c hcl (fun j hj => by rw [em j, hlow j hj]; simp) hrc
   have e2 := em c
   unfold sgnG at e2
   rw [hle] at e2
   split at e2
   ·rename_i hneg
    rw [e2] at hneg
    rcases Int.lt_or_gt_of_ne hc with h1 | h1
    ·have := Int.mul_nonneg_of_nonpos_of_nonpos (a := - gcdF 0 r) (b := vec (tidyL r) c) (by omega) (by omega)
     omega
    ·exact h1
   ·rename_i hpos
    rw [e2] at hpos
    rcases Int.lt_or_gt_of_ne hc with h1 | h1
    ·have := Int.mul_neg_of_pos_of_neg hg h1
     omega
    ·exact h1
def clearL (a p : List Int) (k : Nat) : List Int := tidyL (List.zipWith (fun x y => x * vec p k - y * vec a k) a p)
theorem clearL_length (a p : List Int) (k : Nat) (h : a.length = p.length) : (clearL a p k).length = a.length := by unfold clearL; rw [tidyL_length]; simp [h]
theorem clearL_tid (a p : List Int) (k : Nat) (h : a.length = p.length) : Tid (clr k (vec p) (vec a)) (vec (clearL a p k)) := by
 have e : clr k (vec p) (vec a) = vec (List.zipWith (fun x y => x * vec p k - y * vec a k) a p) := by
  funext j
  simp only [clr]
  unfold vec
  simp only [List.getD_eq_getElem?_getD, List.getElem?_zipWith]
  by_cases hj : j < a.length
  ·rw [List.getElem?_eq_getElem hj, List.getElem?_eq_getElem (by omega : j < p.length)]; simp
  ·rw [List.getElem?_eq_none (by omega), List.getElem?_eq_none (by omega : p.length ≤ j)]; simp
 rw [e]
 exact tidyL_tid _
def clearIf (a p : List Int) (k : Nat) : List Int := if vec a k = 0 then a else clearL a p k
theorem clearIf_length (a p : List Int) (k : Nat) (h : a.length = p.length) : (clearIf a p k).length = a.length := by
 unfold clearIf; split
 ·rfl
 ·exact clearL_length a p k h
theorem clearIf_tid (a p : List Int) (k : Nat) (h : a.length = p.length) (ht : Tid (vec a) (vec a)) (hp : vec p k ≠ 0) : Tid (clr k (vec p) (vec a)) (vec (clearIf a p k)) := by
 unfold clearIf
 split
 ·rename_i h0
  refine ⟨⟨vec p k, hp, fun j => by simp only [clr]; rw [h0]; grind⟩, ht.prim, ht.lead⟩
 ·exact clearL_tid a p k h
abbrev remS (rem : List (List Int)) : (Nat → Int) → Prop := fun z => ∃ r, r ∈ rem ∧ z = vec r
abbrev outE (out : List (List Int)) : List (Nat × (Nat → Int)) := out.map fun r => (leadL r, vec r)
abbrev xvec (X : List (List Int)) : Nat → Nat → Int := fun i => vec (X.getD i [])
structure CInv (X : List (List Int)) (N c : Nat) (rem out : List (List Int)) : Prop where
 inv : RInv (xvec X) X.length (remS rem) (outE out)
 lenr : ∀ r ∈ rem, r.length = N
 leno : ∀ r ∈ out, r.length = N
 low : ∀ r ∈ rem, ∀ j, j < c → vec r j = 0
 lead : ∀ r ∈ out, leadL r < c
theorem xvec_mem (X : List (List Int)) (i : Nat) (h : i < X.length) : xvec X i = vec X[i] := by
 simp [xvec, List.getD_eq_getElem?_getD, List.getElem?_eq_getElem h]
theorem CInv.init (X : List (List Int)) (N : Nat) (hX : ∀ r ∈ X, r.length = N) : CInv X N 0 (X.map tidyL) [] where
 inv := by
  refine RInv.init _ _ _ ?_ ?_
  ·rintro x ⟨r, hr, rfl⟩
   obtain ⟨y, hy, rfl⟩ := List.mem_map.1 hr
   obtain ⟨i, hi, rfl⟩ := List.mem_iff_getElem.1 hy
   exact ⟨i, hi, by rw [xvec_mem X i hi]; exact tidyL_tid _⟩
  ·intro i hi
   exact ⟨vec (tidyL X[i]), ⟨tidyL X[i], List.mem_map.2 ⟨X[i], List.getElem_mem _, rfl⟩, rfl⟩, by rw [xvec_mem X i hi]; exact tidyL_tid _⟩
 lenr := fun r hr => by
  obtain ⟨y, hy, rfl⟩ := List.mem_map.1 hr
  rw [tidyL_length]; exact hX y hy
 leno := fun r hr => by cases hr
 low := fun r _ j hj => by omega
 lead := fun r hr => by cases hr
theorem CInv.skip {X : List (List Int)} {N c : Nat} {rem out : List (List Int)} (h : CInv X N c rem out) (h0 : ∀ r ∈ rem, vec r c = 0) : CInv X N (c + 1) rem out :=
 ⟨h.inv, h.lenr, h.leno, fun r hr j hj => by
  rcases Nat.lt_or_eq_of_le (Nat.le_of_lt_succ hj) with h1 | rfl
  ·exact h.low r hr j h1
  ·exact h0 r hr, fun r hr => Nat.lt_succ_of_lt (h.lead r hr)⟩
theorem CInv.perm {X : List (List Int)} {N c : Nat} {rem rem' out : List (List Int)} (h : CInv X N c rem out) (hp : ∀ r, r ∈ rem ↔ r ∈ rem') : CInv X N c rem' out := by
 have e : remS rem = remS rem' := by funext z; exact propext ⟨fun ⟨r, h1, e⟩ => ⟨r, (hp r).1 h1, e⟩, fun ⟨r, h1, e⟩ => ⟨r, (hp r).2 h1, e⟩⟩
 exact ⟨e ▸ h.inv, fun r hr => h.lenr r ((hp r).2 hr), h.leno, fun r hr => h.low r ((hp r).2 hr), h.lead⟩
theorem CInv.pivot {X : List (List Int)} {N c : Nat} {rem out others : List (List Int)} {x : List Int} (h : CInv X N c rem out) (hc : vec x c ≠ 0) (hp : ∀ r, r ∈ rem ↔ r = x ∨ r ∈ others) :
  CInv X N (c + 1) (others.map fun r => clearIf r x c) (out.map (fun r => clearIf r x c) ++ [x]) := by
 have hx : x ∈ rem := (hp x).2 (.inl rfl)
 have hxN := h.lenr x hx
 have hcN : c < x.length := Nat.lt_of_not_le fun h1 => hc (by unfold vec; rw [List.getD_eq_getElem?_getD, List.getElem?_eq_none h1]; rfl)
 have hlx : leadL x = c := leadL_eq x c hcN (h.low x hx) hc
 have hE : ∀ a ∈ outE out, a.1 < c := by
  intro a ha
  obtain ⟨r, hr, rfl⟩ := List.mem_map.1 ha
  exact h.lead r hr
 have tr : ∀ r ∈ rem, Tid (clr c (vec x) (vec r)) (vec (clearIf r x c)) := fun r hr =>
  clearIf_tid r x c (by rw [h.lenr r hr, hxN]) (h.inv.tid _ ⟨r, hr, rfl⟩) hc
 have tpo : ∀ r ∈ out, Tid (clr c (vec x) (vec r)) (vec (clearIf r x c)) := fun r hr => by
  have hm : (leadL r, vec r) ∈ outE out := List.mem_map.2 ⟨r, hr, rfl⟩
  refine clearIf_tid r x c (by rw [h.leno r hr, hxN]) ⟨⟨1, by omega, fun j => by omega⟩, .inr (h.inv.prim _ hm), fun d hd hdc => ?_⟩ hc
  have hle : leadL r = d := by
   refine leadL_eq r d ?_ hd hdc
   exact Nat.lt_of_not_le fun h1 => hdc (by unfold vec; rw [List.getD_eq_getElem?_getD, List.getElem?_eq_none h1]; rfl)
  have := h.inv.ech.pos _ hm
  simp only [hle] at this
  exact this
 -- leads stay
 have ld : ∀ r ∈ out, leadL (clearIf r x c) = leadL r := by
  intro r hr
  have hm : (leadL r, vec r) ∈ outE out := List.mem_map.2 ⟨r, hr, rfl⟩
  have ht := tpo r hr
  have hv := h.inv.van _ ⟨x, hx, rfl⟩ _ hm
  have hpos := h.inv.ech.pos _ hm
  have hl := h.lead r hr
  have hN := h.leno r hr
  refine leadL_eq _ _ ?_ ?_ ?_
  ·rw [clearIf_length r x c (by rw [hN, hxN]), hN, ← hxN]; omega
  ·intro j hj
   rw [← ht.zero]
   simp only [clr]
   rw [leadL_low r j hj, h.low x hx j (by omega)]; simp
  ·rw [Ne, ← ht.zero]
   simp only [clr]
   simp only at hv hpos
   rw [hv]
   intro h0
   have h1 : vec r (leadL r) * vec x c = 0 := by omega
   rcases Int.mul_eq_zero.1 h1 with h1 | h1
   ·omega
   ·exact hc h1
 have hEl : outE (out.map (fun r => clearIf r x c) ++ [x]) = outE (out.map (fun r => clearIf r x c)) ++ [(c, vec x)] := by
  simp [outE, hlx]
 refine ⟨?_, ?_, ?_, ?_, ?_⟩
 ·rw [hEl]
  refine h.inv.step c (vec x) ⟨x, hx, rfl⟩ hc ?_ hE ?_ ?_ (by simp [outE]) ?_
  ·rintro z ⟨r, hr, rfl⟩ j hj; exact h.low r hr j hj
  ·rintro y ⟨r, hr, rfl⟩
   obtain ⟨s, hs, rfl⟩ := List.mem_map.1 hr
   have hs' := (hp s).2 (.inr hs)
   exact ⟨vec s, ⟨s, hs', rfl⟩, tr s hs'⟩
  ·rintro z ⟨r, hr, rfl⟩
   rcases (hp r).1 hr with rfl | ho
   ·exact .inl rfl
   ·exact .inr ⟨_, ⟨clearIf r x c, List.mem_map.2 ⟨r, ho, rfl⟩, rfl⟩, tr r hr⟩
  ·intro i h1 h2
   have hi : i < out.length := by simpa [outE] using h2
   simp only [outE, List.getElem_map]
   exact ⟨ld _ (List.getElem_mem _), tpo _ (List.getElem_mem _)⟩
 ·intro r hr
  obtain ⟨s, hs, rfl⟩ := List.mem_map.1 hr
  have hs' := h.lenr s ((hp s).2 (.inr hs))
  rw [clearIf_length s x c (by rw [hs', hxN]), hs']
 ·intro r hr
  rcases List.mem_append.1 hr with hr | hr
  ·obtain ⟨s, hs, rfl⟩ := List.mem_map.1 hr
   have hs' := h.leno s hs
   rw [clearIf_length s x c (by rw [hs', hxN]), hs']
  ·rw [List.mem_singleton.1 hr]; exact hxN
 ·intro r hr j hj
  obtain ⟨s, hs, rfl⟩ := List.mem_map.1 hr
  have hs' := (hp s).2 (.inr hs)
  rw [← (tr s hs').zero]
  simp only [clr]
  rcases Nat.lt_or_eq_of_le (Nat.le_of_lt_succ hj) with h1 | rfl
  ·rw [h.low s hs' j h1, h.low x hx j h1]; simp
  ·grind
 ·intro r hr
  rcases List.mem_append.1 hr with hr | hr
  ·obtain ⟨s, hs, rfl⟩ := List.mem_map.1 hr
   rw [ld s hs]
   have := h.lead s hs
   omega
  ·rw [List.mem_singleton.1 hr, hlx]; omega
/-- bounds of the cells at every state -/
theorem vec_out (r : List Int) (j : Nat) (h : r.length ≤ j) : vec r j = 0 := by
 unfold vec; rw [List.getD_eq_getElem?_getD, List.getElem?_eq_none h]; rfl
theorem CInv.rem_le {X : List (List Int)} {N c cols : Nat} {rem out : List (List Int)} (h : CInv X N c rem out) (hN : N ≤ cols + 1) (h6 : cols ≤ 6) (hX : ∀ r ∈ X, ∀ j, (vec r j).natAbs ≤ cellB cols j) (hc : c ≤ cols + 1) (r : List Int) (hr : r ∈ rem) (j : Nat) : (vec r j).natAbs ≤ 322560000 := by
 refine h.inv.rem_le cols (fun i k => ?_) h6 ?_ (vec r) ⟨r, hr, rfl⟩ (fun j hj => vec_out r j (by rw [h.lenr r hr]; omega)) j
 ·by_cases hi : i < X.length
  ·rw [xvec_mem X i hi]; exact hX _ (List.getElem_mem _) k
  ·have : xvec X i k = 0 := by simp [xvec, List.getD_eq_getElem?_getD, List.getElem?_eq_none (Nat.le_of_not_lt hi), vec]
   rw [this]; simp
 ·intro a ha
  obtain ⟨s, hs, rfl⟩ := List.mem_map.1 ha
  have := h.lead s hs
  simp only
  omega
theorem CInv.out_le {X : List (List Int)} {N c cols : Nat} {rem out : List (List Int)} (h : CInv X N c rem out) (hN : N ≤ cols + 1) (h6 : cols ≤ 6) (hX : ∀ r ∈ X, ∀ j, (vec r j).natAbs ≤ cellB cols j) (hc : c ≤ cols + 1) (r : List Int) (hr : r ∈ out) (j : Nat) : (vec r j).natAbs ≤ 322560000 := by
 refine h.inv.out_le cols (fun i k => ?_) h6 ?_ (leadL r, vec r) (List.mem_map.2 ⟨r, hr, rfl⟩) (fun j hj => vec_out r j (by rw [h.leno r hr]; omega)) j
 ·by_cases hi : i < X.length
  ·rw [xvec_mem X i hi]; exact hX _ (List.getElem_mem _) k
  ·have : xvec X i k = 0 := by simp [xvec, List.getD_eq_getElem?_getD, List.getElem?_eq_none (Nat.le_of_not_lt hi), vec]
   rw [this]; simp
 ·intro a ha
  obtain ⟨s, hs, rfl⟩ := List.mem_map.1 ha
  have := h.lead s hs
  simp only
  omega
def bound62 (zs : List Int) : Prop := ∀ x ∈ zs, x.natAbs ≤ 4611686018427387904
theorem vec_of_lt (r : List Int) (j : Nat) (h : j < r.length) : vec r j = r[j] := by
 unfold vec; rw [List.getD_eq_getElem?_getD, List.getElem?_eq_getElem h]; rfl
theorem tdiv_le (x g : Int) : (Int.tdiv x g).natAbs ≤ x.natAbs := by
 rw [Int.natAbs_tdiv]
 exact Nat.div_le_self _ _
set_option maxHeartbeats 2000000 in
theorem idxf_lead (p : Int → Bool) (lb : Array Value) (A0 : Option Addr) (c0 : Nat) (l0 : List Int) (w : World) (hr0 : Kd.C (Kd.int .i64) w A0 l0.length l0) (hl : l0.length ≤ 1048576)
  (hp : ∀ x W, Below w.heap.size w W → x ∈ l0 → Calls Try.prog 189 (#[.int .i64 x] ++ lb) W fun e w' => e = .returned (.bool (p x)) ∧ Below W.heap.size W w') :
  Calls Try.prog 153 #[.slice A0 l0.length c0, .func (.func 189) #[] lb] w fun e w' => e = .returned (.int .i64 (firstP p l0 0)) ∧ Below w.heap.size w w' := by
 have HR0 := Aside0.mk hr0
 have HP := Aside0.mk hp
 have eg : ∀ args w, (callFunc 189 args).run Try.prog w = .ok (.enter 189 args) w := by
  intro args w
  have h1 : Try.f189.name ≠ "runtime.NumGoroutine" := by decide
  obtain ⟨c_, hb⟩ : ∃ c_, Try.f189.body = some c_ := ⟨_, rfl⟩
  simp [callFunc, Try.func189, h1, hb, mark]
 clear hr0 hp
 go_enter Try.func153, Try.ntmps153
 go_wp2
 go_loopg [8] l0.length (fun gg v8 wr => ∃ (pre suf : List Int), gg = suf.length ∧ Aside0 (l0 = pre ++ suf) ∧ v8 = .int .i64 (pre.length : Int) ∧ Aside0 (firstP p suf pre.length = firstP p l0 0) ∧ Aside0 (Below w.heap.size w wr))
 case atStart => exact ⟨[], l0, rfl, ⟨rfl⟩, rfl, ⟨rfl⟩, ⟨by repeat (first | (with_reducible first | exact Below.refl _ _ | apply below_alloc | apply pw_below_drewN | apply below_drew1) | exact Below.refl _ _)⟩⟩
 case round =>
  obtain ⟨pre, suf, hgg, HE, rfl, HA, HB⟩ := hrel
  cases suf with
  | nil =>
   have hlt : ¬ (pre.length : Int) < (l0.length : Int) := by rw [HE.out]; simp
   go_wp2
   go_ret
   exact ⟨by rw [← HA.out]; rfl, HB.out⟩
  | cons x suf =>
   have hlt : (pre.length : Int) < (l0.length : Int) := by rw [HE.out]; simp; omega
   obtain ⟨ad, e, hc⟩ := Kd.at_int HR0.out (pre.length : Int) (by omega) hlt
   have hx : rd l0 (pre.length : Int) = x := by rw [HE.out]; exact rd_mid pre suf x
   rw [hx] at hc
   cases e
   have hc2 : wr.cell? (ad.add pre.length) = some (.int .i64 x) := by have h_ := (HB.out.cell (World.block_lt_of_cell? w _ hc)).trans hc; simpa using h_
   have HCALL := Aside0.mk (HP.out x)
   have HM := Aside0.mk (show x ∈ l0 by rw [HE.out]; simp)
   clear hx hc
   have hb0 := Aside0.mk (Below.refl w.heap.size w)
   cases hp : p x with
   | true =>
    rw [hp] at HCALL
    go_wp2_with fail
    go_at_call 189; (refine (HCALL.out _ ?hbel HM.out).mono ?_); (case hbel => repeat (first | (with_reducible first | exact HB.out | apply below_alloc | apply pw_below_drewN | apply below_drew1) | exact HB.out)); rintro e w' ⟨rfl, hb'⟩
    have HB2 := Aside0.mk (below_step (w := w) (by repeat (first | (with_reducible first | exact HB.out | apply below_alloc | apply pw_below_drewN | apply below_drew1) | exact HB.out)) hb')
    clear hb'
    go_wp2
    go_ret
    exact ⟨by rw [← HA.out, firstP, if_pos hp]; rfl, HB2.out⟩
   | false =>
    rw [hp] at HCALL
    go_wp2_with fail
    go_at_call 189; (refine (HCALL.out _ ?hbel HM.out).mono ?_); (case hbel => repeat (first | (with_reducible first | exact HB.out | apply below_alloc | apply pw_below_drewN | apply below_drew1) | exact HB.out)); rintro e w' ⟨rfl, hb'⟩
    have HB2 := Aside0.mk (below_step (w := w) (by repeat (first | (with_reducible first | exact HB.out | apply below_alloc | apply pw_below_drewN | apply below_drew1) | exact HB.out)) hb')
    clear hb'
    have HL := Aside0.mk hl
    have HLT := Aside0.mk hlt
    clear hl hlt
    go_wp2_with fail
    go_roundg suf.length
    case measure => rw [hgg]; simp
    case rel => exact ⟨pre ++ [x], suf, rfl, ⟨by rw [HE.out]; simp⟩, by rw [wsucc (by have := HL.out; have := HLT.out; omega)]; simp, ⟨by rw [← HA.out, firstP, if_neg (by rw [hp]; decide)]; simp⟩, ⟨HB2.out⟩⟩
set_option maxHeartbeats 1000000 in
theorem lead1_c (x : Int) (w : World) : Calls Try.prog 189 #[.int .i64 x] w fun e w' => e = .returned (.bool (!(x == 0))) ∧ Below w.heap.size w w' := by
 go_enter Try.func189, Try.ntmps189
 go_wp2
 go_ret
 exact ⟨by simp [bne], by repeat (first | (with_reducible first | exact Below.refl _ _ | apply below_alloc | apply pw_below_drewN | apply below_drew1) | exact Below.refl _ _)⟩
def leadI (zs : List Int) : Int := if leadL zs = zs.length then -1 else (leadL zs : Int)
theorem firstP_lead : ∀ (zs : List Int) (n : Nat), firstP (fun x => !(x == 0)) zs n = if leadL zs = zs.length then -1 else ((n + leadL zs : Nat) : Int)
 | [], n => by simp [firstP, leadL]
 | x :: zs, n => by
  by_cases h : x = 0
  ·have e : leadL (x :: zs) = leadL zs + 1 := by simp [leadL, List.findIdx_cons, h]
   rw [firstP, if_neg (by simp [h]), firstP_lead zs (n + 1), e, List.length_cons]
   by_cases h2 : leadL zs = zs.length
   ·rw [if_pos h2, if_pos (by omega)]
   ·rw [if_neg h2, if_neg (by omega)]; omega
  ·have hb : (x == 0) = false := by simpa using h
   have e : leadL (x :: zs) = 0 := by simp [leadL, List.findIdx_cons, hb]
   rw [firstP, if_pos (by simp [h]), e, if_neg (by simp)]; simp
set_option maxHeartbeats 1000000 in
theorem impl_lead_c (A : Option Addr) (c : Nat) (zs : List Int) (w : World) (hr : Kd.C (Kd.int .i64) w A zs.length zs) (hl : zs.length ≤ 1048576) :
  Calls Try.prog 159 #[.slice A zs.length c] w fun e w' => e = .returned (.int .i64 (leadI zs)) ∧ Below w.heap.size w w' := by
 have H := Aside0.mk (idxf_lead (fun x => !(x == 0)) #[] A c zs w hr hl (fun x W _ _ => lead1_c x W))
 have e : firstP (fun x => !(x == 0)) zs 0 = leadI zs := by rw [firstP_lead]; simp [leadI]
 rw [e] at H
 clear hr hl e
 go_enter Try.func159, Try.ntmps159
 go_wp2_with fail
 go_at_call 153; refine H.out.mono ?_; rintro e w' ⟨rfl, hb⟩
 have HB := Aside0.mk hb
 clear hb
 go_wp2
 go_ret
 exact ⟨rfl, by repeat (first | (with_reducible first | exact HB.out | apply below_alloc | apply pw_below_drewN | apply below_drew1) | exact HB.out)⟩

def impl_lead.f (l0 : List Int) : Option Int := if l0.length ≤ 1048576 then some (leadI l0) else none
theorem impl_lead.calls (A0 : Option Addr) (c0 : Nat) (l0 : List Int) (r : Int) (w : World) (hr0 : Kd.C (Kd.int .i64) w A0 l0.length l0) (hc0 : l0.length ≤ c0) (h : impl_lead.f l0 = some r) :
  Calls Try.prog 159 #[.slice A0 l0.length c0] w fun e w' => e = .returned (.int .i64 r) ∧ Below w.heap.size w w' := by
 unfold impl_lead.f at h
 split at h
 ·rename_i hh
  obtain rfl := Option.some.inj h
  exact impl_lead_c A0 c0 l0 w hr0 hh
 ·cases h

end Go.Proofs.Ytiipcophnnfnoaa.PFnLiars
