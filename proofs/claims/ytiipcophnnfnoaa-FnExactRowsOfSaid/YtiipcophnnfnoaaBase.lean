/- Small laws on numbers, lists and rounds, used by the pure proofs of this seat. -/
import Derived.Test.YtiipcophnnfnoaaWMore
import Derived.Laws.BitsLemmas
namespace Go.Proofs.Ytiipcophnnfnoaa.Base
open Go.RowKit Go.Proofs.YtiipcophnnfnoaaW.PrintWords Go.Proofs.YtiipcophnnfnoaaW.PrintLast

theorem wf_i64 {x : Int} (h : (Lit.int .i64 x).wf = true) : -9223372036854775808 ≤ x ∧ x ≤ 9223372036854775807 := by
  simp only [Lit.wf, IntKind.min, IntKind.max, IntKind.signed, IntKind.bits, Bool.and_eq_true, decide_eq_true_eq, if_true] at h
  omega

theorem w64 {n : Int} (h : -9223372036854775808 ≤ n) (h2 : n ≤ 9223372036854775807) : wrap64 n = n := by
  unfold wrap64
  omega

theorem wsucc {j : Nat} (h : j < 9223372036854775807) : wrap64 ((j : Int) + 1) = ((j + 1 : Nat) : Int) := by
  rw [w64 (by omega) (by omega)]
  omega

theorem evPos {α : Type} {c : Prop} [Decidable c] {g f : Nat → Option α} {r : α} (h : c) (k : Ev g r) : Ev (fun n => if c then g n else f n) r :=
  Ev.congr (fun _ => if_pos h) k
theorem evNeg {α : Type} {c : Prop} [Decidable c] {g f : Nat → Option α} {r : α} (h : ¬ c) (k : Ev f r) : Ev (fun n => if c then g n else f n) r :=
  Ev.congr (fun _ => if_neg h) k
/-- A callee that has no rounds. -/
theorem evSome {α β : Type} {o : Option α} {a : α} {f : Nat → α → Option β} {r : β} (h : o = some a) (k : Ev (fun n => f n a) r) : Ev (fun n => o.bind (f n)) r := by
  subst h
  exact k
theorem evEq {α : Type} {g : Nat → Option α} {r r' : α} (h : r = r') (k : Ev g r) : Ev g r' := h ▸ k

theorem rd_at (xs : List Int) (j : Nat) (h : j < xs.length) : rd xs (j : Int) = xs[j] := by
  simp [rd, h]
theorem getD_at {α : Type} (xs : List α) (d : α) (j : Nat) (h : j < xs.length) : xs.getD ((j : Int).toNat) d = xs[j] := by
  simp [h]
theorem rd_mid (pre suf : List Int) (x : Int) : rd (pre ++ x :: suf) (pre.length : Int) = x := by
  simp [rd]
theorem getD_mid {α : Type} (pre suf : List α) (x d : α) : (pre ++ x :: suf).getD ((pre.length : Int).toNat) d = x := by
  simp
theorem rd_mid' {n : Nat} (pre suf : List Int) (x : Int) (h : pre.length = n) : rd (pre ++ x :: suf) (n : Int) = x := by
  subst h
  exact rd_mid pre suf x
theorem getD_mid' {α : Type} {n : Nat} (pre suf : List α) (x d : α) (h : pre.length = n) : (pre ++ x :: suf).getD ((n : Int).toNat) d = x := by
  subst h
  exact getD_mid pre suf x d
theorem set_mid {α : Type} (pre suf : List α) (x v : α) : (pre ++ x :: suf).set ((pre.length : Int).toNat) v = pre ++ v :: suf := by
  simp
theorem drop_cons {α : Type} (xs : List α) (j : Nat) (h : j < xs.length) : xs.drop j = xs[j] :: xs.drop (j + 1) := List.drop_eq_getElem_cons h
theorem drop_nil {α : Type} (xs : List α) (j : Nat) (h : xs.length ≤ j) : xs.drop j = [] := List.drop_eq_nil_of_le h
theorem and255 (x : Int) : 0 ≤ Go.bits .and .i64 x 255 ∧ Go.bits .and .i64 x 255 ≤ 255 := by
  unfold Go.bits
  have h : ((BitVec.ofInt IntKind.i64.bits x).toNat &&& (BitVec.ofInt IntKind.i64.bits 255).toNat) ≤ 255 := Nat.le_trans Nat.and_le_right (by decide)
  simp only [BitVec.toNat_and]
  rw [IntKind.wrap_i64]
  omega
theorem tmod_range {a n : Int} (h : 1 ≤ n) (ha : 0 ≤ a) : 0 ≤ Int.tmod a n ∧ Int.tmod a n < n := by
  rw [Int.tmod_eq_emod_of_nonneg ha]
  exact ⟨Int.emod_nonneg a (by omega), Int.emod_lt_of_pos a (by omega)⟩
end Go.Proofs.Ytiipcophnnfnoaa.Base
