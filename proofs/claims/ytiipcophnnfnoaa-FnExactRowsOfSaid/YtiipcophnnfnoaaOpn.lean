import Derived.SizedLaws
import Derived.ChangeSlices
import Derived.OpenShut
import Derived.ProofKit
import Derived.Test.YtiipcophnnfnoaaWWords
namespace Go.Proofs.Ytiipcophnnfnoaa.Opn
open Go.ChangeShapes Go.WideShapes Go.RowKit Go.Proofs.YtiipcophnnfnoaaW.PrintWords
section
variable {H : Type} {α β : Type} {enc : TypeId × Value → H} {P : Program} {w : World}

/-- What is read as a datum of type t is a value of kind d that fulfils G. -/
def Opens (enc : TypeId × Value → H) (P : Program) (w : World) (d : Kd α) (t : TypeId) (G : α → Prop) : Prop :=
  ∀ (base : Nat) (spare : Nat → Bool) (held : Bool) (fuel : Nat) (cs : List Value) (x : DataW H × List MemPlace), DataW.trod enc P w base spare held fuel t cs = some x → ∃ v, d.K w v cs ∧ G v

theorem opens_int {t : TypeId} {k : IntKind} (ht : P.underlying t = some (.int k)) : Opens enc P w (Kd.int k) t (fun n => (Lit.int k n).wf = true) := by
  intro base spare held fuel cs x h
  obtain ⟨n, rfl, rfl, hw⟩ := DataW.trod_int ht h
  exact ⟨n, rfl, hw⟩

theorem opens_bool {t : TypeId} (ht : P.underlying t = some .bool) : Opens enc P w Kd.bool t (fun _ => True) := by
  intro base spare held fuel cs x h
  obtain ⟨b, rfl, rfl⟩ := DataW.trod_bool ht h
  exact ⟨b, rfl, trivial⟩

theorem add_add (a : Addr) (m k : Nat) : (a.add m).add k = a.add (m + k) := by
  unfold Addr.add
  by_cases hm : m = 0
  · subst hm
    simp
  · by_cases hk : k = 0
    · subst hk
      simp
    · simp [hm, hk, Nat.add_assoc]

theorem exists_list {α : Type} {Q : Nat → α → Prop} : ∀ n : Nat, (∀ i, i < n → ∃ v, Q i v) → ∃ l : List α, l.length = n ∧ ∀ i v, l[i]? = some v → Q i v := by
  intro n
  induction n with
  | zero => exact fun _ => ⟨[], rfl, fun i v h => by simp at h⟩
  | succ n ih =>
    intro h
    obtain ⟨l, hl, hq⟩ := ih (fun i hi => h i (by omega))
    obtain ⟨v, hv⟩ := h n (by omega)
    refine ⟨l ++ [v], by simp [hl], fun i u hu => ?_⟩
    rcases Nat.lt_or_ge i l.length with hi | hi
    · rw [List.getElem?_append_left hi] at hu
      exact hq i u hu
    · have : i = l.length := by
        have := (List.getElem?_eq_some_iff.1 hu).1
        simp at this
        omega
      subst this
      simp at hu
      subst hu
      rw [hl]
      exact hv

theorem opens_slice {t e : TypeId} {d : Kd α} {G : α → Prop} (ht : P.underlying t = some (.slice e)) (hs : P.cellsOf e = d.sz) (hd : Opens enc P w d e G) :
    Opens enc P w (Kd.slice e d) t (fun xs => xs.length ≤ 9223372036854775807 ∧ ∀ x ∈ xs, G x) := by
  intro base spare held fuel cs x h
  rcases DataW.trod_slice ht h with ⟨rfl, rfl⟩ | ⟨a, len, cap, elems, rest, n, _, rfl, rfl, hb, hl, hm, hlen, hel, hsp, hns⟩
  · exact ⟨[], ⟨none, 0, rfl, Nat.le_refl _, rfl, by simp, fun hn => absurd hn (by simp)⟩, by simp, by simp⟩
  · have each : ∀ i, i < len → ∃ v : α, ∃ c : List Value, c.length = d.sz ∧ d.K w v c ∧ (∀ j u, c[j]? = some u → w.cell? (a.add (i * d.sz + j)) = some u) ∧ G v := by
      intro i hi
      have e1 := hel i hi
      rw [List.getElem?_eq_getElem (by omega), Option.bind_eq_some_iff] at e1
      obtain ⟨c, hc, hx⟩ := e1
      obtain ⟨v, hk, hg⟩ := hd _ _ _ _ _ _ hx
      obtain ⟨_, hcl, hcell⟩ := World.cells?_some hc
      refine ⟨v, c, d.K_len hk, hk, fun j u hu => ?_, hg⟩
      have hj := (List.getElem?_eq_some_iff.1 hu).1
      rw [← hu, ← hcell j (by omega), add_add, hs]
    obtain ⟨l, hll, hq⟩ := exists_list len each
    have hm' : cap ≤ 9223372036854775807 := by
      have : maxLen = 9223372036854775807 := by decide
      omega
    refine ⟨l, ⟨some a, cap, by rw [hll], by omega, rfl, by omega, fun _ => ⟨a, rfl, fun j p hj => ?_⟩⟩, by omega, fun v hv => ?_⟩
    · obtain ⟨c, h1, h2, h3, _⟩ := hq j p hj
      exact ⟨c, h1, h2, h3⟩
    · obtain ⟨j, hj⟩ := List.getElem?_of_mem hv
      obtain ⟨c, _, _, _, h4⟩ := hq j v hj
      exact h4

theorem opens_iso {t : TypeId} {d : Kd α} {f : β → α} {G : α → Prop} (g : α → β) (hg : ∀ x, f (g x) = x) (h : Opens enc P w d t G) : Opens enc P w (Kd.iso d f) t (fun y => G (f y)) := by
  intro base spare held fuel cs x hx
  obtain ⟨v, hk, hv⟩ := h base spare held fuel cs x hx
  refine ⟨g v, ?_, ?_⟩
  · show d.K w (f (g v)) cs
    rw [hg]
    exact hk
  · show G (f (g v))
    rw [hg]
    exact hv

/-- The fields fs, laid one after the other from off on, are a value of kind d. -/
def OpensF (enc : TypeId × Value → H) (P : Program) (w : World) (d : Kd α) (fs : List Field) (off : Nat) (G : α → Prop) : Prop :=
  ∀ (base : Nat) (spare : Nat → Bool) (held : Bool) (fuel : Nat) (cs : List Value), cs.length = off + d.sz →
    (∀ f ∈ fs, ∃ x, DataW.trod enc P w base spare held fuel f.type ((cs.drop f.offset).take (P.cellsOf f.type)) = some x) → ∃ v, d.K w v (cs.drop off) ∧ G v

theorem opensF_one {d : Kd α} {f : Field} {off : Nat} {G : α → Prop} (ho : f.offset = off) (hs : P.cellsOf f.type = d.sz) (h : Opens enc P w d f.type G) : OpensF enc P w d [f] off G := by
  intro base spare held fuel cs hl hf
  obtain ⟨x, hx⟩ := hf f (by simp)
  obtain ⟨v, hk, hg⟩ := h _ _ _ _ _ _ hx
  refine ⟨v, ?_, hg⟩
  rw [ho, hs, List.take_of_length_le (by rw [List.length_drop]; omega)] at hk
  exact hk

theorem opensF_cons {d : Kd α} {d2 : Kd β} {f : Field} {fs : List Field} {off : Nat} {G : α → Prop} {G2 : β → Prop} (ho : f.offset = off) (hs : P.cellsOf f.type = d.sz) (h : Opens enc P w d f.type G)
    (h2 : OpensF enc P w d2 fs (off + d.sz) G2) : OpensF enc P w (Kd.pair d d2) (f :: fs) off (fun p => G p.1 ∧ G2 p.2) := by
  intro base spare held fuel cs hl hf
  have hl' : cs.length = off + (d.sz + d2.sz) := hl
  obtain ⟨x, hx⟩ := hf f (by simp)
  obtain ⟨v, hk, hg⟩ := h _ _ _ _ _ _ hx
  obtain ⟨v2, hk2, hg2⟩ := h2 base spare held fuel cs (by omega) (fun f' hf' => hf f' (by simp [hf']))
  refine ⟨(v, v2), ⟨_, _, ?_, hk, hk2⟩, hg, hg2⟩
  rw [ho, hs, ← List.drop_drop, List.take_append_drop]

theorem opens_struct {t : TypeId} {d : Kd α} {fs : Array Field} {G : α → Prop} (ht : P.underlying t = some (.struct fs)) (hs : P.cellsOf t = d.sz) (h : OpensF enc P w d fs.toList 0 G) : Opens enc P w d t G := by
  intro base spare held fuel cs x hx
  obtain ⟨xs, n, rfl, _, hl, hn, hf⟩ := DataW.trod_struct ht hx
  obtain ⟨v, hk, hg⟩ := h base spare held n cs (by omega) (fun f hff => by
    obtain ⟨i, hi⟩ := List.getElem?_of_mem hff
    have hi' : fs[i]? = some f := by simpa using hi
    have hlt : i < xs.length := by
      have := (Array.getElem?_eq_some_iff.1 hi').1
      omega
    exact ⟨xs[i], by rw [hf i f hi', List.getElem?_eq_getElem hlt]⟩)
  exact ⟨v, by simpa using hk, hg⟩

end
end Go.Proofs.Ytiipcophnnfnoaa.Opn
