/- What a parameter of a row is, opened by its type's shape: data that is read at a type is of the print's kind at that type, its parts in range; no program is in sight. -/
import Derived.Test.YtjggdakbphjomaaV
import Derived.OpenShut
import Derived.ChangeSlices
namespace Go.Proofs.Ytjggdakbphjomaa.Open
open Go.RowKit Go.Proofs.YtjggdakbphjomaaW.PrintWords Go.ChangeShapes Go.WideShapes

/-- What is read as data at type t is of the kind d; Wf tells what is known of it. -/
def Opens {α : Type} (P : Program) (t : TypeId) (d : Kd α) (Wf : α → Prop) : Prop :=
  ∀ {H : Type} (enc : TypeId × Value → H) (w : World) (fuel : Nat) (cs : List Value) (x : DataW H × List MemPlace),
    DataW.trod enc P w 0 (fun _ => true) true fuel t cs = some x → ∃ a : α, d.K w a cs ∧ Wf a
/-- The same of a struct's fields from offset off on. -/
def OpensF {α : Type} (P : Program) (fs : List Field) (off total : Nat) (d : Kd α) (Wf : α → Prop) : Prop :=
  ∀ {H : Type} (enc : TypeId × Value → H) (w : World) (m : Nat) (cs : List Value), cs.length = total →
    (∀ f ∈ fs, ∃ y, DataW.trod enc P w 0 (fun _ => true) true m f.type ((cs.drop f.offset).take (P.cellsOf f.type)) = some y) → ∃ a : α, d.K w a (cs.drop off) ∧ Wf a

section
variable {α β : Type} {P : Program} {t e : TypeId}
theorem opens_int {k : IntKind} (ht : P.underlying t = some (.int k)) : Opens P t (Kd.int k) (fun n => (Lit.int k n).wf = true) := by
  intro H enc w fuel cs x h
  obtain ⟨n, rfl, _, hw⟩ := DataW.trod_int ht h
  exact ⟨n, rfl, hw⟩
theorem opens_bool (ht : P.underlying t = some .bool) : Opens P t Kd.bool (fun _ => True) := by
  intro H enc w fuel cs x h
  obtain ⟨b, rfl, _⟩ := DataW.trod_bool ht h
  exact ⟨b, rfl, trivial⟩
theorem opens_string (ht : P.underlying t = some .string) : Opens P t Kd.string (fun s => s.size ≤ maxLen) := by
  intro H enc w fuel cs x h
  obtain ⟨s, rfl, _, hs⟩ := DataW.trod_string ht h
  exact ⟨s, rfl, hs⟩
theorem list_of {Q : Nat → α → Prop} : ∀ n : Nat, (∀ j, j < n → ∃ p, Q j p) → ∃ l : List α, l.length = n ∧ ∀ j p, l[j]? = some p → Q j p
  | 0, _ => ⟨[], rfl, fun j p h => by simp at h⟩
  | n + 1, h => by
    obtain ⟨l, hl, hq⟩ := list_of n (fun j hj => h j (by omega))
    obtain ⟨p, hp⟩ := h n (by omega)
    refine ⟨l ++ [p], by simp [hl], fun j q hj => ?_⟩
    by_cases hjl : j < l.length
    · rw [List.getElem?_append_left hjl] at hj
      exact hq j q hj
    · have hj2 := (List.getElem?_eq_some_iff.1 hj).1
      simp only [List.length_append, List.length_cons, List.length_nil] at hj2
      have e : j = l.length := by omega
      subst e
      simp at hj
      subst hj
      rw [hl]
      exact hp
theorem cells_get {w : World} {a : Addr} {n : Nat} {cs : List Value} (h : w.cells? 0 a n = some cs) : cs.length = n ∧ ∀ j u, cs[j]? = some u → w.cell? (a.add j) = some u := by
  unfold World.cells? at h
  rw [if_pos (Nat.zero_le _)] at h
  have hl : cs.length = n := by simpa using mapM_some_length h
  refine ⟨hl, fun j u hu => ?_⟩
  have hj : j < cs.length := (List.getElem?_eq_some_iff.1 hu).1
  have := mapM_some_get h j j (by simp [← hl, hj])
  rw [this, hu]
theorem add_add (a : Addr) (i j : Nat) : (a.add i).add j = a.add (i + j) := by
  unfold Addr.add
  by_cases hi : i = 0
  · simp [hi]
  · by_cases hj : j = 0
    · simp [hj]
    · simp [hi, hj, Nat.add_assoc]
theorem opens_slice {d : Kd α} {Wf : α → Prop} (q : Nat) (ht : P.underlying t = some (.slice e)) (he : Opens P e d Wf) (hs : P.cellsOf e = d.sz) : Opens P t (Kd.slice q d) (fun xs => xs.length ≤ maxLen ∧ ∀ x ∈ xs, Wf x) := by
  intro H enc w fuel cs x h
  rcases DataW.trod_slice ht h with ⟨rfl, _⟩ | ⟨a, len, cap, elems, rest, n, _, rfl, _, _, hl, hm, hlen, hel, _, _⟩
  · exact ⟨[], ⟨none, 0, rfl, Nat.le_refl _, rfl, by simp, fun hp => by simp at hp⟩, by simp, by simp⟩
  · have each : ∀ j, j < len → ∃ p : α, Wf p ∧ ∃ c : List Value, c.length = d.sz ∧ d.K w p c ∧ ∀ i u, c[i]? = some u → w.cell? (a.add (j * d.sz + i)) = some u := by
      intro j hj
      have h1 := hel j hj
      rw [List.getElem?_eq_getElem (by omega), Option.bind_eq_some_iff] at h1
      obtain ⟨c, hc, hy⟩ := h1
      obtain ⟨p, hK, hW⟩ := he enc w n c _ hy
      obtain ⟨hcl, hcc⟩ := cells_get hc
      refine ⟨p, hW, c, by rw [hcl, hs], hK, fun i u hu => ?_⟩
      rw [← hs, ← add_add]
      exact hcc i u hu
    obtain ⟨xs, hxl, hxq⟩ := list_of len each
    refine ⟨xs, ⟨some a, cap, by rw [hxl], by omega, rfl, by unfold maxLen at hm; omega, fun _ => ⟨a, rfl, fun j p hj => ?_⟩⟩, by omega, fun x hx => ?_⟩
    · exact (hxq j p hj).2
    · obtain ⟨j, hj⟩ := List.getElem?_of_mem hx
      exact (hxq j x hj).1
theorem opensF_one {d : Kd α} {Wf : α → Prop} {f : Field} {off total : Nat} (ho : f.offset = off) (hd : Opens P f.type d Wf) (ht : off + P.cellsOf f.type = total) : OpensF P [f] off total d Wf := by
  intro H enc w m cs hl h
  obtain ⟨y, hy⟩ := h f (by simp)
  have e : (cs.drop f.offset).take (P.cellsOf f.type) = cs.drop off := by
    rw [ho, List.take_of_length_le (by rw [List.length_drop]; omega)]
  rw [e] at hy
  exact hd enc w m _ _ hy
theorem opensF_cons {d0 : Kd α} {W0 : α → Prop} {d : Kd β} {Wf : β → Prop} {f : Field} {fs : List Field} {off off' total : Nat} (ho : f.offset = off) (hd : Opens P f.type d0 W0) (ho' : off + P.cellsOf f.type = off') (hF : OpensF P fs off' total d Wf) : OpensF P (f :: fs) off total (Kd.pair d0 d) (fun x => W0 x.1 ∧ Wf x.2) := by
  intro H enc w m cs hl h
  obtain ⟨y, hy⟩ := h f (by simp)
  obtain ⟨a, ha, hwa⟩ := hd enc w m _ _ hy
  obtain ⟨b, hb, hwb⟩ := hF enc w m cs hl (fun g hg => h g (by simp [hg]))
  refine ⟨(a, b), ⟨_, _, ?_, ha, hb⟩, hwa, hwb⟩
  rw [ho, ← ho', ← List.drop_drop, List.take_append_drop]
theorem opens_flat {d : Kd α} {Wf : α → Prop} {fs : Array Field} (ht : P.underlying t = some (.struct fs)) {total : Nat} (hc : P.cellsOf t = total) (hF : OpensF P fs.toList 0 total d Wf) : Opens P t d Wf := by
  intro H enc w fuel cs x h
  obtain ⟨xs, n, _, _, hl, hxl, hi⟩ := DataW.trod_struct ht h
  obtain ⟨a, ha, hwa⟩ := hF enc w n cs (hl.trans hc) (fun f hf => by
    obtain ⟨i, hif⟩ := List.getElem?_of_mem hf
    have hlt := (List.getElem?_eq_some_iff.1 hif).1
    rw [hi i f (by simpa using hif)]
    exact ⟨_, List.getElem?_eq_getElem (by rw [hxl]; simpa using hlt)⟩)
  exact ⟨a, by simpa using ha, hwa⟩
theorem opens_struct {d : Kd α} {Wf : α → Prop} {fs : Array Field} (ht : P.underlying t = some (.struct fs)) {total : Nat} (hc : P.cellsOf t = total) (hF : OpensF P fs.toList 0 total d Wf) (f : β → α) (g : α → β) (hg : ∀ a, f (g a) = a) : Opens P t (Kd.iso d f) (fun b => Wf (f b)) := by
  intro H enc w fuel cs x h
  obtain ⟨a, ha, hwa⟩ := opens_flat ht hc hF enc w fuel cs x h
  refine ⟨g a, ?_, show Wf (f (g a)) by rw [hg]; exact hwa⟩
  show d.K w (f (g a)) cs
  rw [hg]
  exact ha
end
end Go.Proofs.Ytjggdakbphjomaa.Open
