/- Lemmas on what the printed functions answer from some count of rounds on, and on lists that are read by an index; no program is in sight. -/
import Derived.Test.YtjggdakbphjomaaV
namespace Go.Proofs.Ytjggdakbphjomaa.Kit
open Go.RowKit Go.Proofs.YtjggdakbphjomaaW.PrintWords Go.Proofs.YtjggdakbphjomaaW.PrintMore

section ev
variable {α β γ : Type}
theorem ev_const {x : Option α} {r : α} (h : x = some r) : Ev (fun _ => x) r := ⟨0, fun _ _ => h⟩
theorem ev_pos {c : Prop} [Decidable c] {a b : Nat → Option α} {r : α} (h : c) (H : Ev a r) : Ev (fun k => if c then a k else b k) r := by
  simpa only [if_pos h] using H
theorem ev_neg {c : Prop} [Decidable c] {a b : Nat → Option α} {r : α} (h : ¬ c) (H : Ev b r) : Ev (fun k => if c then a k else b k) r := by
  simpa only [if_neg h] using H
theorem ev_ite {c : Prop} [Decidable c] {a b : Nat → Option α} {r s : α} (h : c → Ev a r) (h' : ¬ c → Ev b s) : Ev (fun k => if c then a k else b k) (if c then r else s) := by
  by_cases e : c
  · rw [if_pos e]; exact ev_pos e (h e)
  · rw [if_neg e]; exact ev_neg e (h' e)
theorem ev_both {c : Prop} [Decidable c] {a b : Nat → Option α} {r : α} (h : c → Ev a r) (h' : ¬ c → Ev b r) : Ev (fun k => if c then a k else b k) r := by
  by_cases e : c
  · exact ev_pos e (h e)
  · exact ev_neg e (h' e)
theorem ev_bindc {x : Option α} {a : α} {f : Nat → α → Option β} {r : β} (h : x = some a) (k : Ev (fun n => f n a) r) : Ev (fun n => x.bind (f n)) r := by
  subst h
  exact k
theorem ev_eq {g : Nat → Option α} {r s : α} (h : Ev g r) (e : r = s) : Ev g s := e ▸ h
theorem ev_true {a b : Nat → Option α} {r : α} (H : Ev a r) : Ev (fun k => if true = true then a k else b k) r := by simpa using H
theorem ev_false {a b : Nat → Option α} {r : α} (H : Ev b r) : Ev (fun k => if false = true then a k else b k) r := by simpa using H
end ev

section num
theorem wrap_in {x : Int} (h : -9223372036854775808 ≤ x) (h' : x ≤ 9223372036854775807) : wrap64 x = x := by unfold wrap64; omega
theorem wrap_succ {i : Nat} (h : i < 4611686018427387904) : wrap64 ((i : Int) + 1) = ((i + 1 : Nat) : Int) := by
  rw [wrap_in (by omega) (by omega)]; omega
theorem wrap_lo (x : Int) : -9223372036854775808 ≤ wrap64 x := by unfold wrap64; omega
theorem wrap_hi (x : Int) : wrap64 x ≤ 9223372036854775807 := by unfold wrap64; omega
end num

section read
variable {α β σ : Type}
theorem getD_get {xs : List α} {i : Nat} (h : i < xs.length) (d : α) : xs.getD (i : Int).toNat d = xs[i] := by
  rw [Int.toNat_natCast, List.getD_eq_getElem?_getD, List.getElem?_eq_getElem h, Option.getD_some]
theorem getD_nat {xs : List α} {i : Nat} (h : i < xs.length) (d : α) : xs.getD i d = xs[i] := by
  rw [List.getD_eq_getElem?_getD, List.getElem?_eq_getElem h, Option.getD_some]
theorem rd_get {xs : List Int} {i : Nat} (h : i < xs.length) : rd xs (i : Int) = xs[i] := getD_get h 0
theorem rdOf_get {xs : List α} {i : Nat} (h : i < xs.length) (d : α) : rdOf d xs (i : Int) = xs[i] := getD_get h d

/-- A loop over a list by an index, what it answers told by what is still to come; P holds of its state. -/
theorem scan {xs : List α} (L : Nat → σ → Int → Option β) (go : List α → σ → β) (P : σ → Prop)
    (hnil : ∀ s, P s → Ev (fun k => L k s (xs.length : Int)) (go [] s))
    (hcons : ∀ (i : Nat) (h : i < xs.length) (s : σ), P s → (∀ s', P s' → Ev (fun k => L k s' ((i + 1 : Nat) : Int)) (go (xs.drop (i + 1)) s')) → Ev (fun k => L k s (i : Int)) (go (xs[i] :: xs.drop (i + 1)) s))
    (s : σ) (hs : P s) : Ev (fun k => L k s 0) (go xs s) := by
  have key : ∀ (d i : Nat), i + d = xs.length → ∀ s, P s → Ev (fun k => L k s (i : Int)) (go (xs.drop i) s) := by
    intro d
    induction d with
    | zero =>
      intro i hi s hs
      have e : i = xs.length := by omega
      subst e
      rw [List.drop_length]
      exact hnil s hs
    | succ d ih =>
      intro i hi s hs
      have h : i < xs.length := by omega
      rw [List.drop_eq_getElem_cons h]
      exact hcons i h s hs (fun s' hs' => ih (i + 1) (by omega) s' hs')
  have := key xs.length 0 (by omega) s hs
  simpa using this
/-- The same where nothing need be known of the state. -/
theorem scan0 {xs : List α} (L : Nat → σ → Int → Option β) (go : List α → σ → β)
    (hnil : ∀ s, Ev (fun k => L k s (xs.length : Int)) (go [] s))
    (hcons : ∀ (i : Nat) (h : i < xs.length) (s : σ), (∀ s', Ev (fun k => L k s' ((i + 1 : Nat) : Int)) (go (xs.drop (i + 1)) s')) → Ev (fun k => L k s (i : Int)) (go (xs[i] :: xs.drop (i + 1)) s))
    (s : σ) : Ev (fun k => L k s 0) (go xs s) :=
  scan L go (fun _ => True) (fun s _ => hnil s) (fun i h s _ ih => hcons i h s (fun s' => ih s' trivial)) s trivial
/-- A loop that fills a list made before, place by place. -/
theorem fill {xs : List α} (f : α → β) (L : Nat → List β → Int → Option (List β))
    (hnil : ∀ s : List β, s.length = xs.length → Ev (fun k => L k s (xs.length : Int)) s)
    (hcons : ∀ (i : Nat) (h : i < xs.length) (s : List β), s.length = xs.length → ∀ r, Ev (fun k => L k (s.set i (f xs[i])) ((i + 1 : Nat) : Int)) r → Ev (fun k => L k s (i : Int)) r)
    (s : List β) (hs : s.length = xs.length) : Ev (fun k => L k s 0) (xs.map f) := by
  have key : ∀ (d i : Nat), i + d = xs.length → ∀ s : List β, s.length = xs.length → s.take i = (xs.take i).map f → Ev (fun k => L k s (i : Int)) (xs.map f) := by
    intro d
    induction d with
    | zero =>
      intro i hi s hs hp
      have e : i = xs.length := by omega
      subst e
      have : s = xs.map f := by rw [List.take_of_length_le (by omega), List.take_length] at hp; exact hp
      rw [← this]
      exact hnil s hs
    | succ d ih =>
      intro i hi s hs hp
      have h : i < xs.length := by omega
      refine hcons i h s hs _ (ih (i + 1) (by omega) _ (by simpa using hs) ?_)
      rw [List.take_succ_eq_append_getElem (by simpa using by omega), List.take_succ_eq_append_getElem h, List.map_append, List.take_set_of_le (by omega), hp]
      simp
  have := key xs.length 0 (by omega) s hs (by simp)
  simpa using this
/-- A statement as a bool. -/
noncomputable def dec (P : Prop) : Bool := @decide P (Classical.propDecidable P)
theorem dec_true {P : Prop} (h : P) : dec P = true := by unfold dec; exact @decide_eq_true P (Classical.propDecidable P) h
theorem dec_false {P : Prop} (h : ¬ P) : dec P = false := by unfold dec; exact @decide_eq_false P (Classical.propDecidable P) h
theorem dec_iff {P : Prop} : dec P = true ↔ P := by unfold dec; exact @decide_eq_true_iff P (Classical.propDecidable P)
theorem dec_not {P : Prop} : dec P = false ↔ ¬ P := by
  by_cases h : P
  · rw [dec_true h]; exact ⟨fun e => (by cases e), fun e => absurd h e⟩
  · rw [dec_false h]; exact ⟨fun _ => h, fun _ => rfl⟩
theorem dec_eq {P Q : Prop} (h : P ↔ Q) : dec P = dec Q := by rw [propext h]
theorem dec_decide {P : Prop} [Decidable P] : decide P = dec P := by
  by_cases h : P
  · rw [decide_eq_true h, dec_true h]
  · rw [decide_eq_false h, dec_false h]
theorem ev_dec {g : Nat → Option Bool} {P : Prop} (h : P → Ev g true) (h' : ¬ P → Ev g false) : Ev g (dec P) := by
  by_cases e : P
  · rw [dec_true e]; exact h e
  · rw [dec_false e]; exact h' e
/-- A loop that stops with 'false' at the first place that is not as it should be. -/
theorem scan_all {n : Nat} (L : Nat → Int → Option Bool) (Q : Nat → Prop) (E : Prop)
    (hend : Ev (fun k => L k (n : Int)) (dec E))
    (hok : ∀ i, i < n → Q i → ∀ r, Ev (fun k => L k ((i + 1 : Nat) : Int)) r → Ev (fun k => L k (i : Int)) r)
    (hbad : ∀ i, i < n → ¬ Q i → Ev (fun k => L k (i : Int)) false) : Ev (fun k => L k 0) (dec ((∀ i, i < n → Q i) ∧ E)) := by
  have key : ∀ (d i : Nat), i + d = n → Ev (fun k => L k (i : Int)) (dec ((∀ j, i ≤ j → j < n → Q j) ∧ E)) := by
    intro d
    induction d with
    | zero =>
      intro i hi
      have e : i = n := by omega
      subst e
      rw [dec_eq (Q := E) ⟨fun h => h.2, fun h => ⟨fun j h1 h2 => by omega, h⟩⟩]
      exact hend
    | succ d ih =>
      intro i hi
      by_cases q : Q i
      · refine hok i (by omega) q _ ?_
        have e : ((∀ j, i ≤ j → j < n → Q j) ∧ E) ↔ ((∀ j, i + 1 ≤ j → j < n → Q j) ∧ E) := by
          refine ⟨fun h => ⟨fun j h1 h2 => h.1 j (by omega) h2, h.2⟩, fun h => ⟨fun j h1 h2 => ?_, h.2⟩⟩
          by_cases e : j = i
          · subst e; exact q
          · exact h.1 j (by omega) h2
        rw [dec_eq e]
        exact ih (i + 1) (by omega)
      · rw [dec_false (fun h => q (h.1 i (Nat.le_refl _) (by omega)))]
        exact hbad i (by omega) q
  have := key n 0 (by omega)
  simpa using this
/-- A loop that stops with 'true' at the first place that is as is asked. -/
theorem scan_any {n : Nat} (L : Nat → Int → Option Bool) (Q : Nat → Prop)
    (hend : Ev (fun k => L k (n : Int)) false)
    (hgo : ∀ i, i < n → ¬ Q i → ∀ r, Ev (fun k => L k ((i + 1 : Nat) : Int)) r → Ev (fun k => L k (i : Int)) r)
    (hyes : ∀ i, i < n → Q i → Ev (fun k => L k (i : Int)) true) : Ev (fun k => L k 0) (dec (∃ i, i < n ∧ Q i)) := by
  have key : ∀ (d i : Nat), i + d = n → Ev (fun k => L k (i : Int)) (dec (∃ j, i ≤ j ∧ j < n ∧ Q j)) := by
    intro d
    induction d with
    | zero =>
      intro i hi
      have e : i = n := by omega
      subst e
      rw [dec_false (fun ⟨j, h1, h2, _⟩ => by omega)]
      exact hend
    | succ d ih =>
      intro i hi
      by_cases q : Q i
      · rw [dec_true ⟨i, Nat.le_refl _, by omega, q⟩]
        exact hyes i (by omega) q
      · refine hgo i (by omega) q _ ?_
        have e : (∃ j, i ≤ j ∧ j < n ∧ Q j) ↔ (∃ j, i + 1 ≤ j ∧ j < n ∧ Q j) := by
          refine ⟨fun ⟨j, h1, h2, h3⟩ => ⟨j, ?_, h2, h3⟩, fun ⟨j, h1, h2, h3⟩ => ⟨j, by omega, h2, h3⟩⟩
          by_cases e : j = i
          · subst e; exact absurd h3 q
          · omega
        rw [dec_eq e]
        exact ih (i + 1) (by omega)
  have := key n 0 (by omega)
  simpa using this
/-- A loop over n places that leaves with b at the first place of which Q holds. -/
theorem scan_hit {n : Nat} (L : Nat → Int → Option β) (Q : Nat → Prop) (b : β)
    (hgo : ∀ i, i < n → ¬ Q i → ∀ r, Ev (fun k => L k ((i + 1 : Nat) : Int)) r → Ev (fun k => L k (i : Int)) r)
    (hyes : ∀ i, i < n → Q i → Ev (fun k => L k (i : Int)) b) (h : ∃ i, i < n ∧ Q i) : Ev (fun k => L k 0) b := by
  have key : ∀ (d i : Nat), i + d = n → (∃ j, i ≤ j ∧ j < n ∧ Q j) → Ev (fun k => L k (i : Int)) b := by
    intro d
    induction d with
    | zero => intro i hi ⟨j, h1, h2, _⟩; omega
    | succ d ih =>
      intro i hi ⟨j, h1, h2, h3⟩
      by_cases q : Q i
      · exact hyes i (by omega) q
      · refine hgo i (by omega) q _ (ih (i + 1) (by omega) ⟨j, ?_, h2, h3⟩)
        by_cases e : j = i
        · subst e; exact absurd h3 q
        · omega
  obtain ⟨j, h1, h2⟩ := h
  exact key n 0 (by omega) ⟨j, by omega, h1, h2⟩
/-- The same loop where Q holds of no place: it comes to its end. -/
theorem scan_miss {n : Nat} (L : Nat → Int → Option β) (Q : Nat → Prop) (r : β)
    (hend : Ev (fun k => L k (n : Int)) r)
    (hgo : ∀ i, i < n → ¬ Q i → ∀ r, Ev (fun k => L k ((i + 1 : Nat) : Int)) r → Ev (fun k => L k (i : Int)) r)
    (h : ∀ i, i < n → ¬ Q i) : Ev (fun k => L k 0) r := by
  have key : ∀ (d i : Nat), i + d = n → Ev (fun k => L k (i : Int)) r := by
    intro d
    induction d with
    | zero =>
      intro i hi
      have e : i = n := by omega
      subst e
      exact hend
    | succ d ih => intro i hi; exact hgo i (by omega) (h i (by omega)) _ (ih (i + 1) (by omega))
  exact key n 0 (by omega)
/-- A loop that turns a list's elements in place, one behind the other. -/
theorem map_loop (f : α → α) (L : Nat → List α → Int → Option β) (l : List α) (r : β) (hend : Ev (fun k => L k (l.map f) (l.length : Int)) r)
    (hstep : ∀ (s : List α) (i : Nat) (h : i < s.length), s.length = l.length → ∀ r, Ev (fun k => L k (s.set i (f s[i])) ((i + 1 : Nat) : Int)) r → Ev (fun k => L k s (i : Int)) r) : Ev (fun k => L k l 0) r := by
  have key : ∀ (ys pre : List α), pre.length + ys.length = l.length → Ev (fun k => L k (pre ++ ys.map f) ((pre.length + ys.length : Nat) : Int)) r → Ev (fun k => L k (pre ++ ys) (pre.length : Int)) r := by
    intro ys
    induction ys with
    | nil => intro pre _ h; simpa using h
    | cons y ys ih =>
      intro pre hp h
      refine hstep _ pre.length (by simp) (by simpa using hp) r ?_
      have e1 : (pre ++ y :: ys)[pre.length]'(by simp) = y := by simp
      rw [e1]
      have e2 : (pre ++ y :: ys).set pre.length (f y) = (pre ++ [f y]) ++ ys := by simp
      rw [e2]
      have := ih (pre ++ [f y]) (by simp at hp ⊢; omega) (by simpa [Nat.add_assoc, Nat.add_comm, Nat.add_left_comm] using h)
      simpa using this
  have := key l [] (by simp) (by simpa using hend)
  simpa using this
theorem getD_set {xs : List α} {i : Nat} (h : i < xs.length) (v d : α) : (xs.set i v).getD i d = v := by
  rw [List.getD_eq_getElem?_getD, List.getElem?_set_self h, Option.getD_some]
/-- The marks of a list, element by element: the count behind them and the list as it reads then. -/
def markL (mk : Int → α → Int × α) : List α → Int → Int × List α
  | [], c => (c, [])
  | x :: xs, c => ((markL mk xs (mk c x).1).1, (mk c x).2 :: (markL mk xs (mk c x).1).2)
theorem markL_length (mk : Int → α → Int × α) : ∀ (xs : List α) (c : Int), (markL mk xs c).2.length = xs.length
  | [], _ => rfl
  | _ :: xs, c => by simp [markL, markL_length mk xs]
theorem markL_count (mk : Int → α → Int × α) (sz : α → Nat) (hm : ∀ (c : Int) (x : α), 0 ≤ c → c + (sz x : Int) < 4611686018427387904 → (mk c x).1 = c + (sz x : Int)) : ∀ (xs : List α) (c : Int), 0 ≤ c → c + ((xs.map sz).sum : Nat) < 4611686018427387904 → (markL mk xs c).1 = c + ((xs.map sz).sum : Nat)
  | [], c, _, _ => by simp [markL]
  | x :: xs, c, h0, h1 => by
    simp only [List.map_cons, List.sum_cons] at h1 ⊢
    have e := hm c x h0 (by omega)
    simp only [markL]
    rw [e, markL_count mk sz hm xs _ (by omega) (by omega)]
    omega
/-- A loop that marks a list's elements in place. -/
theorem mark_loop (mk : Int → α → Int × α) (L : Nat → List α → Int → Int → Option (Int × List α))
    (hend : ∀ s c, Ev (fun k => L k s c (s.length : Int)) (c, s))
    (hstep : ∀ (s : List α) (c : Int) (i : Nat) (h : i < s.length), ∀ r, Ev (fun k => L k (s.set i (mk c s[i]).2) (mk c s[i]).1 ((i + 1 : Nat) : Int)) r → Ev (fun k => L k s c (i : Int)) r)
    (s : List α) (c : Int) : Ev (fun k => L k s c 0) (markL mk s c) := by
  have key : ∀ (ys pre : List α) (c : Int), Ev (fun k => L k (pre ++ ys) c (pre.length : Int)) ((markL mk ys c).1, pre ++ (markL mk ys c).2) := by
    intro ys
    induction ys with
    | nil => intro pre c; simpa [markL] using hend pre c
    | cons y ys ih =>
      intro pre c
      refine hstep _ c pre.length (by simp) _ ?_
      have e1 : (pre ++ y :: ys)[pre.length]'(by simp) = y := by simp
      rw [e1]
      have e2 : (pre ++ y :: ys).set pre.length (mk c y).2 = (pre ++ [(mk c y).2]) ++ ys := by simp
      rw [e2]
      have := ih (pre ++ [(mk c y).2]) (mk c y).1
      simpa [markL] using this
  have := key s [] c
  simpa using this
/-- A loop that looks whether a marked list holds its marks. -/
theorem held_loop (mk : Int → α → Int × α) (L : Nat → List α → Int → Int → Option Int)
    (hend : ∀ s c, Ev (fun k => L k s c (s.length : Int)) c)
    (hstep : ∀ (s : List α) (c : Int) (i : Nat) (h : i < s.length) (x : α), s[i] = (mk c x).2 → ∀ r, Ev (fun k => L k s (mk c x).1 ((i + 1 : Nat) : Int)) r → Ev (fun k => L k s c (i : Int)) r)
    (xs : List α) (c : Int) : Ev (fun k => L k (markL mk xs c).2 c 0) (markL mk xs c).1 := by
  have key : ∀ (ys pre : List α) (c : Int), Ev (fun k => L k (pre ++ (markL mk ys c).2) c (pre.length : Int)) (markL mk ys c).1 := by
    intro ys
    induction ys with
    | nil => intro pre c; simpa [markL] using hend pre c
    | cons y ys ih =>
      intro pre c
      simp only [markL]
      refine hstep _ c pre.length (by simp) y (by simp) _ ?_
      have := ih (pre ++ [(mk c y).2]) (mk c y).1
      simpa using this
  have := key xs [] c
  simpa using this
end read
end Go.Proofs.Ytjggdakbphjomaa.Kit
