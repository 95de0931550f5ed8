/- The law FnNotices answers true, for all arguments that the row lets in; no condition besides. Here: the plain side, over the printed functions. -/
import Derived.Test.YtanoaneoanpkkaaZFnNoticesx9
import Derived.Test.YtanoaneoanpkkaaKitV
namespace Go.Proofs.Ytanoaneoanpkkaa.Pure
open Go.RowKit Go.Proofs.Ytanoaneoanpkkaa.ZFnNotices Go.Proofs.YtanoaneoanpkkaaW.PrintWords Go.Proofs.YtanoaneoanpkkaaW.PrintLast Go.Proofs.YtanoaneoanpkkaaW.PrintMore Go.Proofs.Ytanoaneoanpkkaa.Kit
set_option linter.unusedVariables false
set_option linter.unusedSimpArgs false

/-- What is to be proved of the printed functions. -/
def Claim : Prop := ∀ (l0 : List Int), (l0.length ≤ maxLen ∧ ∀ y_ ∈ l0, (Lit.int .u8 y_).wf = true) → ∃ k, laws_FnNotices.f k l0 = some true

theorem laws_big.val (l : List Int) : laws_big.f l = some (decide ((l.length : Int) > 1048576)) := rfl

theorem i64_and255 (n : Int) : Go.bits .and .i64 n 255 = n % 256 := by
  have h255 : (BitVec.ofInt 64 255).toNat = 2 ^ 8 - 1 := by decide
  have key : (BitVec.ofInt 64 n &&& BitVec.ofInt 64 255).toNat = (n % ((2 ^ 64 : Nat) : Int)).toNat % 2 ^ 8 := by
    rw [BitVec.toNat_and, BitVec.toNat_ofInt, h255, Nat.and_two_pow_sub_one_eq_mod]
  show IntKind.i64.wrap ((BitVec.ofInt 64 n &&& BitVec.ofInt 64 255).toNat : Nat) = n % 256
  rw [key, IntKind.wrap_i64]
  omega

theorem spec_l1Byte.draw (b : List Int) (p h : Int) (hb : b.length ≤ 1048576) (hp : 0 ≤ p) : ∃ x q g, spec_l1Byte.f b p h = some (x, q, g) ∧ 0 ≤ x ∧ x ≤ 255 ∧ 0 ≤ q := by
  unfold spec_l1Byte.f
  have r : ∀ n : Int, 0 ≤ n % 256 ∧ n % 256 ≤ 255 := fun n => by omega
  by_cases c : p < (b.length : Int)
  · rw [if_pos c, if_pos hp, i64_and255]
    exact ⟨_, _, _, rfl, (r _).1, (r _).2, by rw [wrap_in (by omega) (by omega)]; omega⟩
  · rw [if_neg c, i64_and255]
    exact ⟨_, _, _, rfl, (r _).1, (r _).2, hp⟩

theorem spec_l1Below.draw (b : List Int) (p h n : Int) (hb : b.length ≤ 1048576) (hp : 0 ≤ p) (hn : n ≤ 256) : ∃ x q g, spec_l1Below.f b p h n = some (x, q, g) ∧ 0 ≤ x ∧ (0 < n → x < n) ∧ 0 ≤ q := by
  unfold spec_l1Below.f
  by_cases c : n ≤ 0
  · rw [if_pos c]
    exact ⟨_, _, _, rfl, by omega, fun h => by omega, hp⟩
  · rw [if_neg c, if_pos hn]
    obtain ⟨x, q, g, e, x0, x1, q0⟩ := spec_l1Byte.draw b p h hb hp
    rw [e]
    refine ⟨Int.tmod x n, q, g, ?_, Int.tmod_nonneg n x0, fun h => Int.tmod_lt_of_pos x h, q0⟩
    simp only [Option.bind_some]
    rw [if_neg (by omega)]

theorem spec_l1Once.draw (b : List Int) (p h n : Int) (hb : b.length ≤ 1048576) (hp : 0 ≤ p) (hn : n ≤ 256) : ∃ x q g, spec_l1Once.f b p h n = some (x, q, g) ∧ 0 ≤ q := by
  unfold spec_l1Once.f
  obtain ⟨x, q, g, e, _, _, q0⟩ := spec_l1Below.draw b p h n hb hp hn
  rw [e]
  exact ⟨_, _, _, rfl, q0⟩

theorem spec_l1Int.draw (b : List Int) (p h : Int) (l : List Int) (hb : b.length ≤ 1048576) (hp : 0 ≤ p) (h0 : 0 < l.length) (hn : l.length ≤ 256) : ∃ x q g, spec_l1Int.f b p h l = some (x, q, g) ∧ x ∈ l ∧ 0 ≤ q := by
  unfold spec_l1Int.f
  obtain ⟨x, q, g, e, x0, x1, q0⟩ := spec_l1Below.draw b p h (l.length : Int) hb hp (by omega)
  rw [e]
  have x2 := x1 (by omega)
  simp only [Option.bind_some]
  rw [if_pos x0, if_pos x2]
  refine ⟨_, _, _, rfl, ?_, q0⟩
  have := rd_get (xs := l) (i := x.toNat) (by omega)
  rw [Int.toNat_of_nonneg x0] at this
  rw [this]
  exact List.getElem_mem _

def mailOk (m : List S108) (i : Nat) : Prop := 1 ≤ (rd_T108 m i).f0 ∧ (rd_T108 m i).f0 ≤ 5 ∧ 0 ≤ (rd_T108 m i).f1 ∧ (rd_T108 m i).f1 ≤ 1000000 ∧ 0 ≤ (rd_T108 m i).f2 ∧ (rd_T108 m i).f2 ≤ 1000000 ∧ (0 < i → (rd_T108 m ((i : Int) - 1)).f2 ≤ (rd_T108 m i).f2)
noncomputable def validMailV (m : List S108) : Bool := dec ((∀ i, i < m.length → mailOk m i) ∧ m.length ≤ 30)

def seenAt (l : List S108) (i : Nat) : Prop := (rd_T108 l (i : Int)).f3 = true
instance (l : List S108) (i : Nat) : Decidable (seenAt l i) := inferInstanceAs (Decidable (_ = true))
/-- The least place of what is seen, looked for from behind. -/
def downV (l : List S108) : Nat → Nat → Nat
  | 0, a => a
  | i + 1, a => if seenAt l i then downV l i i else downV l i a
theorem down_none (l : List S108) (n a : Nat) (h : ∀ j, j < n → ¬ seenAt l j) : downV l n a = a := by
  induction n with
  | zero => rfl
  | succ n ih => rw [downV, if_neg (h n (by omega)), ih (fun j hj => h j (by omega))]
theorem down_first (l : List S108) (n a i : Nat) (hi : i < n) (hs : seenAt l i) (h : ∀ j, j < i → ¬ seenAt l j) : downV l n a = i := by
  induction n generalizing a with
  | zero => omega
  | succ n ih =>
    rw [downV]
    by_cases e : i = n
    · subst e
      rw [if_pos hs, down_none l i i h]
    · split
      · exact ih n (by omega)
      · exact ih a (by omega)
theorem down_lt (l : List S108) (n a m : Nat) (ha : a < m) (hn : n ≤ m) : downV l n a < m := by
  induction n generalizing a with
  | zero => exact ha
  | succ n ih =>
    rw [downV]
    split
    · exact ih n (by omega) (by omega)
    · exact ih a ha (by omega)
def cutV (l : List S108) : List S108 := if l.length > 30 then l.take (downV l l.length 0) ++ l.drop (downV l l.length 0 + 1) else l
noncomputable def sendV (m : List S108) (a b c : Int) : List S108 × Bool := if validMailV m = true then (if validMailV (cutV (m ++ [⟨a, b, c, false⟩])) = true then (cutV (m ++ [⟨a, b, c, false⟩]), true) else (m, false)) else (m, false)
theorem cut_length (l : List S108) : (cutV l).length ≤ l.length + 1 := by
  unfold cutV
  split
  · rw [List.length_append, List.length_take, List.length_drop]; omega
  · omega
theorem send_length (m : List S108) (a b c : Int) : (sendV m a b c).1.length ≤ m.length + 2 := by
  have := cut_length (m ++ [(⟨a, b, c, false⟩ : S108)])
  rw [List.length_append] at this
  simp only [List.length_cons, List.length_nil] at this
  unfold sendV
  split
  · split
    · exact this
    · show m.length ≤ m.length + 2; omega
  · show m.length ≤ m.length + 2; omega

theorem spec_l31Copy.val (l : List S108) (hl : l.length < 4398046511104) : spec_l31Copy.f l = some l := by
  unfold spec_l31Copy.f
  simp only [Option.bind_some, List.nil_append, List.length_nil, Nat.zero_add]
  rw [if_pos hl]

theorem spec_l1In.val (a b c : Int) : spec_l1In.f a b c = some (decide (b ≤ a ∧ a ≤ c)) := by
  unfold spec_l1In.f
  by_cases h : a ≥ b
  · rw [if_pos h]; simp only [ge_iff_le] at h; simp [h]
  · rw [if_neg h]; simp only [ge_iff_le] at h; simp [h]

theorem spec_IsValidMailbox.ev (m : List S108) (hl : m.length < 4611686018427387904) : Ev (fun k => spec_IsValidMailbox.f k m) (validMailV m) := by
  unfold spec_IsValidMailbox.f validMailV
  refine scan_all (n := m.length) (fun k i => spec_IsValidMailbox.l0 k i m) (mailOk m) (m.length ≤ 30) ?_ (fun i hi q r ih => ?_) (fun i hi q => ?_)
  · refine Ev.step (fun k => by rw [spec_IsValidMailbox.l0]) ?_
    refine ev_neg (by omega) (ev_const ?_)
    rw [dec_decide, dec_eq (P := (m.length : Int) ≤ 30) (Q := m.length ≤ 30) (by omega)]
  · unfold mailOk at q
    refine Ev.step (fun k => by rw [spec_IsValidMailbox.l0]) ?_
    simp only [spec_l1In.val, Option.bind_some, decide_eq_true_eq, wrap_succ (show i < 4611686018427387904 by omega), wrap_in (x := (i : Int) - 1) (by omega) (by omega)]
    repeat' (with_reducible refine ev_both (fun _ => ?_) (fun _ => ?_))
    all_goals first | exact ih | (exfalso; omega)
  · unfold mailOk at q
    refine Ev.step (fun k => by rw [spec_IsValidMailbox.l0]) ?_
    simp only [spec_l1In.val, Option.bind_some, decide_eq_true_eq, wrap_succ (show i < 4611686018427387904 by omega), wrap_in (x := (i : Int) - 1) (by omega) (by omega)]
    repeat' (with_reducible refine ev_both (fun _ => ?_) (fun _ => ?_))
    all_goals first | exact Ev.now _ | (exfalso; omega)

theorem spec_SendNotice.j (l m : List S108) (hl : l.length ≤ 3000000) (hm : m.length ≤ 3000000) : Ev (fun k => spec_SendNotice.j1 k l m) (if validMailV m = true then (if validMailV l = true then (l, true) else (m, false)) else (m, false)) := by
  refine Ev.step (fun k => by rw [spec_SendNotice.j1]) ?_
  refine Ev.bind (spec_IsValidMailbox.ev m (by omega)) (ev_ite (fun _ => ?_) (fun _ => ev_bindc (spec_l31Copy.val m (by omega)) (Ev.now _)))
  exact Ev.bind (spec_IsValidMailbox.ev l (by omega)) (ev_ite (fun _ => Ev.now _) (fun _ => ev_bindc (spec_l31Copy.val m (by omega)) (Ev.now _)))
theorem spec_SendNotice.down (l m : List S108) (hl : l.length ≤ 2000000) (hm : m.length ≤ 2000000) (r : List S108 × Bool) : ∀ (d a : Nat), d ≤ l.length → a < l.length → Ev (fun k => spec_SendNotice.j1 k (l.take (downV l d a) ++ l.drop (downV l d a + 1)) m) r → Ev (fun k => spec_SendNotice.l0 k l (a : Int) ((d : Int) - 1) m) r := by
  intro d
  induction d with
  | zero =>
    intro a hd ha h
    refine Ev.step (fun k => by rw [spec_SendNotice.l0]) ?_
    rw [wrap_succ (i := a) (by omega), Int.toNat_natCast, Int.toNat_natCast]
    have e1 : (l.take a).length ≤ l.length := by simp; omega
    have e2 : (l.drop (a + 1)).length ≤ l.length := by simp
    refine ev_neg (by omega) (ev_bindc rfl (ev_pos (by omega) (ev_pos (by omega) (ev_bindc rfl (ev_pos (by simp only [List.length_nil]; omega) (ev_bindc rfl (ev_pos (by omega) (ev_pos (by omega) (ev_bindc rfl (ev_pos (by simp only [List.nil_append]; omega) ?_))))))))))
    simpa [downV] using h
  | succ d ih =>
    intro a hd ha h
    have e : ((d + 1 : Nat) : Int) - 1 = (d : Int) := by omega
    rw [e]
    rw [downV] at h
    refine Ev.step (fun k => by rw [spec_SendNotice.l0]) ?_
    rw [wrap_in (x := (d : Int) - 1) (by omega) (by omega)]
    refine ev_pos (by omega) (ev_pos (by omega) (ev_pos (by omega) (ev_both (fun hs => ?_) (fun hs => ?_))))
    · rw [if_pos (show seenAt l d from hs)] at h
      exact ih d (by omega) (by omega) h
    · rw [if_neg (show ¬ seenAt l d from hs)] at h
      exact ih a (by omega) ha h
theorem spec_SendNotice.ev (m : List S108) (a b c : Int) (hm : m.length ≤ 1900000) : Ev (fun k => spec_SendNotice.f k m a b c) (sendV m a b c) := by
  unfold spec_SendNotice.f
  refine ev_bindc rfl (ev_pos (by simp only [List.length_nil]; omega) (ev_bindc rfl (ev_pos (by simp only [List.nil_append]; omega) (ev_bindc rfl ?_))))
  simp only [List.nil_append]
  unfold sendV
  have hc := cut_length (m ++ [(⟨a, b, c, false⟩ : S108)])
  have hl : (m ++ [(⟨a, b, c, false⟩ : S108)]).length = m.length + 1 := by simp
  have J := spec_SendNotice.j (cutV (m ++ [(⟨a, b, c, false⟩ : S108)])) m (by omega) (by omega)
  generalize m ++ [(⟨a, b, c, false⟩ : S108)] = l at hl hc J
  generalize (if validMailV m = true then (if validMailV (cutV l) = true then (cutV l, true) else (m, false)) else (m, false)) = r at J
  unfold cutV at J
  refine ev_both (fun h => ?_) (fun h => ?_)
  · rw [if_pos (by omega)] at J
    rw [wrap_in (x := (l.length : Int) - 1) (by omega) (by omega)]
    exact spec_SendNotice.down l m (by omega) (by omega) r l.length 0 (by omega) (by omega) J
  · rw [if_neg (by omega)] at J
    exact J

def seenN (x : S108) : S108 := ⟨x.f0, x.f1, x.f2, true⟩
def freshV (l : List S108) : List S108 := l.filter (fun x => !x.f3)
theorem fresh_snoc (l : List S108) (i : Nat) (h : i < l.length) : freshV (l.take (i + 1)) = if l[i].f3 = true then freshV (l.take i) else freshV (l.take i) ++ [l[i]] := by
  unfold freshV
  rw [List.take_succ_eq_append_getElem h, List.filter_append]
  cases e : l[i].f3 <;> simp [e]
theorem fresh_length (l : List S108) : (freshV l).length ≤ l.length := List.length_filter_le _ _
theorem seen_get (l : List S108) (i : Nat) (h : i < l.length) : ((l.take i).map seenN ++ l.drop i)[i]'(by simp; omega) = l[i] := by
  rw [List.getElem_append_right (by simp; omega)]
  simp [Nat.min_eq_left (Nat.le_of_lt h)]
theorem seen_set (l : List S108) (i : Nat) (h : i < l.length) : ((l.take i).map seenN ++ l.drop i).set i (seenN l[i]) = (l.take (i + 1)).map seenN ++ l.drop (i + 1) := by
  have e : ((l.take i).map seenN).length = i := by simp; omega
  rw [List.set_append_right _ _ (by omega), e, Nat.sub_self, List.drop_eq_getElem_cons h, List.set_cons_zero, List.take_succ_eq_append_getElem h, List.map_append, List.append_assoc]
  rfl

theorem spec_ReadNotices.ev (l : List S108) (hl : l.length < 4398046511104) : Ev (fun k => spec_ReadNotices.f k l) (l.map seenN, freshV l) := by
  unfold spec_ReadNotices.f
  refine ev_bindc (spec_l31Copy.val l hl) ?_
  have key : ∀ (d i : Nat), i + d = l.length → Ev (fun k => spec_ReadNotices.l0 k (freshV (l.take i)) (i : Int) l ((l.take i).map seenN ++ l.drop i)) (l.map seenN, freshV l) := by
    intro d
    induction d with
    | zero =>
      intro i hi
      refine Ev.step (fun k => by rw [spec_ReadNotices.l0]) ?_
      refine ev_neg (by omega) ?_
      rw [List.take_of_length_le (by omega), List.drop_of_length_le (by omega), List.append_nil]
      exact Ev.now _
    | succ d ih =>
      intro i hi
      have h : i < l.length := by omega
      have hlen : ((l.take i).map seenN ++ l.drop i).length = l.length := by simp; omega
      have hf := fresh_length (l.take i)
      have hft : (l.take i).length ≤ l.length := by simp; omega
      have next := ih (i + 1) (by omega)
      rw [fresh_snoc l i h, ← seen_set l i h] at next
      refine Ev.step (fun k => by rw [spec_ReadNotices.l0]) ?_
      have g1 : rd_T108 l (i : Int) = l[i] := by rw [rd_T108, getD_get h]
      have g2 : rd_T108 ((l.take i).map seenN ++ l.drop i) (i : Int) = l[i] := by rw [rd_T108, getD_get (by omega), seen_get l i h]
      rw [g1, g2, wrap_succ (i := i) (by omega), Int.toNat_natCast]
      refine ev_pos (by omega) (ev_pos (by omega) (ev_both (fun hs => ?_) (fun hs => ?_)))
      · rw [if_pos hs] at next
        exact ev_pos (by omega) next
      · rw [if_neg hs] at next
        exact ev_pos (by omega) (ev_pos (by omega) next)
  exact key l.length 0 (by omega)

theorem spec_l31Mailbox.draw (b : List Int) (p h : Int) (hb : b.length ≤ 1048576) (hp : 0 ≤ p) : ∃ m q g, Ev (fun k => spec_l31Mailbox.f k b p h) (m, q, g) ∧ m.length ≤ 200 ∧ 0 ≤ q := by
  have l0 : ∀ (d : Nat) (m : List S108) (t p h : Int), 0 ≤ p → m.length + 3 * d ≤ 199 → ∃ m' q g, Ev (fun k => spec_l31Mailbox.l0 k t (d : Int) b p h m) (m', q, g) ∧ m'.length ≤ 200 ∧ 0 ≤ q := by
    intro d
    induction d with
    | zero =>
      intro m t p h hp hm
      obtain ⟨x, q, g, e, _, _, q0⟩ := spec_l1Below.draw b p h 10 hb hp (by omega)
      by_cases c : x = 0
      · obtain ⟨y1, q1, g1, e1, _, q10⟩ := spec_l1Int.draw b q g [0, 1, 6] hb q0 (by simp) (by simp)
        obtain ⟨y2, q2, g2, e2, _, q20⟩ := spec_l1Int.draw b q1 g1 [(-1), 0] hb q10 (by simp) (by simp)
        obtain ⟨y3, q3, g3, e3, _, q30⟩ := spec_l1Int.draw b q2 g2 [0, 1000000, 1000001] hb q20 (by simp) (by simp)
        refine ⟨m ++ [⟨y1, y2, y3, false⟩], q3, g3, ?_, by simp; omega, q30⟩
        refine Ev.step (fun k => by rw [spec_l31Mailbox.l0]) ?_
        exact ev_neg (by omega) (ev_bindc e (ev_pos c (ev_bindc e1 (ev_bindc e2 (ev_bindc e3 (ev_pos (show m.length < 4398046511104 by omega) (Ev.now _)))))))
      · refine ⟨m, q, g, ?_, by omega, q0⟩
        refine Ev.step (fun k => by rw [spec_l31Mailbox.l0]) ?_
        exact ev_neg (by omega) (ev_bindc e (ev_neg c (Ev.now _)))
    | succ d ih =>
      intro m t p h hp hm
      obtain ⟨x1, q1, g1, e1, _, _, q10⟩ := spec_l1Below.draw b p h 3 hb hp (by omega)
      obtain ⟨x2, q2, g2, e2, _, _, q20⟩ := spec_l1Below.draw b q1 g1 5 hb q10 (by omega)
      obtain ⟨x3, q3, g3, e3, _, _, q30⟩ := spec_l1Below.draw b q2 g2 4 hb q20 (by omega)
      have es := spec_SendNotice.ev m (wrap64 (1 + x2)) x3 (wrap64 (t + x1)) (by omega)
      have hv := send_length m (wrap64 (1 + x2)) x3 (wrap64 (t + x1))
      generalize sendV m (wrap64 (1 + x2)) x3 (wrap64 (t + x1)) = v at es hv
      obtain ⟨c, q4, g4, e4, q40⟩ := spec_l1Once.draw b q3 g3 6 hb q30 (by omega)
      have w : wrap64 (((d + 1 : Nat) : Int) - 1) = (d : Int) := by rw [wrap_in (by omega) (by omega)]; omega
      cases c
      · obtain ⟨m', q, g, e, h1, h2⟩ := ih v.1 (wrap64 (t + x1)) q4 g4 q40 (by omega)
        refine ⟨m', q, g, ?_, h1, h2⟩
        refine Ev.step (fun k => by rw [spec_l31Mailbox.l0]) ?_
        rw [w]
        exact ev_pos (by omega) (ev_bindc e1 (ev_bindc e2 (ev_bindc e3 (Ev.bind es (ev_bindc e4 (ev_neg (by simp) e))))))
      · have er := spec_ReadNotices.ev v.1 (by omega)
        obtain ⟨m', q, g, e, h1, h2⟩ := ih (v.1.map seenN) (wrap64 (t + x1)) q4 g4 q40 (by rw [List.length_map]; omega)
        refine ⟨m', q, g, ?_, h1, h2⟩
        refine Ev.step (fun k => by rw [spec_l31Mailbox.l0]) ?_
        rw [w]
        exact ev_pos (by omega) (ev_bindc e1 (ev_bindc e2 (ev_bindc e3 (Ev.bind es (ev_bindc e4 (ev_pos rfl (Ev.bind er e)))))))
  unfold spec_l31Mailbox.f
  obtain ⟨x, q, g, e, hx, q0⟩ := spec_l1Int.draw b p h [0, 2, 5, 32] hb hp (by simp) (by simp)
  have hx' : 0 ≤ x ∧ x ≤ 32 := by
    simp only [List.mem_cons, List.not_mem_nil, or_false] at hx
    omega
  obtain ⟨m', q', g', e', h1, h2⟩ := l0 x.toNat [] 0 q g q0 (by simp; omega)
  rw [Int.toNat_of_nonneg hx'.1] at e'
  exact ⟨m', q', g', ev_bindc e e', h1, h2⟩

theorem spec_l1New.draw (l : List Int) (hl : l.length ≤ 1048576) : ∃ h, Ev (fun k => spec_l1New.f k l) (l, 0, h) := by
  unfold spec_l1New.f
  have key : ∀ (d i : Nat), i + d = min l.length 4000 → ∀ h, ∃ h', Ev (fun k => spec_l1New.l0 k l h (i : Int)) (l, 0, h') := by
    intro d
    induction d with
    | zero =>
      intro i hi h
      refine ⟨h, Ev.step (fun k => by rw [spec_l1New.l0]) ?_⟩
      exact ev_both (fun _ => ev_both (fun _ => by omega) (fun _ => Ev.now _)) (fun _ => Ev.now _)
    | succ d ih =>
      intro i hi h
      obtain ⟨h', e⟩ := ih (i + 1) (by omega) (Go.bits .and .i64 (wrap64 ((wrap64 ((wrap64 (h * 137)) + (wrap64 (rd l (i : Int))))) + 11)) 1073741823)
      refine ⟨h', Ev.step (fun k => by rw [spec_l1New.l0]) ?_⟩
      rw [wrap_succ (i := i) (by omega)]
      exact ev_pos (by omega) (ev_pos (by omega) (ev_pos (by omega) e))
  exact key (min l.length 4000) 0 (by omega) _

theorem spec_DrawSendNotice.draw (b : List Int) (hb : b.length ≤ 1048576) : ∃ m x y z, Ev (fun k => spec_DrawSendNotice.f k b) (m, x, y, z) ∧ m.length ≤ 200 := by
  unfold spec_DrawSendNotice.f
  obtain ⟨h, e⟩ := spec_l1New.draw b hb
  obtain ⟨m, q, g, e1, hm, q0⟩ := spec_l31Mailbox.draw b 0 h hb (by omega)
  obtain ⟨x, q2, g2, e2, _, _, q20⟩ := spec_l1Below.draw b q g 7 hb q0 (by omega)
  obtain ⟨y, q3, g3, e3, _, q30⟩ := spec_l1Int.draw b q2 g2 [0, 1, (-1), 1000000, 1000001] hb q20 (by simp) (by simp)
  obtain ⟨z, q4, g4, e4, _, _⟩ := spec_l1Int.draw b q3 g3 [0, 90, 1000000, 1000001] hb q30 (by simp) (by simp)
  exact ⟨m, x, y, z, Ev.bind e (Ev.bind e1 (ev_bindc e2 (ev_bindc e3 (ev_bindc e4 (Ev.now _))))), hm⟩

theorem impl_copyMail.val (l : List S108) (hl : l.length < 4398046511104) : impl_copyMail.f l = some l := by
  unfold impl_copyMail.f
  simp only [Option.bind_some, List.nil_append, List.length_nil, Nat.zero_add]
  rw [if_pos hl]

theorem impl_InRange.val (a b c : Int) : impl_InRange.f a b c = some (decide (b ≤ a ∧ a ≤ c)) := by
  unfold impl_InRange.f
  by_cases h : b ≤ a
  · rw [if_pos h]; simp [h]
  · rw [if_neg h]; simp [h]

theorem impl_IsValidMailbox.ev (m : List S108) (hl : m.length < 4611686018427387904) : Ev (fun k => impl_IsValidMailbox.f k m) (validMailV m) := by
  unfold impl_IsValidMailbox.f validMailV
  refine ev_both (fun e => ?_) (fun e => ?_)
  · rw [dec_false (by omega)]
    exact Ev.now _
  refine scan_all (n := m.length) (fun k i => impl_IsValidMailbox.l0 k m m.length i m) (mailOk m) (m.length ≤ 30) ?_ (fun i hi q r ih => ?_) (fun i hi q => ?_)
  · refine Ev.step (fun k => by rw [impl_IsValidMailbox.l0]) ?_
    refine ev_neg (by omega) ?_
    rw [dec_true (by omega)]
    exact Ev.now _
  · unfold mailOk at q
    refine Ev.step (fun k => by rw [impl_IsValidMailbox.l0]) ?_
    simp only [impl_InRange.val, Option.bind_some, decide_eq_true_eq, wrap_succ (show i < 4611686018427387904 by omega), wrap_in (x := (i : Int) - 1) (by omega) (by omega)]
    repeat' (with_reducible refine ev_both (fun _ => ?_) (fun _ => ?_))
    all_goals first | exact ih | (exfalso; omega)
  · unfold mailOk at q
    refine Ev.step (fun k => by rw [impl_IsValidMailbox.l0]) ?_
    simp only [impl_InRange.val, Option.bind_some, decide_eq_true_eq, wrap_succ (show i < 4611686018427387904 by omega), wrap_in (x := (i : Int) - 1) (by omega) (by omega)]
    repeat' (with_reducible refine ev_both (fun _ => ?_) (fun _ => ?_))
    all_goals first | exact Ev.now _ | (exfalso; omega)

theorem impl_SendNotice.j (l m : List S108) (hl : l.length ≤ 3000000) (hm : m.length ≤ 3000000) : Ev (fun k => impl_SendNotice.j1 k m l) (if validMailV l = true then (l, true) else (m, false)) := by
  refine Ev.step (fun k => by rw [impl_SendNotice.j1]) ?_
  exact Ev.bind (impl_IsValidMailbox.ev l (by omega)) (ev_ite (fun _ => Ev.now _) (fun _ => ev_bindc (impl_copyMail.val m (by omega)) (Ev.now _)))
theorem impl_SendNotice.up (l m : List S108) (hl : l.length ≤ 2000000) (h0 : 0 < l.length) (hm : m.length ≤ 2000000) (r : List S108 × Bool) (h : Ev (fun k => impl_SendNotice.j1 k m (l.take (downV l l.length 0) ++ l.drop (downV l l.length 0 + 1))) r) : ∀ (d i : Nat), i + d = l.length → (∀ j, j < i → ¬ seenAt l j) → Ev (fun k => impl_SendNotice.l0 k 0 (l.length : Int) (i : Int) m l) r := by
  intro d
  induction d with
  | zero =>
    intro i hi hn
    rw [down_none l l.length 0 (fun j hj => hn j (by omega))] at h
    refine Ev.step (fun k => by rw [impl_SendNotice.l0]) ?_
    have w : wrap64 (0 + 1) = ((1 : Nat) : Int) := by unfold wrap64; omega
    rw [w]
    have e1 : (l.take 0).length ≤ l.length := by simp
    have e2 : (l.drop 1).length ≤ l.length := by simp
    refine ev_neg (by omega) (ev_bindc rfl (ev_pos (by omega) (ev_pos (by omega) (ev_bindc rfl (ev_pos (by show ([] : List S108).length + (l.take 0).length < 4398046511104; simp) (ev_bindc rfl (ev_pos (by omega) (ev_pos (by omega) (ev_bindc rfl (ev_pos (by show (([] : List S108) ++ l.take 0).length + (l.drop 1).length < 4398046511104; simp only [List.nil_append]; omega) ?_))))))))))
    simpa using h
  | succ d ih =>
    intro i hi hn
    refine Ev.step (fun k => by rw [impl_SendNotice.l0]) ?_
    rw [wrap_succ (i := i) (by omega), Int.toNat_natCast, Int.toNat_natCast]
    refine ev_pos (by omega) (ev_pos (by omega) (ev_pos (by omega) (ev_both (fun hs => ?_) (fun hs => ?_))))
    · rw [down_first l l.length 0 i (by omega) hs hn] at h
      have e1 : (l.take i).length ≤ l.length := by simp; omega
      have e2 : (l.drop (i + 1)).length ≤ l.length := by simp
      refine ev_bindc rfl (ev_pos (by omega) (ev_bindc rfl (ev_pos (by simp only [List.length_nil]; omega) (ev_bindc rfl (ev_pos (by omega) (ev_pos (by omega) (ev_bindc rfl (ev_pos (by simp only [List.nil_append]; omega) ?_))))))))
      simpa using h
    · refine ih (i + 1) (by omega) (fun j hj => ?_)
      by_cases e : j = i
      · subst e; exact hs
      · exact hn j (by omega)
theorem impl_SendNotice.ev (m : List S108) (a b c : Int) (hm : m.length ≤ 1900000) : Ev (fun k => impl_SendNotice.f k m a b c) (sendV m a b c) := by
  unfold impl_SendNotice.f sendV
  refine Ev.bind (impl_IsValidMailbox.ev m (by omega)) (ev_ite (fun _ => ?_) (fun _ => ev_bindc (impl_copyMail.val m (by omega)) (Ev.now _)))
  refine ev_bindc (impl_copyMail.val m (by omega)) (ev_pos (by omega) (ev_bindc rfl ?_))
  have hc := cut_length (m ++ [(⟨a, b, c, false⟩ : S108)])
  have hl : (m ++ [(⟨a, b, c, false⟩ : S108)]).length = m.length + 1 := by simp
  have J := impl_SendNotice.j (cutV (m ++ [(⟨a, b, c, false⟩ : S108)])) m (by omega) (by omega)
  generalize m ++ [(⟨a, b, c, false⟩ : S108)] = l at hl hc J
  generalize (if validMailV (cutV l) = true then (cutV l, true) else (m, false)) = r at J
  unfold cutV at J
  refine ev_both (fun h => ?_) (fun h => ?_)
  · rw [if_pos (by omega)] at J
    exact impl_SendNotice.up l m (by omega) (by omega) (by omega) r J l.length 0 (by omega) (fun j hj => by omega)
  · rw [if_neg (by omega)] at J
    exact J

def latestV (l : List S108) (a : Int) : Int × Int × Int × Bool × Bool :=
  match l.reverse.find? (fun x => x.f1 == a) with
  | some x => (x.f0, x.f1, x.f2, x.f3, true)
  | none => (0, 0, 0, false, false)

theorem impl_LatestNotice.ev (l : List S108) (a : Int) (hl : l.length < 4611686018427387904) : Ev (fun k => impl_LatestNotice.f k l a) (latestV l a) := by
  unfold impl_LatestNotice.f
  have key : ∀ n : Nat, n ≤ l.length → Ev (fun k => impl_LatestNotice.l0 k a ((n : Int) - 1) l) (latestV (l.take n) a) := by
    intro n
    induction n with
    | zero =>
      intro _
      refine Ev.step (fun k => by rw [impl_LatestNotice.l0]) ?_
      exact ev_neg (by omega) (Ev.now _)
    | succ n ih =>
      intro hn
      have h : n < l.length := by omega
      refine Ev.step (fun k => by rw [impl_LatestNotice.l0]) ?_
      rw [show ((n + 1 : Nat) : Int) - 1 = (n : Int) by omega]
      refine ev_pos (by omega) (ev_pos (by omega) (ev_pos (by omega) ?_))
      rw [rd_T108, getD_get h, List.take_succ_eq_append_getElem h, wrap_in (by omega) (by omega)]
      simp only [latestV, List.reverse_append, List.reverse_cons, List.reverse_nil, List.nil_append, List.singleton_append, List.find?_cons]
      refine ev_both (fun e => ?_) (fun e => ?_)
      · simp only [e, beq_self_eq_true]
        exact Ev.now _
      · simp only [beq_eq_false_iff_ne.2 e]
        exact ih (by omega)
  have := key l.length (Nat.le_refl _)
  rw [List.take_length] at this
  rw [wrap_in (by omega) (by omega)]
  exact this

theorem impl_ReadNotices.ev (l : List S108) (hl : l.length < 4398046511104) : Ev (fun k => impl_ReadNotices.f k l) (l.map seenN, freshV l) := by
  unfold impl_ReadNotices.f
  refine ev_bindc (impl_copyMail.val l hl) ?_
  have key : ∀ (d i : Nat), i + d = l.length → Ev (fun k => impl_ReadNotices.l0 k (freshV (l.take i)) (l.length : Int) (i : Int) ((l.take i).map seenN ++ l.drop i)) (l.map seenN, freshV l) := by
    intro d
    induction d with
    | zero =>
      intro i hi
      refine Ev.step (fun k => by rw [impl_ReadNotices.l0]) ?_
      refine ev_neg (by omega) ?_
      rw [List.take_of_length_le (by omega), List.drop_of_length_le (by omega), List.append_nil]
      exact Ev.now _
    | succ d ih =>
      intro i hi
      have h : i < l.length := by omega
      have hlen : ((l.take i).map seenN ++ l.drop i).length = l.length := by simp; omega
      have hf := fresh_length (l.take i)
      have hft : (l.take i).length ≤ l.length := by simp; omega
      have next := ih (i + 1) (by omega)
      rw [fresh_snoc l i h, ← seen_set l i h] at next
      refine Ev.step (fun k => by rw [impl_ReadNotices.l0]) ?_
      have g2 : rd_T108 ((l.take i).map seenN ++ l.drop i) (i : Int) = l[i] := by rw [rd_T108, getD_get (by omega), seen_get l i h]
      rw [g2, wrap_succ (i := i) (by omega), Int.toNat_natCast]
      refine ev_pos (by omega) (ev_pos (by omega) (ev_pos (by omega) (ev_both (fun hs => ?_) (fun hs => ?_))))
      · rw [if_pos hs] at next
        exact next
      · rw [if_neg hs] at next
        exact ev_pos (by omega) next
  exact key l.length 0 (by omega)

def mailSame (l m : List S108) (i : Nat) : Prop := (rd_T108 l i).f0 = (rd_T108 m i).f0 ∧ (rd_T108 l i).f1 = (rd_T108 m i).f1 ∧ (rd_T108 l i).f2 = (rd_T108 m i).f2 ∧ (rd_T108 l i).f3 = (rd_T108 m i).f3
noncomputable def eqMailV (l m : List S108) : Bool := if (l.length : Int) = (m.length : Int) then dec ((∀ i, i < l.length → mailSame l m i) ∧ True) else false

theorem impl_EqualMailboxes.ev (l m : List S108) (hl : l.length < 4611686018427387904) : Ev (fun k => impl_EqualMailboxes.f k l m) (eqMailV l m) := by
  unfold impl_EqualMailboxes.f eqMailV
  refine ev_ite (fun e => ?_) (fun e => Ev.now _)
  refine scan_all (n := l.length) (fun k i => impl_EqualMailboxes.l0 k l.length i l m) (mailSame l m) True ?_ (fun i hi q r ih => ?_) (fun i hi q => ?_)
  · refine Ev.step (fun k => by rw [impl_EqualMailboxes.l0]) ?_
    rw [dec_true trivial]
    exact ev_neg (by omega) (Ev.now _)
  · obtain ⟨q0, q1, q2, q3⟩ := q
    refine Ev.step (fun k => by rw [impl_EqualMailboxes.l0]) ?_
    refine ev_pos (by omega) (ev_pos (by omega) (ev_pos (by omega) (ev_pos (by omega) (ev_neg (by simp [q0, q1, q2, q3]) ?_))))
    rw [wrap_succ (by omega)]
    exact ih
  · refine Ev.step (fun k => by rw [impl_EqualMailboxes.l0]) ?_
    refine ev_pos (by omega) (ev_pos (by omega) (ev_pos (by omega) (ev_pos (by omega) (ev_pos ?_ (Ev.now _)))))
    unfold mailSame at q
    simp only [Bool.or_eq_true, Bool.not_eq_true', beq_eq_false_iff_ne, ne_eq]
    by_cases q0 : (rd_T108 l i).f0 = (rd_T108 m i).f0
    · by_cases q1 : (rd_T108 l i).f1 = (rd_T108 m i).f1
      · by_cases q2 : (rd_T108 l i).f2 = (rd_T108 m i).f2
        · exact .inr (.inr (.inr (fun q3 => q ⟨q0, q1, q2, q3⟩)))
        · exact .inr (.inr (.inl q2))
      · exact .inr (.inl q1)
    · exact .inl q0

def unseenGo (kind : Int) : List S108 → Int → Int
  | [], n => n
  | x :: xs, n => unseenGo kind xs (if x.f0 = kind then (if x.f3 = true then n else wrap64 (n + 1)) else n)
def unseenV (l : List S108) (kind : Int) : Int := unseenGo kind l 0

theorem impl_UnseenOf.ev (l : List S108) (a : Int) (hl : l.length < 4611686018427387904) : Ev (fun k => impl_UnseenOf.f k l a) (unseenV l a) := by
  unfold impl_UnseenOf.f unseenV
  refine scan0 (xs := l) (fun k n i => impl_UnseenOf.l0 k a n l l.length i) (unseenGo a) (fun s => ?_) (fun i h s ih => ?_) 0
  · refine Ev.step (fun k => by rw [impl_UnseenOf.l0]) ?_
    exact ev_neg (by omega) (Ev.now _)
  · refine Ev.step (fun k => by rw [impl_UnseenOf.l0]) ?_
    refine ev_pos (by omega) (ev_pos (by omega) (ev_pos (by omega) ?_))
    rw [rd_T108, getD_get h, wrap_succ (show i < 4611686018427387904 by omega)]
    simp only [unseenGo]
    refine ev_both (fun e => ev_both (fun e2 => ?_) (fun e2 => ?_)) (fun e => ?_)
    · rw [if_pos e, if_pos e2]; exact ih _
    · rw [if_pos e, if_neg e2]; exact ih _
    · rw [if_neg e]; exact ih _

theorem spec_Min.val (a b : Int) : spec_Min.f a b = some (min a b) := by
  unfold spec_Min.f
  split <;> (congr 1; omega)

theorem impl_NoticeName.some (a : Int) (h : 1 ≤ a ∧ a ≤ 5) : ∃ t, impl_NoticeName.f a = some t ∧ (t.toList != ([] : List UInt8)) = true := by
  have e : a = 1 ∨ a = 2 ∨ a = 3 ∨ a = 4 ∨ a = 5 := by omega
  rcases e with rfl | rfl | rfl | rfl | rfl
  · exact ⟨(⟨#[108, 111, 103, 105, 110]⟩ : ByteArray), by decide +kernel, by decide +kernel⟩
  · exact ⟨(⟨#[100, 101, 118, 105, 99, 101]⟩ : ByteArray), by decide +kernel, by decide +kernel⟩
  · exact ⟨(⟨#[99, 108, 97, 105, 109]⟩ : ByteArray), by decide +kernel, by decide +kernel⟩
  · exact ⟨(⟨#[99, 117, 116]⟩ : ByteArray), by decide +kernel, by decide +kernel⟩
  · exact ⟨(⟨#[114, 101, 99, 111, 118, 101, 114, 121]⟩ : ByteArray), by decide +kernel, by decide +kernel⟩

theorem send_ok {m : List S108} {a b c : Int} (h : (sendV m a b c).2 = true) : validMailV m = true ∧ validMailV (cutV (m ++ [⟨a, b, c, false⟩])) = true ∧ sendV m a b c = (cutV (m ++ [⟨a, b, c, false⟩]), true) := by
  unfold sendV at h ⊢
  split at h
  · rename_i h1
    split at h
    · rename_i h2
      rw [if_pos h1, if_pos h2]
      exact ⟨h1, h2, rfl⟩
    · cases h
  · cases h
theorem send_no {m : List S108} {a b c : Int} (h : (sendV m a b c).2 = false) : sendV m a b c = (m, false) := by
  unfold sendV at h ⊢
  split at h
  · rename_i h1
    split at h
    · cases h
    · rename_i h2
      rw [if_pos h1, if_neg h2]
  · rename_i h1
    rw [if_neg h1]
theorem cut_last (m : List S108) (n : S108) (hn : n.f3 = false) (hm : m.length ≤ 30) : ∃ pre, cutV (m ++ [n]) = pre ++ [n] ∧ pre.length + 1 = min 30 (m.length + 1) := by
  unfold cutV
  have hl : (m ++ [n]).length = m.length + 1 := by simp
  split
  · have ns : ¬ seenAt (m ++ [n]) m.length := by
      unfold seenAt
      rw [rd_T108, getD_get (by omega), List.getElem_append_right (by omega)]
      simp [hn]
    have k : downV (m ++ [n]) (m ++ [n]).length 0 < m.length := by
      rw [hl, downV, if_neg ns]
      exact down_lt _ _ _ _ (by omega) (by omega)
    generalize downV (m ++ [n]) (m ++ [n]).length 0 = K at k
    refine ⟨m.take K ++ m.drop (K + 1), ?_, ?_⟩
    · rw [List.take_append_of_le_length (by omega), List.drop_append_of_le_length (by omega), List.append_assoc]
    · rw [List.length_append, List.length_take, List.length_drop]; omega
  · exact ⟨m, rfl, by omega⟩
theorem latest_last (pre : List S108) (n : S108) : latestV (pre ++ [n]) n.f1 = (n.f0, n.f1, n.f2, n.f3, true) := by
  unfold latestV
  simp
theorem fresh_seen (l : List S108) : freshV (l.map seenN) = [] := by
  unfold freshV
  rw [List.filter_eq_nil_iff]
  intro x hx
  obtain ⟨y, _, e⟩ := List.mem_map.1 hx
  subst e
  simp [seenN]
def cntV (l : List S108) (k : Int) : Nat := (l.filter (fun x => x.f0 == k && !x.f3)).length
theorem cnt_le (l : List S108) (k : Int) : cntV l k ≤ l.length := List.length_filter_le _ _
theorem unseenGo_cnt (k : Int) (l : List S108) (n : Nat) (h : n + l.length < 1000000) : unseenGo k l (n : Int) = ((n + cntV l k : Nat) : Int) := by
  induction l generalizing n with
  | nil => rfl
  | cons x xs ih =>
    simp only [List.length_cons] at h
    rw [unseenGo]
    unfold cntV
    rw [List.filter_cons]
    by_cases h0 : x.f0 = k
    · cases h3 : x.f3
      · have e := ih (n + 1) (by omega)
        simp only [h0, h3, if_true, Bool.false_eq_true, if_false, beq_self_eq_true, Bool.not_false, Bool.and_self, List.length_cons]
        rw [wrap_succ (by omega), e]
        unfold cntV
        omega
      · have e := ih n (by omega)
        simp only [h0, h3, if_true, beq_self_eq_true, Bool.not_true, Bool.and_false, Bool.false_eq_true, if_false]
        exact e
    · have e := ih n (by omega)
      have hb : (x.f0 == k) = false := beq_eq_false_iff_ne.2 h0
      simp only [h0, hb, if_false, Bool.false_and, Bool.false_eq_true]
      exact e
theorem unseen_cnt (l : List S108) (k : Int) (h : l.length < 1000000) : unseenV l k = (cntV l k : Int) := by
  have := unseenGo_cnt k l 0 (by omega)
  unfold unseenV
  simpa using this
theorem cnt_seen (l : List S108) (k : Int) : cntV (l.map seenN) k = 0 := by
  unfold cntV
  rw [List.length_eq_zero_iff, List.filter_eq_nil_iff]
  intro x hx
  obtain ⟨y, _, e⟩ := List.mem_map.1 hx
  subst e
  simp [seenN]
def sumV (l : List S108) : Nat → Nat
  | 0 => 0
  | i + 1 => sumV l i + cntV l ((i + 1 : Nat) : Int)
theorem sum_le (l : List S108) (i : Nat) : sumV l i ≤ i * l.length := by
  induction i with
  | zero => exact Nat.zero_le _
  | succ i ih =>
    have := cnt_le l ((i + 1 : Nat) : Int)
    rw [sumV, Nat.succ_mul]
    omega
theorem sum_fresh (l : List S108) (h : ∀ x ∈ l, 1 ≤ x.f0 ∧ x.f0 ≤ 5) : sumV l 5 = (freshV l).length := by
  induction l with
  | nil => rfl
  | cons x xs ih =>
    have hx := h x (by simp)
    have e := ih (fun y hy => h y (by simp [hy]))
    simp only [sumV, cntV, freshV] at e ⊢
    simp only [List.filter_cons]
    cases h3 : x.f3
    · have c : x.f0 = 1 ∨ x.f0 = 2 ∨ x.f0 = 3 ∨ x.f0 = 4 ∨ x.f0 = 5 := by omega
      rcases c with c | c | c | c | c <;> simp [c] at e ⊢ <;> omega
    · simp at e ⊢
      omega
theorem rd_seen (l : List S108) (i : Nat) (h : i < l.length) : rd_T108 (l.map seenN) (i : Int) = seenN (rd_T108 l (i : Int)) := by
  rw [rd_T108, rd_T108, getD_get (by simpa using h), getD_get h, List.getElem_map]
theorem valid_facts {l : List S108} (h : validMailV l = true) : (∀ i, i < l.length → mailOk l i) ∧ l.length ≤ 30 := dec_iff.1 h
theorem valid_seen {l : List S108} (h : validMailV l = true) : validMailV (l.map seenN) = true := by
  have g := valid_facts h
  refine dec_iff.2 ⟨fun i hi => ?_, by rw [List.length_map]; exact g.2⟩
  rw [List.length_map] at hi
  have q := g.1 i hi
  unfold mailOk at q ⊢
  rw [rd_seen l i hi]
  refine ⟨q.1, q.2.1, q.2.2.1, q.2.2.2.1, q.2.2.2.2.1, q.2.2.2.2.2.1, fun h0 => ?_⟩
  have q' := q.2.2.2.2.2.2 h0
  have e : (i : Int) - 1 = ((i - 1 : Nat) : Int) := by omega
  rw [e] at q' ⊢
  rw [rd_seen l (i - 1) (by omega)]
  exact q'
theorem valid_kind {l : List S108} (h : validMailV l = true) : ∀ x ∈ l, 1 ≤ x.f0 ∧ x.f0 ≤ 5 := by
  intro x hx
  obtain ⟨i, hi, e⟩ := List.mem_iff_getElem.1 hx
  have q := (valid_facts h).1 i hi
  unfold mailOk at q
  rw [rd_T108, getD_get hi, e] at q
  exact ⟨q.1, q.2.1⟩
theorem eqMail_self (m : List S108) : eqMailV m m = true := by
  unfold eqMailV
  rw [if_pos rfl]
  exact dec_iff.2 ⟨fun i _ => ⟨rfl, rfl, rfl, rfl⟩, trivial⟩

theorem notices_loop (m x : List S108) (a b c : Int) (hx : validMailV x = true) (hlen : (x.length : Int) = min 30 ((m.length : Int) + 1)) (hm : m.length ≤ 200) (ha : 1 ≤ a ∧ a ≤ 5) : ∀ (d i : Nat), i + d = 5 → Ev (fun k => laws_FnNotices.l0 k a c true (sumV x i : Int) ((i + 1 : Nat) : Int) (freshV x) (freshV (x.map seenN)) m x a b c false (x.map seenN)) true := by
  have x30 := (valid_facts hx).2
  intro d
  induction d with
  | zero =>
    intro i hi
    obtain rfl : i = 5 := by omega
    refine Ev.step (fun k => by rw [laws_FnNotices.l0]) ?_
    refine ev_neg (by omega) (ev_pos rfl (ev_pos rfl (ev_pos rfl (ev_neg (by simp) (ev_pos ?_ (ev_pos ?_ ?_))))))
    · rw [sum_fresh x (valid_kind hx)]
    · rw [fresh_seen]; rfl
    · have z : unseenV (x.map seenN) a = 0 := by rw [unseen_cnt _ _ (by rw [List.length_map]; omega), cnt_seen]; rfl
      refine Ev.bind (ev_eq (impl_UnseenOf.ev (x.map seenN) a (by rw [List.length_map]; omega)) z) (ev_pos rfl ?_)
      refine Ev.bind (ev_eq (impl_IsValidMailbox.ev (x.map seenN) (by rw [List.length_map]; omega)) (valid_seen hx)) (ev_pos rfl ?_)
      rw [wrap_in (x := (m.length : Int) + 1) (by omega) (by omega)]
      refine ev_bindc (spec_Min.val _ _) (ev_pos hlen ?_)
      obtain ⟨t, e, ht⟩ := impl_NoticeName.some a ha
      exact ev_bindc e (ev_const (by rw [ht]))
  | succ d ih =>
    intro i hi
    have s1 := sum_le x i
    have s2 := cnt_le x ((i + 1 : Nat) : Int)
    have s3 : i * x.length ≤ 5 * 30 := Nat.mul_le_mul (by omega) x30
    refine Ev.step (fun k => by rw [laws_FnNotices.l0]) ?_
    refine ev_pos (by omega) (Ev.bind (ev_eq (impl_UnseenOf.ev x ((i + 1 : Nat) : Int) (by omega)) (unseen_cnt x _ (by omega))) ?_)
    have next := ih (i + 1) (by omega)
    have e : wrap64 ((sumV x i : Int) + (cntV x ((i + 1 : Nat) : Int) : Int)) = ((sumV x (i + 1) : Nat) : Int) := by
      rw [wrap_in (by omega) (by omega), sumV]
      omega
    rw [wrap_succ (i := i + 1) (by omega), e]
    exact next
theorem FnNotices : Claim := by
  intro l ⟨hl, hw⟩
  refine Ev.rounds (r := true) ?_
  unfold laws_FnNotices.f
  refine ev_bindc (laws_big.val l) (ev_both (fun _ => Ev.now _) (fun h => ?_))
  have h' : l.length ≤ 1048576 := by simp at h; omega
  obtain ⟨m, a, b, c, e, hm⟩ := spec_DrawSendNotice.draw l h'
  have hv := send_length m a b c
  refine Ev.bind e (Ev.bind (impl_SendNotice.ev m a b c (by omega)) (Ev.bind (spec_SendNotice.ev m a b c (by omega)) (ev_neg (by simp) ?_)))
  cases ho : (sendV m a b c).2
  · rw [send_no ho]
    exact ev_neg (by simp) (Ev.bind (ev_eq (impl_EqualMailboxes.ev m m (by omega)) (eqMail_self m)) (Ev.now _))
  · obtain ⟨v1, v2, es⟩ := send_ok ho
    rw [es] at hv ⊢
    obtain ⟨pre, ep, lp⟩ := cut_last m ⟨a, b, c, false⟩ rfl (valid_facts v1).2
    have hx := v2
    have ha := valid_kind v2 ⟨a, b, c, false⟩ (by rw [ep]; simp)
    have hlen : (((cutV (m ++ [(⟨a, b, c, false⟩ : S108)])).length : Nat) : Int) = min 30 ((m.length : Int) + 1) := by
      rw [ep, List.length_append]
      simp only [List.length_cons, List.length_nil]
      omega
    have hlat : latestV (cutV (m ++ [(⟨a, b, c, false⟩ : S108)])) b = (a, b, c, false, true) := by
      rw [ep]
      exact latest_last pre ⟨a, b, c, false⟩
    generalize cutV (m ++ [(⟨a, b, c, false⟩ : S108)]) = x at hv hx hlen hlat
    have x30 := (valid_facts hx).2
    refine ev_pos rfl (Ev.bind (ev_eq (impl_LatestNotice.ev x b (by omega)) hlat) ?_)
    refine Ev.bind (impl_ReadNotices.ev x (by omega)) (Ev.bind (impl_ReadNotices.ev (x.map seenN) (by rw [List.length_map]; omega)) ?_)
    exact notices_loop m x a b c hx hlen hm ha 5 0 (by omega)

end Go.Proofs.Ytanoaneoanpkkaa.Pure
