import Derived.Test.YtchodmjleceooaaV0
import Derived.Test.YtchodmjleceooaaV1
import Derived.Test.YtchodmjleceooaaV2
import Derived.Test.YtchodmjleceooaaV5
import Derived.Test.YtchodmjleceooaaV6
import Derived.Test.YtchodmjleceooaaV7
import Derived.Test.YtchodmjleceooaaV8
import Derived.Test.YtchodmjleceooaaV9
import Derived.Test.YtchodmjleceooaaV11
namespace Go.Proofs.Ytchodmjleceooaa.V
open Go.RowKit Go.Proofs.YtchodmjleceooaaW.PrintWords Go.Proofs.YtchodmjleceooaaW.PrintLast Go.Proofs.YtchodmjleceooaaW.PrintMore
attribute [local go_sem] max2_int min2_int max_two min_two max_three min_three max_four min_four
set_option linter.unusedVariables false
set_option linter.unusedSimpArgs false
def Apart : List UInt8 → Prop
  | [] => True
  | b :: _ => lexLet b = false
inductive Lx : List UInt8 → List (Int × ByteArray) → Prop
  | nil : Lx [] []
  | word {w r : List UInt8} {ts : List (Int × ByteArray)} (h0 : w ≠ []) (hw : ∀ b ∈ w, lexLet b = true) (hr : Apart r) (h : Lx r ts) : Lx (w ++ r) ((0, ⟨w.toArray⟩) :: ts)
  | sign {b : UInt8} {k : Int} {r : List UInt8} {ts : List (Int × ByteArray)} (hb : lexLet b = false) (hk : sgn b = some k) (h : Lx r ts) : Lx (b :: r) ((k, ⟨#[]⟩) :: ts)
  | dots {r : List UInt8} {ts : List (Int × ByteArray)} (h : Lx r ts) : Lx (46 :: 46 :: r) ((2, ⟨#[]⟩) :: ts)
  | blank {r : List UInt8} {ts : List (Int × ByteArray)} (h : Lx r ts) : Lx (32 :: r) ts
theorem Apart.append {a b : List UInt8} (h : Apart a) (k : a = [] → Apart b) : Apart (a ++ b) := by
  cases a with
  | nil => exact k rfl
  | cons x r => exact h
theorem Lx.append {l : List UInt8} {ts : List (Int × ByteArray)} (h : Lx l ts) {m : List UInt8} {us : List (Int × ByteArray)} (k : Lx m us) (hm : Apart m) : Lx (l ++ m) (ts ++ us) := by
  induction h with
  | nil => exact k
  | word h0 hw hr h ih => rw [List.append_assoc]; exact .word h0 hw (hr.append (fun _ => hm)) ih
  | sign hb hk h ih => exact .sign hb hk ih
  | dots h ih => exact .dots ih
  | blank h ih => exact .blank ih
theorem wordLen_all : ∀ (w r : List UInt8), (∀ b ∈ w, lexLet b = true) → Apart r → wordLen (w ++ r) = w.length := by
  intro w
  induction w with
  | nil =>
    intro r _ hr
    cases r with
    | nil => rfl
    | cons b r => rw [List.nil_append, wordLen, show lexLet b = false from hr]; rfl
  | cons b w ih =>
    intro r hw hr
    rw [List.cons_append, wordLen, if_pos (hw b (by simp)), ih r (fun x hx => hw x (by simp [hx])) hr]; rfl
theorem wordLen_zero {b : UInt8} {r : List UInt8} (h : lexLet b = false) : wordLen (b :: r) = 0 := by rw [wordLen, h]; rfl
theorem wordLen_parts : ∀ (l : List UInt8), (∀ b ∈ l.take (wordLen l), lexLet b = true) ∧ Apart (l.drop (wordLen l)) := by
  intro l
  induction l with
  | nil => exact ⟨by simp, trivial⟩
  | cons b r ih =>
    rw [wordLen]
    cases hb : lexLet b with
    | true =>
      rw [if_pos rfl]
      refine ⟨fun x hx => ?_, by simpa using ih.2⟩
      simp only [List.take_succ_cons, List.mem_cons] at hx
      rcases hx with rfl | hx
      · exact hb
      · exact ih.1 x hx
    | false => rw [if_neg (by simp)]; exact ⟨by simp, hb⟩
theorem Lx.go {l : List UInt8} {ts : List (Int × ByteArray)} (h : Lx l ts) : ∀ (f p : Nat), l.length ≤ f → (lexRest f p l).2 = none ∧ (lexRest f p l).1.map tk = ts := by
  induction h with
  | nil => intro f p _; cases f <;> exact ⟨rfl, rfl⟩
  | @word w r ts h0 hw hr h ih =>
    intro f p hf
    have hl : 0 < w.length := List.length_pos_iff.mpr h0
    rw [List.length_append] at hf
    obtain ⟨f, rfl⟩ : ∃ g, f = g + 1 := ⟨f - 1, by omega⟩
    have hwl := wordLen_all w r hw hr
    rw [lexRest_word f p _ (by omega), hwl, List.take_left, List.drop_left]
    have hi := ih f (p + w.length) (by omega)
    exact ⟨hi.1, by rw [tk_cons, hi.2]⟩
  | @sign b k r ts hb hk h ih =>
    intro f p hf
    obtain ⟨f, rfl⟩ : ∃ g, f = g + 1 := ⟨f - 1, by simp at hf; omega⟩
    rw [lexRest_sign f p b r (wordLen_zero hb) (by rw [hk]; rfl), hk]
    have hi := ih f (p + 1) (by simp at hf; omega)
    exact ⟨hi.1, by rw [tk_cons, hi.2]; rfl⟩
  | @dots r ts h ih =>
    intro f p hf
    obtain ⟨f, rfl⟩ : ∃ g, f = g + 1 := ⟨f - 1, by simp at hf; omega⟩
    rw [lexRest_dots f p 46 (46 :: r) (wordLen_zero (by decide)) (by decide) ⟨rfl, rfl⟩]
    have hi := ih f (p + 2) (by simp at hf; omega)
    exact ⟨hi.1, by rw [tk_cons]; simp only [List.drop_succ_cons, List.drop_zero]; rw [hi.2]⟩
  | @blank r ts h ih =>
    intro f p hf
    obtain ⟨f, rfl⟩ : ∃ g, f = g + 1 := ⟨f - 1, by simp at hf; omega⟩
    rw [lexRest_blank f p 32 r (wordLen_zero (by decide)) (by decide) (by simp) rfl]
    exact ih f (p + 1) (by simp at hf; omega)
theorem Lx.of : ∀ (f p : Nat) (l : List UInt8), l.length ≤ f → (lexRest f p l).2 = none → Lx l ((lexRest f p l).1.map tk) := by
  intro f
  induction f with
  | zero =>
    intro p l hl _
    obtain rfl : l = [] := List.length_eq_zero_iff.mp (Nat.le_zero.mp hl)
    exact .nil
  | succ f ih =>
    intro p l hl h
    cases l with
    | nil => exact .nil
    | cons b r =>
      simp only [List.length_cons] at hl
      by_cases h1 : 0 < wordLen (b :: r)
      · rw [lexRest_word f p _ h1] at h ⊢
        have hi := ih (p + wordLen (b :: r)) ((b :: r).drop (wordLen (b :: r))) (by rw [List.length_drop, List.length_cons]; omega) h
        have hp := wordLen_parts (b :: r)
        have hc := Lx.word (w := (b :: r).take (wordLen (b :: r))) (by intro h0; have := congrArg List.length h0; rw [List.length_take] at this; have := wordLen_le (b :: r); simp only [List.length_nil] at *; omega) hp.1 hp.2 hi
        rw [List.take_append_drop] at hc
        exact hc
      · have h0 : wordLen (b :: r) = 0 := by omega
        have hb : lexLet b = false := by
          rw [wordLen] at h0
          cases hl : lexLet b with
          | true => rw [hl, if_pos rfl] at h0; omega
          | false => rfl
        cases hs : (sgn b).isSome with
        | true =>
          rw [lexRest_sign f p b r h0 hs] at h ⊢
          obtain ⟨k, hk⟩ := Option.isSome_iff_exists.mp hs
          rw [tk_cons, hk]
          exact .sign hb hk (ih (p + 1) r (by omega) h)
        | false =>
          by_cases hd : b = 46 ∧ r.head? = some 46
          · rw [lexRest_dots f p b r h0 hs hd] at h ⊢
            obtain ⟨rfl, hr⟩ := hd
            cases r with
            | nil => simp at hr
            | cons c r =>
              simp only [List.head?_cons, Option.some.injEq] at hr
              subst hr
              exact .dots (ih (p + 2) r (by simp only [List.length_cons] at hl; omega) h)
          · by_cases hb2 : b = 32
            · rw [lexRest_blank f p b r h0 hs hd hb2] at h ⊢
              subst hb2
              exact .blank (ih (p + 1) r (by omega) h)
            · rw [lexRest_err f p b r h0 hs hd hb2] at h
              simp at h
theorem lexAll_go {s : ByteArray} {ts : List (Int × ByteArray)} (h : Lx s.data.toList ts) (hs : s.size ≤ 2000) : ∃ l, lexAll s = (l ++ [⟨9, s.size, ⟨#[]⟩⟩], (s.size : Int), 0) ∧ l.map tk = ts := by
  have h2 := h.go s.size 0 (by rw [Array.length_toList]; exact Nat.le_refl _)
  refine ⟨(lexRest s.size 0 s.data.toList).1, ?_, h2.2⟩
  rw [lexAll, if_neg (by omega), h2.1]
theorem lexAll_of {s : ByteArray} {l : List S48} {at_ : Int} (h : lexAll s = (l, at_, 0)) : ∃ l0 ts, l = l0 ++ [⟨9, s.size, ⟨#[]⟩⟩] ∧ l0.map tk = ts ∧ Lx s.data.toList ts ∧ at_ = s.size ∧ s.size ≤ 2000 := by
  rw [lexAll] at h
  split at h
  · simp at h
  · split at h
    · simp at h
    · rename_i hn
      simp only [Prod.mk.injEq] at h
      exact ⟨_, _, h.1.symm, rfl, Lx.of s.size 0 _ (by rw [Array.length_toList]; exact Nat.le_refl _) hn, h.2.1.symm, by omega⟩
theorem stop_end (a : Int) : Stop [(⟨9, a, ⟨#[]⟩⟩ : S48)] := Stop.mk_ (by show (9 : Int) ≠ 1; omega) (by show (9 : Int) ≠ 7; omega) (by show (9 : Int) ≠ 8; omega)
theorem parse_good {s : ByteArray} {ts : List (Int × ByteArray)} {x : S27} (h : Lx s.data.toList ts) (hs : s.size ≤ 2000) (hx : IsExpr ts x) (hn : nsz x ≤ 64) (hd : ndp x ≤ 8) : pParse s = (x, (s.size : Int), 0) := by
  obtain ⟨l, h1, h2⟩ := lexAll_go h hs
  have hb := (expr_back hx l [⟨9, s.size, ⟨#[]⟩⟩] 0 0 (2 * (l ++ [(⟨9, s.size, ⟨#[]⟩⟩ : S48)]).length + 1) h2 (stop_end _) (by omega) (by omega) (by simp; omega)).1 (by omega)
  rw [pParse, h1]
  simp only []
  rw [if_neg (by simp), hb]
  rfl
theorem parse_big {s : ByteArray} {ts : List (Int × ByteArray)} {x : S27} (h : Lx s.data.toList ts) (hs : s.size ≤ 2000) (hx : IsExpr ts x) (hn : ¬ (nsz x ≤ 64 ∧ ndp x ≤ 8)) : ∃ a e, pParse s = (zNode, a, e) ∧ (e = 5 ∨ e = 6) := by
  obtain ⟨l, h1, h2⟩ := lexAll_go h hs
  obtain ⟨a, e, hb, he⟩ := (expr_back hx l [⟨9, s.size, ⟨#[]⟩⟩] 0 0 (2 * (l ++ [(⟨9, s.size, ⟨#[]⟩⟩ : S48)]).length + 1) h2 (stop_end _) (by omega) (by omega) (by simp; omega)).2 (by omega)
  refine ⟨a, e, ?_, he⟩
  rw [pParse, h1]
  simp only []
  rw [if_neg (by simp), hb]
def ErrAt (l : List S48) (ae : Int × Int) : Prop := (∃ t ∈ l, ae.1 = t.f1) ∧ 2 ≤ ae.2 ∧ ae.2 ≤ 6
theorem ErrAt.not {t : S48} {l : List S48} {e : Int} (ht : t ∈ l) (h2 : 2 ≤ e) (h6 : e ≤ 6) : ErrAt l (pNot t e) := by
  refine ⟨⟨t, ht, rfl⟩, ?_, ?_⟩ <;> (rw [pNot]; simp only []; split <;> omega)
theorem ErrAt.mono {l m : List S48} {ae : Int × Int} (h : ErrAt l ae) (hl : ∀ t ∈ l, t ∈ m) : ErrAt m ae := by
  obtain ⟨⟨t, h1, h2⟩, h3⟩ := h
  exact ⟨⟨t, hl t h1, h2⟩, h3⟩
theorem marked_suffix : ∀ (l : List S48) (a b : Bool), ∃ l0, l = l0 ++ (pMarked l a b).2.2 := by
  intro l
  induction l with
  | nil => intro a b; exact ⟨[], rfl⟩
  | cons t r ih =>
    intro a b
    rw [pMarked]
    split
    · obtain ⟨l0, h⟩ := ih true b
      exact ⟨t :: l0, by rw [List.cons_append, ← h]⟩
    · split
      · obtain ⟨l0, h⟩ := ih a true
        exact ⟨t :: l0, by rw [List.cons_append, ← h]⟩
      · exact ⟨[], rfl⟩
theorem end_suffix {n n1 : Int} {l l1 : List S48} {x : S27} (h : pEnd n l = .ok (x, l1, n1)) : ∃ l0, l = l0 ++ l1 := by
  cases l with
  | nil => simp [pEnd] at h
  | cons t r =>
    rw [pEnd] at h
    split at h
    · split at h
      · simp at h
      · split at h
        · rw [pWord] at h
          cases hp : pRead t.f2 with
          | none => rw [hp] at h; simp at h
          | some p =>
            rw [hp] at h
            simp only [Except.ok.injEq, Prod.mk.injEq] at h
            obtain ⟨l0, h2⟩ := marked_suffix r false false
            exact ⟨t :: l0, by rw [List.cons_append, ← h.2.1, ← h2]⟩
        · simp only [Except.ok.injEq, Prod.mk.injEq] at h
          exact ⟨[t], by rw [← h.2.1]; rfl⟩
    · simp at h
theorem span_suffix {n n1 : Int} {l l1 : List S48} {x : S27} (h : pSpan n l = .ok (x, l1, n1)) : ∃ l0, l = l0 ++ l1 := by
  rw [pSpan] at h
  split at h
  · simp at h
  · simp at h
  · rename_i a t r n2 he
    obtain ⟨l0, e0⟩ := end_suffix he
    split at h
    · split at h
      · simp at h
      · simp only [Except.ok.injEq, Prod.mk.injEq] at h
        exact ⟨l0, by rw [← h.2.1, ← e0]⟩
    · split at h
      · simp at h
      · split at h
        · simp at h
        · rename_i b l2 n3 he2
          obtain ⟨l3, e3⟩ := end_suffix he2
          simp only [Except.ok.injEq, Prod.mk.injEq] at h
          exact ⟨l0 ++ t :: l3, by rw [e0, e3, ← h.2.1]; simp⟩
theorem both_suffix (f : Nat) : (∀ (l : List S48) (n d : Int) (x : S27) (l1 : List S48) (n1 : Int), pExpr f l n d = some (.ok (x, l1, n1)) → ∃ l0, l = l0 ++ l1) ∧
    (∀ (l : List S48) (n d : Int) (acc : List S27) (x : S27) (l1 : List S48) (n1 : Int), pItems f l n d acc = some (.ok (x, l1, n1)) → ∃ l0, l = l0 ++ l1) := by
  induction f with
  | zero => exact ⟨fun _ _ _ _ _ _ h => (by cases h), fun _ _ _ _ _ _ _ h => (by cases h)⟩
  | succ f ih =>
    refine ⟨fun l n d x l1 n1 h => ?_, fun l n d acc x l1 n1 h => ?_⟩
    · cases l with
      | nil => cases h
      | cons t r =>
        rw [pExpr] at h
        split at h
        · split at h
          · simp at h
          · split at h
            · simp at h
            · obtain ⟨l0, e0⟩ := ih.2 _ _ _ _ _ _ _ h
              exact ⟨t :: l0, by rw [e0]; rfl⟩
        · exact span_suffix (Option.some.inj h)
    · rw [pItems] at h
      split at h
      · simp at h
      · simp at h
      · simp at h
      · rename_i y t r n2 he
        obtain ⟨l0, e0⟩ := ih.1 _ _ _ _ _ _ he
        split at h
        · obtain ⟨l2, e2⟩ := ih.2 _ _ _ _ _ _ _ h
          exact ⟨l0 ++ t :: l2, by rw [e0, e2]; simp⟩
        · split at h
          · simp only [Option.some.injEq, Except.ok.injEq, Prod.mk.injEq] at h
            exact ⟨l0 ++ [t], by rw [e0, h.2.1]; simp⟩
          · simp at h
theorem end_err {n : Int} {l : List S48} {ae : Int × Int} (h : pEnd n l = .error ae) (hl : TokOk l) : ErrAt l ae := by
  cases l with
  | nil => exact hl.elim
  | cons t r =>
    rw [pEnd] at h
    split at h
    · split at h
      · rw [← Except.error.inj h]; exact .not (by simp) (by omega) (by omega)
      · split at h
        · rw [pWord] at h
          cases hp : pRead t.f2 with
          | none => rw [hp] at h; rw [← Except.error.inj h]; exact .not (by simp) (by omega) (by omega)
          | some p => rw [hp] at h; simp at h
        · simp at h
    · rw [← Except.error.inj h]; exact .not (by simp) (by omega) (by omega)
theorem span_err {n : Int} {l : List S48} {ae : Int × Int} (h : pSpan n l = .error ae) (hl : TokOk l) : ErrAt l ae := by
  rw [pSpan] at h
  split at h
  · rename_i he
    rw [← Except.error.inj h]; exact end_err he hl
  · rename_i he
    exact (pEnd_ok he hl).elim
  · rename_i a t r n2 he
    obtain ⟨l0, e0⟩ := end_suffix he
    have h1 := pEnd_ok he hl
    have hm : t ∈ l := by rw [e0]; simp
    split at h
    · split at h
      · rw [← Except.error.inj h]; exact .not hm (by omega) (by omega)
      · simp at h
    · rename_i hk
      have hk1 : t.f0 = 1 := by simpa using hk
      split at h
      · rw [← Except.error.inj h]; exact .not hm (by omega) (by omega)
      · split at h
        · rename_i he2
          rw [← Except.error.inj h]
          exact (end_err he2 (h1.tail (by omega))).mono (fun u hu => by rw [e0]; simp [hu])
        · simp at h
theorem both_err (f : Nat) : (∀ (l : List S48) (n d : Int) (ae : Int × Int), TokOk l → pExpr f l n d = some (.error ae) → ErrAt l ae) ∧
    (∀ (l : List S48) (n d : Int) (acc : List S27) (ae : Int × Int), TokOk l → pItems f l n d acc = some (.error ae) → ErrAt l ae) := by
  have hok : ∀ (f : Nat) (l : List S48) (n d : Int) (x : S27) (l1 : List S48) (n1 : Int), TokOk l → pExpr f l n d = some (.ok (x, l1, n1)) → TokOk l1 := by
    intro f
    suffices H : (∀ (l : List S48) (n d : Int) (x : S27) (l1 : List S48) (n1 : Int), TokOk l → pExpr f l n d = some (.ok (x, l1, n1)) → TokOk l1) ∧ (∀ (l : List S48) (n d : Int) (acc : List S27) (x : S27) (l1 : List S48) (n1 : Int), TokOk l → pItems f l n d acc = some (.ok (x, l1, n1)) → TokOk l1) from H.1
    induction f with
    | zero => exact ⟨fun _ _ _ _ _ _ _ h => (by cases h), fun _ _ _ _ _ _ _ _ h => (by cases h)⟩
    | succ f ih =>
      refine ⟨fun l n d x l1 n1 hl h => ?_, fun l n d acc x l1 n1 hl h => ?_⟩
      · cases l with
        | nil => cases h
        | cons t r =>
          rw [pExpr] at h
          split at h
          · rename_i h4
            split at h
            · simp at h
            · split at h
              · simp at h
              · exact ih.2 _ _ _ _ _ _ _ (hl.tail (by omega)) h
          · exact pSpan_ok (Option.some.inj h) hl
      · rw [pItems] at h
        split at h
        · simp at h
        · simp at h
        · simp at h
        · rename_i y t r n2 he
          have h1 := ih.1 _ _ _ _ _ _ hl he
          split at h
          · rename_i h6
            exact ih.2 _ _ _ _ _ _ _ (h1.tail (by omega)) h
          · split at h
            · rename_i h5
              simp only [Option.some.injEq, Except.ok.injEq, Prod.mk.injEq] at h
              rw [← h.2.1]; exact h1.tail (by omega)
            · simp at h
  induction f with
  | zero => exact ⟨fun _ _ _ _ _ h => (by cases h), fun _ _ _ _ _ _ h => (by cases h)⟩
  | succ f ih =>
    refine ⟨fun l n d ae hl h => ?_, fun l n d acc ae hl h => ?_⟩
    · cases l with
      | nil => cases h
      | cons t r =>
        rw [pExpr] at h
        split at h
        · rename_i h4
          split at h
          · rw [← Except.error.inj (Option.some.inj h)]; exact .not (by simp) (by omega) (by omega)
          · split at h
            · rw [← Except.error.inj (Option.some.inj h)]; exact .not (by simp) (by omega) (by omega)
            · exact (ih.2 _ _ _ _ _ (hl.tail (by omega)) h).mono (fun u hu => by simp [hu])
        · exact span_err (Option.some.inj h) hl
    · rw [pItems] at h
      split at h
      · simp at h
      · rename_i he
        rw [← Except.error.inj (Option.some.inj h)]; exact ih.1 _ _ _ _ hl he
      · simp at h
      · rename_i y t r n2 he
        have h1 := hok _ _ _ _ _ _ _ hl he
        obtain ⟨l0, e0⟩ := (both_suffix f).1 _ _ _ _ _ _ he
        split at h
        · rename_i h6
          exact (ih.2 _ _ _ _ _ (h1.tail (by omega)) h).mono (fun u hu => by rw [e0]; simp [hu])
        · split at h
          · simp at h
          · rw [← Except.error.inj (Option.some.inj h)]; exact .not (by rw [e0]; simp) (by omega) (by omega)
theorem Lx.kinds {l : List UInt8} {ts : List (Int × ByteArray)} (h : Lx l ts) : ∀ k ∈ ts, k.1 ≠ 9 := by
  induction h with
  | nil => simp
  | word h0 hw hr h ih =>
    intro k hk
    simp only [List.mem_cons] at hk
    rcases hk with rfl | hk
    · show (0 : Int) ≠ 9; omega
    · exact ih k hk
  | @sign b k r ts hb hk h ih =>
    intro q hq
    simp only [List.mem_cons] at hq
    rcases hq with rfl | hq
    · intro h9
      have h9 : k = 9 := h9
      rw [sgn] at hk
      repeat (first | (split at hk; (simp at hk; omega)) | simp at hk)
    · exact ih q hq
  | dots h ih =>
    intro k hk
    simp only [List.mem_cons] at hk
    rcases hk with rfl | hk
    · show (2 : Int) ≠ 9; omega
    · exact ih k hk
  | blank h ih => exact ih
theorem nine_eq {a b ts : List (Int × ByteArray)} {s s' : ByteArray} (h : ts ++ [(9, s')] = a ++ (9, s) :: b) (hts : ∀ k ∈ ts, k.1 ≠ 9) : a = ts := by
  have hl := congrArg List.length h
  simp at hl
  rcases Nat.lt_or_ge a.length ts.length with hlt | hge
  · have h1 := congrArg (·[a.length]?) h
    simp only [List.getElem?_append_left hlt, List.getElem?_append_right (Nat.le_refl _), Nat.sub_self, List.getElem?_cons_zero] at h1
    exact absurd rfl (hts _ (List.mem_of_getElem? h1))
  · have h2 : a.length = ts.length := by omega
    exact (List.append_inj h h2.symm).1.symm
theorem parse_inv {s : ByteArray} {x : S27} {at_ : Int} (h : pParse s = (x, at_, 0)) : ∃ ts, Lx s.data.toList ts ∧ IsExpr ts x ∧ nsz x ≤ 64 ∧ ndp x ≤ 8 ∧ at_ = s.size ∧ s.size ≤ 2000 := by
  rw [pParse] at h
  generalize hL : lexAll s = L at h
  obtain ⟨l, a, e⟩ := L
  simp only [] at h
  by_cases he : e = 0
  · subst he
    rw [if_neg (by simp)] at h
    have hok := lexAll_ok hL
    obtain ⟨l0, ts, rfl, h1, h2, h3, h4⟩ := lexAll_of hL
    obtain ⟨R, hR, hRk⟩ := (pBoth_some (2 * (l0 ++ [(⟨9, s.size, ⟨#[]⟩⟩ : S48)]).length + 1)).1 _ 0 0 hok (by omega)
    rw [hR] at h
    match R, hR, hRk with
    | .error ae, hR, _ =>
      have h5 := (both_err _).1 _ _ _ _ hok hR
      simp only [Prod.mk.injEq] at h
      have := h5.2.1
      omega
    | .ok (y, [], n1), hR, hk => exact (hk _ _ _ rfl).elim
    | .ok (y, t :: r, n1), hR, hk =>
      simp only [] at h
      by_cases h9 : t.f0 = 9
      · rw [if_pos h9] at h
        simp only [Prod.mk.injEq] at h
        obtain ⟨rfl, rfl, _⟩ := h
        obtain ⟨pre, e1, e2, e3, e4, e5⟩ := (both_form _).1 _ _ _ _ _ _ hR (by omega) (by omega)
        rw [List.map_append, h1, tk_cons (t := t), h9] at e1
        have hpre := nine_eq e1 h2.kinds
        subst hpre
        exact ⟨pre, h2, e2, by omega, by omega, h3, h4⟩
      · rw [if_neg h9] at h
        simp only [Prod.mk.injEq, pNot, if_neg h9] at h
        omega
  · rw [if_pos he] at h
    simp only [Prod.mk.injEq] at h
    exact absurd h.2.2 he
def ptEq (x y : S24) : Bool := x.f0 == y.f0 && (x.f1.toList == y.f1.toList && (x.f2.toList == y.f2.toList && (x.f3.toList == y.f3.toList)))
mutual
def nSame : S27 → S27 → Bool
  | ⟨k, p, a, t, l⟩, ⟨k', p', a', t', l'⟩ => (k == k') && ptEq p p' && (a == a') && (t == t') && nSames l l'
def nSames : List S27 → List S27 → Bool
  | [], [] => true
  | x :: r, y :: s => nSame x y && nSames r s
  | [], _ :: _ => false
  | _ :: _, [] => false
end
theorem nSame_mk (x y : S27) : nSame x y = ((x.f0 == y.f0) && ptEq x.f1 y.f1 && (x.f2 == y.f2) && (x.f3 == y.f3) && nSames x.f4 y.f4) := by
  cases x; cases y; rfl
theorem nSames_len (l m : List S27) (h : l.length ≠ m.length) : nSames l m = false := by
  induction l generalizing m with
  | nil => cases m with
    | nil => simp at h
    | cons => rfl
  | cons x r ih => cases m with
    | nil => rfl
    | cons y s =>
      rw [nSames, ih s (by simpa using h), Bool.and_false]
def SameAt (d : Nat) : Prop := ∀ (x y : S27) (A B : Option Addr) (c e : Nat) (w : World), nsz x ≤ d → Kd.C k27 w A x.f4.length x.f4 → x.f4.length ≤ c → Kd.C k27 w B y.f4.length y.f4 → y.f4.length ≤ e →
  Calls Try.prog 9 #[.agg #[.int .i64 x.f0, .int .i64 x.f1.f0, .string x.f1.f1, .string x.f1.f2, .string x.f1.f3, .bool x.f2, .bool x.f3, .slice A x.f4.length c], .agg #[.int .i64 y.f0, .int .i64 y.f1.f0, .string y.f1.f1, .string y.f1.f2, .string y.f1.f3, .bool y.f2, .bool y.f3, .slice B y.f4.length e]] w fun e w' => e = .returned (.bool (nSame x y)) ∧ Below w.heap.size w w'
theorem nsz_mem' (l : List S27) (j : Nat) (h : j < l.length) : nsz l[j] ≤ nszs l := by
  have h1 := nszs_split l j h
  have h2 := nszs_take_le l (j + 1)
  omega
set_option maxRecDepth 100000 in
set_option maxHeartbeats 4000000 in
theorem same_rows {d : Nat} (H : SameAt d) (l m : List S27) (A B : Option Addr) (c e : Nat) (w : World) (hd : nszs l ≤ d) (hC : Kd.C k27 w A l.length l) (hc : l.length ≤ c) (hD : Kd.C k27 w B m.length m) (he : m.length ≤ e) :
    Calls Try.prog 20 #[.slice A l.length c, .slice B m.length e, .func (.func 9) #[] #[]] w fun e w' => e = .returned (.bool (nSames l m)) ∧ Below w.heap.size w w' := by
  have hmx : l.length ≤ 9223372036854775807 := hC.2.1
  have hmy : m.length ≤ 9223372036854775807 := hD.2.1
  have HC := Aside0.mk hC
  have HE := Aside0.mk hD
  have HD := Aside0.mk hd
  clear hC hd hD
  by_cases hlen : l.length = m.length
  · have hl2 : ((l.length : Int) != (m.length : Int)) = false := by simp; omega
    have hle : l.length ≤ m.length := by omega
    have hge : m.length ≤ l.length := by omega
    clear hlen
    go_enter Try.func20, Try.ntmps20
    go_wp2_with fail
    go_loopw [17] (fun v17 wr => ∃ j : Nat, j ≤ l.length ∧ v17 = .int .i64 j ∧ Aside0 (nSames (l.drop j) (m.drop j) = nSames l m) ∧ Aside0 (Below w.heap.size w wr)) (fun v17 _ => l.length - (intOf v17).toNat)
    case atStart => exact ⟨0, by omega, rfl, ⟨rfl⟩, ⟨Below.refl _ _⟩⟩
    case round =>
      as_aux_lemma =>
      obtain ⟨j, hj, rfl, HQ, HB⟩ := hrel
      by_cases hlt : j < l.length
      · have hltm : j < m.length := by omega
        obtain ⟨ad, A7, c7, eA, x0, x1, x2, x3, x4, x5, x6, x7, hl7, hi7⟩ := at_T27 HC.out (j : Int) (by omega) (by omega)
        obtain ⟨bd, B7, e7, eB, y0, y1, y2, y3, y4, y5, y6, y7, hm7, hj7⟩ := at_T27 HE.out (j : Int) (by omega) (by omega)
        cases eA
        cases eB
        have hbs := HB.out.size
        replace x0 := pw_cell_below HB.out x0
        replace x1 := pw_cell_below HB.out x1
        replace x2 := pw_cell_below HB.out x2
        replace x3 := pw_cell_below HB.out x3
        replace x4 := pw_cell_below HB.out x4
        replace x5 := pw_cell_below HB.out x5
        replace x6 := pw_cell_below HB.out x6
        replace x7 := pw_cell_below HB.out x7
        replace y0 := pw_cell_below HB.out y0
        replace y1 := pw_cell_below HB.out y1
        replace y2 := pw_cell_below HB.out y2
        replace y3 := pw_cell_below HB.out y3
        replace y4 := pw_cell_below HB.out y4
        replace y5 := pw_cell_below HB.out y5
        replace y6 := pw_cell_below HB.out y6
        replace y7 := pw_cell_below HB.out y7
        simp only [Int.toNat_natCast] at x0 x1 x2 x3 x4 x5 x6 x7 y0 y1 y2 y3 y4 y5 y6 y7
        have er : rd_T27 l (j : Int) = l[j] := by simp [rd_T27, hlt]
        have es : rd_T27 m (j : Int) = m[j] := by simp [rd_T27, hltm]
        have HX : Aside0 (nSames l m = (nSame (rd_T27 l (j : Int)) (rd_T27 m (j : Int)) && nSames (l.drop (j + 1)) (m.drop (j + 1)))) := ⟨by rw [← HQ.out, List.drop_eq_getElem_cons hlt, List.drop_eq_getElem_cons hltm, nSames, er, es]⟩
        have HN : Aside0 (nsz (rd_T27 l (j : Int)) ≤ d) := ⟨by rw [er]; exact Nat.le_trans (nsz_mem' l j hlt) HD.out⟩
        clear er es
        have HL7 := Aside0.mk hl7
        have HI7 := Aside0.mk hi7
        have HM7 := Aside0.mk hm7
        have HJ7 := Aside0.mk hj7
        clear hl7 hi7 hm7 hj7
        have hby := World.block_lt_of_cell? wr _ y0
        have hbx := World.block_lt_of_cell? wr _ y1
        generalize rd_T27 l (j : Int) = q at *
        generalize rd_T27 m (j : Int) = s at *
        have hjm : (j : Int) < m.length := by omega
        have hjl : (j : Int) < l.length := by omega
        cases hq : nSame q s
        all_goals
          have HQQ := Aside0.mk hq
          clear hq
          go_wp2_with (go_at_call 9; refine (H q s A7 B7 c7 e7 _ HN.out (Kd.C_below HI7.out (below_alloc' (below_alloc' HB.out hbs _) (by simp; omega) _)) HL7.out (Kd.C_below HJ7.out (below_alloc' (below_alloc' HB.out hbs _) (by simp; omega) _)) HM7.out).mono ?_; rw [HQQ.out]; rintro e w1 ⟨rfl, hb⟩; have HB1 := Aside0.mk (below_step (below_alloc' (below_alloc' HB.out hbs _) (by simp; omega) _) hb); clear hb)
        · go_ret
          exact ⟨by rw [HX.out, HQQ.out]; rfl, HB1.out⟩
        · go_roundw
          case rel => exact ⟨j + 1, by omega, by go_num, ⟨by rw [HX.out, HQQ.out]; rfl⟩, HB1⟩
          case measure => simp [intOf]; omega
      · go_wp2
        go_ret
        have hje : j = l.length := by omega
        have hjm : j = m.length := by omega
        refine ⟨?_, HB.out⟩
        have h := HQ.out
        rw [List.drop_of_length_le (by omega), List.drop_of_length_le (by omega)] at h
        rw [← h]; rfl
  · have hl2 : ((l.length : Int) != (m.length : Int)) = true := by simp; omega
    have HX := Aside0.mk (nSames_len l m hlen)
    clear hlen
    go_enter Try.func20, Try.ntmps20
    go_wp2_with fail
    go_ret
    exact ⟨ebool HX.out.symm, Below.refl _ _⟩
section
attribute [local go_sem high] eqPt
set_option maxRecDepth 100000 in
set_option maxHeartbeats 4000000 in
theorem same_step {d : Nat} (H : SameAt d) : SameAt (d + 1) := by
  intro x y A B c e w hd hC hc hD he
  have hns := nsz_mk x
  have HD : Aside0 (nszs x.f4 ≤ d) := ⟨by omega⟩
  have HM : Aside0 _ := ⟨nSame_mk x y⟩
  have HC := Aside0.mk hC
  have HE := Aside0.mk hD
  have HCC := Aside0.mk hc
  have HEE := Aside0.mk he
  have hmx : x.f4.length ≤ 9223372036854775807 := hC.2.1
  have hmy : y.f4.length ≤ 9223372036854775807 := hD.2.1
  clear hd hns hC hc hD he
  cases k0 : (x.f0 == y.f0)
  · have HK := Aside0.mk k0
    go_enter Try.func9, Try.ntmps9
    go_wp2_with fail
    go_ret
    exact ⟨ebool (by rw [HM.out, HK.out]; rfl), below_alloc (below_alloc (Below.refl _ _) _) _⟩
  cases k1 : (x.f1.f0 == y.f1.f0 && (x.f1.f1.toList == y.f1.f1.toList && (x.f1.f2.toList == y.f1.f2.toList && (x.f1.f3.toList == y.f1.f3.toList))))
  · have HK := Aside0.mk k0
    have HK1 : Aside0 (ptEq x.f1 y.f1 = false) := ⟨k1⟩
    go_enter Try.func9, Try.ntmps9
    go_wp2_with fail
    go_ret
    exact ⟨ebool (by rw [HM.out, HK.out, HK1.out]; rfl), below_alloc (below_alloc (Below.refl _ _) _) _⟩
  have HP : Aside0 (ptEq x.f1 y.f1 = true) := ⟨k1⟩
  cases k2 : (x.f2 == y.f2)
  · have HK := Aside0.mk k0
    have HK2 := Aside0.mk k2
    go_enter Try.func9, Try.ntmps9
    go_wp2_with fail
    go_ret
    exact ⟨ebool (by rw [HM.out, HK.out, HP.out, HK2.out]; rfl), below_alloc (below_alloc (Below.refl _ _) _) _⟩
  cases k3 : (x.f3 == y.f3)
  · have HK := Aside0.mk k0
    have HK2 := Aside0.mk k2
    have HK3 := Aside0.mk k3
    go_enter Try.func9, Try.ntmps9
    go_wp2_with fail
    go_ret
    exact ⟨ebool (by rw [HM.out, HK.out, HP.out, HK2.out, HK3.out]; rfl), below_alloc (below_alloc (Below.refl _ _) _) _⟩
  have HMM : Aside0 (nSame x y = nSames x.f4 y.f4) := ⟨by rw [HM.out, k0, k2, k3, HP.out]; rfl⟩
  clear HM HP
  go_enter Try.func9, Try.ntmps9
  go_wp2_with (go_at_call 20; refine (same_rows H x.f4 y.f4 A B c e _ HD.out (Kd.C_below HC.out (below_alloc (below_alloc (Below.refl _ _) _) _)) HCC.out (Kd.C_below HE.out (below_alloc (below_alloc (Below.refl _ _) _) _)) HEE.out).mono ?_; rintro e w1 ⟨rfl, hb⟩; have HB := Aside0.mk (below_step (below_alloc (below_alloc (Below.refl _ _) _) _) hb); clear hb)
  go_ret
  exact ⟨ebool (by rw [HMM.out]), HB.out⟩
end
theorem same_any (d : Nat) : SameAt d := by
  induction d with
  | zero => intro x _ _ _ _ _ _ h; rw [nsz_mk] at h; omega
  | succ d ih => exact same_step ih
def tree_Same.f (a0_0 : Int) (a0_1 : Int) (a0_2 : ByteArray) (a0_3 : ByteArray) (a0_4 : ByteArray) (a0_5 : Bool) (a0_6 : Bool) (l0_7 : List (S27)) (a1_0 : Int) (a1_1 : Int) (a1_2 : ByteArray) (a1_3 : ByteArray) (a1_4 : ByteArray) (a1_5 : Bool) (a1_6 : Bool) (l1_7 : List (S27)) : Option (Bool) := some (nSame ⟨a0_0, ⟨a0_1, a0_2, a0_3, a0_4⟩, a0_5, a0_6, l0_7⟩ ⟨a1_0, ⟨a1_1, a1_2, a1_3, a1_4⟩, a1_5, a1_6, l1_7⟩)
theorem tree_Same.calls (a0_0 : Int) (a0_1 : Int) (a0_2 : ByteArray) (a0_3 : ByteArray) (a0_4 : ByteArray) (a0_5 : Bool) (a0_6 : Bool) (A0_7 : Option Addr) (c0_7 : Nat) (l0_7 : List (S27)) (a1_0 : Int) (a1_1 : Int) (a1_2 : ByteArray) (a1_3 : ByteArray) (a1_4 : ByteArray) (a1_5 : Bool) (a1_6 : Bool) (A1_7 : Option Addr) (c1_7 : Nat) (l1_7 : List (S27)) (r : Bool) (w : World) (hr0_7 : Kd.C k27 w A0_7 l0_7.length l0_7) (hc0_7 : l0_7.length ≤ c0_7) (hr1_7 : Kd.C k27 w A1_7 l1_7.length l1_7) (hc1_7 : l1_7.length ≤ c1_7) (h : tree_Same.f a0_0 a0_1 a0_2 a0_3 a0_4 a0_5 a0_6 l0_7 a1_0 a1_1 a1_2 a1_3 a1_4 a1_5 a1_6 l1_7 = some r) :
    Calls Try.prog 9 #[.agg #[.int .i64 a0_0, .int .i64 a0_1, .string a0_2, .string a0_3, .string a0_4, .bool a0_5, .bool a0_6, .slice A0_7 l0_7.length c0_7], .agg #[.int .i64 a1_0, .int .i64 a1_1, .string a1_2, .string a1_3, .string a1_4, .bool a1_5, .bool a1_6, .slice A1_7 l1_7.length c1_7]] w fun e w' => e = .returned (.bool r) ∧ Below w.heap.size w w' := by
  obtain rfl := Option.some.inj h
  exact same_any _ ⟨a0_0, ⟨a0_1, a0_2, a0_3, a0_4⟩, a0_5, a0_6, l0_7⟩ ⟨a1_0, ⟨a1_1, a1_2, a1_3, a1_4⟩, a1_5, a1_6, l1_7⟩ A0_7 A1_7 c0_7 c1_7 w (Nat.le_refl _) hr0_7 hc0_7 hr1_7 hc1_7
theorem sane_is (x : S27) (h1 : nsz x < 2000000) (h2 : ndp x < 2000000) : tree_Sane.f x.f0 x.f1.f0 x.f1.f1 x.f1.f2 x.f1.f3 x.f2 x.f3 x.f4 = some (decide (nsz x ≤ 64 ∧ ndp x ≤ 8) && nRight x) := by
  have e1 := nsz_mk x
  rw [tree_Sane.f, tree_Count.f, if_pos (by omega), Option.bind_some, tree_Deep.f, tree_right.f]
  have e2 : (⟨x.f0, ⟨x.f1.f0, x.f1.f1, x.f1.f2, x.f1.f3⟩, x.f2, x.f3, x.f4⟩ : S27) = x := by cases x; rfl
  rw [e2, if_pos (show ndp x < 4611686018427387904 by omega), Option.bind_some, Option.bind_some, ← e1]
  by_cases h3 : nsz x ≤ 64
  · rw [if_pos (by omega)]
    by_cases h4 : ndp x ≤ 8
    · rw [if_pos (by omega)]; simp [h3, h4]
    · rw [if_neg (by omega)]; simp [h4]
  · rw [if_neg (by omega)]; simp [h3]
theorem ptEq_refl (p : S24) : ptEq p p = true := by simp [ptEq]
mutual
theorem nSame_refl : ∀ x : S27, nSame x x = true
  | ⟨k, p, a, b, l⟩ => by
    have h := nSames_refl l
    rw [nSame_mk]
    simp [ptEq_refl, h]
theorem nSames_refl : ∀ l : List S27, nSames l l = true
  | [] => by simp [nSames]
  | x :: r => by
    have h1 := nSame_refl x
    have h2 := nSames_refl r
    simp [nSames, h1, h2]
end
def inBr (s t : ByteArray) : List UInt8 := 91 :: (s.data.toList ++ 44 :: (t.data.toList ++ [93]))
theorem parts_parse {s t c : ByteArray} {x y : S27} {a b : Int} (hx : pParse s = (x, a, 0)) (hy : pParse t = (y, b, 0)) (hs : s.size ≤ 400) (ht : t.size ≤ 400) (hc : c.data.toList = inBr s t) :
    ((nsz (⟨2, zPt, false, false, [x, y]⟩ : S27) ≤ 64 ∧ ndp (⟨2, zPt, false, false, [x, y]⟩ : S27) ≤ 8) → pParse c = (⟨2, zPt, false, false, [x, y]⟩, (s.size : Int) + t.size + 3, 0)) ∧
    (¬ (nsz (⟨2, zPt, false, false, [x, y]⟩ : S27) ≤ 64 ∧ ndp (⟨2, zPt, false, false, [x, y]⟩ : S27) ≤ 8) → ∃ a e, pParse c = (zNode, a, e) ∧ (e = 5 ∨ e = 6)) ∧ nRight (⟨2, zPt, false, false, [x, y]⟩ : S27) = true ∧ nsz (⟨2, zPt, false, false, [x, y]⟩ : S27) < 1000 ∧ ndp (⟨2, zPt, false, false, [x, y]⟩ : S27) < 1000 := by
  obtain ⟨ts, h1, h2, h3, h4, _, _⟩ := parse_inv hx
  obtain ⟨us, k1, k2, k3, k4, _, _⟩ := parse_inv hy
  have hl : Lx c.data.toList ((4, ⟨#[]⟩) :: (ts ++ (6, ⟨#[]⟩) :: (us ++ [(5, ⟨#[]⟩)]))) := by
    rw [hc]
    exact .sign (by decide) (by decide) (h1.append (.sign (by decide) (by decide) (k1.append (.sign (by decide) (by decide) .nil) (by decide : lexLet 93 = false))) (by decide : lexLet 44 = false))
  have hz : c.size = s.size + t.size + 3 := by
    rw [← ByteArray.size_data, ← Array.length_toList, hc, inBr]
    simp only [List.length_cons, List.length_append, List.length_nil, Array.length_toList, ByteArray.size_data]
    omega
  have he : IsExpr ((4, ⟨#[]⟩) :: (ts ++ (6, ⟨#[]⟩) :: (us ++ [(5, ⟨#[]⟩)]))) (⟨2, zPt, false, false, [x, y]⟩ : S27) := .list _ (.more _ h2 (.last _ k2))
  have e1 : nsz (⟨2, zPt, false, false, [x, y]⟩ : S27) = 1 + (nsz x + (nsz y + 0)) := rfl
  have e2 : ndp (⟨2, zPt, false, false, [x, y]⟩ : S27) = 1 + max (ndp x) (max (ndp y) 0) := rfl
  refine ⟨fun h => ?_, fun h => parse_big hl (by omega) he h, expr_right he, by omega, by omega⟩
  rw [parse_good hl (by omega) he h.1 h.2, hz]
  simp
end Go.Proofs.Ytchodmjleceooaa.V
