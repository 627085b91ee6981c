import Derived.Test.YtchodmjleceooaaGreatR0
import Derived.Test.YtchodmjleceooaaGreatR1
import Derived.Test.YtchodmjleceooaaGreatR2
import Derived.Test.YtchodmjleceooaaGreatR5
import Derived.Test.YtchodmjleceooaaGreatR6
import Derived.Test.YtchodmjleceooaaGreatR7
import Derived.Test.YtchodmjleceooaaGreatR8
import Derived.Test.YtchodmjleceooaaGreatR9
import Derived.Test.YtchodmjleceooaaGreatR11
import Derived.Test.YtchodmjleceooaaGreatR12
import Derived.Test.YtchodmjleceooaaGreatR13
import Derived.Test.YtchodmjleceooaaGreatR14
import Derived.Test.YtchodmjleceooaaGreatR15
import Derived.Test.YtchodmjleceooaaGreatR16
namespace Go.Proofs.YtchodmjleceooaaGreat.R
open Go.RowKit Go.Proofs.YtchodmjleceooaaGreatW.PrintWords Go.Proofs.YtchodmjleceooaaGreatW.PrintLast Go.Proofs.YtchodmjleceooaaGreatW.PrintMore
attribute [local go_sem] max2_int min2_int max_two min_two max_three min_three max_four min_four
set_option linter.unusedVariables false
set_option linter.unusedSimpArgs false
theorem lexRest_at : ∀ (f p : Nat) (l : List UInt8), (∀ t ∈ (lexRest f p l).1, (p : Int) ≤ t.f1 ∧ t.f1 ≤ ((p + l.length : Nat) : Int)) ∧ (∀ q, (lexRest f p l).2 = some q → p ≤ q ∧ q ≤ p + l.length) := by
  intro f
  induction f with
  | zero => intro p l; exact ⟨fun t ht => by cases l <;> simp [lexRest] at ht, fun q hq => by cases l <;> simp [lexRest] at hq⟩
  | succ f ih =>
    intro p l
    cases l with
    | nil => exact ⟨fun t ht => by simp [lexRest] at ht, fun q hq => by simp [lexRest] at hq⟩
    | cons b r =>
      have hlen : (b :: r).length = r.length + 1 := rfl
      by_cases h1 : 0 < wordLen (b :: r)
      · have hw := wordLen_le (b :: r)
        have hi := ih (p + wordLen (b :: r)) ((b :: r).drop (wordLen (b :: r)))
        rw [List.length_drop] at hi
        rw [lexRest_word f p _ h1]
        refine ⟨fun t ht => ?_, fun q hq => ?_⟩
        · simp only [List.mem_cons] at ht
          rcases ht with rfl | ht
          · exact ⟨Int.le_refl _, by show (p : Int) ≤ _; omega⟩
          · have := hi.1 t ht; omega
        · have := hi.2 q hq; omega
      · have h0 : wordLen (b :: r) = 0 := by omega
        cases hs : (sgn b).isSome with
        | true =>
          have hi := ih (p + 1) r
          rw [lexRest_sign f p b r h0 hs]
          refine ⟨fun t ht => ?_, fun q hq => ?_⟩
          · simp only [List.mem_cons] at ht
            rcases ht with rfl | ht
            · exact ⟨Int.le_refl _, by show (p : Int) ≤ _; omega⟩
            · have := hi.1 t ht; omega
          · have := hi.2 q hq; omega
        | false =>
          by_cases hd : b = 46 ∧ r.head? = some 46
          · have hi := ih (p + 2) (r.drop 1)
            have hr : 0 < r.length := by
              cases r with
              | nil => simp at hd
              | cons c r => simp
            rw [List.length_drop] at hi
            rw [lexRest_dots f p b r h0 hs hd]
            refine ⟨fun t ht => ?_, fun q hq => ?_⟩
            · simp only [List.mem_cons] at ht
              rcases ht with rfl | ht
              · exact ⟨Int.le_refl _, by show (p : Int) ≤ _; omega⟩
              · have := hi.1 t ht; omega
            · have := hi.2 q hq; omega
          · by_cases hb : b = 32
            · have hi := ih (p + 1) r
              rw [lexRest_blank f p b r h0 hs hd hb]
              exact ⟨fun t ht => by have := hi.1 t ht; omega, fun q hq => by have := hi.2 q hq; omega⟩
            · rw [lexRest_err f p b r h0 hs hd hb]
              refine ⟨fun t ht => by simp at ht, fun q hq => ?_⟩
              have := Option.some.inj hq
              omega
theorem parse_place (s : ByteArray) (hs : s.size ≤ 2000) : 0 ≤ (pParse s).2.1 ∧ (pParse s).2.1 ≤ (s.size : Int) := by
  have hsl : s.data.toList.length = s.size := Array.length_toList
  have hp := lexRest_at s.size 0 s.data.toList
  rw [hsl] at hp
  have hat : ∀ l a e, lexAll s = (l, a, e) → (0 ≤ a ∧ a ≤ (s.size : Int)) ∧ ∀ t ∈ l, 0 ≤ t.f1 ∧ t.f1 ≤ (s.size : Int) := by
    intro l a e h
    rw [lexAll, if_neg (by omega)] at h
    split at h
    · rename_i q hq
      have h2 := hp.2 q hq
      simp only [Prod.mk.injEq] at h
      obtain ⟨rfl, rfl, _⟩ := h
      exact ⟨by omega, fun t ht => by simp at ht⟩
    · simp only [Prod.mk.injEq] at h
      obtain ⟨rfl, rfl, _⟩ := h
      refine ⟨by omega, fun t ht => ?_⟩
      rw [List.mem_append] at ht
      rcases ht with ht | ht
      · have := hp.1 t ht; omega
      · simp only [List.mem_cons, List.not_mem_nil, or_false] at ht
        subst ht
        exact ⟨by show (0 : Int) ≤ (s.size : Int); omega, Int.le_refl _⟩
  rw [pParse]
  generalize hL : lexAll s = L
  obtain ⟨l, a, e⟩ := L
  obtain ⟨h1, h2⟩ := hat l a e hL
  simp only []
  by_cases he : e = 0
  · subst he
    rw [if_neg (by simp)]
    have hok := lexAll_ok hL
    obtain ⟨R, hR, hRk⟩ := (pBoth_some (2 * l.length + 1)).1 l 0 0 hok (by omega)
    rw [hR]
    match R, hR, hRk with
    | .error ae, hR, _ =>
      obtain ⟨⟨t, ht, h3⟩, _⟩ := (both_err _).1 _ _ _ _ hok hR
      have := h2 t ht
      simp only []
      omega
    | .ok (y, [], n1), hR, hk => exact (hk _ _ _ rfl).elim
    | .ok (y, t :: r, n1), hR, hk =>
      simp only []
      obtain ⟨l0, hl0⟩ := (both_suffix _).1 _ _ _ _ _ _ hR
      have ht := h2 t (by rw [hl0]; simp)
      by_cases h9 : t.f0 = 9
      · rw [if_pos h9]; exact h1
      · rw [if_neg h9]; exact ht
  · rw [if_pos he]; exact h1
theorem bytes_eq {a b : ByteArray} (h : (a.toList == b.toList) = true) : a = b := by
  apply bext
  rw [ByteArray.toList_eq, ByteArray.toList_eq] at h
  simpa using h
theorem ptEq_eq {x y : S24} (h : ptEq x y = true) : x = y := by
  rw [ptEq] at h
  simp only [Bool.and_eq_true, beq_iff_eq] at h
  obtain ⟨k, a, b, c⟩ := x
  obtain ⟨k2, a2, b2, c2⟩ := y
  simp only at h
  obtain ⟨h0, h1, h2, h3⟩ := h
  have e1 : a = a2 := bytes_eq (by simpa using h1)
  have e2 : b = b2 := bytes_eq (by simpa using h2)
  have e3 : c = c2 := bytes_eq (by simpa using h3)
  rw [h0, e1, e2, e3]
mutual
theorem nSame_eq : ∀ (x y : S27), nSame x y = true → x = y
  | ⟨k, p, a, b, l⟩, ⟨k2, p2, a2, b2, l2⟩, h => by
    rw [nSame_mk] at h
    simp only [Bool.and_eq_true, beq_iff_eq] at h
    obtain ⟨⟨⟨⟨h0, h1⟩, h2⟩, h3⟩, h4⟩ := h
    rw [h0, ptEq_eq h1, h2, h3, nSames_eq l l2 h4]
theorem nSames_eq : ∀ (l m : List S27), nSames l m = true → l = m
  | [], [], _ => rfl
  | [], y :: s, h => by simp [nSames] at h
  | x :: r, [], h => by simp [nSames] at h
  | x :: r, y :: s, h => by
    simp only [nSames, Bool.and_eq_true] at h
    rw [nSame_eq x y h.1, nSames_eq r s h.2]
end
def tl (t : Int × ByteArray) : Nat := if t.1 = 0 then t.2.size else if t.1 = 2 then 2 else 1
def tls : List (Int × ByteArray) → Nat
  | [] => 0
  | t :: r => tl t + tls r
theorem tls_app (a b : List (Int × ByteArray)) : tls (a ++ b) = tls a + tls b := by
  induction a with
  | nil => simp [tls]
  | cons t r ih => rw [List.cons_append, tls, tls, ih]; omega
theorem Lx.long {l : List UInt8} {ts : List (Int × ByteArray)} (h : Lx l ts) : tls ts ≤ l.length := by
  induction h with
  | nil => simp [tls]
  | @word w r ts h0 hw hr h ih =>
    rw [tls, List.length_append]
    have : tl (0, ⟨w.toArray⟩) = w.length := by show (⟨w.toArray⟩ : ByteArray).size = _; rw [← ByteArray.size_data]; simp
    omega
  | @sign b k r ts hb hk h ih =>
    rw [tls, List.length_cons]
    have : tl (k, ⟨#[]⟩) ≤ 1 := by
      rw [tl]
      split
      · exact Nat.zero_le _
      · split
        · rename_i h2
          have h2 : k = 2 := h2
          rw [sgn] at hk
          repeat (first | (split at hk; (simp at hk; omega)) | simp at hk)
        · exact Nat.le_refl _
    omega
  | dots h ih => rw [tls, List.length_cons, List.length_cons]; have : tl (2, ⟨#[]⟩) = 2 := rfl; omega
  | blank h ih => rw [List.length_cons]; omega
theorem Marks.long {ms : List (Int × ByteArray)} {a b c d : Bool} (h : Marks ms a b c d) : tls ms + a.toNat + b.toNat = c.toNat + d.toNat := by
  induction h with
  | nil a b => simp [tls]
  | ask s h ih => rw [tls]; have : tl (7, s) = 1 := rfl; simp at ih ⊢; omega
  | tilde s h ih => rw [tls]; have : tl (8, s) = 1 := rfl; simp at ih ⊢; omega
theorem IsEnd.long {ts : List (Int × ByteArray)} {x : S27} (h : IsEnd ts x) : tls ts = (nTxt x).length := by
  cases h with
  | @point s p ms a b h hm =>
    have h1 := pRead_text h
    have h2 := hm.long
    have e : nTxt ⟨0, p, a, b, []⟩ = ptB p ++ ((if a then [63] else []) ++ (if b then [126] else [])) := rfl
    have h3 : tl (0, s) = s.size := rfl
    have h4 : s.data.toList.length = s.size := Array.length_toList
    rw [tls, e, h1, List.length_append, h3, h4]
    cases a <;> cases b <;> simp at h2 ⊢ <;> omega
  | dots s => rfl
  | star s => rfl
theorem IsSpan.long {ts : List (Int × ByteArray)} {x : S27} (h : IsSpan ts x) : tls ts = (nTxt x).length := by
  cases h with
  | one h h0 => exact h.long
  | @two l m x y s h k =>
    have e1 : nTxt ⟨1, zPt, false, false, [x, y]⟩ = nTxt x ++ 47 :: nTxt y := rfl
    have h3 : tl (1, s) = 1 := rfl
    rw [tls_app, tls, h.long, k.long, e1, List.length_append, List.length_cons, h3]; omega
def itemsTj : List (List (Int × ByteArray)) → List (Int × ByteArray)
  | [] => []
  | [x] => x
  | x :: y :: r => x ++ eTk 6 :: itemsTj (y :: r)
theorem open_lex (l : List S27) (h0 : l ≠ []) (h : ∀ x ∈ l, nRight x = true) : Lx (Lib.join (nTxts l) [44, 32]) (itemsTj (nTks l)) := by
  induction l with
  | nil => exact absurd rfl h0
  | cons x r ih =>
    have hx := (right_tk _ x (Nat.le_refl _) (h x (by simp))).2.1
    cases r with
    | nil =>
      have e1 : nTxts [x] = [nTxt x] := rfl
      rw [e1, Lib.join_one]; exact hx
    | cons y r =>
      have hi := ih (by simp) (fun z hz => h z (by simp [hz]))
      have e1 : nTxts (x :: y :: r) = nTxt x :: nTxt y :: nTxts r := rfl
      have e2 : nTxts (y :: r) = nTxt y :: nTxts r := rfl
      rw [e2] at hi
      rw [e1, join_two]
      exact hx.append (.sign (by decide) (by decide) (.blank hi)) (by decide : lexLet 44 = false)
theorem open_items (u : S46) (hu : u.f0 = 9) : ∀ (xs : List S27), xs ≠ [] → (∀ x ∈ xs, nRight x = true) → ∀ (l : List S46) (n d : Int) (acc : List S27) (f : Nat), l.map tk = itemsTj (nTks xs) → n + nszs xs ≤ 64 → d + ndps xs ≤ 8 → 0 ≤ n → 2 * l.length + 1 < f →
    pItems f (l ++ [u]) n d acc = some (.error (u.f1, 4)) := by
  intro xs
  induction xs with
  | nil => intro h; exact absurd rfl h
  | cons x r ih =>
    intro _ h l n d acc f hl hn hd hn0 hf
    obtain ⟨f, rfl⟩ : ∃ g, f = g + 1 := ⟨f - 1, by omega⟩
    have hx := (right_tk _ x (Nat.le_refl _) (h x (by simp))).1
    rw [nszs] at hn
    rw [ndps] at hd
    cases r with
    | nil =>
      have hb := (expr_back hx l [u] n d f hl ⟨⟨by omega, by omega⟩, fun t ht => by simp at ht; rw [← ht]; omega⟩ (by omega) (by omega) (by omega)).1 ⟨by omega, by omega⟩
      rw [pItems, hb]
      simp only []
      rw [if_neg (by omega), if_neg (by omega), pNot, if_pos hu]
    | cons y r =>
      obtain ⟨a, b, rfl, ha, hb⟩ := map_append_inv (show l.map tk = nTk x ++ eTk 6 :: itemsTj (nTks (y :: r)) from hl)
      obtain ⟨t, b, rfl, h6, _, hb⟩ := map_cons_inv hb
      simp only [List.length_append, List.length_cons] at hf
      have hbk := (expr_back hx a (t :: (b ++ [u])) n d f ha (Stop.mk_ (by omega) (by omega) (by omega)) (by omega) (by omega) (by omega)).1 ⟨by omega, by omega⟩
      rw [List.append_assoc, List.cons_append, pItems, hbk]
      simp only []
      rw [if_pos h6]
      exact ih (by simp) (fun z hz => h z (by simp [hz])) b (n + nsz x) d (acc ++ [x]) f hb (by omega) (by omega) (by omega) (by omega)
theorem cut_law {x : S27} (hr : nRight x = true) (hn : nsz x ≤ 64) (hd : ndp x ≤ 8) {t : ByteArray} (ht : t.data.toList = (nTxt x).take ((nTxt x).length - 1)) {m : S27} {a e : Int} (hp : pParse t = (m, a, e)) :
    (e = 0 → nSame m x = false ∧ a = (t.size : Int) ∧ x.f0 ≠ 2) ∧ (0 ≤ a ∧ a ≤ (t.size : Int)) ∧ (x.f0 = 2 → e = 4 ∧ a = (t.size : Int)) := by
  obtain ⟨g1, g2, g3⟩ := right_tk _ x (Nat.le_refl _) hr
  have hts : t.data.toList.length = t.size := Array.length_toList
  have hsz : t.size = (nTxt x).length - 1 := by rw [← hts, ht, List.length_take]; omega
  have hlist : x.f0 = 2 → pParse t = (zNode, (t.size : Int), 4) := by
    intro h2
    rw [nRight_mk, if_neg (by omega), if_neg (by omega), if_pos h2] at hr
    simp only [Bool.and_eq_true, decide_eq_true_eq, List.all_eq_true] at hr
    obtain ⟨hbb, hl, he⟩ := hr
    obtain ⟨k, p, c, b, l⟩ := x
    simp only at h2 hbb hl he
    subst h2
    obtain ⟨rfl, rfl, rfl⟩ := nBare_is hbb
    have hl0 : l ≠ [] := List.length_pos_iff.mp hl
    have e1 : nTxt ⟨2, zPt, false, false, l⟩ = 91 :: (Lib.join (nTxts l) [44, 32] ++ [93]) := rfl
    have e2 : t.data.toList = 91 :: Lib.join (nTxts l) [44, 32] := by
      rw [ht, e1]
      have : (91 :: (Lib.join (nTxts l) [44, 32] ++ [93])).length - 1 = (91 :: Lib.join (nTxts l) [44, 32]).length := by simp
      rw [this, ← List.cons_append, List.take_left]
    have hlx : Lx t.data.toList (eTk 4 :: itemsTj (nTks l)) := by rw [e2]; exact .sign (by decide) (by decide) (open_lex l hl0 he)
    obtain ⟨q, hq, hqm⟩ := lexAll_go hlx (by omega)
    obtain ⟨t4, q, rfl, h4, _, hqm⟩ := map_cons_inv hqm
    rw [nsz_list] at hn
    rw [ndp_list] at hd
    have ho := open_items ⟨9, t.size, ⟨#[]⟩⟩ rfl l hl0 he q (0 + 1) (0 + 1) [] (2 * (t4 :: q ++ [(⟨9, t.size, ⟨#[]⟩⟩ : S46)]).length) hqm (by omega) (by omega) (by omega) (by simp; omega)
    rw [pParse, hq]
    simp only []
    rw [if_neg (by simp), List.cons_append, pExpr, if_pos h4, if_neg (by omega), if_neg (by omega)]
    rw [List.cons_append] at ho
    rw [ho]
  have hpl := parse_place t (by omega)
  rw [hp] at hpl
  refine ⟨fun he => ?_, hpl, fun h2 => ?_⟩
  · subst he
    obtain ⟨ts, k1, k2, k3, k4, k5, _⟩ := parse_inv hp
    have hx2 : x.f0 ≠ 2 := by
      intro h2
      have h3 := hlist h2
      rw [hp] at h3
      simp only [Prod.mk.injEq] at h3
      omega
    refine ⟨?_, k5, hx2⟩
    cases hs : nSame m x with
    | false => rfl
    | true =>
      exfalso
      have := nSame_eq m x hs
      subst this
      have hlong := k1.long
      cases k2 with
      | span h => have h4 := h.long; rw [hts] at hlong; have : 0 < (nTxt m).length := by
                    cases h with
                    | one h h0 =>
                      cases h with
                      | @point s p ms a b h hm =>
                        have e : nTxt ⟨0, p, a, b, []⟩ = ptB p ++ ((if a then [63] else []) ++ (if b then [126] else [])) := rfl
                        have hp2 := (ptB_letters (pRead_sane h)).2.1
                        have := List.length_pos_iff.mpr hp2
                        rw [e, List.length_append]; omega
                      | dots s => show (0 : Nat) < 2; omega
                      | star s => show (0 : Nat) < 1; omega
                    | @two l m x y s h k =>
                      have e1 : nTxt ⟨1, zPt, false, false, [x, y]⟩ = nTxt x ++ 47 :: nTxt y := rfl
                      rw [e1, List.length_append, List.length_cons]; omega
                  omega
      | list s h => exact hx2 rfl
  · have h3 := hlist h2
    rw [hp] at h3
    simp only [Prod.mk.injEq] at h3
    exact ⟨h3.2.2, h3.2.1⟩
theorem ptB_two {p : S24} (h : pSane p.f0 p.f1 p.f2 p.f3 = true) : 2 ≤ (ptB p).length := by
  have h1 := (pSane_parts h).2.2
  have h2 : 2 ≤ p.f1.data.toList.length := by
    have : p.f1.data.toList.length = p.f1.size := Array.length_toList
    rcases h1 with h1 | h1 | h1 | h1 | h1 | h1 <;> (have := h1.2.1; omega)
  rw [ptB]
  split
  · rw [List.length_append]; omega
  · split
    · rw [List.length_append]; omega
    · split
      · rw [List.length_append]; omega
      · split
        · rw [List.length_append]; omega
        · split
          · rw [List.length_append]; omega
          · exact h2
theorem end_pos {x : S27} (h : nEnd x = true) : 1 ≤ (nTxt x).length := by
  have h1 := (end_tk h).1
  obtain ⟨k, p, a, b, l⟩ := x
  rw [nEnd] at h
  simp only at h
  split at h
  · rename_i hk
    simp only [Bool.and_eq_true, decide_eq_true_eq] at h
    subst hk
    have e : nTxt ⟨0, p, a, b, l⟩ = ptB p ++ ((if a then [63] else []) ++ (if b then [126] else [])) := rfl
    have := ptB_two h.2
    rw [e, List.length_append]; omega
  · split at h
    · rename_i hk
      rcases hk with rfl | rfl
      · show 1 ≤ (2 : Nat); omega
      · show 1 ≤ (1 : Nat); omega
    · simp at h
theorem nTxt_pos {x : S27} (hr : nRight x = true) : 2 ≤ (nTxt x).length := by
  rw [nRight_mk] at hr
  obtain ⟨k, p, a, b, l⟩ := x
  simp only at hr
  split at hr
  · rename_i hk
    rw [nEnd] at hr
    simp only at hr
    rw [if_pos hk] at hr
    simp only [Bool.and_eq_true, decide_eq_true_eq] at hr
    subst hk
    have e : nTxt ⟨0, p, a, b, l⟩ = ptB p ++ ((if a then [63] else []) ++ (if b then [126] else [])) := rfl
    have := ptB_two hr.2
    rw [e, List.length_append]; omega
  · split at hr
    · rename_i hk
      subst hk
      simp only [Bool.and_eq_true, decide_eq_true_eq] at hr
      match l, hr.2.1 with
      | [u, v], _ =>
        have he := hr.2.2
        simp only [List.all_cons, List.all_nil, Bool.and_true, Bool.and_eq_true] at he
        have := end_pos he.1
        have e : nTxt ⟨1, p, a, b, [u, v]⟩ = nTxt u ++ 47 :: nTxt v := rfl
        rw [e, List.length_append, List.length_cons]; omega
    · split at hr
      · rename_i hk
        subst hk
        have e : nTxt ⟨2, p, a, b, l⟩ = 91 :: (Lib.join (nTxts l) [44, 32] ++ [93]) := rfl
        rw [e, List.length_cons, List.length_append]; simp only [List.length_cons, List.length_nil]; omega
      · simp at hr
set_option maxRecDepth 100000 in
set_option maxHeartbeats 4000000 in
theorem cut_walk (x : S27) (hb : nsz x ≤ 1200000) (A : Option Addr) (c : Nat) (w : World) (hC : Kd.C k27 w A x.f4.length x.f4) (hc : x.f4.length ≤ c) :
    Calls Tryz.prog 5 #[.agg #[.int .i64 x.f0, .int .i64 x.f1.f0, .string x.f1.f1, .string x.f1.f2, .string x.f1.f3, .bool x.f2, .bool x.f3, .slice A x.f4.length c]] w fun e w' => e = .returned (.bool true) ∧ Below w.heap.size w w' := by
  obtain ⟨b, hfew⟩ := few_total x (by omega) (4 * nsz x) (Nat.le_refl _)
  have hdl := ndp_le x
  obtain ⟨sv, hsv⟩ : ∃ sv, sv = (decide (nsz x ≤ 64 ∧ ndp x ≤ 8) && nRight x) := ⟨_, rfl⟩
  have hsane := sane_is x (by omega) (by omega)
  rw [← hsv] at hsane
  have HF := Aside0.mk hfew
  have HS := Aside0.mk hsane
  have HV := Aside0.mk hsv
  have HC := Aside0.mk hC
  have HCC := Aside0.mk hc
  clear hfew hsane hsv hC hc hdl hb
  go_enter Tryz.func5, Tryz.ntmps5
  go_wp2_with fail
  refine (lustrumlaw13_awake.calls true _ rfl).mono ?_
  rintro e w1 ⟨rfl, hb⟩
  have HB1 := Aside0.mk (below_step (below_alloc (Below.refl w.heap.size w) (.cells #[.int .i64 x.f0, .int .i64 x.f1.f0, .string x.f1.f1, .string x.f1.f2, .string x.f1.f3, .bool x.f2, .bool x.f3, .slice A x.f4.length c] 27)) hb)
  have hx1 := blk_below (blk_new w (.cells #[.int .i64 x.f0, .int .i64 x.f1.f0, .string x.f1.f1, .string x.f1.f2, .string x.f1.f3, .bool x.f2, .bool x.f3, .slice A x.f4.length c] 27)) hb
  have HX1 := Aside0.mk hx1
  have HC1 := Aside0.mk (Kd.C_below (Kd.C_below HC.out (below_alloc (Below.refl _ _) (.cells #[.int .i64 x.f0, .int .i64 x.f1.f0, .string x.f1.f1, .string x.f1.f2, .string x.f1.f3, .bool x.f2, .bool x.f3, .slice A x.f4.length c] 27))) hb)
  obtain ⟨x0, x1, x2, x3, x4, x5, x6, x7⟩ := nCells_at hx1
  clear hb hx1
  go_wp2_with fail
  refine (lustrumref10_Few.calls (4 * nsz x) x.f0 x.f1.f0 x.f1.f1 x.f1.f2 x.f1.f3 x.f2 x.f3 A c x.f4 b _ HC1.out HCC.out HF.out).mono ?_
  rintro e w2 ⟨rfl, hb⟩
  have HB2 := Aside0.mk (below_step HB1.out hb)
  have hx2 := blk_below HX1.out hb
  have HX2 := Aside0.mk hx2
  have HC2 := Aside0.mk (Kd.C_below HC1.out hb)
  clear hb x0 x1 x2 x3 x4 x5 x6 x7
  obtain ⟨x0, x1, x2, x3, x4, x5, x6, x7⟩ := nCells_at hx2
  clear hx2
  cases b with
  | false =>
    go_wp2_with fail
    go_ret
    exact ⟨rfl, HB2.out⟩
  | true =>
    go_wp2_with fail
    refine (tree_Sane.calls x.f0 x.f1.f0 x.f1.f1 x.f1.f2 x.f1.f3 x.f2 x.f3 A c x.f4 sv _ HC2.out HCC.out HS.out).mono ?_
    rintro e w3 ⟨rfl, hb⟩
    have HB3 := Aside0.mk (below_step HB2.out hb)
    have hx3 := blk_below HX2.out hb
    have HX3 := Aside0.mk hx3
    have HC3 := Aside0.mk (Kd.C_below HC2.out hb)
    clear hb x0 x1 x2 x3 x4 x5 x6 x7
    obtain ⟨x0, x1, x2, x3, x4, x5, x6, x7⟩ := nCells_at hx3
    clear hx3
    cases sv with
    | false =>
      go_wp2_with fail
      go_ret
      exact ⟨rfl, HB3.out⟩
    | true =>
      have hv := HV.out
      rw [eq_comm, Bool.and_eq_true, decide_eq_true_eq] at hv
      obtain ⟨⟨hn, hd⟩, hr⟩ := hv
      have htx := (right_tk _ x (Nat.le_refl _) hr).2.2
      have htp := nTxt_pos hr
      obtain ⟨T, hT⟩ : ∃ T : ByteArray, T = ⟨(nTxt x).toArray⟩ := ⟨_, rfl⟩
      have hTs : T.size = (nTxt x).length := by rw [hT, bsz]
      have hpt := print_Text_is x hn hd hr 194 (Nat.le_refl _)
      rw [← hT] at hpt
      have s1 : 2 ≤ T.size := by omega
      have s2 : T.size ≤ 2000 := by omega
      have HN := Aside0.mk (And.intro hn (And.intro hd hr))
      have HT := Aside0.mk hT
      have HPT := Aside0.mk hpt
      clear hn hd hr htx htp hT hTs hpt
      go_wp2_with fail
      refine (print_Text.calls 194 x.f0 x.f1.f0 x.f1.f1 x.f1.f2 x.f1.f3 x.f2 x.f3 A c x.f4 T _ HC3.out HCC.out HPT.out).mono ?_
      rintro e w4 ⟨rfl, hb⟩
      have HB4 := Aside0.mk (below_step HB3.out hb)
      have hx4 := blk_below HX3.out hb
      have HX4 := Aside0.mk hx4
      have HC4 := Aside0.mk (Kd.C_below HC3.out hb)
      clear hb x0 x1 x2 x3 x4 x5 x6 x7
      clear hx4
      go_wp2_with fail
      obtain ⟨t, ht⟩ : ∃ t, t = T.extract 0 (T.size - 1) := ⟨_, rfl⟩
      rw [← ht]
      obtain ⟨m, a, e, hp⟩ : ∃ m a e, pParse t = (m, a, e) := ⟨_, _, _, rfl⟩
      have htl : t.data.toList = (nTxt x).take ((nTxt x).length - 1) := by
        rw [ht, ext_list, HT.out]
        rw [bsz]; simp
      obtain ⟨hn, hd, hr⟩ := HN.out
      obtain ⟨c1, c2, c3⟩ := cut_law hr hn hd htl hp
      have HP := Aside0.mk hp
      have hat1 := c2.1
      have hat2 := c2.2
      have HC3' := Aside0.mk c3
      clear ht htl hn hd hr hp c2 c3 HT HN HPT s1 s2
      refine (parse_calls t HP.out).mono ?_
      rintro e1 w5 ⟨B4, m4, rfl, hm, hF, hb⟩
      have HB5 := Aside0.mk (below_alloc (below_step HB4.out hb) (.cells #[.int .i64 m.f0, .int .i64 m.f1.f0, .string m.f1.f1, .string m.f1.f2, .string m.f1.f3, .bool m.f2, .bool m.f3, .slice B4 m.f4.length m4] 27))
      have HM5 := Aside0.mk hm
      have HF5 := Aside0.mk (Kd.F_below hF (below_alloc (Below.refl _ _) (.cells #[.int .i64 m.f0, .int .i64 m.f1.f0, .string m.f1.f1, .string m.f1.f2, .string m.f1.f3, .bool m.f2, .bool m.f3, .slice B4 m.f4.length m4] 27)))
      have HC5 := Aside0.mk (Kd.C_below (Kd.C_below HC4.out hb) (below_alloc (Below.refl _ _) (.cells #[.int .i64 m.f0, .int .i64 m.f1.f0, .string m.f1.f1, .string m.f1.f2, .string m.f1.f3, .bool m.f2, .bool m.f3, .slice B4 m.f4.length m4] 27)))
      have hx5 := blk_alloc (blk_below HX4.out hb) (.cells #[.int .i64 m.f0, .int .i64 m.f1.f0, .string m.f1.f1, .string m.f1.f2, .string m.f1.f3, .bool m.f2, .bool m.f3, .slice B4 m.f4.length m4] 27)
      have HX5 := Aside0.mk hx5
      have hm5 := blk_new w5 (.cells #[.int .i64 m.f0, .int .i64 m.f1.f0, .string m.f1.f1, .string m.f1.f2, .string m.f1.f3, .bool m.f2, .bool m.f3, .slice B4 m.f4.length m4] 27)
      obtain ⟨x0, x1, x2, x3, x4, x5, x6, x7⟩ := nCells_at hx5
      obtain ⟨y0, y1, y2, y3, y4, y5, y6, y7⟩ := nCells_at hm5
      clear hm hF hb hx5 hm5
      by_cases he : e = 0
      · obtain ⟨d1, d2, d3⟩ := c1 he
        subst he
        have HD1 := Aside0.mk d1
        have k2 : (x.f0 != 2) = true := by simpa using d3
        subst d2
        clear c1 d1 d3
        go_wp2_with fail
        refine (tree_Same.calls m.f0 m.f1.f0 m.f1.f1 m.f1.f2 m.f1.f3 m.f2 m.f3 B4 m4 m.f4 x.f0 x.f1.f0 x.f1.f1 x.f1.f2 x.f1.f3 x.f2 x.f3 A c x.f4 false _ (Kd.F_now HF5.out) HM5.out HC5.out HCC.out (by
          rw [tree_Same.f]
          rw [show (⟨m.f0, ⟨m.f1.f0, m.f1.f1, m.f1.f2, m.f1.f3⟩, m.f2, m.f3, m.f4⟩ : S27) = m from by cases m; rfl, show (⟨x.f0, ⟨x.f1.f0, x.f1.f1, x.f1.f2, x.f1.f3⟩, x.f2, x.f3, x.f4⟩ : S27) = x from by cases x; rfl]
          rw [HD1.out])).mono ?_
        rintro e1 w6 ⟨rfl, hb⟩
        have HB6 := Aside0.mk (below_step HB5.out hb)
        have hx6 := blk_below HX5.out hb
        clear x0 x1 x2 x3 x4 x5 x6 x7 y0 y1 y2 y3 y4 y5 y6 y7 hb
        obtain ⟨x0, x1, x2, x3, x4, x5, x6, x7⟩ := nCells_at hx6
        clear hx6
        go_wp2_with fail
        go_ret
        exact ⟨rfl, HB6.out⟩
      · have ke : (e == 0) = false := by simpa using he
        have k1 : decide (a ≥ 0) = true := by rw [decide_eq_true_eq]; exact hat1
        have k3 : decide (a ≤ (t.size : Int)) = true := by rw [decide_eq_true_eq]; exact hat2
        clear c1 he
        by_cases h2 : x.f0 = 2
        · have kx : (x.f0 != 2) = false := by rw [h2]; rfl
          obtain ⟨rfl, rfl⟩ := HC3'.out h2
          clear h2
          go_wp2_with fail
          go_ret
          exact ⟨rfl, HB5.out⟩
        · have kx : (x.f0 != 2) = true := by simpa using h2
          clear h2
          go_wp2_with fail
          go_ret
          exact ⟨rfl, HB5.out⟩
end Go.Proofs.YtchodmjleceooaaGreat.R
