import Derived.Test.YtchodmjleceooaaGreatR0
import Derived.Test.YtchodmjleceooaaGreatR2
import Derived.Test.YtchodmjleceooaaGreatR5
import Derived.Test.YtchodmjleceooaaGreatR8
import Derived.Test.YtchodmjleceooaaGreatR9
import Derived.Test.YtchodmjleceooaaGreatR10
import Derived.Test.YtchodmjleceooaaGreatR11
import Derived.Test.YtchodmjleceooaaGreatR12
import Derived.Test.YtchodmjleceooaaGreatR13
import Derived.Test.YtchodmjleceooaaGreatR14
import Derived.Test.YtchodmjleceooaaGreatR15
namespace Go.Proofs.YtchodmjleceooaaGreat.R
open Go.RowKit Go.Proofs.YtchodmjleceooaaGreatW.PrintWords Go.Proofs.YtchodmjleceooaaGreatW.PrintLast Go.Proofs.YtchodmjleceooaaGreatW.PrintMore
attribute [local go_sem] max2_int min2_int max_two min_two max_three min_three max_four min_four
set_option linter.unusedVariables false
set_option linter.unusedSimpArgs false
theorem rd_node (l : List S27) (i : Nat) (h : i < l.length) : rd_T27 l (i : Int) = l[i] := by
  rw [rd_T27, Int.toNat_natCast, List.getD_eq_getElem?_getD, List.getElem?_eq_getElem h]; rfl
theorem nszs_drop (l : List S27) (i : Nat) (h : i < l.length) : nszs (l.drop i) = nsz l[i] + nszs (l.drop (i + 1)) := by
  rw [List.drop_eq_getElem_cons h, nszs]
theorem nszs_len (l : List S27) : l.length ≤ nszs l := by
  induction l with
  | nil => simp
  | cons x r ih => rw [nszs, List.length_cons]; have := nsz_mk x; omega
theorem wrap_next {i n : Nat} (h : i < n) (hn : n ≤ 2000000) : wrap64 ((i : Int) + 1) = ((i + 1 : Nat) : Int) := by unfold wrap64; omega
theorem count_total : ∀ (N : Nat), (∀ x : S27, nsz x ≤ N → nsz x ≤ 1500000 → ∀ k, 3 * nsz x ≤ k → ∃ v, lustrumref10_Count.f k x.f0 x.f1.f0 x.f1.f1 x.f1.f2 x.f1.f3 x.f2 x.f3 x.f4 = some v) := by
  intro N
  induction N with
  | zero => intro x h; have := nsz_mk x; omega
  | succ N ih =>
    intro x hN hb k hk
    have hx := nsz_mk x
    have hlen := nszs_len x.f4
    obtain ⟨k, rfl⟩ : ∃ q, k = q + 1 := ⟨k - 1, by omega⟩
    rw [lustrumref10_Count.f]
    have hl : ∀ (d i : Nat) (k : Nat) (v : Int), x.f4.length - i = d → i ≤ x.f4.length → 3 * nszs (x.f4.drop i) + 1 ≤ k → ∃ r, lustrumref10_Count.l0 k v (i : Int) x.f0 x.f1.f0 x.f1.f1 x.f1.f2 x.f1.f3 x.f2 x.f3 x.f4 = some r := by
      intro d
      induction d with
      | zero =>
        intro i k v hd hi hk
        obtain ⟨k, rfl⟩ : ∃ q, k = q + 1 := ⟨k - 1, by omega⟩
        exact ⟨v, by rw [lustrumref10_Count.l0, if_neg (by omega)]⟩
      | succ d ihd =>
        intro i k v hd hi hk
        have hlt : i < x.f4.length := by omega
        obtain ⟨k, rfl⟩ : ∃ q, k = q + 1 := ⟨k - 1, by omega⟩
        rw [nszs_drop _ _ hlt] at hk
        have hin := nsz_in x.f4 x.f4[i] (List.getElem_mem hlt)
        obtain ⟨u, hu⟩ := ih x.f4[i] (by omega) (by omega) k (by omega)
        obtain ⟨r, hr⟩ := ihd (i + 1) k (wrap64 (v + u)) (by omega) (by omega) (by have := nsz_mk x.f4[i]; omega)
        refine ⟨r, ?_⟩
        rw [lustrumref10_Count.l0, if_pos (by omega), if_pos (by omega), rd_node _ _ hlt, hu, Option.bind_some, wrap_next hlt (by omega)]
        exact hr
    exact hl x.f4.length 0 k 1 (by omega) (by omega) (by rw [List.drop_zero]; omega)
theorem short_total : ∀ (N : Nat), (∀ x : S27, nsz x ≤ N → nsz x ≤ 1500000 → ∀ k, 4 * nsz x ≤ k → ∃ v, lustrumref10_short.f k x.f0 x.f1.f0 x.f1.f1 x.f1.f2 x.f1.f3 x.f2 x.f3 x.f4 = some v) := by
  intro N
  induction N with
  | zero => intro x h; have := nsz_mk x; omega
  | succ N ih =>
    intro x hN hb k hk
    have hx := nsz_mk x
    have hlen := nszs_len x.f4
    obtain ⟨k, rfl⟩ : ∃ q, k = q + 2 := ⟨k - 2, by omega⟩
    have hl : ∀ (d i : Nat) (k : Nat), x.f4.length - i = d → i ≤ x.f4.length → 4 * nszs (x.f4.drop i) + 1 ≤ k → ∃ r, lustrumref10_short.l0 k (i : Int) x.f0 x.f1.f0 x.f1.f1 x.f1.f2 x.f1.f3 x.f2 x.f3 x.f4 = some r := by
      intro d
      induction d with
      | zero =>
        intro i k hd hi hk
        obtain ⟨k, rfl⟩ : ∃ q, k = q + 1 := ⟨k - 1, by omega⟩
        exact ⟨true, by rw [lustrumref10_short.l0, if_neg (by omega)]⟩
      | succ d ihd =>
        intro i k hd hi hk
        have hlt : i < x.f4.length := by omega
        obtain ⟨k, rfl⟩ : ∃ q, k = q + 1 := ⟨k - 1, by omega⟩
        rw [nszs_drop _ _ hlt] at hk
        have hin := nsz_in x.f4 x.f4[i] (List.getElem_mem hlt)
        obtain ⟨u, hu⟩ := ih x.f4[i] (by omega) (by omega) k (by omega)
        obtain ⟨r, hr⟩ := ihd (i + 1) k (by omega) (by omega) (by have := nsz_mk x.f4[i]; omega)
        rw [lustrumref10_short.l0, if_pos (by omega), if_pos (by omega), rd_node _ _ hlt, hu, Option.bind_some, wrap_next hlt (by omega)]
        cases u with
        | true => exact ⟨r, by rw [if_pos rfl]; exact hr⟩
        | false => exact ⟨false, rfl⟩
    obtain ⟨r, hr⟩ := hl x.f4.length 0 k (by omega) (by omega) (by rw [List.drop_zero]; omega)
    have hj : ∀ b : Bool, ∃ v, lustrumref10_short.j0 (k + 1) b x.f0 x.f1.f0 x.f1.f1 x.f1.f2 x.f1.f3 x.f2 x.f3 x.f4 = some v := by
      intro b
      rw [lustrumref10_short.j0]
      cases b with
      | true => exact ⟨false, rfl⟩
      | false => exact ⟨r, hr⟩
    rw [show k + 2 = (k + 1) + 1 from rfl, lustrumref10_short.f]
    split
    · exact hj true
    · split
      · exact hj true
      · exact hj _
theorem few_total (x : S27) (hb : nsz x ≤ 1500000) (k : Nat) (hk : 4 * nsz x ≤ k) : ∃ b, lustrumref10_Few.f k x.f0 x.f1.f0 x.f1.f1 x.f1.f2 x.f1.f3 x.f2 x.f3 x.f4 = some b := by
  obtain ⟨u, hu⟩ := count_total _ x (Nat.le_refl _) hb k (by omega)
  obtain ⟨v, hv⟩ := short_total _ x (Nat.le_refl _) hb k hk
  rw [lustrumref10_Few.f, hu, Option.bind_some]
  split
  · exact ⟨v, by rw [hv]; rfl⟩
  · exact ⟨false, rfl⟩
theorem jB (l : List ByteArray) (s : ByteArray) : joinB l s = Lib.join (l.map (·.data.toList)) s.data.toList := rfl
theorem join_flat (l : List (List UInt8)) : Lib.join l [] = l.flatten := by
  cases l with
  | nil => rfl
  | cons x r => rw [Lib.join_cons, Lib.joinTail]; simp
theorem print_join_is (l : List ByteArray) (h1 : l.length ≤ 1000) (h2 : (l.map (·.data.toList)).flatten.length ≤ 100000) : print_join.f l = some ⟨((l.map (·.data.toList)).flatten).toArray⟩ := by
  rw [print_join.f, strings_Join.f, jB, join_flat]
  rw [if_pos ⟨by omega, by omega⟩]; rfl
theorem bsz (l : List UInt8) : (⟨l.toArray⟩ : ByteArray).size = l.length := by rw [← ByteArray.size_data]; simp
theorem point_text_is (p : S24) (h : pSane p.f0 p.f1 p.f2 p.f3 = true) (k : Nat) : point_Text.f (k + 1) p.f0 p.f1 p.f2 p.f3 = some ⟨(ptB p).toArray⟩ := by
  obtain ⟨hy, hy0, hk⟩ := pSane_parts h
  rw [point_Text.f, sane_total k, h, Option.bind_some, if_pos rfl]
  obtain ⟨k, y, m, d⟩ := p
  simp only at hy hy0 hk
  have hm : ∀ s : ByteArray, s.data.toList.length = s.size := fun s => Array.length_toList
  have e0 : ∀ s : ByteArray, ((⟨#[45]⟩ : ByteArray) ++ s).size = 1 + s.size := fun s => ByteArray.size_append
  rcases hk with ⟨rfl, h4, hmm, hml, hd, hdl⟩ | ⟨rfl, h4, hmm, hml, rfl⟩ | ⟨rfl, h4, hmm, hml, rfl⟩ | ⟨rfl, h4, rfl, rfl⟩ | ⟨rfl, h4, rfl, rfl⟩ | ⟨rfl, h4, rfl, rfl⟩
  · rw [hm] at hml hdl
    have e : ptB ⟨0, y, m, d⟩ = y.data.toList ++ 45 :: (m.data.toList ++ 45 :: d.data.toList) := rfl
    rw [e]
    simp only [if_true]
    rw [if_pos (by omega), if_pos (by omega), if_pos (by rw [e0, e0]; omega), if_pos (by rw [ByteArray.size_append, e0, e0]; omega)]
    exact congrArg some (bext (by simp))
  · rw [hm] at hml
    have e : ptB ⟨1, y, m, ⟨#[]⟩⟩ = y.data.toList ++ 45 :: m.data.toList := rfl
    rw [e]
    simp only [if_true]
    rw [if_neg (by omega), if_pos (by omega), if_pos (by rw [e0]; omega), if_pos (by simp only [ByteArray.size_append, show (⟨#[]⟩ : ByteArray).size = 0 from rfl, show (⟨#[45]⟩ : ByteArray).size = 1 from rfl]; omega)]
    exact congrArg some (bext (by simp))
  · rw [hm] at hml
    have e : ptB ⟨2, y, m, ⟨#[]⟩⟩ = y.data.toList ++ 115 :: m.data.toList := rfl
    rw [e]
    simp only [if_true]
    rw [if_neg (by omega), if_neg (by omega), if_pos (by omega), if_pos (by rw [ByteArray.size_append, show (⟨#[115]⟩ : ByteArray).size = 1 from rfl]; omega)]
    exact congrArg some (bext (by simp))
  · have e : ptB ⟨3, y, ⟨#[]⟩, ⟨#[]⟩⟩ = y.data.toList := rfl
    rw [e]
    simp only []
    rw [if_neg (by decide), if_neg (by decide), if_neg (by decide), if_neg (by decide), if_neg (by decide), if_pos (by omega)]
    exact congrArg some (bext (by simp))
  · have e : ptB ⟨4, y, ⟨#[]⟩, ⟨#[]⟩⟩ = y.data.toList ++ [100] := rfl
    rw [e]
    simp only []
    rw [if_neg (by decide), if_neg (by decide), if_neg (by decide), if_pos trivial, if_pos (by omega)]
    exact congrArg some (bext (by simp))
  · have e : ptB ⟨5, y, ⟨#[]⟩, ⟨#[]⟩⟩ = y.data.toList ++ [99] := rfl
    rw [e]
    simp only []
    rw [if_neg (by decide), if_neg (by decide), if_neg (by decide), if_neg (by decide), if_pos trivial, if_pos (by omega)]
    exact congrArg some (bext (by simp))
theorem print_mark_is (b : Bool) (s : ByteArray) : print_mark.f b s = some (if b then s else ⟨#[]⟩) := by
  rw [print_mark.f]
  cases b <;> rfl
theorem end_len {x : S27} (h : nEnd x = true) : (nTxt x).length ≤ 12 := (end_tk h).2.2.2.1
theorem text_end (x : S27) (h : nEnd x = true) (k : Nat) : print_text.f (k + 2) x.f0 x.f1.f0 x.f1.f1 x.f1.f2 x.f1.f3 x.f2 x.f3 x.f4 = some ⟨(nTxt x).toArray⟩ := by
  have hl := end_len h
  obtain ⟨q, p, a, b, l⟩ := x
  rw [nEnd] at h
  simp only at h
  rw [print_text.f]
  split at h
  · rename_i hk
    simp only [Bool.and_eq_true, decide_eq_true_eq] at h
    obtain ⟨h0, hp⟩ := h
    obtain rfl := List.length_eq_zero_iff.mp h0
    subst hk
    simp only []
    rw [if_neg (by decide), if_neg (by decide), if_neg (by decide), if_neg (by decide), point_text_is p hp k, Option.bind_some, print_mark_is, Option.bind_some, print_mark_is, Option.bind_some]
    have e2 : nTxt ⟨0, p, a, b, []⟩ = ptB p ++ ((if a then [63] else []) ++ (if b then [126] else [])) := rfl
    have e3 : ([⟨(ptB p).toArray⟩, (if a = true then (⟨#[63]⟩ : ByteArray) else ⟨#[]⟩), (if b = true then (⟨#[126]⟩ : ByteArray) else ⟨#[]⟩)].map (·.data.toList)).flatten = nTxt ⟨0, p, a, b, []⟩ := by
      rw [e2]
      cases a <;> cases b <;> simp
    rw [print_join_is _ (by simp) (by rw [e3]; omega), e3]; rfl
  · split at h
    · rename_i hk0 hk
      simp only [Bool.and_eq_true, decide_eq_true_eq] at h
      obtain ⟨h0, hp⟩ := h
      obtain rfl := List.length_eq_zero_iff.mp h0
      simp only []
      rcases hk with rfl | rfl
      · rw [if_neg (by decide), if_neg (by decide), if_pos rfl]; rfl
      · rw [if_neg (by decide), if_neg (by decide), if_neg (by decide), if_pos rfl]; rfl
    · simp at h
theorem nszs_app (a b : List S27) : nszs (a ++ b) = nszs a + nszs b := by
  induction a with
  | nil => simp [nszs]
  | cons x r ih => rw [List.cons_append, nszs, nszs, ih]; omega
theorem text_loop (l : List S27) (hl : l.length ≤ 1000) (hlen : (Lib.join (nTxts l) [44, 32]).length ≤ 90000) (F : Nat) (hx : ∀ (i : Nat) (h : i < l.length) (k : Nat), F ≤ k → print_text.f k l[i].f0 l[i].f1.f0 l[i].f1.f1 l[i].f1.f2 l[i].f1.f3 l[i].f2 l[i].f3 l[i].f4 = some ⟨(nTxt l[i]).toArray⟩) :
    ∀ (d i k : Nat), l.length - i = d → i ≤ l.length → F + d + 1 ≤ k → print_text.l0 k ((nTxts (l.take i)).map fun t => ⟨t.toArray⟩) l (l.length : Int) (i : Int) = some ⟨(91 :: (Lib.join (nTxts l) [44, 32] ++ [93])).toArray⟩ := by
  intro d
  induction d with
  | zero =>
    intro i k hd hi hk
    obtain rfl : i = l.length := by omega
    obtain ⟨k, rfl⟩ : ∃ q, k = q + 1 := ⟨k - 1, by omega⟩
    rw [print_text.l0, if_neg (by omega), List.take_length, strings_Join.f, jB, List.map_map]
    have e1 : ((nTxts l).map ((fun x : ByteArray => x.data.toList) ∘ fun t => (⟨t.toArray⟩ : ByteArray))) = nTxts l := by
      rw [List.map_congr_left (g := id) (fun t _ => by simp), List.map_id]
    rw [e1, if_pos ⟨by rw [List.length_map, nTxts_map, List.length_map]; omega, by show (Lib.join (nTxts l) [44, 32]).length ≤ _; omega⟩, Option.bind_some]
    have e3 : ([(⟨#[91]⟩ : ByteArray), ⟨(Lib.join (nTxts l) (⟨#[44, 32]⟩ : ByteArray).data.toList).toArray⟩, (⟨#[93]⟩ : ByteArray)].map (·.data.toList)).flatten = 91 :: (Lib.join (nTxts l) [44, 32] ++ [93]) := by simp
    rw [print_join_is _ (by simp) (by rw [e3]; simp only [List.length_cons, List.length_append, List.length_nil]; omega), e3]; rfl
  | succ d ih =>
    intro i k hd hi hk
    have hlt : i < l.length := by omega
    obtain ⟨k, rfl⟩ : ∃ q, k = q + 1 := ⟨k - 1, by omega⟩
    have htl : (nTxts (l.take i)).length = i := by rw [nTxts_map, List.length_map, List.length_take]; omega
    rw [print_text.l0, if_pos (by omega), if_pos (by omega), if_pos (by omega), rd_node _ _ hlt, hx i hlt k (by omega), Option.bind_some, if_pos (by rw [List.length_map, htl]; omega), wrap_next hlt (by omega)]
    have e1 : ((nTxts (l.take i)).map fun t => (⟨t.toArray⟩ : ByteArray)) ++ [⟨(nTxt l[i]).toArray⟩] = (nTxts (l.take (i + 1))).map fun t => (⟨t.toArray⟩ : ByteArray) := by
      rw [List.take_succ_eq_append_getElem hlt, nTxts_map, nTxts_map, List.map_append, List.map_append, List.map_cons, List.map_nil, List.map_cons, List.map_nil]
    rw [e1]
    exact ih (i + 1) k (by omega) (by omega) (by omega)
theorem text_is : ∀ (N : Nat) (x : S27), nsz x ≤ N → nsz x ≤ 100 → nRight x = true → ∀ k, 3 * nsz x + 2 ≤ k → print_text.f k x.f0 x.f1.f0 x.f1.f1 x.f1.f2 x.f1.f3 x.f2 x.f3 x.f4 = some ⟨(nTxt x).toArray⟩ := by
  intro N
  induction N with
  | zero => intro x h; have := nsz_mk x; omega
  | succ N ih =>
    intro x hN hb h k hk
    have hsz := nsz_mk x
    have hall := right_tk _ x (Nat.le_refl _) h
    obtain ⟨k, rfl⟩ : ∃ q, k = q + 2 := ⟨k - 2, by omega⟩
    rw [nRight_mk] at h
    split at h
    · exact text_end x h k
    · split at h
      · rename_i hk0 hk1
        simp only [Bool.and_eq_true, decide_eq_true_eq] at h
        obtain ⟨hbb, hl, he⟩ := h
        obtain ⟨q, p, a, b, l⟩ := x
        simp only at hk0 hk1 hbb hl he hsz
        subst hk1
        obtain ⟨rfl, rfl, rfl⟩ := nBare_is hbb
        match l, hl with
        | [u, v], _ =>
          simp only [List.all_cons, List.all_nil, Bool.and_true, Bool.and_eq_true] at he
          have hu := end_len he.1
          have hv := end_len he.2
          have e1 : nTxt ⟨1, zPt, false, false, [u, v]⟩ = nTxt u ++ 47 :: nTxt v := rfl
          obtain ⟨k, rfl⟩ : ∃ q, k = q + 1 := ⟨k - 1, by rw [nsz_two] at hk; omega⟩
          have g0 : rd_T27 [u, v] 0 = u := rfl
          have g1 : rd_T27 [u, v] 1 = v := rfl
          rw [print_text.f]
          simp only [if_true, g0, g1]
          rw [if_pos (by simp), text_end u he.1 k, Option.bind_some, if_pos (by simp), text_end v he.2 k, Option.bind_some]
          have e3 : ([⟨(nTxt u).toArray⟩, (⟨#[47]⟩ : ByteArray), ⟨(nTxt v).toArray⟩].map (·.data.toList)).flatten = nTxt ⟨1, zPt, false, false, [u, v]⟩ := by rw [e1]; simp
          rw [print_join_is _ (by simp) (by rw [e3, e1, List.length_append, List.length_cons]; omega), e3]; rfl
      · split at h
        · rename_i hk0 hk1 hk2
          simp only [Bool.and_eq_true, decide_eq_true_eq, List.all_eq_true] at h
          obtain ⟨hbb, hl, he⟩ := h
          obtain ⟨q, p, a, b, l⟩ := x
          simp only at hk0 hk1 hk2 hbb hl he hsz
          subst hk2
          obtain ⟨rfl, rfl, rfl⟩ := nBare_is hbb
          have hlen := nszs_len l
          have e1 : nTxt ⟨2, zPt, false, false, l⟩ = 91 :: (Lib.join (nTxts l) [44, 32] ++ [93]) := rfl
          rw [print_text.f]
          simp only []
          rw [if_neg (by decide), if_pos trivial, e1]
          have hjl : (Lib.join (nTxts l) [44, 32]).length ≤ 90000 := by
            have h3 := hall.2.2
            rw [e1, List.length_cons, List.length_append] at h3; omega
          have hlp := text_loop l (by omega) hjl (3 * nszs l + 3 - l.length) (fun i hi k2 hk2 => by
            have hin := nsz_in l l[i] (List.getElem_mem hi)
            have hsplit : nsz l[i] + (l.length - 1) ≤ nszs l := by
              have h1 := nszs_split l i hi
              have h2 : nszs l = nszs (l.take i) + nszs (l.drop i) := by
                rw [← nszs_app, List.take_append_drop]
              have h3 := nszs_drop l i hi
              have h4 := nszs_len (l.take i)
              have h5 := nszs_len (l.drop (i + 1))
              rw [List.length_take] at h4
              rw [List.length_drop] at h5
              omega
            exact ih l[i] (by omega) (by omega) (he l[i] (List.getElem_mem hi)) k2 (by omega)) l.length 0 (k + 1) (by omega) (by omega) (by omega)
          exact hlp
        · simp at h
theorem addr_add_add (a : Addr) (m k : Nat) : (a.add m).add k = a.add (m + k) := by
  unfold Addr.add
  by_cases h1 : m = 0
  · subst h1; simp
  · by_cases h2 : k = 0
    · subst h2; simp
    · rw [if_neg h1, if_neg h2, if_neg (by omega)]; simp; omega
section
variable {H : Type} {enc : TypeId × Value → H} {w : World} {base : Nat} {spare : Nat → Bool} {held : Bool}
theorem co_int : (Tryz.prog).cellsOf 3 = 1 := by kernel_rfl
theorem co_bool : (Tryz.prog).cellsOf 4 = 1 := by kernel_rfl
theorem co_str : (Tryz.prog).cellsOf 9 = 1 := by kernel_rfl
theorem co_row : (Tryz.prog).cellsOf 25 = 1 := by kernel_rfl
theorem co_point : (Tryz.prog).cellsOf 24 = 4 := by kernel_rfl
theorem co_node : (Tryz.prog).cellsOf 27 = 8 := by kernel_rfl
theorem list4 {l : List Value} (h : l.length = 4) : ∃ a b c d, l = [a, b, c, d] := by
  match l, h with
  | [a, b, c, d], _ => exact ⟨a, b, c, d, rfl⟩
theorem list8 {l : List Value} (h : l.length = 8) : ∃ a b c d e f g i, l = [a, b, c, d, e, f, g, i] := by
  match l, h with
  | [a, b, c, d, e, f, g, i], _ => exact ⟨a, b, c, d, e, f, g, i, rfl⟩
theorem point_open {fuel : Nat} {cs : List Value} {y : DataW H × List MemPlace} (h : DataW.trod enc Tryz.prog w base spare held fuel 24 cs = some y) : ∃ p : S24, cs = [.int .i64 p.f0, .string p.f1, .string p.f2, .string p.f3] := by
  obtain ⟨xs, n, hn, rfl, hl, hlen, hf⟩ := DataW.trod_struct Tryz.underlying24 h
  rw [co_point] at hl
  obtain ⟨a, b, c, d, rfl⟩ := list4 hl
  match xs, hlen with
  | [y0, y1, y2, y3], _ =>
    have e0 : DataW.trod enc Tryz.prog w base spare held n 3 (([a, b, c, d].drop 0).take ((Tryz.prog).cellsOf 3)) = some y0 := hf 0 _ rfl
    rw [co_int] at e0
    have e1 : DataW.trod enc Tryz.prog w base spare held n 9 (([a, b, c, d].drop 1).take ((Tryz.prog).cellsOf 9)) = some y1 := hf 1 _ rfl
    rw [co_str] at e1
    have e2 : DataW.trod enc Tryz.prog w base spare held n 9 (([a, b, c, d].drop 2).take ((Tryz.prog).cellsOf 9)) = some y2 := hf 2 _ rfl
    rw [co_str] at e2
    have e3 : DataW.trod enc Tryz.prog w base spare held n 9 (([a, b, c, d].drop 3).take ((Tryz.prog).cellsOf 9)) = some y3 := hf 3 _ rfl
    rw [co_str] at e3
    obtain ⟨k, q0, _⟩ := DataW.trod_int Tryz.underlying3 e0
    obtain ⟨s1, q1, _⟩ := DataW.trod_string Tryz.underlying9 e1
    obtain ⟨s2, q2, _⟩ := DataW.trod_string Tryz.underlying9 e2
    obtain ⟨s3, q3, _⟩ := DataW.trod_string Tryz.underlying9 e3
    simp at q0 q1 q2 q3
    subst q0 q1 q2 q3
    exact ⟨⟨k, s1, s2, s3⟩, rfl⟩
theorem choose_list {α : Type} {n : Nat} {R : Nat → α → Prop} (h : ∀ i, i < n → ∃ x, R i x) : ∃ l : List α, l.length = n ∧ ∀ i x, l[i]? = some x → R i x := by
  induction n with
  | zero => exact ⟨[], rfl, fun i x h => by simp at h⟩
  | succ n ih =>
    obtain ⟨l, hl, hr⟩ := ih (fun i hi => h i (by omega))
    obtain ⟨x, hx⟩ := h n (by omega)
    refine ⟨l ++ [x], by simp [hl], fun i y hy => ?_⟩
    rcases Nat.lt_or_ge i n with hlt | hge
    · rw [List.getElem?_append_left (by omega)] at hy; exact hr i y hy
    · rw [List.getElem?_append_right (by omega), hl] at hy
      have h0 : i - n = 0 := by
        rcases Nat.eq_zero_or_pos (i - n) with h0 | h0
        · exact h0
        · rw [List.getElem?_eq_none (by simp; omega)] at hy; simp at hy
      rw [h0] at hy
      simp at hy
      subst hy
      rw [show i = n by omega]; exact hx
theorem sum_le {f : DataW H → Nat} {fs : List (DataW H) → Nat} (hcons : ∀ d r, f d + fs r ≤ fs (d :: r)) : ∀ (l : List S27) (es : List (DataW H × List MemPlace)), l.length = es.length → (∀ (i : Nat) (x : S27) (e : DataW H × List MemPlace), l[i]? = some x → es[i]? = some e → nsz x ≤ f e.1) → nszs l ≤ fs (es.map (·.1)) := by
  intro l
  induction l with
  | nil => intro es _ _; simp [nszs]
  | cons x r ih =>
    intro es hl h
    cases es with
    | nil => simp at hl
    | cons e es =>
      have h1 := h 0 x e rfl rfl
      have h2 := ih es (by simpa using hl) (fun i y u hy hu => h (i + 1) y u (by simpa using hy) (by simpa using hu))
      have h3 := hcons e.1 (es.map (·.1))
      rw [nszs, List.map_cons]; omega
theorem node_open {f : DataW H → Nat} {fs : List (DataW H) → Nat} (hagg : ∀ l, fs l + 1 ≤ f (.agg l)) (hsl : ∀ a b, fs a + fs b + 1 ≤ f (.slice a b)) (hcons : ∀ d r, f d + fs r ≤ fs (d :: r)) :
    ∀ (fuel : Nat) (cs : List Value) (y : DataW H × List MemPlace), DataW.trod enc Tryz.prog w base spare held fuel 27 cs = some y → ∃ x : S27, k27.K w x cs ∧ nsz x ≤ f y.1 := by
  intro fuel
  induction fuel using Nat.strongRecOn with
  | _ fuel ih =>
  intro cs y h
  obtain ⟨xs, n, hn, rfl, hl, hlen, hf⟩ := DataW.trod_struct Tryz.underlying27 h
  rw [co_node] at hl
  obtain ⟨c0, c1, c2, c3, c4, c5, c6, c7, rfl⟩ := list8 hl
  match xs, hlen with
  | [y0, y1, y2, y3, y4], _ =>
    have e0 : DataW.trod enc Tryz.prog w base spare held n 3 (([c0, c1, c2, c3, c4, c5, c6, c7].drop 0).take ((Tryz.prog).cellsOf 3)) = some y0 := hf 0 _ rfl
    rw [co_int] at e0
    have e1 : DataW.trod enc Tryz.prog w base spare held n 24 (([c0, c1, c2, c3, c4, c5, c6, c7].drop 1).take ((Tryz.prog).cellsOf 24)) = some y1 := hf 1 _ rfl
    rw [co_point] at e1
    have e2 : DataW.trod enc Tryz.prog w base spare held n 4 (([c0, c1, c2, c3, c4, c5, c6, c7].drop 5).take ((Tryz.prog).cellsOf 4)) = some y2 := hf 2 _ rfl
    rw [co_bool] at e2
    have e3 : DataW.trod enc Tryz.prog w base spare held n 4 (([c0, c1, c2, c3, c4, c5, c6, c7].drop 6).take ((Tryz.prog).cellsOf 4)) = some y3 := hf 3 _ rfl
    rw [co_bool] at e3
    have e4 : DataW.trod enc Tryz.prog w base spare held n 25 (([c0, c1, c2, c3, c4, c5, c6, c7].drop 7).take ((Tryz.prog).cellsOf 25)) = some y4 := hf 4 _ rfl
    rw [co_row] at e4
    obtain ⟨k, q0, _⟩ := DataW.trod_int Tryz.underlying3 e0
    obtain ⟨p, q1⟩ := point_open e1
    obtain ⟨b1, q2, _⟩ := DataW.trod_bool Tryz.underlying4 e2
    obtain ⟨b2, q3, _⟩ := DataW.trod_bool Tryz.underlying4 e3
    simp at q0 q1 q2 q3
    obtain ⟨rfl, rfl, rfl, rfl⟩ := q1
    subst q0 q2 q3
    rcases DataW.trod_slice Tryz.underlying25 e4 with ⟨q4, _⟩ | ⟨a, len, cap, elems, rest, n2, hn2, q4, hy4, _, hl2, hm, hel, hg, _, _⟩
    · simp at q4
      subst q4
      exact ⟨⟨k, p, b1, b2, []⟩, k27_mk w ⟨k, p, b1, b2, []⟩ (A7 := none) (c7 := 0) (Nat.le_refl _) (Kd.F_now (Kd.F_nil k27 w (fun _ => True))), by have h1 := hagg ([y0, y1, y2, y3, y4].map (·.1)); rw [nsz, nszs]; simp only []; omega⟩
    · simp at q4
      subst q4
      have hx : ∀ i, i < len → ∃ x : S27, (∃ e, elems[i]? = some e ∧ nsz x ≤ f e.1) ∧ ∃ c, c.length = 8 ∧ k27.K w x c ∧ ∀ j u, c[j]? = some u → w.cell? (a.add (i * 8 + j)) = some u := by
        intro i hi
        have h1 := hg i hi
        rw [co_node, List.getElem?_eq_getElem (by omega)] at h1
        obtain ⟨c, hc, ht⟩ := Option.bind_eq_some_iff.mp h1
        obtain ⟨_, hcl, hat⟩ := World.cells?_some hc
        obtain ⟨x, hK, hbx⟩ := ih n2 (by omega) c _ ht
        refine ⟨x, ⟨_, List.getElem?_eq_getElem (by omega), hbx⟩, c, hcl, hK, fun j u hj => ?_⟩
        have hjl : j < 8 := by rw [← hcl]; exact (List.getElem?_eq_some_iff.mp hj).1
        have h2 := hat j hjl
        rw [hj] at h2
        rw [← h2, addr_add_add]
      obtain ⟨l, hll, hlr⟩ := choose_list hx
      subst hll
      refine ⟨⟨k, p, b1, b2, l⟩, k27_mk w ⟨k, p, b1, b2, l⟩ (A7 := some a) (c7 := cap) hl2 ⟨rfl, by unfold maxLen at hm; show l.length ≤ 9223372036854775807; omega, fun _ => ⟨a, rfl, fun j p hj => (hlr j p hj).2⟩⟩, ?_⟩
      have h1 := hagg ([y0, y1, y2, y3, y4].map (·.1))
      have h2 := hsl (elems.map (·.1)) (rest.map (·.1))
      have h3 := sum_le hcons l elems (by omega) (fun i x e hx he => by
        obtain ⟨⟨e2, he2, hle⟩, _⟩ := hlr i x hx
        rw [he] at he2
        rw [Option.some.inj he2]; exact hle)
      have g0 := hcons y0.1 [y1.1, y2.1, y3.1, y4.1]
      have g1 := hcons y1.1 [y2.1, y3.1, y4.1]
      have g2 := hcons y2.1 [y3.1, y4.1]
      have g3 := hcons y3.1 [y4.1]
      have g4 := hcons y4.1 []
      have h4 : y4.1 = .slice (elems.map (·.1)) (rest.map (·.1)) := by rw [hy4]
      rw [← h4] at h2
      show nsz ⟨k, p, b1, b2, l⟩ ≤ f (.agg ([y0, y1, y2, y3, y4].map (·.1)))
      rw [nsz]
      simp only [List.map_cons, List.map_nil] at h1 ⊢
      omega
end
mutual
theorem ndp_le : ∀ x : S27, ndp x ≤ nsz x
  | ⟨k, p, a, b, l⟩ => by
    have h := ndps_le l
    rw [ndp, nsz]
    split <;> omega
theorem ndps_le : ∀ l : List S27, ndps l ≤ nszs l
  | [] => by rw [ndps, nszs]; omega
  | x :: r => by
    have h1 := ndp_le x
    have h2 := ndps_le r
    rw [ndps, nszs]; omega
end
theorem print_Text_is (x : S27) (hn : nsz x ≤ 64) (hd : ndp x ≤ 8) (hr : nRight x = true) (k : Nat) (hk : 194 ≤ k) : print_Text.f k x.f0 x.f1.f0 x.f1.f1 x.f1.f2 x.f1.f3 x.f2 x.f3 x.f4 = some ⟨(nTxt x).toArray⟩ := by
  rw [print_Text.f, sane_is x (by omega) (by omega), Option.bind_some, hr, decide_eq_true ⟨hn, hd⟩, Bool.and_true, if_pos rfl, text_is _ x (Nat.le_refl _) (by omega) hr k (by omega)]
  rfl
set_option maxRecDepth 100000 in
set_option maxHeartbeats 4000000 in
theorem back_walk (x : S27) (hb : nsz x ≤ 1200000) (A : Option Addr) (c : Nat) (w : World) (hC : Kd.C k27 w A x.f4.length x.f4) (hc : x.f4.length ≤ c) :
    Calls Tryz.prog 4 #[.agg #[.int .i64 x.f0, .int .i64 x.f1.f0, .string x.f1.f1, .string x.f1.f2, .string x.f1.f3, .bool x.f2, .bool x.f3, .slice A x.f4.length c]] w fun e w' => e = .returned (.bool true) ∧ Below w.heap.size w w' := by
  obtain ⟨b, hfew⟩ := few_total x (by omega) (4 * nsz x) (Nat.le_refl _)
  have hdl := ndp_le x
  obtain ⟨sv, hsv⟩ : ∃ sv, sv = (decide (nsz x ≤ 64 ∧ ndp x ≤ 8) && nRight x) := ⟨_, rfl⟩
  have hsane := sane_is x (by omega) (by omega)
  rw [← hsv] at hsane
  have HF := Aside0.mk hfew
  have HS := Aside0.mk hsane
  have HV := Aside0.mk hsv
  have HC := Aside0.mk hC
  have HCC := Aside0.mk hc
  clear hfew hsane hsv hC hc hdl hb
  go_enter Tryz.func4, Tryz.ntmps4
  go_wp2_with fail
  refine (lustrumlaw13_awake.calls true _ rfl).mono ?_
  rintro e w1 ⟨rfl, hb⟩
  have HB1 := Aside0.mk (below_step (below_alloc (Below.refl w.heap.size w) (.cells #[.int .i64 x.f0, .int .i64 x.f1.f0, .string x.f1.f1, .string x.f1.f2, .string x.f1.f3, .bool x.f2, .bool x.f3, .slice A x.f4.length c] 27)) hb)
  have hx1 := blk_below (blk_new w (.cells #[.int .i64 x.f0, .int .i64 x.f1.f0, .string x.f1.f1, .string x.f1.f2, .string x.f1.f3, .bool x.f2, .bool x.f3, .slice A x.f4.length c] 27)) hb
  have HX1 := Aside0.mk hx1
  have HC1 := Aside0.mk (Kd.C_below (Kd.C_below HC.out (below_alloc (Below.refl _ _) (.cells #[.int .i64 x.f0, .int .i64 x.f1.f0, .string x.f1.f1, .string x.f1.f2, .string x.f1.f3, .bool x.f2, .bool x.f3, .slice A x.f4.length c] 27))) hb)
  obtain ⟨x0, x1, x2, x3, x4, x5, x6, x7⟩ := nCells_at hx1
  clear hb hx1
  go_wp2_with fail
  refine (lustrumref10_Few.calls (4 * nsz x) x.f0 x.f1.f0 x.f1.f1 x.f1.f2 x.f1.f3 x.f2 x.f3 A c x.f4 b _ HC1.out HCC.out HF.out).mono ?_
  rintro e w2 ⟨rfl, hb⟩
  have HB2 := Aside0.mk (below_step HB1.out hb)
  have hx2 := blk_below HX1.out hb
  have HX2 := Aside0.mk hx2
  have HC2 := Aside0.mk (Kd.C_below HC1.out hb)
  clear hb x0 x1 x2 x3 x4 x5 x6 x7
  obtain ⟨x0, x1, x2, x3, x4, x5, x6, x7⟩ := nCells_at hx2
  clear hx2
  cases b with
  | false =>
    go_wp2_with fail
    go_ret
    exact ⟨rfl, HB2.out⟩
  | true =>
    go_wp2_with fail
    refine (tree_Sane.calls x.f0 x.f1.f0 x.f1.f1 x.f1.f2 x.f1.f3 x.f2 x.f3 A c x.f4 sv _ HC2.out HCC.out HS.out).mono ?_
    rintro e w3 ⟨rfl, hb⟩
    have HB3 := Aside0.mk (below_step HB2.out hb)
    have hx3 := blk_below HX2.out hb
    have HX3 := Aside0.mk hx3
    have HC3 := Aside0.mk (Kd.C_below HC2.out hb)
    clear hb x0 x1 x2 x3 x4 x5 x6 x7
    obtain ⟨x0, x1, x2, x3, x4, x5, x6, x7⟩ := nCells_at hx3
    clear hx3
    cases sv with
    | false =>
      go_wp2_with fail
      go_ret
      exact ⟨rfl, HB3.out⟩
    | true =>
      have hv := HV.out
      rw [eq_comm, Bool.and_eq_true, decide_eq_true_eq] at hv
      obtain ⟨⟨hn, hd⟩, hr⟩ := hv
      have htx := (right_tk _ x (Nat.le_refl _) hr).2.2
      obtain ⟨T, hT⟩ : ∃ T : ByteArray, T = ⟨(nTxt x).toArray⟩ := ⟨_, rfl⟩
      have hTs : T.size = (nTxt x).length := by rw [hT, bsz]
      have hpt := print_Text_is x hn hd hr 194 (Nat.le_refl _)
      rw [← hT] at hpt
      have s2 : T.size ≤ 2000 := by omega
      have HN := Aside0.mk (And.intro hn (And.intro hd hr))
      have HT := Aside0.mk hT
      have HPT := Aside0.mk hpt
      clear hn hd hr htx hT hTs hpt
      go_wp2_with fail
      refine (print_Text.calls 194 x.f0 x.f1.f0 x.f1.f1 x.f1.f2 x.f1.f3 x.f2 x.f3 A c x.f4 T _ HC3.out HCC.out HPT.out).mono ?_
      rintro e w4 ⟨rfl, hb⟩
      have HB4 := Aside0.mk (below_step HB3.out hb)
      have hx4 := blk_below HX3.out hb
      have HX4 := Aside0.mk hx4
      have HC4 := Aside0.mk (Kd.C_below HC3.out hb)
      clear hb x0 x1 x2 x3 x4 x5 x6 x7
      clear hx4
      go_wp2_with fail
      obtain ⟨hn, hd, hr⟩ := HN.out
      have hp := text_back hr hn hd
      have hTs : ((nTxt x).length : Int) = T.size := by rw [HT.out, bsz]
      rw [← HT.out, hTs] at hp
      have HP := Aside0.mk hp
      clear hn hd hr hp hTs HT HN HPT s2
      refine (parse_calls T HP.out).mono ?_
      rintro e1 w5 ⟨B4, m4, rfl, hm, hF, hb⟩
      have HB5 := Aside0.mk (below_alloc (below_step HB4.out hb) (.cells #[.int .i64 x.f0, .int .i64 x.f1.f0, .string x.f1.f1, .string x.f1.f2, .string x.f1.f3, .bool x.f2, .bool x.f3, .slice B4 x.f4.length m4] 27))
      have HM5 := Aside0.mk hm
      have HF5 := Aside0.mk (Kd.F_below hF (below_alloc (Below.refl _ _) (.cells #[.int .i64 x.f0, .int .i64 x.f1.f0, .string x.f1.f1, .string x.f1.f2, .string x.f1.f3, .bool x.f2, .bool x.f3, .slice B4 x.f4.length m4] 27)))
      have HC5 := Aside0.mk (Kd.C_below (Kd.C_below HC4.out hb) (below_alloc (Below.refl _ _) (.cells #[.int .i64 x.f0, .int .i64 x.f1.f0, .string x.f1.f1, .string x.f1.f2, .string x.f1.f3, .bool x.f2, .bool x.f3, .slice B4 x.f4.length m4] 27)))
      have hx5 := blk_alloc (blk_below HX4.out hb) (.cells #[.int .i64 x.f0, .int .i64 x.f1.f0, .string x.f1.f1, .string x.f1.f2, .string x.f1.f3, .bool x.f2, .bool x.f3, .slice B4 x.f4.length m4] 27)
      have hm5 := blk_new w5 (.cells #[.int .i64 x.f0, .int .i64 x.f1.f0, .string x.f1.f1, .string x.f1.f2, .string x.f1.f3, .bool x.f2, .bool x.f3, .slice B4 x.f4.length m4] 27)
      obtain ⟨x0, x1, x2, x3, x4, x5, x6, x7⟩ := nCells_at hx5
      obtain ⟨y0, y1, y2, y3, y4, y5, y6, y7⟩ := nCells_at hm5
      clear hm hF hb hx5 hm5
      go_wp2_with fail
      refine (tree_Same.calls x.f0 x.f1.f0 x.f1.f1 x.f1.f2 x.f1.f3 x.f2 x.f3 B4 m4 x.f4 x.f0 x.f1.f0 x.f1.f1 x.f1.f2 x.f1.f3 x.f2 x.f3 A c x.f4 true _ (Kd.F_now HF5.out) HM5.out HC5.out HCC.out (by
        rw [tree_Same.f, nSame_refl])).mono ?_
      rintro e1 w6 ⟨rfl, hb⟩
      have HB6 := Aside0.mk (below_step HB5.out hb)
      clear x0 x1 x2 x3 x4 x5 x6 x7 y0 y1 y2 y3 y4 y5 y6 y7 hb
      go_wp2_with fail
      go_ret
      exact ⟨rfl, HB6.out⟩
end Go.Proofs.YtchodmjleceooaaGreat.R
