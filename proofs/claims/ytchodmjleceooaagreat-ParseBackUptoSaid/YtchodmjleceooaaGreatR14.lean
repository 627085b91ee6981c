import Derived.Test.YtchodmjleceooaaGreatR0
import Derived.Test.YtchodmjleceooaaGreatR1
import Derived.Test.YtchodmjleceooaaGreatR2
import Derived.Test.YtchodmjleceooaaGreatR3
import Derived.Test.YtchodmjleceooaaGreatR5
import Derived.Test.YtchodmjleceooaaGreatR8
import Derived.Test.YtchodmjleceooaaGreatR9
import Derived.Test.YtchodmjleceooaaGreatR12
namespace Go.Proofs.YtchodmjleceooaaGreat.R
open Go.RowKit Go.Proofs.YtchodmjleceooaaGreatW.PrintWords Go.Proofs.YtchodmjleceooaaGreatW.PrintLast Go.Proofs.YtchodmjleceooaaGreatW.PrintMore
attribute [local go_sem] max2_int min2_int max_two min_two max_three min_three max_four min_four
set_option linter.unusedVariables false
set_option linter.unusedSimpArgs false
theorem bext {s t : ByteArray} (h : s.data.toList = t.data.toList) : s = t := ByteArray.ext (Array.toList_inj.mp h)
theorem bmk (s : ByteArray) : (⟨s.data.toList.toArray⟩ : ByteArray) = s := bext (by simp)
theorem indexByte_at {c : UInt8} {b : List UInt8} : ∀ (a : List UInt8), c ∉ a → Lib.indexByte (a ++ c :: b) c = a.length := by
  intro a
  induction a with
  | nil => intro _; simp [Lib.indexByte]
  | cons x a ih =>
    intro h
    have h1 : (x == c) = false := by simp only [beq_eq_false_iff_ne]; intro hx; exact h (by simp [hx])
    have h2 := ih (fun hx => h (by simp [hx]))
    rw [List.cons_append, Lib.indexByte, h1, h2]
    have h3 : ((a.length : Int) == -1) = false := by simp only [beq_eq_false_iff_ne]; omega
    rw [h3]
    simp
theorem cutB_has {s : ByteArray} {c : UInt8} {a b : List UInt8} (h : s.data.toList = a ++ c :: b) (ha : c ∉ a) : cutB s c = (⟨a.toArray⟩, ⟨b.toArray⟩, true) := by
  have hi : Lib.indexByte s.data.toList c = a.length := by rw [h]; exact indexByte_at a ha
  rw [cutB, hi, if_pos (by omega), Int.toNat_natCast]
  have e1 : s.extract 0 a.length = ⟨a.toArray⟩ := bext (by rw [ext_list, h]; simp)
  have e2 : s.extract (a.length + 1) s.size = ⟨b.toArray⟩ := bext (by rw [ext_drop, h]; simp)
  rw [e1, e2]
theorem cutB_not {s : ByteArray} {c : UInt8} (h : c ∉ s.data.toList) : cutB s c = (s, ⟨#[]⟩, false) := by
  rw [cutB, if_neg]
  intro h0
  obtain ⟨o, ho⟩ : ∃ o : Nat, Lib.indexByte s.data.toList c = o := ⟨(Lib.indexByte s.data.toList c).toNat, by omega⟩
  exact h (List.mem_of_getElem? (Lib.indexByte_some ho).1)
theorem cutB_inv {s : ByteArray} {c : UInt8} (h : (cutB s c).2.2 = true) : s.data.toList = (cutB s c).1.data.toList ++ c :: (cutB s c).2.1.data.toList := by
  by_cases hc : c ∈ s.data.toList
  · obtain ⟨a, b, e, ha⟩ := List.eq_append_cons_of_mem hc
    rw [cutB_has e ha, e]
  · rw [cutB_not hc] at h
    simp at h
theorem cutSuf_has {s : ByteArray} {c : UInt8} {a : List UInt8} (h : s.data.toList = a ++ [c]) : cutSuf s c = (⟨a.toArray⟩, true) := by
  rw [cutSuf, h, if_pos (by simp)]
  have hs : s.size = a.length + 1 := by rw [← ByteArray.size_data, ← Array.length_toList, h]; simp
  have e1 : s.extract 0 (s.size - 1) = ⟨a.toArray⟩ := bext (by rw [ext_list, h, hs]; simp)
  rw [e1]
theorem cutSuf_not {s : ByteArray} {c : UInt8} (h : s.data.toList.getLast? ≠ some c) : cutSuf s c = (s, false) := by rw [cutSuf, if_neg h]
theorem cutSuf_inv {s : ByteArray} {c : UInt8} (h : (cutSuf s c).2 = true) : s.data.toList = (cutSuf s c).1.data.toList ++ [c] := by
  by_cases hc : s.data.toList.getLast? = some c
  · obtain ⟨a, e⟩ : ∃ a, s.data.toList = a ++ [c] := by
      rcases List.eq_nil_or_concat s.data.toList with h0 | ⟨a, b, h0⟩
      · rw [h0] at hc; simp at hc
      · rw [h0] at hc; simp at hc; subst hc; exact ⟨a, by simpa using h0⟩
    rw [cutSuf_has e, e]
  · rw [cutSuf_not hc] at h
    simp at h
def ptB (p : S24) : List UInt8 :=
  if p.f0 = 4 then p.f1.data.toList ++ [100] else if p.f0 = 5 then p.f1.data.toList ++ [99] else if p.f0 = 2 then p.f1.data.toList ++ 115 :: p.f2.data.toList
  else if p.f0 = 1 then p.f1.data.toList ++ 45 :: p.f2.data.toList else if p.f0 = 0 then p.f1.data.toList ++ 45 :: (p.f2.data.toList ++ 45 :: p.f3.data.toList) else p.f1.data.toList
theorem ptB_guess (s : ByteArray) : ptB (gGuess s) = s.data.toList := by
  rw [gGuess]
  split
  · rename_i h; exact (cutSuf_inv h).symm
  · split
    · rename_i h; exact (cutSuf_inv h).symm
    · split
      · rename_i h; exact (cutB_inv h).symm
      · split
        · rename_i h
          split
          · rename_i h2
            have h3 := cutB_inv h2
            show (cutB s 45).1.data.toList ++ 45 :: ((cutB (cutB s 45).2.1 45).1.data.toList ++ 45 :: (cutB (cutB s 45).2.1 45).2.1.data.toList) = _
            rw [← h3]; exact (cutB_inv h).symm
          · exact (cutB_inv h).symm
        · rfl
theorem pRead_text {s : ByteArray} {p : S24} (h : pRead s = some p) : ptB p = s.data.toList := by
  rw [pRead] at h
  split at h
  · rw [← Option.some.inj h]; exact ptB_guess s
  · simp at h
def MB (l : List UInt8) : Prop := ∀ b ∈ l, mkc b.toNat = true
theorem MB.no {l : List UInt8} (h : MB l) {c : UInt8} (hc : mkc c.toNat = false) : c ∉ l := fun hm => by have := h c hm; rw [hc] at this; simp at this
theorem MB.last {l : List UInt8} (h : MB l) (h0 : l ≠ []) (a : List UInt8) {c : UInt8} (hc : mkc c.toNat = false) : (a ++ l).getLast? ≠ some c := by
  rcases List.eq_nil_or_concat l with h1 | ⟨u, v, h1⟩
  · exact absurd h1 h0
  · rw [h1, List.concat_eq_append, ← List.append_assoc, List.getLast?_concat]
    intro h2
    have h3 := h v (by rw [h1]; simp)
    rw [Option.some.inj h2, hc] at h3
    simp at h3
theorem mask_MB {s : ByteArray} (h : maskSane s = true) : MB s.data.toList ∧ s.data.toList ≠ [] ∧ s.size ≤ 4 := by
  rw [maskSane] at h
  simp only [Bool.and_eq_true, List.all_eq_true, decide_eq_true_eq] at h
  refine ⟨h.1.1, fun h0 => ?_, h.2⟩
  have h2 := congrArg List.length h0
  rw [Array.length_toList] at h2
  exact h.1.2 h2
theorem some_MB {s : ByteArray} {n : Nat} {most : Int} (h : pSome s n most = true) : MB s.data.toList ∧ s.data.toList.length = n := by
  rw [pSome] at h
  simp only [Bool.and_eq_true, decide_eq_true_eq] at h
  refine ⟨?_, by rw [Array.length_toList]; exact h.1⟩
  have h2 := h.2
  rw [pNums, maskSet] at h2
  by_cases hm : maskSane s = true
  · exact (mask_MB hm).1
  · rw [if_neg hm, rMeet] at h2
    simp [numsOf] at h2
theorem empty_of {s : ByteArray} (h : s.toList.isEmpty = true) : s = ⟨#[]⟩ := by
  apply bext
  rw [ByteArray.toList_eq, List.isEmpty_iff] at h
  rw [h]
theorem pSane_parts {p : S24} (h : pSane p.f0 p.f1 p.f2 p.f3 = true) : MB p.f1.data.toList ∧ p.f1.data.toList ≠ [] ∧
    ((p.f0 = 0 ∧ p.f1.size = 4 ∧ MB p.f2.data.toList ∧ p.f2.data.toList.length = 2 ∧ MB p.f3.data.toList ∧ p.f3.data.toList.length = 2) ∨ (p.f0 = 1 ∧ p.f1.size = 4 ∧ MB p.f2.data.toList ∧ p.f2.data.toList.length = 2 ∧ p.f3 = ⟨#[]⟩) ∨
      (p.f0 = 2 ∧ p.f1.size = 4 ∧ MB p.f2.data.toList ∧ p.f2.data.toList.length = 1 ∧ p.f3 = ⟨#[]⟩) ∨ (p.f0 = 3 ∧ p.f1.size = 4 ∧ p.f2 = ⟨#[]⟩ ∧ p.f3 = ⟨#[]⟩) ∨ (p.f0 = 4 ∧ p.f1.size = 3 ∧ p.f2 = ⟨#[]⟩ ∧ p.f3 = ⟨#[]⟩) ∨ (p.f0 = 5 ∧ p.f1.size = 2 ∧ p.f2 = ⟨#[]⟩ ∧ p.f3 = ⟨#[]⟩)) := by
  rw [pSane, Bool.and_eq_true] at h
  obtain ⟨hy, h⟩ := h
  obtain ⟨h1, h2, _⟩ := mask_MB hy
  refine ⟨h1, h2, ?_⟩
  split at h
  · simp only [Bool.and_eq_true, decide_eq_true_eq] at h
    exact .inl ⟨‹_›, h.1, (some_MB h.2.1).1, (some_MB h.2.1).2, (some_MB h.2.2).1, (some_MB h.2.2).2⟩
  · split at h
    · simp only [Bool.and_eq_true, decide_eq_true_eq] at h
      exact .inr (.inl ⟨‹_›, h.1, (some_MB h.2.1).1, (some_MB h.2.1).2, empty_of h.2.2⟩)
    · split at h
      · simp only [Bool.and_eq_true, decide_eq_true_eq] at h
        exact .inr (.inr (.inl ⟨‹_›, h.1, (some_MB h.2.1).1, (some_MB h.2.1).2, empty_of h.2.2⟩))
      · split at h
        · simp only [Bool.and_eq_true, decide_eq_true_eq] at h
          exact .inr (.inr (.inr (.inl ⟨‹_›, h.1, empty_of h.2.1, empty_of h.2.2⟩)))
        · split at h
          · simp only [Bool.and_eq_true, decide_eq_true_eq] at h
            exact .inr (.inr (.inr (.inr (.inl ⟨‹_›, h.1, empty_of h.2.1, empty_of h.2.2⟩))))
          · split at h
            · simp only [Bool.and_eq_true, decide_eq_true_eq] at h
              exact .inr (.inr (.inr (.inr (.inr ⟨‹_›, h.1, empty_of h.2.1, empty_of h.2.2⟩))))
            · simp at h
theorem no100 : mkc (100 : UInt8).toNat = false := by decide
theorem no99 : mkc (99 : UInt8).toNat = false := by decide
theorem no115 : mkc (115 : UInt8).toNat = false := by decide
theorem no45 : mkc (45 : UInt8).toNat = false := by decide
theorem len_ne {l : List UInt8} {n : Nat} (h : l.length = n) (hn : 0 < n) : l ≠ [] := fun h0 => by rw [h0] at h; simp at h; omega
theorem guess_ptB {p : S24} (h : pSane p.f0 p.f1 p.f2 p.f3 = true) : gGuess ⟨(ptB p).toArray⟩ = p := by
  obtain ⟨hy, hy0, hk⟩ := pSane_parts h
  obtain ⟨k, y, m, d⟩ := p
  simp only at hy hy0 hk
  have ey := bmk y
  have em := bmk m
  have ed := bmk d
  rcases hk with ⟨rfl, _, hm, hml, hd, hdl⟩ | ⟨rfl, _, hm, hml, rfl⟩ | ⟨rfl, _, hm, hml, rfl⟩ | ⟨rfl, _, rfl, rfl⟩ | ⟨rfl, _, rfl, rfl⟩ | ⟨rfl, _, rfl, rfl⟩
  · have e : ptB ⟨0, y, m, d⟩ = y.data.toList ++ 45 :: (m.data.toList ++ 45 :: d.data.toList) := rfl
    have e2 : y.data.toList ++ 45 :: (m.data.toList ++ 45 :: d.data.toList) = (y.data.toList ++ 45 :: (m.data.toList ++ [45])) ++ d.data.toList := by simp
    rw [e, gGuess, cutSuf_not (by rw [e2]; exact hd.last (len_ne hdl (by omega)) _ no100), cutSuf_not (by rw [e2]; exact hd.last (len_ne hdl (by omega)) _ no99)]
    rw [cutB_not (c := 115) (by simp [hy.no no115, hm.no no115, hd.no no115]), cutB_has (c := 45) (a := y.data.toList) rfl (hy.no no45)]
    simp only [Bool.false_eq_true, if_false, if_true]
    rw [cutB_has (c := 45) (a := m.data.toList) rfl (hm.no no45)]
    simp only [if_true, ey, em, ed]
  · have e : ptB ⟨1, y, m, ⟨#[]⟩⟩ = y.data.toList ++ 45 :: m.data.toList := rfl
    have e2 : y.data.toList ++ 45 :: m.data.toList = (y.data.toList ++ [45]) ++ m.data.toList := by simp
    rw [e, gGuess, cutSuf_not (by rw [e2]; exact hm.last (len_ne hml (by omega)) _ no100), cutSuf_not (by rw [e2]; exact hm.last (len_ne hml (by omega)) _ no99)]
    rw [cutB_not (c := 115) (by simp [hy.no no115, hm.no no115]), cutB_has (c := 45) (a := y.data.toList) rfl (hy.no no45)]
    simp only [Bool.false_eq_true, if_false, if_true]
    rw [cutB_not (c := 45) (hm.no no45)]
    simp only [Bool.false_eq_true, if_false, ey, em]
  · have e : ptB ⟨2, y, m, ⟨#[]⟩⟩ = y.data.toList ++ 115 :: m.data.toList := rfl
    have e2 : y.data.toList ++ 115 :: m.data.toList = (y.data.toList ++ [115]) ++ m.data.toList := by simp
    rw [e, gGuess, cutSuf_not (by rw [e2]; exact hm.last (len_ne hml (by omega)) _ no100), cutSuf_not (by rw [e2]; exact hm.last (len_ne hml (by omega)) _ no99)]
    rw [cutB_has (c := 115) (a := y.data.toList) rfl (hy.no no115)]
    simp only [Bool.false_eq_true, if_false, if_true, ey, em]
  · have e : ptB ⟨3, y, ⟨#[]⟩, ⟨#[]⟩⟩ = y.data.toList := rfl
    rw [e, gGuess, cutSuf_not (by simpa using hy.last hy0 [] no100), cutSuf_not (by simpa using hy.last hy0 [] no99)]
    rw [cutB_not (c := 115) (hy.no no115), cutB_not (c := 45) (hy.no no45)]
    simp only [Bool.false_eq_true, if_false, ey]
  · have e : ptB ⟨4, y, ⟨#[]⟩, ⟨#[]⟩⟩ = y.data.toList ++ [100] := rfl
    rw [e, gGuess, cutSuf_has (c := 100) rfl]
    simp only [if_true, ey]
  · have e : ptB ⟨5, y, ⟨#[]⟩, ⟨#[]⟩⟩ = y.data.toList ++ [99] := rfl
    rw [e, gGuess, cutSuf_not (by simp), cutSuf_has (c := 99) rfl]
    simp only [Bool.false_eq_true, if_false, if_true, ey]
theorem pRead_ptB {p : S24} (h : pSane p.f0 p.f1 p.f2 p.f3 = true) : pRead ⟨(ptB p).toArray⟩ = some p := by
  rw [pRead, guess_ptB h, if_pos h]
theorem letters_all : ∀ n : Fin 256, mkc (n.val : Int) = true → lexLet (UInt8.ofNat n.val) = true := by decide +kernel
theorem MB.letters {l : List UInt8} (h : MB l) : ∀ b ∈ l, lexLet b = true := by
  intro b hb
  have h1 := letters_all ⟨b.toNat, b.toNat_lt⟩ (h b hb)
  rwa [UInt8.ofNat_toNat] at h1
theorem ptB_letters {p : S24} (h : pSane p.f0 p.f1 p.f2 p.f3 = true) : (∀ b ∈ ptB p, lexLet b = true) ∧ ptB p ≠ [] ∧ (ptB p).length ≤ 10 := by
  obtain ⟨hy, hy0, hk⟩ := pSane_parts h
  obtain ⟨k, y, m, d⟩ := p
  simp only at hy hy0 hk
  have hyl := hy.letters
  have hys : y.data.toList.length = y.size := Array.length_toList
  rcases hk with ⟨rfl, h4, hm, hml, hd, hdl⟩ | ⟨rfl, h4, hm, hml, rfl⟩ | ⟨rfl, h4, hm, hml, rfl⟩ | ⟨rfl, h4, rfl, rfl⟩ | ⟨rfl, h4, rfl, rfl⟩ | ⟨rfl, h4, rfl, rfl⟩
  · have e : ptB ⟨0, y, m, d⟩ = y.data.toList ++ 45 :: (m.data.toList ++ 45 :: d.data.toList) := rfl
    rw [e]
    refine ⟨fun b hb => ?_, by simp, by simp only [List.length_append, List.length_cons]; omega⟩
    simp only [List.mem_append, List.mem_cons] at hb
    rcases hb with hb | rfl | hb | rfl | hb
    · exact hyl b hb
    · decide
    · exact hm.letters b hb
    · decide
    · exact hd.letters b hb
  · have e : ptB ⟨1, y, m, ⟨#[]⟩⟩ = y.data.toList ++ 45 :: m.data.toList := rfl
    rw [e]
    refine ⟨fun b hb => ?_, by simp, by simp only [List.length_append, List.length_cons]; omega⟩
    simp only [List.mem_append, List.mem_cons] at hb
    rcases hb with hb | rfl | hb
    · exact hyl b hb
    · decide
    · exact hm.letters b hb
  · have e : ptB ⟨2, y, m, ⟨#[]⟩⟩ = y.data.toList ++ 115 :: m.data.toList := rfl
    rw [e]
    refine ⟨fun b hb => ?_, by simp, by simp only [List.length_append, List.length_cons]; omega⟩
    simp only [List.mem_append, List.mem_cons] at hb
    rcases hb with hb | rfl | hb
    · exact hyl b hb
    · decide
    · exact hm.letters b hb
  · have e : ptB ⟨3, y, ⟨#[]⟩, ⟨#[]⟩⟩ = y.data.toList := rfl
    rw [e]
    exact ⟨hyl, hy0, by omega⟩
  · have e : ptB ⟨4, y, ⟨#[]⟩, ⟨#[]⟩⟩ = y.data.toList ++ [100] := rfl
    rw [e]
    refine ⟨fun b hb => ?_, by simp, by simp only [List.length_append, List.length_cons, List.length_nil]; omega⟩
    simp only [List.mem_append, List.mem_cons, List.not_mem_nil, or_false] at hb
    rcases hb with hb | rfl
    · exact hyl b hb
    · decide
  · have e : ptB ⟨5, y, ⟨#[]⟩, ⟨#[]⟩⟩ = y.data.toList ++ [99] := rfl
    rw [e]
    refine ⟨fun b hb => ?_, by simp, by simp only [List.length_append, List.length_cons, List.length_nil]; omega⟩
    simp only [List.mem_append, List.mem_cons, List.not_mem_nil, or_false] at hb
    rcases hb with hb | rfl
    · exact hyl b hb
    · decide
mutual
def nTxt : S27 → List UInt8
  | ⟨k, p, a, b, l⟩ => if k = 1 then (nTxts l).getD 0 [] ++ 47 :: (nTxts l).getD 1 [] else if k = 2 then 91 :: (Lib.join (nTxts l) [44, 32] ++ [93]) else if k = 3 then [46, 46] else if k = 4 then [42] else ptB p ++ ((if a then [63] else []) ++ (if b then [126] else []))
def nTxts : List S27 → List (List UInt8)
  | [] => []
  | x :: r => nTxt x :: nTxts r
end
def eTk (k : Int) : Int × ByteArray := (k, ⟨#[]⟩)
def itemsTk : List (List (Int × ByteArray)) → List (Int × ByteArray)
  | [] => []
  | [x] => x ++ [eTk 5]
  | x :: y :: r => x ++ eTk 6 :: itemsTk (y :: r)
mutual
def nTk : S27 → List (Int × ByteArray)
  | ⟨k, p, a, b, l⟩ => if k = 1 then (nTks l).getD 0 [] ++ eTk 1 :: (nTks l).getD 1 [] else if k = 2 then eTk 4 :: itemsTk (nTks l) else if k = 3 then [eTk 2] else if k = 4 then [eTk 3] else (0, ⟨(ptB p).toArray⟩) :: ((if a then [eTk 7] else []) ++ (if b then [eTk 8] else []))
def nTks : List S27 → List (List (Int × ByteArray))
  | [] => []
  | x :: r => nTk x :: nTks r
end
theorem nBare_is {p : S24} {a b : Bool} (h : nBare p.f0 p.f1 p.f2 p.f3 a b = true) : p = zPt ∧ a = false ∧ b = false := by
  rw [nBare] at h
  simp only [Bool.and_eq_true, beq_iff_eq, Bool.not_eq_true'] at h
  obtain ⟨⟨⟨h0, h1, h2, h3⟩, ha⟩, hb⟩ := h
  refine ⟨?_, ha, hb⟩
  obtain ⟨k, y, m, d⟩ := p
  simp only at h0 h1 h2 h3
  rw [h0, empty_of h1, empty_of h2, empty_of h3]; rfl
theorem marks_tk (a b : Bool) : Marks ((if a then [eTk 7] else []) ++ (if b then [eTk 8] else [])) false false a b ∧ Lx ((if a then [63] else []) ++ (if b then [126] else [])) ((if a then [eTk 7] else []) ++ (if b then [eTk 8] else [])) ∧ Apart ((if a then [63] else []) ++ (if b then [126] else [])) ∧ ((if a then [63] else []) ++ (if b then [126] else []) : List UInt8).length ≤ 2 := by
  cases a <;> cases b
  · exact ⟨.nil _ _, .nil, trivial, by simp⟩
  · exact ⟨.tilde _ (.nil _ _), .sign (by decide) (by decide) .nil, (by decide : lexLet 126 = false), by simp⟩
  · exact ⟨.ask _ (.nil _ _), .sign (by decide) (by decide) .nil, (by decide : lexLet 63 = false), by simp⟩
  · exact ⟨.ask _ (.tilde _ (.nil _ _)), .sign (by decide) (by decide) (.sign (by decide) (by decide) .nil), (by decide : lexLet 63 = false), by simp⟩
theorem end_tk {x : S27} (h : nEnd x = true) : IsEnd (nTk x) x ∧ Lx (nTxt x) (nTk x) ∧ nsz x = 1 ∧ (nTxt x).length ≤ 12 ∧ (x.f0 = 0 ∨ x.f0 = 3 ∨ x.f0 = 4) := by
  obtain ⟨k, p, a, b, l⟩ := x
  rw [nEnd] at h
  simp only at h
  split at h
  · rename_i hk
    simp only [Bool.and_eq_true, decide_eq_true_eq] at h
    obtain ⟨hl, hp⟩ := h
    obtain rfl := List.length_eq_zero_iff.mp hl
    subst hk
    obtain ⟨g1, g2, g3⟩ := ptB_letters hp
    obtain ⟨m1, m2, m3, m4⟩ := marks_tk a b
    have e1 : nTk ⟨0, p, a, b, []⟩ = (0, ⟨(ptB p).toArray⟩) :: ((if a then [eTk 7] else []) ++ (if b then [eTk 8] else [])) := rfl
    have e2 : nTxt ⟨0, p, a, b, []⟩ = ptB p ++ ((if a then [63] else []) ++ (if b then [126] else [])) := rfl
    rw [e1, e2]
    refine ⟨.point (pRead_ptB hp) m1, .word g2 g1 m3 m2, rfl, ?_, .inl rfl⟩
    rw [List.length_append]; omega
  · split at h
    · rename_i hk0 hk
      simp only [Bool.and_eq_true, decide_eq_true_eq] at h
      obtain ⟨hl, hp⟩ := h
      obtain rfl := List.length_eq_zero_iff.mp hl
      obtain ⟨rfl, rfl, rfl⟩ := nBare_is hp
      rcases hk with rfl | rfl
      · exact ⟨.dots _, .dots .nil, rfl, by show (2 : Nat) ≤ 12; omega, .inr (.inl rfl)⟩
      · exact ⟨.star _, .sign (by decide) (by decide) .nil, rfl, by show (1 : Nat) ≤ 12; omega, .inr (.inr rfl)⟩
    · simp at h
theorem nTxts_map (l : List S27) : nTxts l = l.map nTxt := by
  induction l with
  | nil => rfl
  | cons x r ih => rw [nTxts, ih]; rfl
theorem nTks_map (l : List S27) : nTks l = l.map nTk := by
  induction l with
  | nil => rfl
  | cons x r ih => rw [nTks, ih]; rfl
theorem join_two (x y : List UInt8) (r : List (List UInt8)) : Lib.join (x :: y :: r) [44, 32] = x ++ 44 :: 32 :: Lib.join (y :: r) [44, 32] := by
  rw [Lib.join_cons, Lib.join_cons, Lib.joinTail, Lib.joinTail]; simp
theorem items_tk (l : List S27) (h0 : l ≠ []) (h : ∀ x ∈ l, IsExpr (nTk x) x ∧ Lx (nTxt x) (nTk x) ∧ (nTxt x).length + 2 ≤ 16 * nsz x) : IsItems (itemsTk (nTks l)) l ∧ Lx (Lib.join (nTxts l) [44, 32] ++ [93]) (itemsTk (nTks l)) ∧ (Lib.join (nTxts l) [44, 32]).length + 2 ≤ 16 * nszs l := by
  induction l with
  | nil => exact absurd rfl h0
  | cons x r ih =>
    obtain ⟨h1, h2, h3⟩ := h x (by simp)
    cases r with
    | nil =>
      have e1 : nTxts [x] = [nTxt x] := rfl
      rw [e1, Lib.join_one]
      refine ⟨.last _ h1, h2.append (.sign (by decide) (by decide) .nil) (by decide : lexLet 93 = false), ?_⟩
      rw [nszs, nszs]; omega
    | cons y r =>
      obtain ⟨i1, i2, i3⟩ := ih (by simp) (fun z hz => h z (by simp [hz]))
      have e1 : nTxts (x :: y :: r) = nTxt x :: nTxt y :: nTxts r := rfl
      have e2 : nTxts (y :: r) = nTxt y :: nTxts r := rfl
      rw [e2] at i2 i3
      rw [e1, join_two]
      refine ⟨.more _ h1 i1, ?_, ?_⟩
      · rw [List.append_assoc]
        exact h2.append (.sign (by decide) (by decide) (.blank i2)) (by decide : lexLet 44 = false)
      · rw [nszs, List.length_append, List.length_cons, List.length_cons]; omega
theorem nsz_in (l : List S27) : ∀ x ∈ l, nsz x ≤ nszs l := by
  induction l with
  | nil => simp
  | cons y r ih =>
    intro x hx
    rw [nszs]
    simp only [List.mem_cons] at hx
    rcases hx with rfl | hx
    · omega
    · have := ih x hx; omega
theorem right_tk : ∀ (N : Nat) (x : S27), nsz x ≤ N → nRight x = true → IsExpr (nTk x) x ∧ Lx (nTxt x) (nTk x) ∧ (nTxt x).length + 2 ≤ 16 * nsz x := by
  intro N
  induction N with
  | zero => intro x h; have := nsz_mk x; omega
  | succ N ih =>
    intro x hN h
    have hsz := nsz_mk x
    rw [nRight_mk] at h
    split at h
    · rename_i h0
      obtain ⟨g1, g2, g3, g4, _⟩ := end_tk h
      exact ⟨.span (.one g1 h0), g2, by omega⟩
    · split at h
      · rename_i hk
        simp only [Bool.and_eq_true, decide_eq_true_eq] at h
        obtain ⟨hb, hl, he⟩ := h
        obtain ⟨k, p, a, b, l⟩ := x
        simp only at hk hb hl he hsz
        subst hk
        obtain ⟨rfl, rfl, rfl⟩ := nBare_is hb
        match l, hl with
        | [u, v], _ =>
          simp only [List.all_cons, List.all_nil, Bool.and_true, Bool.and_eq_true] at he
          obtain ⟨g1, g2, g3, g4, _⟩ := end_tk he.1
          obtain ⟨k1, k2, k3, k4, _⟩ := end_tk he.2
          have e1 : nTxt ⟨1, zPt, false, false, [u, v]⟩ = nTxt u ++ 47 :: nTxt v := rfl
          have e2 : nTk ⟨1, zPt, false, false, [u, v]⟩ = nTk u ++ eTk 1 :: nTk v := rfl
          rw [e1, e2, nsz_two]
          refine ⟨.span (.two _ g1 k1), g2.append (.sign (by decide) (by decide) k2) (by decide : lexLet 47 = false), ?_⟩
          rw [List.length_append, List.length_cons]; omega
      · split at h
        · rename_i hk
          simp only [Bool.and_eq_true, decide_eq_true_eq, List.all_eq_true] at h
          obtain ⟨hb, hl, he⟩ := h
          obtain ⟨k, p, a, b, l⟩ := x
          simp only at hk hb hl he hsz
          subst hk
          obtain ⟨rfl, rfl, rfl⟩ := nBare_is hb
          have hi := items_tk l (List.length_pos_iff.mp hl) (fun z hz => ih z (by have := nsz_in l z hz; omega) (he z hz))
          have e1 : nTxt ⟨2, zPt, false, false, l⟩ = 91 :: (Lib.join (nTxts l) [44, 32] ++ [93]) := rfl
          have e2 : nTk ⟨2, zPt, false, false, l⟩ = eTk 4 :: itemsTk (nTks l) := rfl
          rw [e1, e2, nsz_list]
          refine ⟨.list _ hi.1, .sign (by decide) (by decide) hi.2.1, ?_⟩
          rw [List.length_cons, List.length_append]; simp only [List.length_cons, List.length_nil]; omega
        · simp at h
theorem text_back {x : S27} (h : nRight x = true) (hn : nsz x ≤ 64) (hd : ndp x ≤ 8) : pParse ⟨(nTxt x).toArray⟩ = (x, ((nTxt x).length : Int), 0) := by
  obtain ⟨h1, h2, h3⟩ := right_tk _ x (Nat.le_refl _) h
  have e1 : (⟨(nTxt x).toArray⟩ : ByteArray).size = (nTxt x).length := by rw [← ByteArray.size_data]; simp
  rw [parse_good (s := ⟨(nTxt x).toArray⟩) (ts := nTk x) (by simpa using h2) (by rw [e1]; omega) h1 hn hd, e1]
mutual
def lustrumref10_Count.l0 : Nat → Int → Int → Int → Int → ByteArray → ByteArray → ByteArray → Bool → Bool → List (S27) → Option (Int)
  | 0, _, _, _, _, _, _, _, _, _, _ => none
  | k + 1, x3, x4, x202000, x202001, x202002, x202003, x202004, x202005, x202006, x202007 => if x4 < (x202007.length : Int) then (if 0 ≤ x4 then ((lustrumref10_Count.f k ((rd_T27 x202007 x4).f0) ((rd_T27 x202007 x4).f1.f0) ((rd_T27 x202007 x4).f1.f1) ((rd_T27 x202007 x4).f1.f2) ((rd_T27 x202007 x4).f1.f3) ((rd_T27 x202007 x4).f2) ((rd_T27 x202007 x4).f3) ((rd_T27 x202007 x4).f4)).bind fun t203 => (lustrumref10_Count.l0 k (wrap64 (x3 + t203)) (wrap64 (x4 + 1)) x202000 x202001 x202002 x202003 x202004 x202005 x202006 x202007)) else (none)) else (some x3)
def lustrumref10_Count.f : Nat → Int → Int → ByteArray → ByteArray → ByteArray → Bool → Bool → List (S27) → Option (Int)
  | 0, _, _, _, _, _, _, _, _ => none
  | k + 1, a0_0, a0_1, a0_2, a0_3, a0_4, a0_5, a0_6, l0_7 => lustrumref10_Count.l0 k 1 0 a0_0 a0_1 a0_2 a0_3 a0_4 a0_5 a0_6 l0_7
end
theorem lustrumref10_Count.mono_l : ∀ k, (∀ y0 y1 y2 y3 y4 y5 y6 y7, LeO (lustrumref10_Count.f k y0 y1 y2 y3 y4 y5 y6 y7) (lustrumref10_Count.f (k + 1) y0 y1 y2 y3 y4 y5 y6 y7)) ∧ (∀ y0 y1 y2 y3 y4 y5 y6 y7 y8 y9, LeO (lustrumref10_Count.l0 k y0 y1 y2 y3 y4 y5 y6 y7 y8 y9) (lustrumref10_Count.l0 (k + 1) y0 y1 y2 y3 y4 y5 y6 y7 y8 y9))
  | 0 => ⟨fun _ _ _ _ _ _ _ _ r h => by simp [lustrumref10_Count.f] at h, fun _ _ _ _ _ _ _ _ _ _ r h => by simp [lustrumref10_Count.l0] at h⟩
  | k + 1 => by
    obtain ⟨ih0, ih1⟩ := lustrumref10_Count.mono_l k
    refine ⟨?_, ?_⟩
    · intro y0 y1 y2 y3 y4 y5 y6 y7
      unfold lustrumref10_Count.f
      repeat' first
      | (with_reducible exact ih0 _ _ _ _ _ _ _ _)
      | (with_reducible exact ih1 _ _ _ _ _ _ _ _ _ _)
      | (with_reducible exact LeO.refl _)
      | (with_reducible exact LeO.none _)
      | (with_reducible refine LeO.ite ?_ ?_)
      | (with_reducible refine LeO.bind ?_ (fun _ => ?_))
      | exact ih0 _ _ _ _ _ _ _ _
      | exact ih1 _ _ _ _ _ _ _ _ _ _
      | exact LeO.none _
      | refine LeO.ite ?_ ?_
      | refine LeO.bind ?_ (fun _ => ?_)
    · intro y0 y1 y2 y3 y4 y5 y6 y7 y8 y9
      unfold lustrumref10_Count.l0
      repeat' first
      | (with_reducible exact ih0 _ _ _ _ _ _ _ _)
      | (with_reducible exact ih1 _ _ _ _ _ _ _ _ _ _)
      | (with_reducible exact LeO.refl _)
      | (with_reducible exact LeO.none _)
      | (with_reducible refine LeO.ite ?_ ?_)
      | (with_reducible refine LeO.bind ?_ (fun _ => ?_))
      | exact ih0 _ _ _ _ _ _ _ _
      | exact ih1 _ _ _ _ _ _ _ _ _ _
      | exact LeO.none _
      | refine LeO.ite ?_ ?_
      | refine LeO.bind ?_ (fun _ => ?_)
theorem lustrumref10_Count.mono : ∀ a0 a1 a2 a3 a4 a5 a6 a7 k, LeO (lustrumref10_Count.f k a0 a1 a2 a3 a4 a5 a6 a7) (lustrumref10_Count.f (k + 1) a0 a1 a2 a3 a4 a5 a6 a7) := by
  intro a0 a1 a2 a3 a4 a5 a6 a7 k
  obtain ⟨ih0, ih1⟩ := lustrumref10_Count.mono_l k
  exact ih0 a0 a1 a2 a3 a4 a5 a6 a7
set_option maxHeartbeats 8000000 in
set_option maxRecDepth 100000 in
theorem lustrumref10_Count.calls (k : Nat) : ∀ (a0_0 : Int) (a0_1 : Int) (a0_2 : ByteArray) (a0_3 : ByteArray) (a0_4 : ByteArray) (a0_5 : Bool) (a0_6 : Bool) (A0_7 : Option Addr) (c0_7 : Nat) (l0_7 : List (S27)) (r : Int) (w : World) (hr0_7 : Kd.C k27 w A0_7 l0_7.length l0_7) (hc0_7 : l0_7.length ≤ c0_7) (h : lustrumref10_Count.f k a0_0 a0_1 a0_2 a0_3 a0_4 a0_5 a0_6 l0_7 = some r),
    Calls Tryz.prog 25 #[.agg #[.int .i64 a0_0, .int .i64 a0_1, .string a0_2, .string a0_3, .string a0_4, .bool a0_5, .bool a0_6, .slice A0_7 l0_7.length c0_7]] w fun e w' => e = .returned (.int .i64 r) ∧ Below w.heap.size w w' := by
  induction k using Nat.strongRecOn with
  | _ k ih =>
  intro a0_0 a0_1 a0_2 a0_3 a0_4 a0_5 a0_6 A0_7 c0_7 l0_7 r w hr0_7 hc0_7 h
  cases k with
  | zero => exact absurd h (by simp [lustrumref10_Count.f])
  | succ k =>
  simp only [lustrumref10_Count.f] at h
  have hu27 := Tryz.underlying27
  have HR0_7 := Aside0.mk hr0_7
  have HC0_7 := Aside0.mk hc0_7
  clear hr0_7 hc0_7
  have HB := Aside0.mk (Below.refl w.heap.size w)
  have H : (lustrumref10_Count.l0 k 1 0 a0_0 a0_1 a0_2 a0_3 a0_4 a0_5 a0_6 l0_7) = some r := h
  clear h
  have H' := Aside0.mk H
  clear H
  go_enter Tryz.func25, Tryz.ntmps25
  go_wp2_with (first | ((with_reducible refine gate_dst (N := 1) rfl ?_); refine box_event ?hg (N := 1) ?hd (cs := #[.int .i64 a0_0, .int .i64 a0_1, .string a0_2, .string a0_3, .string a0_4, .bool a0_5, .bool a0_6, .slice A0_7 l0_7.length c0_7]) (t := 27) ?hr ?_; (case hd => rfl); (case hg => rfl); (case hr => first | (go_simp; done) | (go_simp; rfl)); intro gb201 hg w2 hbox hb; have n0_ := Aside0.mk (below_step (by repeat (first | (with_reducible first | exact HB.out | apply below_alloc | apply pw_below_drewN | apply below_drew1) | exact HB.out)) hb); have n1_ := Aside0.mk (hbox); have n2_ := Aside0.mk ((by rw [hg]; exact (below_size (by repeat (first | (with_reducible first | exact HB.out | apply below_alloc | apply pw_below_drewN | apply below_drew1) | exact HB.out))) : w.heap.size ≤ gb201)); have n3_ := Aside0.mk ((by rw [hg]; exact (below_size (by repeat (first | (with_reducible first | exact HB.out | apply below_alloc | apply pw_below_drewN | apply below_drew1) | exact HB.out))) : w.heap.size ≤ gb201)); clear HB; have HB := n0_; have BK201 := n1_; have GW201 := n2_; have GE201 := n3_; clear n0_ n1_ n2_ n3_; clear hb hbox hg))
  go_loopg [3, 4] k (fun kq v3 v4 w' => ∃ (x3_1 : Int) (x4_1 : Int), v3 = .int .i64 x3_1 ∧ v4 = .int .i64 x4_1 ∧ Aside0 (lustrumref10_Count.l0 kq x3_1 x4_1 a0_0 a0_1 a0_2 a0_3 a0_4 a0_5 a0_6 l0_7 = some r) ∧ Aside0 (kq ≤ k) ∧ Aside0 (w'.heap[gb201]? = some (.cells #[.int .i64 a0_0, .int .i64 a0_1, .string a0_2, .string a0_3, .string a0_4, .bool a0_5, .bool a0_6, (.slice A0_7 l0_7.length c0_7)] 27 (0, 0))) ∧ Aside0 (Below w.heap.size w w'))
  case atStart => exact ⟨(1), (0), (by first | rfl | (simp; done) | (simp [*]; done)), (by first | rfl | (simp; done) | (simp [*]; done)), H', ⟨Nat.le_refl _⟩, ⟨by (with_reducible repeat (first | refine blk_drewN ?_ _ | refine blk_drew ?_ | refine blk_alloc ?_ _)); exact BK201.out⟩, ⟨by repeat (first | (with_reducible first | exact HB.out | apply below_alloc | apply pw_below_drewN | apply below_drew1 | refine below_set ?_ GE201.out) | exact HB.out)⟩⟩
  case round =>
    clear H'
    try clear c2
    try clear p2
    obtain ⟨x3_1, x4_1, rfl, rfl, HA, HK1, BK201, HB⟩ := hrel
    cases gk with
    | zero => exact absurd HA.out (by simp [lustrumref10_Count.l0])
    | succ k1 =>
      have H := HA.out
      clear HA
      simp only [lustrumref10_Count.l0] at H
      by_cases c3 : x4_1 < (l0_7.length : Int)
      · rw [if_pos c3] at H
        have c3b0 : decide (x4_1 < (l0_7.length : Int)) = true := decide_eq_true c3
        clear c3
        by_cases c4 : 0 ≤ x4_1
        · rw [if_pos c4] at H
          have c4b0 : decide (0 ≤ x4_1) = true := decide_eq_true c4
          clear c4
          replace H := Option.bind_eq_some_iff.mp H
          obtain ⟨t203, A50, H⟩ := H
          replace H : (lustrumref10_Count.l0 k1 (wrap64 (x3_1 + t203)) (wrap64 (x4_1 + 1)) a0_0 a0_1 a0_2 a0_3 a0_4 a0_5 a0_6 l0_7) = some r := H
          have A5 := Aside0.mk A50
          clear A50
          have H' := Aside0.mk H
          clear H
          have hcz6_0 : wr.cell? ⟨gb201, 0, none⟩ = some (.int .i64 a0_0) := (blk_cell BK201.out 0).trans rfl
          have hcz6_1 : wr.cell? ⟨gb201, 1, none⟩ = some (.int .i64 a0_1) := (blk_cell BK201.out 1).trans rfl
          have hcz6_2 : wr.cell? ⟨gb201, 2, none⟩ = some (.string a0_2) := (blk_cell BK201.out 2).trans rfl
          have hcz6_3 : wr.cell? ⟨gb201, 3, none⟩ = some (.string a0_3) := (blk_cell BK201.out 3).trans rfl
          have hcz6_4 : wr.cell? ⟨gb201, 4, none⟩ = some (.string a0_4) := (blk_cell BK201.out 4).trans rfl
          have hcz6_5 : wr.cell? ⟨gb201, 5, none⟩ = some (.bool a0_5) := (blk_cell BK201.out 5).trans rfl
          have hcz6_6 : wr.cell? ⟨gb201, 6, none⟩ = some (.bool a0_6) := (blk_cell BK201.out 6).trans rfl
          have hcz6_7 : wr.cell? ⟨gb201, 7, none⟩ = some (.slice A0_7 l0_7.length c0_7) := (blk_cell BK201.out 7).trans rfl
          have hfz6_0 := blk_frozen BK201.out 0
          have hfz6_1 := blk_frozen BK201.out 1
          have hfz6_2 := blk_frozen BK201.out 2
          have hfz6_3 := blk_frozen BK201.out 3
          have hfz6_4 := blk_frozen BK201.out 4
          have hfz6_5 := blk_frozen BK201.out 5
          have hfz6_6 := blk_frozen BK201.out 6
          have hfz6_7 := blk_frozen BK201.out 7
          have p202 : 0 ≤ (x4_1 : Int) := of_decide_eq_true (by first | (with_reducible assumption) | assumption)
          have q202 : x4_1 < (l0_7.length : Int) := of_decide_eq_true (by first | (with_reducible assumption) | assumption)
          obtain ⟨ad202, A202_7, c202_7, e202, hx202_0, hx202_1, hx202_2, hx202_3, hx202_4, hx202_5, hx202_6, hx202_7, hl202_7, hi202_7⟩ := at_T27 HR0_7.out x4_1 p202 q202
          cases e202
          replace hx202_0 := (HB.out.cell (World.block_lt_of_cell? w _ hx202_0)).trans hx202_0
          replace hx202_1 := (HB.out.cell (World.block_lt_of_cell? w _ hx202_1)).trans hx202_1
          replace hx202_2 := (HB.out.cell (World.block_lt_of_cell? w _ hx202_2)).trans hx202_2
          replace hx202_3 := (HB.out.cell (World.block_lt_of_cell? w _ hx202_3)).trans hx202_3
          replace hx202_4 := (HB.out.cell (World.block_lt_of_cell? w _ hx202_4)).trans hx202_4
          replace hx202_5 := (HB.out.cell (World.block_lt_of_cell? w _ hx202_5)).trans hx202_5
          replace hx202_6 := (HB.out.cell (World.block_lt_of_cell? w _ hx202_6)).trans hx202_6
          replace hx202_7 := (HB.out.cell (World.block_lt_of_cell? w _ hx202_7)).trans hx202_7
          have HR202_7 := Aside0.mk hi202_7
          have HC202_7 := Aside0.mk hl202_7
          clear hi202_7 hl202_7
          replace p202 := eq_true p202
          replace q202 := eq_true q202
          go_wp2_with (first | ((with_reducible refine gate_callee (f := 25) rfl ?_); refine goesL_ (some 18) rfl rfl Tryz.func25 (by kernel_rfl) rfl #[.agg #[.int .i64 ((rd_T27 l0_7 x4_1).f0), .int .i64 ((rd_T27 l0_7 x4_1).f1.f0), .string ((rd_T27 l0_7 x4_1).f1.f1), .string ((rd_T27 l0_7 x4_1).f1.f2), .string ((rd_T27 l0_7 x4_1).f1.f3), .bool ((rd_T27 l0_7 x4_1).f2), .bool ((rd_T27 l0_7 x4_1).f3), .slice A202_7 ((rd_T27 l0_7 x4_1).f4).length c202_7]] rfl (by (try simp only [List.map_toArray, List.map_cons, List.map_nil]); first | done | rfl | (simp only [List.length_drop, List.length_take]; rfl)) ?_; (with_reducible refine (ih k1 (by have := HK1.out; omega) ((rd_T27 l0_7 x4_1).f0) ((rd_T27 l0_7 x4_1).f1.f0) ((rd_T27 l0_7 x4_1).f1.f1) ((rd_T27 l0_7 x4_1).f1.f2) ((rd_T27 l0_7 x4_1).f1.f3) ((rd_T27 l0_7 x4_1).f2) ((rd_T27 l0_7 x4_1).f3) _ _ ((rd_T27 l0_7 x4_1).f4) t203 _ ?side1 ?side2 A5.out).mono ?_); (case side1 => repeat (first | exact (Kd.C_below HR202_7.out HB.out) | (with_reducible refine Kd.C_alloc ?_ _) | (with_reducible refine Kd.C_drewN ?_ _) | (with_reducible refine Kd.C_drew ?_))); (case side2 => exact HC202_7.out); rintro e w7 ⟨rfl, hb⟩; refine ⟨_, rfl, ?_⟩; have n0_ := Aside0.mk (blk_below (g := gb201) (o := .cells #[.int .i64 a0_0, .int .i64 a0_1, .string a0_2, .string a0_3, .string a0_4, .bool a0_5, .bool a0_6, .slice (some ad202) l0_7.length c0_7] 27 (0, 0)) (by (with_reducible repeat (first | refine blk_drewN ?_ _ | refine blk_drew ?_ | refine blk_alloc ?_ _)); exact BK201.out) hb); have n1_ := Aside0.mk (below_step (by repeat (first | (with_reducible first | exact HB.out | apply below_alloc | apply pw_below_drewN | apply below_drew1 | refine below_set ?_ GE201.out) | exact HB.out)) hb); clear BK201; clear HB; have BK201 := n0_; have HB := n1_; clear n0_ n1_; (try clear hb); (try clear hb2); (try clear hk); (try clear hi)))
          go_roundg k1
          case measure => have := HK1.out; omega
          case rel => exact ⟨(wrap64 (x3_1 + t203)), (wrap64 (x4_1 + 1)), (by first | rfl | (simp; done) | (simp [*]; done)), (by first | rfl | (simp; done) | (simp [*]; done)), H', ⟨by have := HK1.out; omega⟩, ⟨by (with_reducible repeat (first | refine blk_drewN ?_ _ | refine blk_drew ?_ | refine blk_alloc ?_ _)); exact BK201.out⟩, ⟨by repeat (first | (with_reducible first | exact HB.out | apply below_alloc | apply pw_below_drewN | apply below_drew1 | refine below_set ?_ GE201.out) | exact HB.out)⟩⟩
        · rw [if_neg c4] at H
          exact absurd H (by simp)
      · rw [if_neg c3] at H
        have c3b0 : decide (x4_1 < (l0_7.length : Int)) = false := decide_eq_false c3
        clear c3
        obtain rfl := Option.some.inj H
        have hcz8_0 : wr.cell? ⟨gb201, 0, none⟩ = some (.int .i64 a0_0) := (blk_cell BK201.out 0).trans rfl
        have hcz8_1 : wr.cell? ⟨gb201, 1, none⟩ = some (.int .i64 a0_1) := (blk_cell BK201.out 1).trans rfl
        have hcz8_2 : wr.cell? ⟨gb201, 2, none⟩ = some (.string a0_2) := (blk_cell BK201.out 2).trans rfl
        have hcz8_3 : wr.cell? ⟨gb201, 3, none⟩ = some (.string a0_3) := (blk_cell BK201.out 3).trans rfl
        have hcz8_4 : wr.cell? ⟨gb201, 4, none⟩ = some (.string a0_4) := (blk_cell BK201.out 4).trans rfl
        have hcz8_5 : wr.cell? ⟨gb201, 5, none⟩ = some (.bool a0_5) := (blk_cell BK201.out 5).trans rfl
        have hcz8_6 : wr.cell? ⟨gb201, 6, none⟩ = some (.bool a0_6) := (blk_cell BK201.out 6).trans rfl
        have hcz8_7 : wr.cell? ⟨gb201, 7, none⟩ = some (.slice A0_7 l0_7.length c0_7) := (blk_cell BK201.out 7).trans rfl
        have hfz8_0 := blk_frozen BK201.out 0
        have hfz8_1 := blk_frozen BK201.out 1
        have hfz8_2 := blk_frozen BK201.out 2
        have hfz8_3 := blk_frozen BK201.out 3
        have hfz8_4 := blk_frozen BK201.out 4
        have hfz8_5 := blk_frozen BK201.out 5
        have hfz8_6 := blk_frozen BK201.out 6
        have hfz8_7 := blk_frozen BK201.out 7
        go_wp2
        go_ret
        exact ⟨by first | rfl | (simp [errW_none, errW_some] <;> rfl) | (simp [*, errW_none, errW_some] <;> rfl), by repeat (first | (with_reducible first | exact HB.out | apply below_alloc | apply pw_below_drewN | apply below_drew1 | refine below_set ?_ GE201.out) | exact HB.out)⟩
end Go.Proofs.YtchodmjleceooaaGreat.R
