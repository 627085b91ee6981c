import Derived.Test.YtchodmjleceooaaV0
import Derived.Test.YtchodmjleceooaaV1
import Derived.Test.YtchodmjleceooaaV7
import Derived.Test.YtchodmjleceooaaV8
import Derived.Test.YtchodmjleceooaaV9
import Derived.Test.YtchodmjleceooaaV12
import Derived.Test.YtchodmjleceooaaV13
namespace Go.Proofs.Ytchodmjleceooaa.V
open Go.RowKit Go.Proofs.YtchodmjleceooaaW.PrintWords Go.Proofs.YtchodmjleceooaaW.PrintLast Go.Proofs.YtchodmjleceooaaW.PrintMore
attribute [local go_sem] max2_int min2_int max_two min_two max_three min_three max_four min_four
set_option linter.unusedVariables false
set_option linter.unusedSimpArgs false
def shwK (t : Int × ByteArray) : List UInt8 :=
  if t.1 = 0 then t.2.data.toList else if t.1 = 1 then [47] else if t.1 = 2 then [46, 46] else if t.1 = 3 then [42] else if t.1 = 4 then [91] else if t.1 = 5 then [93] else if t.1 = 6 then [44] else if t.1 = 7 then [63] else if t.1 = 8 then [126] else []
def apartK (ts : List (Int × ByteArray)) : List UInt8 := ts.flatMap fun t => 32 :: shwK t
theorem sgn_byte {b : UInt8} {k : Int} (h : sgn b = some k) : shwK (k, ⟨#[]⟩) = [b] := by
  have h2 : ∀ n : Fin 256, ∀ k : Fin 9, sgn (UInt8.ofNat n.val) = some (k.val : Int) → shwK ((k.val : Int), ⟨#[]⟩) = [UInt8.ofNat n.val] := by decide +kernel
  have h3 : ∀ n : Fin 256, (match sgn (UInt8.ofNat n.val) with | some k => decide (0 ≤ k ∧ k < 9) | none => true) = true := by decide +kernel
  have h4 := h3 ⟨b.toNat, b.toNat_lt⟩
  have h5 := h2 ⟨b.toNat, b.toNat_lt⟩
  simp only [UInt8.ofNat_toNat, h, decide_eq_true_eq] at h4 h5
  have h6 := h5 ⟨k.toNat, by omega⟩
  simp only [Int.toNat_of_nonneg h4.1] at h6
  exact h6 trivial
theorem sgn_range {b : UInt8} {k : Int} (h : sgn b = some k) : 0 ≤ k ∧ k < 9 := by
  have h3 : ∀ n : Fin 256, (match sgn (UInt8.ofNat n.val) with | some k => decide (0 ≤ k ∧ k < 9) | none => true) = true := by decide +kernel
  have h4 := h3 ⟨b.toNat, b.toNat_lt⟩
  simp only [UInt8.ofNat_toNat, h, decide_eq_true_eq] at h4
  exact h4
theorem apartK_apart (ts : List (Int × ByteArray)) : Apart (apartK ts) := by
  cases ts with
  | nil => trivial
  | cons t r => exact (by decide : lexLet 32 = false)
theorem apart_lex {l : List UInt8} {ts : List (Int × ByteArray)} (h : Lx l ts) : Lx (apartK ts) ts ∧ (apartK ts).length ≤ 2 * l.length ∧ ts.length ≤ l.length := by
  induction h with
  | nil => exact ⟨.nil, by simp [apartK], by simp⟩
  | @word w r ts h0 hw hr h ih =>
    have e : apartK ((0, ⟨w.toArray⟩) :: ts) = 32 :: (w ++ apartK ts) := by simp [apartK, shwK]
    have hl : 0 < w.length := List.length_pos_iff.mpr h0
    rw [e]
    refine ⟨.blank (.word h0 hw (apartK_apart ts) ih.1), ?_, ?_⟩
    · simp only [List.length_cons, List.length_append]; omega
    · simp only [List.length_cons, List.length_append]; omega
  | @sign b k r ts hb hk h ih =>
    have e : apartK ((k, ⟨#[]⟩) :: ts) = 32 :: b :: apartK ts := by rw [apartK, List.flatMap_cons, sgn_byte hk]; rfl
    rw [e]
    refine ⟨.blank (.sign hb hk ih.1), ?_, ?_⟩
    · simp only [List.length_cons]; omega
    · simp only [List.length_cons]; omega
  | @dots r ts h ih =>
    have e : apartK ((2, ⟨#[]⟩) :: ts) = 32 :: 46 :: 46 :: apartK ts := rfl
    rw [e]
    refine ⟨.blank (.dots ih.1), ?_, ?_⟩
    · simp only [List.length_cons]; omega
    · simp only [List.length_cons]; omega
  | blank h ih => exact ⟨ih.1, by simp only [List.length_cons]; omega, by simp only [List.length_cons]; omega⟩
theorem white_same {s c : ByteArray} {l : List S48} {at_ : Int} (h : lexAll s = (l, at_, 0)) (hs : s.size ≤ 400) (hc : c.data.toList = apartK (l.map tk)) : (pParse s).2.2 = (pParse c).2.2 ∧ (pParse s).1 = (pParse c).1 := by
  obtain ⟨l0, ts, rfl, h1, h2, h3, _⟩ := lexAll_of h
  have hsl : s.data.toList.length = s.size := Array.length_toList
  obtain ⟨k1, k2, _⟩ := apart_lex h2
  have e : apartK ((l0 ++ [(⟨9, s.size, ⟨#[]⟩⟩ : S48)]).map tk) = apartK ts ++ [32] := by
    rw [List.map_append, h1, apartK, List.flatMap_append]; rfl
  rw [e] at hc
  have hl : Lx c.data.toList ts := by
    have := k1.append (.blank .nil) (by decide : lexLet 32 = false)
    rw [List.append_nil] at this
    rw [hc]; exact this
  have hcs : c.size ≤ 2000 := by
    have : c.data.toList.length = c.size := Array.length_toList
    rw [← this, hc, List.length_append]; simp only [List.length_cons, List.length_nil]; omega
  obtain ⟨m, g1, g2⟩ := lexAll_go hl hcs
  have hm : (l0 ++ [(⟨9, s.size, ⟨#[]⟩⟩ : S48)]).map tk = (m ++ [(⟨9, c.size, ⟨#[]⟩⟩ : S48)]).map tk := by rw [List.map_append, List.map_append, h1, g2]; rfl
  have hlen : (l0 ++ [(⟨9, s.size, ⟨#[]⟩⟩ : S48)]).length = (m ++ [(⟨9, c.size, ⟨#[]⟩⟩ : S48)]).length := by
    have := congrArg List.length hm; simpa using this
  have hok := lexAll_ok h
  have hok2 := lexAll_ok g1
  rw [pParse, pParse, h, g1]
  simp only []
  rw [if_neg (by simp), if_neg (by simp), ← hlen]
  have hsim := (sim_both (2 * (l0 ++ [(⟨9, s.size, ⟨#[]⟩⟩ : S48)]).length + 1)).1 _ _ 0 0 hm
  generalize pExpr (2 * (l0 ++ [(⟨9, s.size, ⟨#[]⟩⟩ : S48)]).length + 1) (l0 ++ [(⟨9, s.size, ⟨#[]⟩⟩ : S48)]) 0 0 = A at hsim
  generalize pExpr (2 * (l0 ++ [(⟨9, s.size, ⟨#[]⟩⟩ : S48)]).length + 1) (m ++ [(⟨9, c.size, ⟨#[]⟩⟩ : S48)]) 0 0 = B at hsim
  match A, B, hsim with
  | none, none, _ => exact ⟨rfl, rfl⟩
  | some (.error a), some (.error b), hsim => exact ⟨hsim, rfl⟩
  | some (.error a), some (.ok (y, l2, n2)), hsim => exact hsim.elim
  | some (.ok (x, l1, n1)), some (.error b), hsim => exact hsim.elim
  | some (.ok (x, l1, n1)), some (.ok (y, l2, n2)), hsim =>
    obtain ⟨rfl, hr, rfl⟩ := hsim
    cases l1 with
    | nil => obtain rfl := sim_nil hr rfl; exact ⟨rfl, rfl⟩
    | cons t r =>
      obtain ⟨u, q, rfl, q1, q2⟩ := sim_cons hr
      have hk : t.f0 = u.f0 := congrArg Prod.fst q1
      simp only []
      rw [hk]
      by_cases h9 : u.f0 = 9
      · rw [if_pos h9, if_pos h9]; exact ⟨rfl, rfl⟩
      · rw [if_neg h9, if_neg h9]; exact ⟨sim_not q1 3, rfl⟩
theorem Lx.shape {l : List UInt8} {ts : List (Int × ByteArray)} (h : Lx l ts) : ∀ k ∈ ts, 0 ≤ k.1 ∧ k.1 < 9 ∧ k.2.size ≤ l.length := by
  induction h with
  | nil => simp
  | @word w r ts h0 hw hr h ih =>
    intro k hk
    simp only [List.mem_cons] at hk
    rcases hk with rfl | hk
    · refine ⟨by show (0 : Int) ≤ 0; omega, by show (0 : Int) < 9; omega, ?_⟩
      show (⟨w.toArray⟩ : ByteArray).size ≤ _
      rw [← ByteArray.size_data]; simp
    · have := ih k hk
      rw [List.length_append]; omega
  | @sign b k r ts hb hk h ih =>
    intro q hq
    simp only [List.mem_cons] at hq
    rcases hq with rfl | hq
    · have := sgn_range hk
      exact ⟨this.1, this.2, Nat.zero_le _⟩
    · have := ih q hq
      rw [List.length_cons]; omega
  | @dots r ts h ih =>
    intro q hq
    simp only [List.mem_cons] at hq
    rcases hq with rfl | hq
    · exact ⟨by show (0 : Int) ≤ 2; omega, by show (2 : Int) < 9; omega, Nat.zero_le _⟩
    · have := ih q hq
      rw [List.length_cons, List.length_cons]; omega
  | @blank r ts h ih =>
    intro q hq
    have := ih q hq
    rw [List.length_cons]; omega
end Go.Proofs.Ytchodmjleceooaa.V
