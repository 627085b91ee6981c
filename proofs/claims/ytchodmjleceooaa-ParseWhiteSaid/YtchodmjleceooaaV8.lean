import Derived.Test.YtchodmjleceooaaV0
import Derived.Test.YtchodmjleceooaaV1
import Derived.Test.YtchodmjleceooaaV2
import Derived.Test.YtchodmjleceooaaV4
import Derived.Test.YtchodmjleceooaaV5
import Derived.Test.YtchodmjleceooaaV6
import Derived.Test.YtchodmjleceooaaV7
namespace Go.Proofs.Ytchodmjleceooaa.V
open Go.RowKit Go.Proofs.YtchodmjleceooaaW.PrintWords Go.Proofs.YtchodmjleceooaaW.PrintLast Go.Proofs.YtchodmjleceooaaW.PrintMore
attribute [local go_sem] max2_int min2_int max_two min_two max_three min_three max_four min_four
set_option linter.unusedVariables false
set_option linter.unusedSimpArgs false
theorem expr_all : ∀ f, ExprAt f := by
  intro f
  induction f using Nat.strongRecOn with
  | _ f ih =>
    refine expr_step ?_
    cases f with
    | zero => intro w g t r n d A c R _ _ hR; cases hR
    | succ f => exact list_step (fun m hm => ih m (by omega))
theorem pMarked_ok : ∀ (l : List S48) (a b : Bool), TokOk l → TokOk (pMarked l a b).2.2 := by
  intro l
  induction l with
  | nil => intro a b h; exact h.elim
  | cons t r ih =>
    intro a b h
    rw [pMarked]
    split
    · rename_i h7
      exact ih true b (h.tail (fun h9 => by rw [h9] at h7; exact absurd h7.1 (by decide)))
    · split
      · rename_i h8
        exact ih a true (h.tail (fun h9 => by rw [h9] at h8; exact absurd h8.1 (by decide)))
      · exact h
theorem pEnd_ok {n n1 : Int} {l l1 : List S48} {x : S27} (h : pEnd n l = .ok (x, l1, n1)) (hl : TokOk l) : TokOk l1 := by
  cases l with
  | nil => simp [pEnd] at h
  | cons t r =>
    rw [pEnd] at h
    split at h
    · rename_i hk
      have h9 : t.f0 ≠ 9 := by omega
      split at h
      · simp at h
      · split at h
        · rw [pWord] at h
          cases hp : pRead t.f2 with
          | none => rw [hp] at h; simp at h
          | some p => rw [hp] at h; simp at h; rw [← h.2.1]; exact pMarked_ok _ _ _ (hl.tail h9)
        · simp at h; rw [← h.2.1]; exact hl.tail h9
    · simp at h
theorem pSpan_ok {n n1 : Int} {l l1 : List S48} {x : S27} (h : pSpan n l = .ok (x, l1, n1)) (hl : TokOk l) : TokOk l1 := by
  rw [pSpan] at h
  split at h
  · simp at h
  · simp at h
  · rename_i a t r n2 he
    have h1 := pEnd_ok he hl
    split at h
    · split at h
      · simp at h
      · simp at h; rw [← h.2.1]; exact h1
    · rename_i hk
      have hk1 : t.f0 = 1 := by simpa using hk
      split at h
      · simp at h
      · split at h
        · simp at h
        · rename_i b l2 n3 he2
          have h2 := pEnd_ok he2 (h1.tail (by omega))
          simp at h
          rw [← h.2.1]; exact h2
theorem pBoth_some (f : Nat) : (∀ (l : List S48) (n d : Int), TokOk l → 2 * l.length < f → ∃ R, pExpr f l n d = some R ∧ ∀ x l1 n1, R = .ok (x, l1, n1) → TokOk l1) ∧
    (∀ (l : List S48) (n d : Int) (acc : List S27), TokOk l → 2 * l.length + 1 < f → ∃ R, pItems f l n d acc = some R ∧ ∀ x l1 n1, R = .ok (x, l1, n1) → TokOk l1) := by
  induction f with
  | zero => exact ⟨fun _ _ _ _ h => absurd h (by omega), fun _ _ _ _ _ h => absurd h (by omega)⟩
  | succ f ih =>
    refine ⟨fun l n d hl hf => ?_, fun l n d acc hl hf => ?_⟩
    · cases l with
      | nil => exact hl.elim
      | cons t r =>
        rw [pExpr]
        split
        · rename_i h4
          split
          · exact ⟨_, rfl, fun _ _ _ h => by simp at h⟩
          · split
            · exact ⟨_, rfl, fun _ _ _ h => by simp at h⟩
            · exact ih.2 r _ _ _ (hl.tail (by omega)) (by simp at hf; omega)
        · exact ⟨_, rfl, fun _ _ _ h => pSpan_ok h hl⟩
    · obtain ⟨R, hR, hk⟩ := ih.1 l n d hl (by omega)
      rw [pItems, hR]
      match R, hR, hk with
      | .error e, hR, hk => exact ⟨_, rfl, fun _ _ _ h => by simp at h⟩
      | .ok (x, [], n1), hR, hk => exact (hk _ _ _ rfl).elim
      | .ok (x, t :: r, n1), hR, hk =>
        have h1 := hk _ _ _ rfl
        have h2 := (pBoth_len f).1 _ _ _ _ _ _ hR
        simp at h2
        simp only []
        split
        · rename_i h6
          exact ih.2 r _ _ _ (h1.tail (by omega)) (by omega)
        · split
          · rename_i h5
            refine ⟨_, rfl, fun _ _ _ h => ?_⟩
            simp at h
            rw [← h.2.1]; exact h1.tail (by omega)
          · exact ⟨_, rfl, fun _ _ _ h => by simp at h⟩
theorem TokOk_snoc (u : S48) (hu : u.f0 = 9) (hs : u.f2.size < 1000000) : ∀ (l : List S48), (∀ t ∈ l, t.f2.size < 1000000) → TokOk (l ++ [u]) := by
  intro l
  induction l with
  | nil => intro _; exact ⟨hu, hs⟩
  | cons t r ih =>
    intro h
    have h2 := ih (fun x hx => h x (by simp [hx]))
    have h1 := h t (by simp)
    cases r with
    | nil => exact ⟨h1, h2⟩
    | cons v s => exact ⟨h1, h2⟩
theorem lexRest_size : ∀ (f p : Nat) (l : List UInt8), l.length ≤ 2000 → ∀ t ∈ (lexRest f p l).1, t.f2.size < 1000000 := by
  intro f
  induction f with
  | zero => intro p l _ t ht; cases l <;> simp [lexRest] at ht
  | succ f ih =>
    intro p l hl t ht
    cases l with
    | nil => simp [lexRest] at ht
    | cons b r =>
      by_cases h1 : 0 < wordLen (b :: r)
      · rw [lexRest_word f p _ h1] at ht
        simp only [List.mem_cons] at ht
        rcases ht with rfl | ht
        · show (List.take (wordLen (b :: r)) (b :: r)).toArray.size < 1000000
          rw [List.size_toArray]
          have := List.length_take_le (wordLen (b :: r)) (b :: r)
          have := List.length_take_le' (wordLen (b :: r)) (b :: r)
          omega
        · exact ih _ _ (by rw [List.length_drop]; omega) t ht
      · have h0 : wordLen (b :: r) = 0 := by omega
        simp at hl
        cases hs : (sgn b).isSome with
        | true =>
          rw [lexRest_sign f p b r h0 hs] at ht
          simp only [List.mem_cons] at ht
          rcases ht with rfl | ht
          · show (0 : Nat) < 1000000; omega
          · exact ih _ _ (by omega) t ht
        | false =>
          by_cases hd : b = 46 ∧ r.head? = some 46
          · rw [lexRest_dots f p b r h0 hs hd] at ht
            simp only [List.mem_cons] at ht
            rcases ht with rfl | ht
            · show (0 : Nat) < 1000000; omega
            · exact ih _ _ (by rw [List.length_drop]; omega) t ht
          · by_cases hb : b = 32
            · rw [lexRest_blank f p b r h0 hs hd hb] at ht
              exact ih _ _ (by omega) t ht
            · rw [lexRest_err f p b r h0 hs hd hb] at ht
              simp at ht
theorem lexAll_ok {s : ByteArray} {l : List S48} {at_ : Int} (h : lexAll s = (l, at_, 0)) : TokOk l := by
  rw [lexAll] at h
  split at h
  · simp at h
  · split at h
    · simp at h
    · simp at h
      rw [← h.1]
      have hl : s.data.toList.length = s.size := Array.length_toList
      exact TokOk_snoc _ rfl (by show (0 : Nat) < 1000000; omega) _ (lexRest_size _ _ _ (by omega))
def pParse (s : ByteArray) : S27 × Int × Int :=
  match lexAll s with
  | (l, at_, e) => if e ≠ 0 then (zNode, at_, e) else match pExpr (2 * l.length + 1) l 0 0 with
    | some (.error (a, e)) => (zNode, a, e)
    | some (.ok (x, t :: _, _)) => if t.f0 = 9 then (x, at_, 0) else (zNode, (pNot t 3).1, (pNot t 3).2)
    | _ => (zNode, 0, 0)
mutual
def nsz : S27 → Nat
  | ⟨_, _, _, _, l⟩ => 1 + nszs l
def nszs : List S27 → Nat
  | [] => 0
  | x :: r => nsz x + nszs r
end
theorem nsz_mk (x : S27) : nsz x = 1 + nszs x.f4 := by cases x; rfl
theorem nszs_split (l : List S27) (i : Nat) (h : i < l.length) : nszs (l.take (i + 1)) = nszs (l.take i) + nsz l[i] := by
  induction l generalizing i with
  | nil => simp at h
  | cons x r ih =>
    cases i with
    | zero => simp [nszs]
    | succ i => simp only [List.take_succ_cons, nszs, List.getElem_cons_succ]; rw [ih i (by simpa using h)]; omega
theorem nszs_take_le (l : List S27) (i : Nat) : nszs (l.take i) ≤ nszs l := by
  induction l generalizing i with
  | nil => simp [nszs]
  | cons x r ih =>
    cases i with
    | zero => simp [nszs]
    | succ i => have := ih i; simp only [List.take_succ_cons, nszs]; omega
def countV (kb fb : Nat) : Value := .func (.func 27) #[] #[.pointer (some ⟨kb, 0, none⟩), .pointer (some ⟨fb, 0, none⟩)]
set_option maxHeartbeats 1000000 in
theorem tree_Count.c1 (d : Nat) : ∀ (x : S27) (A : Option Addr) (c : Nat) (kb fb v : Nat) (w0 w : World), nsz x ≤ d →
    Kd.C k27 w0 A x.f4.length x.f4 → x.f4.length ≤ c → Below w0.heap.size w0 w → w0.heap.size ≤ kb → w0.heap.size ≤ fb → kb ≠ fb →
    w.heap[kb]? = some (.cells #[.int .i64 v] 3 (0, 0)) → w.heap[fb]? = some (.cells #[countV kb fb] 62 (0, 0)) → v + nsz x < 4611686018427387904 →
    Calls Try.prog 27 #[.agg #[.int .i64 x.f0, .int .i64 x.f1.f0, .string x.f1.f1, .string x.f1.f2, .string x.f1.f3, .bool x.f2, .bool x.f3, .slice A x.f4.length c], .pointer (some ⟨kb, 0, none⟩), .pointer (some ⟨fb, 0, none⟩)] w fun e w' =>
      e = .returned (.tuple #[]) ∧ Below w0.heap.size w0 w' ∧ w'.heap[kb]? = some (.cells #[.int .i64 (v + nsz x : Nat)] 3 (0, 0)) ∧ w'.heap[fb]? = some (.cells #[countV kb fb] 62 (0, 0)) := by
  induction d with
  | zero => intro x _ _ _ _ _ _ _ h; rw [nsz_mk] at h; omega
  | succ d ih =>
  intro x A c kb fb v w0 w hd hC hc hB hkb hfb hne hk hf hv
  have IH := Lib.hid ih
  clear ih
  have hc1 : w.cell? ⟨kb, 0, none⟩ = some (.int .i64 v) := blk_cell hk 0
  have hz1 : w.frozen? ⟨kb, 0, none⟩ = false := blk_frozen hk 0
  have hlt := blk_lt hk
  have hmx : x.f4.length ≤ 9223372036854775807 := hC.2.1
  go_enter Try.func27, Try.ntmps27
  go_wp2_with fail
  have HB := Aside0.mk hB
  have HK := Aside0.mk hk
  have HF := Aside0.mk hf
  have HV := Aside0.mk hv
  have hn := nsz_mk x
  have HN := Aside0.mk hn
  clear hB hk hf hc1 hz1 hn hv
  go_loopw [11] (fun i wr => ∃ j : Nat, j ≤ x.f4.length ∧ i = .int .i64 j ∧ Aside0 (Below w0.heap.size w0 wr) ∧ Aside0 (wr.heap[kb]? = some (.cells #[.int .i64 (v + 1 + nszs (x.f4.take j) : Nat)] 3 (0, 0))) ∧ Aside0 (wr.heap[fb]? = some (.cells #[countV kb fb] 62 (0, 0)))) (fun i _ => x.f4.length - (intOf i).toNat)
  case atStart => exact ⟨0, Nat.zero_le _, rfl, ⟨below_alloc' (HB.out.setCell hkb _) (by have := HB.out.size; simpa [World.setCell] using this) _⟩, ⟨blk_alloc (by simpa [nszs] using blk_set HK.out 0 (.int .i64 (v + 1 : Nat))) _⟩, ⟨blk_alloc (blk_far HF.out (by simpa using hne.symm) _) _⟩⟩
  case round =>
    obtain ⟨j, hj, rfl, HB, HK, HF⟩ := hrel
    by_cases hlt : j < x.f4.length
    · obtain ⟨ad, A7, c7, eA, x0, x1, x2, x3, x4, x5, x6, x7, hl7, hi7⟩ := at_T27 hC (j : Int) (by omega) (by omega)
      cases eA
      replace x0 := pw_cell_below HB.out x0
      replace x1 := pw_cell_below HB.out x1
      replace x2 := pw_cell_below HB.out x2
      replace x3 := pw_cell_below HB.out x3
      replace x4 := pw_cell_below HB.out x4
      replace x5 := pw_cell_below HB.out x5
      replace x6 := pw_cell_below HB.out x6
      replace x7 := pw_cell_below HB.out x7
      simp only [Int.toNat_natCast] at x0 x1 x2 x3 x4 x5 x6 x7
      have hcf : wr.cell? ⟨fb, 0, none⟩ = some (.func (.func 27) #[] #[.pointer (some ⟨kb, 0, none⟩), .pointer (some ⟨fb, 0, none⟩)]) := blk_cell HF.out 0
      have hl7' := Aside0.mk hl7
      have hi7' := Aside0.mk hi7
      clear hl7 hi7
      have hnx := nszs_split x.f4 j hlt
      have hnt := nszs_take_le x.f4 (j + 1)
      have er : rd_T27 x.f4 (j : Int) = x.f4[j] := by simp [rd_T27, hlt]
      have H1 : Aside0 (nsz (rd_T27 x.f4 (j : Int)) ≤ d) := ⟨by rw [er]; have := HN.out; omega⟩
      have H2 : Aside0 (v + 1 + nszs (x.f4.take j) + nsz (rd_T27 x.f4 (j : Int)) < 4611686018427387904) := ⟨by rw [er]; have := HN.out; have := HV.out; omega⟩
      have H3 : Aside0 (v + 1 + nszs (x.f4.take j) + nsz (rd_T27 x.f4 (j : Int)) = v + 1 + nszs (x.f4.take (j + 1))) := ⟨by rw [er]; omega⟩
      clear hnx hnt er
      have hltf := blk_lt HF.out
      have hltk := blk_lt HK.out
      go_wp2_with (go_at_call 27; refine (IH.out (rd_T27 x.f4 (j : Int)) A7 c7 kb fb (v + 1 + nszs (x.f4.take j)) w0 _ H1.out hi7'.out hl7'.out ?c1 hkb hfb hne ?c2 ?c3 H2.out).mono ?_; (case c1 => exact below_alloc' HB.out HB.out.size _); (case c2 => exact blk_alloc HK.out _); (case c3 => exact blk_alloc HF.out _); rintro e w7 ⟨rfl, hb7, hk7, hf7⟩; rw [H3.out] at hk7; have HB7 := Aside0.mk hb7; have HK7 := Aside0.mk hk7; have HF7 := Aside0.mk hf7; clear hb7 hk7 hf7)
      go_roundw
      case rel => exact ⟨j + 1, by omega, by go_num, HB7, HK7, HF7⟩
      case measure => simp [intOf]; omega
    · go_wp2
      have hje : j = x.f4.length := by omega
      subst hje
      go_end0
      exact ⟨rfl, HB.out, by rw [HN.out, HK.out, List.take_length]; congr 6; omega, HF.out⟩
def tree_Count.f (a0_0 : Int) (a0_1 : Int) (a0_2 : ByteArray) (a0_3 : ByteArray) (a0_4 : ByteArray) (a0_5 : Bool) (a0_6 : Bool) (l0_7 : List (S27)) : Option (Int) := if 1 + nszs l0_7 < 4611686018427387904 then some (1 + nszs l0_7 : Nat) else none
theorem tree_Count.calls (a0_0 : Int) (a0_1 : Int) (a0_2 : ByteArray) (a0_3 : ByteArray) (a0_4 : ByteArray) (a0_5 : Bool) (a0_6 : Bool) (A0_7 : Option Addr) (c0_7 : Nat) (l0_7 : List (S27)) (r : Int) (w : World) (hr0_7 : Kd.C k27 w A0_7 l0_7.length l0_7) (hc0_7 : l0_7.length ≤ c0_7) (h : tree_Count.f a0_0 a0_1 a0_2 a0_3 a0_4 a0_5 a0_6 l0_7 = some r) :
    Calls Try.prog 17 #[.agg #[.int .i64 a0_0, .int .i64 a0_1, .string a0_2, .string a0_3, .string a0_4, .bool a0_5, .bool a0_6, .slice A0_7 l0_7.length c0_7]] w fun e w' => e = .returned (.int .i64 r) ∧ Below w.heap.size w w' := by
  have hs : 1 + nszs l0_7 < 4611686018427387904 := by
    rw [tree_Count.f] at h; split at h
    · assumption
    · cases h
  obtain rfl : ((1 + nszs l0_7 : Nat) : Int) = r := by rw [tree_Count.f, if_pos hs] at h; exact Option.some.inj h
  clear h
  have HS : Aside0 (0 + nsz ⟨a0_0, ⟨a0_1, a0_2, a0_3, a0_4⟩, a0_5, a0_6, l0_7⟩ < 4611686018427387904) := ⟨by simpa [nsz] using hs⟩
  clear hs
  go_enter Try.func17, Try.ntmps17
  go_wp2_with (go_at_call 27; refine (tree_Count.c1 _ ⟨a0_0, ⟨a0_1, a0_2, a0_3, a0_4⟩, a0_5, a0_6, l0_7⟩ A0_7 c0_7 (w.heap.size + 1) (w.heap.size + 1 + 1) 0 w _ (Nat.le_refl _) hr0_7 hc0_7 ?c1 (by omega) (by omega) (by omega) ?c2 ?c3 HS.out).mono ?_; (case c1 => exact below_alloc (below_alloc (below_alloc (Below.refl _ _) _) _) _); (case c2 => exact blk_alloc (blk_new1 _ _ _) _); (case c3 => exact blk_new2 _ _ _ _); rintro e w7 ⟨rfl, hb7, hk7, hf7⟩; have hck := blk_cell hk7 0; have HB7 := Aside0.mk hb7; clear hb7 hk7 hf7)
  go_ret
  exact ⟨by simp [nsz], HB7.out⟩
mutual
def ndp : S27 → Nat
  | ⟨k, _, _, _, l⟩ => (if k = 2 then 1 else 0) + ndps l
def ndps : List S27 → Nat
  | [] => 0
  | x :: r => max (ndp x) (ndps r)
end
theorem ndp_mk (x : S27) : ndp x = (if x.f0 = 2 then 1 else 0) + ndps x.f4 := by cases x; rfl
theorem ndps_split (l : List S27) (i : Nat) (h : i < l.length) : ndps (l.take (i + 1)) = max (ndps (l.take i)) (ndp l[i]) := by
  induction l generalizing i with
  | nil => simp at h
  | cons x r ih =>
    cases i with
    | zero => simp [ndps]
    | succ i => simp only [List.take_succ_cons, ndps, List.getElem_cons_succ]; rw [ih i (by simpa using h)]; omega
theorem ndps_take_le (l : List S27) (i : Nat) : ndps (l.take i) ≤ ndps l := by
  induction l generalizing i with
  | nil => simp [ndps]
  | cons x r ih =>
    cases i with
    | zero => simp [ndps]
    | succ i => have := ih i; simp only [List.take_succ_cons, ndps]; omega
def deepV (kb fb : Nat) : Value := .func (.func 28) #[] #[.pointer (some ⟨kb, 0, none⟩), .pointer (some ⟨fb, 0, none⟩)]
set_option maxHeartbeats 4000000 in
theorem tree_Deep.c1 (d : Nat) : ∀ (x : S27) (i : Int) (n : Nat) (A : Option Addr) (c : Nat) (kb fb v : Nat) (w0 w : World), nsz x ≤ d → i = n →
    Kd.C k27 w0 A x.f4.length x.f4 → x.f4.length ≤ c → Below w0.heap.size w0 w → w0.heap.size ≤ kb → w0.heap.size ≤ fb → kb ≠ fb →
    w.heap[kb]? = some (.cells #[.int .i64 v] 3 (0, 0)) → w.heap[fb]? = some (.cells #[deepV kb fb] 63 (0, 0)) → v < 4611686018427387904 → n + ndp x < 4611686018427387904 →
    Calls Try.prog 28 #[.agg #[.int .i64 x.f0, .int .i64 x.f1.f0, .string x.f1.f1, .string x.f1.f2, .string x.f1.f3, .bool x.f2, .bool x.f3, .slice A x.f4.length c], .int .i64 i, .pointer (some ⟨kb, 0, none⟩), .pointer (some ⟨fb, 0, none⟩)] w fun e w' =>
      e = .returned (.tuple #[]) ∧ Below w0.heap.size w0 w' ∧ w'.heap[kb]? = some (.cells #[.int .i64 (max v (n + ndp x) : Nat)] 3 (0, 0)) ∧ w'.heap[fb]? = some (.cells #[deepV kb fb] 63 (0, 0)) := by
  induction d with
  | zero => intro x _ _ _ _ _ _ _ _ _ h; rw [nsz_mk] at h; omega
  | succ d ih =>
  intro x i n A c kb fb v w0 w hd hin hC hc hB hkb hfb hne hk hf hv hi
  have IH := Lib.hid ih
  clear ih
  have hc1 : w.cell? ⟨kb, 0, none⟩ = some (.int .i64 v) := blk_cell hk 0
  have hz1 : w.frozen? ⟨kb, 0, none⟩ = false := blk_frozen hk 0
  have hltk := blk_lt hk
  have hmx : x.f4.length ≤ 9223372036854775807 := hC.2.1
  have hi0 : 0 ≤ i := by omega
  have hi1 : i ≤ 4611686018427387904 := by omega
  obtain ⟨t, ht, ht1, hkt⟩ : ∃ t : Nat, ndp x = t + ndps x.f4 ∧ t ≤ 1 ∧ (((x.f0 == 2) = true ∧ t = 1) ∨ ((x.f0 == 2) = false ∧ t = 0)) := by
    rw [ndp_mk]; split <;> rename_i h <;> exact ⟨_, rfl, by omega, by simp [h]⟩
  have HT := Aside0.mk ht
  have HI := Aside0.mk hi
  have HIN := Aside0.mk hin
  have HB := Aside0.mk hB
  have HK := Aside0.mk hk
  have HF := Aside0.mk hf
  clear ht hi hin hB hk hf
  have hns := nsz_mk x
  have HN := Aside0.mk hns
  clear hns
  rcases hkt with ⟨hk2, et⟩ | ⟨hk2, et⟩
  all_goals
    have ET := Aside0.mk et
    clear et
    go_enter Try.func28, Try.ntmps28
    go_wp2_with fail
  all_goals
    clear hc1 hz1
    go_loopw [19] (fun s wr => ∃ j : Nat, j ≤ x.f4.length ∧ s = .int .i64 j ∧ Aside0 (Below w0.heap.size w0 wr) ∧ Aside0 (wr.heap[kb]? = some (.cells #[.int .i64 (max v (n + t + ndps (x.f4.take j)) : Nat)] 3 (0, 0))) ∧ Aside0 (wr.heap[fb]? = some (.cells #[deepV kb fb] 63 (0, 0)))) (fun s _ => x.f4.length - (intOf s).toNat)
    case atStart =>
      refine ⟨0, Nat.zero_le _, rfl, ⟨below_alloc' (HB.out.setCell hkb _) (by have := HB.out.size; simpa [World.setCell] using this) _⟩, ⟨blk_alloc ?_ _⟩, ⟨blk_alloc (blk_far HF.out (by simpa using hne.symm) _) _⟩⟩
      rw [blk_set HK.out]; have := HIN.out; have := ET.out; simp [ndps]; omega
    case round =>
      obtain ⟨j, hj, rfl, HB, HK, HF⟩ := hrel
      by_cases hlt : j < x.f4.length
      · obtain ⟨ad, A7, c7, eA, x0, x1, x2, x3, x4, x5, x6, x7, hl7, hi7⟩ := at_T27 hC (j : Int) (by omega) (by omega)
        cases eA
        replace x0 := pw_cell_below HB.out x0
        replace x1 := pw_cell_below HB.out x1
        replace x2 := pw_cell_below HB.out x2
        replace x3 := pw_cell_below HB.out x3
        replace x4 := pw_cell_below HB.out x4
        replace x5 := pw_cell_below HB.out x5
        replace x6 := pw_cell_below HB.out x6
        replace x7 := pw_cell_below HB.out x7
        simp only [Int.toNat_natCast] at x0 x1 x2 x3 x4 x5 x6 x7
        have hcf : wr.cell? ⟨fb, 0, none⟩ = some (.func (.func 28) #[] #[.pointer (some ⟨kb, 0, none⟩), .pointer (some ⟨fb, 0, none⟩)]) := blk_cell HF.out 0
        have hl7' := Aside0.mk hl7
        have hi7' := Aside0.mk hi7
        clear hl7 hi7
        have hnx := nszs_split x.f4 j hlt
        have hnt := nszs_take_le x.f4 (j + 1)
        have hdx := ndps_split x.f4 j hlt
        have hdt := ndps_take_le x.f4 (j + 1)
        have er : rd_T27 x.f4 (j : Int) = x.f4[j] := by simp [rd_T27, hlt]
        have H1 : Aside0 (nsz (rd_T27 x.f4 (j : Int)) ≤ d) := ⟨by rw [er]; have := HN.out; omega⟩
        have H2 : Aside0 (n + t + ndp (rd_T27 x.f4 (j : Int)) < 4611686018427387904) := ⟨by rw [er]; have := HT.out; have := HI.out; omega⟩
        have H4 : Aside0 (max v (n + t + ndps (x.f4.take j)) < 4611686018427387904) := ⟨by have := HT.out; have := HI.out; omega⟩
        have H3 : Aside0 (max (max v (n + t + ndps (x.f4.take j))) (n + t + ndp (rd_T27 x.f4 (j : Int))) = max v (n + t + ndps (x.f4.take (j + 1)))) := ⟨by rw [er]; omega⟩
        clear hnx hnt er hdx hdt
        have hltf := blk_lt HF.out
        have hltk := blk_lt HK.out
        go_wp2_with (go_at_call 28; refine (IH.out (rd_T27 x.f4 (j : Int)) _ (n + t) A7 c7 kb fb (max v (n + t + ndps (x.f4.take j))) w0 _ H1.out ?c0 hi7'.out hl7'.out ?c1 hkb hfb hne ?c2 ?c3 H4.out H2.out).mono ?_; (case c0 => have := HIN.out; have := ET.out; omega); (case c1 => exact below_alloc' HB.out HB.out.size _); (case c2 => exact blk_alloc HK.out _); (case c3 => exact blk_alloc HF.out _); rintro e w7 ⟨rfl, hb7, hk7, hf7⟩; rw [H3.out] at hk7; have HB7 := Aside0.mk hb7; have HK7 := Aside0.mk hk7; have HF7 := Aside0.mk hf7; clear hb7 hk7 hf7)
        go_roundw
        case rel => exact ⟨j + 1, by omega, by go_num, HB7, HK7, HF7⟩
        case measure => simp [intOf]; omega
      · go_wp2
        have hje : j = x.f4.length := by omega
        subst hje
        go_end0
        exact ⟨rfl, HB.out, by rw [HK.out, List.take_length, HT.out, Nat.add_assoc], HF.out⟩
def tree_Deep.f (a0_0 : Int) (a0_1 : Int) (a0_2 : ByteArray) (a0_3 : ByteArray) (a0_4 : ByteArray) (a0_5 : Bool) (a0_6 : Bool) (l0_7 : List (S27)) : Option (Int) := if ndp ⟨a0_0, ⟨a0_1, a0_2, a0_3, a0_4⟩, a0_5, a0_6, l0_7⟩ < 4611686018427387904 then some (ndp ⟨a0_0, ⟨a0_1, a0_2, a0_3, a0_4⟩, a0_5, a0_6, l0_7⟩ : Nat) else none
theorem tree_Deep.calls (a0_0 : Int) (a0_1 : Int) (a0_2 : ByteArray) (a0_3 : ByteArray) (a0_4 : ByteArray) (a0_5 : Bool) (a0_6 : Bool) (A0_7 : Option Addr) (c0_7 : Nat) (l0_7 : List (S27)) (r : Int) (w : World) (hr0_7 : Kd.C k27 w A0_7 l0_7.length l0_7) (hc0_7 : l0_7.length ≤ c0_7) (h : tree_Deep.f a0_0 a0_1 a0_2 a0_3 a0_4 a0_5 a0_6 l0_7 = some r) :
    Calls Try.prog 18 #[.agg #[.int .i64 a0_0, .int .i64 a0_1, .string a0_2, .string a0_3, .string a0_4, .bool a0_5, .bool a0_6, .slice A0_7 l0_7.length c0_7]] w fun e w' => e = .returned (.int .i64 r) ∧ Below w.heap.size w w' := by
  have hs : ndp ⟨a0_0, ⟨a0_1, a0_2, a0_3, a0_4⟩, a0_5, a0_6, l0_7⟩ < 4611686018427387904 := by
    rw [tree_Deep.f] at h; split at h
    · assumption
    · cases h
  obtain rfl : ((ndp ⟨a0_0, ⟨a0_1, a0_2, a0_3, a0_4⟩, a0_5, a0_6, l0_7⟩ : Nat) : Int) = r := by rw [tree_Deep.f, if_pos hs] at h; exact Option.some.inj h
  clear h
  have HS : Aside0 (0 + ndp ⟨a0_0, ⟨a0_1, a0_2, a0_3, a0_4⟩, a0_5, a0_6, l0_7⟩ < 4611686018427387904) := ⟨by simpa using hs⟩
  clear hs
  go_enter Try.func18, Try.ntmps18
  go_wp2_with (go_at_call 28; refine (tree_Deep.c1 _ ⟨a0_0, ⟨a0_1, a0_2, a0_3, a0_4⟩, a0_5, a0_6, l0_7⟩ 0 0 A0_7 c0_7 (w.heap.size + 1) (w.heap.size + 1 + 1) 0 w _ (Nat.le_refl _) rfl hr0_7 hc0_7 ?c1 (by omega) (by omega) (by omega) ?c2 ?c3 (by omega) HS.out).mono ?_; (case c1 => exact below_alloc (below_alloc (below_alloc (Below.refl _ _) _) _) _); (case c2 => exact blk_alloc (blk_new1 _ _ _) _); (case c3 => exact blk_new2 _ _ _ _); rintro e w7 ⟨rfl, hb7, hk7, hf7⟩; have hck := blk_cell hk7 0; have HB7 := Aside0.mk hb7; clear hb7 hk7 hf7)
  go_ret
  exact ⟨by simp, HB7.out⟩
def nodeV (x : S27) (A : Option Addr) (c : Nat) : Value := .agg #[.int .i64 x.f0, .int .i64 x.f1.f0, .string x.f1.f1, .string x.f1.f2, .string x.f1.f3, .bool x.f2, .bool x.f3, .slice A x.f4.length c]
def RightAt (d : Nat) : Prop := ∀ (x : S27) (A : Option Addr) (c : Nat) (w : World), nsz x ≤ d → Kd.C k27 w A x.f4.length x.f4 → x.f4.length ≤ c →
  Calls Try.prog 19 #[.agg #[.int .i64 x.f0, .int .i64 x.f1.f0, .string x.f1.f1, .string x.f1.f2, .string x.f1.f3, .bool x.f2, .bool x.f3, .slice A x.f4.length c]] w fun e w' => e = .returned (.bool (nRight x)) ∧ Below w.heap.size w w'
theorem right_lit {d : Nat} (H : RightAt d) (x : S27) (A : Option Addr) (c : Nat) (w : World) (hd : nsz x ≤ d) (hC : Kd.C k27 w A x.f4.length x.f4) (hc : x.f4.length ≤ c) :
    Calls Try.prog 32 #[.agg #[.int .i64 x.f0, .int .i64 x.f1.f0, .string x.f1.f1, .string x.f1.f2, .string x.f1.f3, .bool x.f2, .bool x.f3, .slice A x.f4.length c]] w fun e w' => e = .returned (.bool (!nRight x)) ∧ Below w.heap.size w w' := by
  have HC := Aside0.mk hC
  have HCC := Aside0.mk hc
  clear hC hc
  go_enter Try.func32, Try.ntmps32
  go_wp2_with (go_at_call 19; refine (H x A c _ hd ?h1 HCC.out).mono ?_; (case h1 => exact Kd.C_below HC.out (below_alloc (Below.refl _ _) _)); rintro e w1 ⟨rfl, hb⟩; have HB := Aside0.mk (below_step (below_alloc (Below.refl _ _) _) hb); clear hb)
  go_ret
  exact ⟨rfl, HB.out⟩
def idxBad : List S27 → Nat → Int
  | [], _ => -1
  | x :: r, j => if nRight x then idxBad r (j + 1) else j
theorem idxBad_all (l : List S27) (j : Nat) : decide (idxBad l j ≥ 0) = !(l.all nRight) := by
  induction l generalizing j with
  | nil => rfl
  | cons x r ih =>
    rw [idxBad, List.all_cons]
    cases nRight x
    · simp
    · simpa using ih (j + 1)
theorem nsz_mem (l : List S27) (j : Nat) (h : j < l.length) : nsz l[j] ≤ nszs l := by
  have h1 := nszs_split l j h
  have h2 := nszs_take_le l (j + 1)
  omega
set_option maxRecDepth 100000 in
set_option maxHeartbeats 2000000 in
theorem right_index {d : Nat} (H : RightAt d) (l : List S27) (A : Option Addr) (c : Nat) (w : World) (hd : nszs l ≤ d) (hC : Kd.C k27 w A l.length l) (hc : l.length ≤ c) :
    Calls Try.prog 44 #[.slice A l.length c, .func (.func 32) #[] #[]] w fun e w' => e = .returned (.int .i64 (idxBad l 0)) ∧ Below w.heap.size w w' := by
  have hmx : l.length ≤ 9223372036854775807 := hC.2.1
  have HC := Aside0.mk hC
  have HD := Aside0.mk hd
  clear hC hd
  go_enter Try.func44, Try.ntmps44
  go_wp2_with fail
  go_loopw [8] (fun v8 wr => ∃ j : Nat, j ≤ l.length ∧ v8 = .int .i64 j ∧ Aside0 (idxBad (l.drop j) j = idxBad l 0) ∧ Aside0 (Below w.heap.size w wr)) (fun v8 _ => l.length - (intOf v8).toNat)
  case atStart => exact ⟨0, by omega, rfl, ⟨rfl⟩, ⟨Below.refl _ _⟩⟩
  case round =>
    as_aux_lemma =>
    obtain ⟨j, hj, rfl, HE, HB⟩ := hrel
    by_cases hlt : j < l.length
    · obtain ⟨ad, A7, c7, eA, x0, x1, x2, x3, x4, x5, x6, x7, hl7, hi7⟩ := at_T27 HC.out (j : Int) (by omega) (by omega)
      cases eA
      replace x0 := pw_cell_below HB.out x0
      replace x1 := pw_cell_below HB.out x1
      replace x2 := pw_cell_below HB.out x2
      replace x3 := pw_cell_below HB.out x3
      replace x4 := pw_cell_below HB.out x4
      replace x5 := pw_cell_below HB.out x5
      replace x6 := pw_cell_below HB.out x6
      replace x7 := pw_cell_below HB.out x7
      simp only [Int.toNat_natCast] at x0 x1 x2 x3 x4 x5 x6 x7
      have er : rd_T27 l (j : Int) = l[j] := by simp [rd_T27, hlt]
      have HX : Aside0 (idxBad l 0 = if nRight (rd_T27 l (j : Int)) then idxBad (l.drop (j + 1)) (j + 1) else (j : Int)) := ⟨by rw [← HE.out, List.drop_eq_getElem_cons hlt, idxBad, er]⟩
      have HN : Aside0 (nsz (rd_T27 l (j : Int)) ≤ d) := ⟨by rw [er]; exact Nat.le_trans (nsz_mem l j hlt) HD.out⟩
      clear er
      have HL7 := Aside0.mk hl7
      have HI7 := Aside0.mk hi7
      clear hl7 hi7
      generalize rd_T27 l (j : Int) = q at *
      cases hq : nRight q
      all_goals
        have HQ := Aside0.mk hq
        clear hq
        go_wp2_with (go_at_call 32; refine (right_lit H q A7 c7 _ HN.out (Kd.C_below HI7.out HB.out) HL7.out).mono ?_; rw [HQ.out]; rintro e w1 ⟨rfl, hb⟩; have HB1 := Aside0.mk (below_step HB.out hb); clear hb)
      · go_ret
        exact ⟨by rw [HX.out, HQ.out]; rfl, HB1.out⟩
      · go_roundw
        case rel => exact ⟨j + 1, by omega, by go_num, ⟨by rw [HX.out, HQ.out]; rfl⟩, HB1⟩
        case measure => simp [intOf]; omega
    · go_wp2
      go_ret
      have hje : j = l.length := by omega
      refine ⟨?_, HB.out⟩
      have h := HE.out
      rw [hje, List.drop_length] at h
      rw [← h]; rfl
theorem right_contains {d : Nat} (H : RightAt d) (l : List S27) (A : Option Addr) (c : Nat) (w : World) (hd : nszs l ≤ d) (hC : Kd.C k27 w A l.length l) (hc : l.length ≤ c) :
    Calls Try.prog 31 #[.slice A l.length c, .func (.func 32) #[] #[]] w fun e w' => e = .returned (.bool (!(l.all nRight))) ∧ Below w.heap.size w w' := by
  have hi := idxBad_all l 0
  have HI := Aside0.mk hi
  clear hi
  go_enter Try.func31, Try.ntmps31
  go_wp2_with (go_at_call 44; refine (right_index H l A c _ hd hC hc).mono ?_; rintro e w1 ⟨rfl, hb⟩; have HB := Aside0.mk hb; clear hb)
  go_ret
  exact ⟨ebool HI.out, HB.out⟩
set_option maxRecDepth 100000 in
set_option maxHeartbeats 1000000 in
theorem right_step {d : Nat} (H : RightAt d) : RightAt (d + 1) := by
  intro x A c w hd hC hc
  have hns := nsz_mk x
  have HD : Aside0 (nszs x.f4 ≤ d) := ⟨by omega⟩
  have HM : Aside0 _ := ⟨nRight_mk x⟩
  have HC := Aside0.mk hC
  have HCC := Aside0.mk hc
  have hmx : x.f4.length ≤ 9223372036854775807 := hC.2.1
  clear hd hns hC hc
  by_cases k0 : x.f0 = 0
  · have HK := Aside0.mk k0
    have hk0 : (x.f0 == 0) = true := beq_iff_eq.mpr k0
    clear k0
    go_enter Try.func19, Try.ntmps19
    go_wp2_with (go_at_call 29; refine (tree_End.calls 1 _ _ _ _ _ _ _ A c x.f4 (nEnd x) _ ?h1 HCC.out (end_total 0 x)).mono ?_; (case h1 => exact Kd.C_below HC.out (below_alloc (Below.refl _ _) _)); rintro e w1 ⟨rfl, hb⟩; have HB := Aside0.mk (below_step (below_alloc (Below.refl _ _) _) hb); clear hb)
    go_ret
    exact ⟨ebool (by rw [HM.out, if_pos HK.out]), HB.out⟩
  have hk0 : (x.f0 == 0) = false := beq_eq_false_iff_ne.mpr k0
  have HM1 : Aside0 _ := ⟨(HM.out).trans (if_neg k0)⟩
  clear k0 HM
  have HBARE : ∀ W : World, Below w.heap.size w W → Calls Try.prog 30 #[.agg #[.int .i64 x.f0, .int .i64 x.f1.f0, .string x.f1.f1, .string x.f1.f2, .string x.f1.f3, .bool x.f2, .bool x.f3, .slice A x.f4.length c]] W fun e w' => e = .returned (.bool (nBare x.f1.f0 x.f1.f1 x.f1.f2 x.f1.f3 x.f2 x.f3)) ∧ Below W.heap.size W w' :=
    fun W hW => tree_bare.calls _ _ _ _ _ _ _ A c x.f4 _ _ (Kd.C_below HC.out hW) HCC.out rfl
  have HBR := Aside0.mk HBARE
  clear HBARE
  by_cases k1 : x.f0 = 1
  · have HM2 : Aside0 _ := ⟨(HM1.out).trans (if_pos k1)⟩
    have hk1 : (x.f0 == 1) = true := beq_iff_eq.mpr k1
    clear k1 HM1
    cases hb : nBare x.f1.f0 x.f1.f1 x.f1.f2 x.f1.f3 x.f2 x.f3
    · have HBB := Aside0.mk hb
      clear hb
      go_enter Try.func19, Try.ntmps19
      go_wp2_with (go_at_call 30; refine (HBR.out _ (below_alloc (Below.refl _ _) _)).mono ?_; rw [HBB.out]; rintro e w1 ⟨rfl, hb⟩; have HB := Aside0.mk (below_step (below_alloc (Below.refl _ _) _) hb); clear hb)
      go_ret
      exact ⟨ebool (by rw [HM2.out, HBB.out]; rfl), HB.out⟩
    · have HBB := Aside0.mk hb
      clear hb
      by_cases h2 : x.f4.length = 2
      · obtain ⟨y, z, hyz⟩ : ∃ y z, x.f4 = [y, z] := by
          match x.f4, h2 with
          | [y, z], _ => exact ⟨y, z, rfl⟩
        have hl2 : ((x.f4.length : Int) == 2) = true := by rw [beq_iff_eq]; omega
        obtain ⟨ad, A7, c7, eA, x0, x1, x2, x3, x4, x5, x6, x7, hl7, hi7⟩ := at_T27 HC.out 0 (by omega) (by omega)
        obtain ⟨ad', B7, d7, eA', y0, y1, y2, y3, y4, y5, y6, y7, hm7, hj7⟩ := at_T27 HC.out 1 (by omega) (by omega)
        cases eA
        cases eA'
        have ey : rd_T27 x.f4 0 = y := by rw [hyz]; rfl
        have ez : rd_T27 x.f4 1 = z := by rw [hyz]; rfl
        rw [ey] at x0 x1 x2 x3 x4 x5 x6 x7 hl7 hi7
        rw [ez] at y0 y1 y2 y3 y4 y5 y6 y7 hm7 hj7
        have HALL : Aside0 (x.f4.all nEnd = (nEnd y && nEnd z)) := ⟨by rw [hyz]; simp⟩
        have HL7 := Aside0.mk hl7
        have HI7 := Aside0.mk hi7
        have HM7 := Aside0.mk hm7
        have HJ7 := Aside0.mk hj7
        clear ey ez hyz hl7 hi7 hm7 hj7
        simp only [show ((0 : Int).toNat * 8) = 0 from rfl, show ((1 : Int).toNat * 8) = 8 from rfl, show ad.add 0 = ad from by simp [Addr.add], show ad.add 8 = ⟨ad.block, ad.off + 8, none⟩ from by simp [Addr.add]] at x0 x1 x2 x3 x4 x5 x6 x7 y0 y1 y2 y3 y4 y5 y6 y7
        have hlen0 : (0 : Int) < x.f4.length := by omega
        have hlen1 : (1 : Int) < x.f4.length := by omega
        have H2 := Aside0.mk h2
        clear h2
        go_enter Try.func19, Try.ntmps19
        go_wp2_with fail
        refine (HBR.out _ (below_alloc (Below.refl _ _) _)).mono ?_
        rw [HBB.out]
        rintro e w1 ⟨rfl, hb⟩
        have HB := Aside0.mk (below_step (below_alloc (Below.refl _ _) _) hb)
        have hc7 : w1.cell? ⟨w.heap.size, 7, none⟩ = some (.slice (some ad) x.f4.length c) := (blk_cell (blk_below (blk_new w _) hb) 7).trans rfl
        replace x0 := pw_cell_below HB.out x0
        replace x1 := pw_cell_below HB.out x1
        replace x2 := pw_cell_below HB.out x2
        replace x3 := pw_cell_below HB.out x3
        replace x4 := pw_cell_below HB.out x4
        replace x5 := pw_cell_below HB.out x5
        replace x6 := pw_cell_below HB.out x6
        replace x7 := pw_cell_below HB.out x7
        clear hb
        go_wp2_with fail
        refine (tree_End.calls 1 _ _ _ _ _ _ _ A7 c7 y.f4 (nEnd y) _ (Kd.C_below HI7.out HB.out) HL7.out (end_total 0 y)).mono ?_
        cases hy : nEnd y
        · rintro e w2 ⟨rfl, hb⟩
          have HY := Aside0.mk hy
          have HB2 := Aside0.mk (below_step HB.out hb)
          clear hb hy hc7
          go_wp2_with fail
          go_ret
          exact ⟨ebool (by rw [HM2.out, HBB.out, HALL.out, HY.out]; simp), HB2.out⟩
        · rintro e w2 ⟨rfl, hb⟩
          have HY := Aside0.mk hy
          have HB2 := Aside0.mk (below_step HB.out hb)
          have hc7 : w2.cell? ⟨w.heap.size, 7, none⟩ = some (.slice (some ad) x.f4.length c) := pw_cell_below hb hc7
          replace y0 := pw_cell_below HB2.out y0
          replace y1 := pw_cell_below HB2.out y1
          replace y2 := pw_cell_below HB2.out y2
          replace y3 := pw_cell_below HB2.out y3
          replace y4 := pw_cell_below HB2.out y4
          replace y5 := pw_cell_below HB2.out y5
          replace y6 := pw_cell_below HB2.out y6
          replace y7 := pw_cell_below HB2.out y7
          clear hb hy
          go_wp2_with fail
          refine (tree_End.calls 1 _ _ _ _ _ _ _ B7 d7 z.f4 (nEnd z) _ (Kd.C_below HJ7.out HB2.out) HM7.out (end_total 0 z)).mono ?_
          rintro e w3 ⟨rfl, hb⟩
          have HB3 := Aside0.mk (below_step HB2.out hb)
          clear hb hc7
          go_wp2_with fail
          go_ret
          exact ⟨ebool (by rw [HM2.out, HBB.out, HALL.out, HY.out, H2.out]; simp), HB3.out⟩
      · have hl2 : ((x.f4.length : Int) == 2) = false := by rw [beq_eq_false_iff_ne]; omega
        have H2 := Aside0.mk h2
        clear h2
        go_enter Try.func19, Try.ntmps19
        go_wp2_with fail
        refine (HBR.out _ (below_alloc (Below.refl _ _) _)).mono ?_
        rw [HBB.out]
        rintro e w1 ⟨rfl, hb⟩
        have HB := Aside0.mk (below_step (below_alloc (Below.refl _ _) _) hb)
        have hc7 : w1.cell? ⟨w.heap.size, 7, none⟩ = some (.slice A x.f4.length c) := (blk_cell (blk_below (blk_new w _) hb) 7).trans rfl
        clear hb
        go_wp2_with fail
        go_ret
        exact ⟨ebool (by rw [HM2.out, HBB.out, decide_eq_false H2.out]; rfl), HB.out⟩
  have hk1 : (x.f0 == 1) = false := beq_eq_false_iff_ne.mpr k1
  have HM2 : Aside0 _ := ⟨(HM1.out).trans (if_neg k1)⟩
  clear k1 HM1
  by_cases k2 : x.f0 = 2
  · have HM3 : Aside0 _ := ⟨(HM2.out).trans (if_pos k2)⟩
    have hk2 : (x.f0 == 2) = true := beq_iff_eq.mpr k2
    clear k2 HM2
    cases hb : nBare x.f1.f0 x.f1.f1 x.f1.f2 x.f1.f3 x.f2 x.f3
    · have HBB := Aside0.mk hb
      clear hb
      go_enter Try.func19, Try.ntmps19
      go_wp2_with (go_at_call 30; refine (HBR.out _ (below_alloc (Below.refl _ _) _)).mono ?_; rw [HBB.out]; rintro e w1 ⟨rfl, hb⟩; have HB := Aside0.mk (below_step (below_alloc (Below.refl _ _) _) hb); clear hb)
      go_ret
      exact ⟨ebool (by rw [HM3.out, HBB.out]; rfl), HB.out⟩
    · have HBB := Aside0.mk hb
      clear hb
      by_cases h0 : 0 < x.f4.length
      · go_enter Try.func19, Try.ntmps19
        go_wp2_with fail
        refine (HBR.out _ (below_alloc (Below.refl _ _) _)).mono ?_
        rw [HBB.out]
        rintro e w1 ⟨rfl, hb⟩
        have HB := Aside0.mk (below_step (below_alloc (Below.refl _ _) _) hb)
        have hc7 : w1.cell? ⟨w.heap.size, 7, none⟩ = some (.slice A x.f4.length c) := (blk_cell (blk_below (blk_new w _) hb) 7).trans rfl
        clear hb
        go_wp2_with fail
        refine (right_contains H x.f4 A c _ HD.out (Kd.C_below HC.out HB.out) HCC.out).mono ?_
        rintro e w2 ⟨rfl, hb⟩
        have HB2 := Aside0.mk (below_step HB.out hb)
        clear hb hc7
        go_wp2_with fail
        go_ret
        exact ⟨ebool (by rw [HM3.out, HBB.out, decide_eq_true h0]; simp), HB2.out⟩
      · go_enter Try.func19, Try.ntmps19
        go_wp2_with fail
        refine (HBR.out _ (below_alloc (Below.refl _ _) _)).mono ?_
        rw [HBB.out]
        rintro e w1 ⟨rfl, hb⟩
        have HB := Aside0.mk (below_step (below_alloc (Below.refl _ _) _) hb)
        have hc7 : w1.cell? ⟨w.heap.size, 7, none⟩ = some (.slice A x.f4.length c) := (blk_cell (blk_below (blk_new w _) hb) 7).trans rfl
        clear hb
        go_wp2_with fail
        go_ret
        exact ⟨ebool (by rw [HM3.out, HBB.out, decide_eq_false h0]; rfl), HB.out⟩
  · have HM3 : Aside0 _ := ⟨(HM2.out).trans (if_neg k2)⟩
    have hk2 : (x.f0 == 2) = false := beq_eq_false_iff_ne.mpr k2
    clear k2 HM2
    go_enter Try.func19, Try.ntmps19
    go_wp2_with fail
    go_ret
    exact ⟨ebool HM3.out.symm, below_alloc (Below.refl _ _) _⟩
theorem right_any (d : Nat) : RightAt d := by
  induction d with
  | zero => intro x _ _ _ h; rw [nsz_mk] at h; omega
  | succ d ih => exact right_step ih
def tree_right.f (a0_0 : Int) (a0_1 : Int) (a0_2 : ByteArray) (a0_3 : ByteArray) (a0_4 : ByteArray) (a0_5 : Bool) (a0_6 : Bool) (l0_7 : List (S27)) : Option (Bool) := some (nRight ⟨a0_0, ⟨a0_1, a0_2, a0_3, a0_4⟩, a0_5, a0_6, l0_7⟩)
theorem tree_right.calls (a0_0 : Int) (a0_1 : Int) (a0_2 : ByteArray) (a0_3 : ByteArray) (a0_4 : ByteArray) (a0_5 : Bool) (a0_6 : Bool) (A0_7 : Option Addr) (c0_7 : Nat) (l0_7 : List (S27)) (r : Bool) (w : World) (hr0_7 : Kd.C k27 w A0_7 l0_7.length l0_7) (hc0_7 : l0_7.length ≤ c0_7) (h : tree_right.f a0_0 a0_1 a0_2 a0_3 a0_4 a0_5 a0_6 l0_7 = some r) :
    Calls Try.prog 19 #[.agg #[.int .i64 a0_0, .int .i64 a0_1, .string a0_2, .string a0_3, .string a0_4, .bool a0_5, .bool a0_6, .slice A0_7 l0_7.length c0_7]] w fun e w' => e = .returned (.bool r) ∧ Below w.heap.size w w' := by
  obtain rfl := Option.some.inj h
  exact right_any _ ⟨a0_0, ⟨a0_1, a0_2, a0_3, a0_4⟩, a0_5, a0_6, l0_7⟩ A0_7 c0_7 w (Nat.le_refl _) hr0_7 hc0_7
end Go.Proofs.Ytchodmjleceooaa.V
