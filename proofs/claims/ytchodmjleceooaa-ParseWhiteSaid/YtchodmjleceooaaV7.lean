import Derived.Test.YtchodmjleceooaaV0
import Derived.Test.YtchodmjleceooaaV1
import Derived.Test.YtchodmjleceooaaV2
import Derived.Test.YtchodmjleceooaaV5
import Derived.Test.YtchodmjleceooaaV6
namespace Go.Proofs.Ytchodmjleceooaa.V
open Go.RowKit Go.Proofs.YtchodmjleceooaaW.PrintWords Go.Proofs.YtchodmjleceooaaW.PrintLast Go.Proofs.YtchodmjleceooaaW.PrintMore
attribute [local go_sem] max2_int min2_int max_two min_two max_three min_three max_four min_four
set_option linter.unusedVariables false
set_option linter.unusedSimpArgs false
attribute [local go_sem] tokKind tokAt tokText
mutual
def pExpr : Nat → List S48 → Int → Int → Option PR
  | 0, _, _, _ => none
  | _ + 1, [], _, _ => none
  | f + 1, t :: r, n, d => if t.f0 = 4 then (if d = 8 then some (.error (pNot t 5)) else if n = 64 then some (.error (pNot t 6)) else pItems f r (n + 1) (d + 1) []) else some (pSpan n (t :: r))
def pItems : Nat → List S48 → Int → Int → List S27 → Option PR
  | 0, _, _, _, _ => none
  | f + 1, l, n, d, acc => match pExpr f l n d with
    | none => none
    | some (.error e) => some (.error e)
    | some (.ok (_, [], _)) => none
    | some (.ok (x, t :: r, n1)) => if t.f0 = 6 then pItems f r n1 d (acc ++ [x]) else if t.f0 = 5 then some (.ok (⟨2, ⟨0, ⟨#[]⟩, ⟨#[]⟩, ⟨#[]⟩⟩, false, false, acc ++ [x]⟩, r, n1)) else some (.error (pNot t 3))
end
def ExprAt (f : Nat) : Prop := ∀ {w : World} {g : Nat} {l : List S48} {n d : Int} {A : Option Addr} {c : Nat} (R : PR), PAt w g l n d A c → pExpr f l n d = some R →
  Calls Try.prog 13 #[.pointer (some ⟨g, 0, none⟩)] w (POut g d w R)
def ListAt (f : Nat) : Prop := ∀ {w : World} {g : Nat} {t : S48} {r : List S48} {n d : Int} {A : Option Addr} {c : Nat} (R : PR), PAt w g (t :: r) n d A c → t.f0 = 4 → pExpr f (t :: r) n d = some R →
  Calls Try.prog 26 #[.pointer (some ⟨g, 0, none⟩)] w (POut g d w R)
set_option maxRecDepth 100000 in
set_option maxHeartbeats 4000000 in
theorem expr_step {f : Nat} (HL : ListAt f) : ExprAt f := by
  intro w g l n d A c R h hR
  obtain ⟨t, r, rfl⟩ := h.cons
  have hlt := h.lt
  have HH := Aside0.mk h
  have HRR := Aside0.mk hR
  clear h hR
  by_cases h4 : t.f0 = 4
  · have k4 : (t.f0 == 4) = true := by rw [h4]; rfl
    have HK := Aside0.mk h4
    clear h4
    go_enter Try.func13, Try.ntmps13
    go_wp2_with fail
    refine (next_calls (HH.out.below (below_alloc (Below.refl _ _) _))).mono ?_
    rintro e1 w1 ⟨rfl, hb⟩
    have HB1 := Aside0.mk (below_step (below_alloc (Below.refl _ _) _) hb)
    have HZ1 := Aside0.mk (blk_below (blk_new w _) hb)
    clear hb
    go_wp2_with fail
    refine (HL R (HH.out.below HB1.out) HK.out HRR.out).mono ?_
    rintro e1 w3 ho
    obtain ⟨x, B, m, v, rfl⟩ := ho.form
    have HO := Aside0.mk ho
    have HZ3 := Aside0.mk (((ho.choose_spec.choose_spec.choose_spec.2.2.1).block _ (blk_lt HZ1.out) (Nat.ne_of_gt hlt)).trans HZ1.out)
    clear ho
    go_wp2_with ((refine gate_ (.store 27 (.tmp 2) (.tmp 15)) rfl ?_; go_loud (refine wpList_storeNode rfl rfl (.tmp 2) (.tmp 15) rfl (k := x.f0) (p0 := x.f1.f0) (p1 := x.f1.f1) (p2 := x.f1.f2) (p3 := x.f1.f3) (b := x.f2) (c := x.f3) (B := B) (m := x.f4.length) (e := m) rfl rfl HZ3.out rfl ?_; intro w9 hs1 hs2; have HS1 := Aside0.mk hs1; have HS2 := Aside0.mk hs2; clear hs1 hs2)))
    refine bodyPost_ret (results_ct rfl _ _ w.heap.size 27 _ (0, 0) _ rfl HS1.out Try.underlying27 rfl (by kernel_rfl)) rfl ?_
    exact HO.out.up (Pow.of_below HB1.out) hlt (blk_lt HZ1.out) HS2.out (Nat.le_refl _)
  · have k4 : (t.f0 == 4) = false := by rw [beq_eq_false_iff_ne]; exact h4
    have HS : Aside0 (pSpan n (t :: r) = R) := ⟨by
      have h2 := HRR.out
      cases f with
      | zero => cases h2
      | succ f => rw [pExpr, if_neg h4] at h2; exact Option.some.inj h2⟩
    clear h4
    go_enter Try.func13, Try.ntmps13
    go_wp2_with fail
    refine (next_calls (HH.out.below (below_alloc (Below.refl _ _) _))).mono ?_
    rintro e1 w1 ⟨rfl, hb⟩
    have HB1 := Aside0.mk (below_step (below_alloc (Below.refl _ _) _) hb)
    have HZ1 := Aside0.mk (blk_below (blk_new w _) hb)
    clear hb
    go_wp2_with fail
    refine (span_calls (HH.out.below HB1.out)).mono ?_
    rw [HS.out]
    rintro e1 w3 ho
    obtain ⟨x, B, m, v, rfl⟩ := ho.form
    have HO := Aside0.mk ho
    have HZ3 := Aside0.mk (((ho.choose_spec.choose_spec.choose_spec.2.2.1).block _ (blk_lt HZ1.out) (Nat.ne_of_gt hlt)).trans HZ1.out)
    clear ho
    go_wp2_with ((refine gate_ (.store 27 (.tmp 2) (.tmp 15)) rfl ?_; go_loud (refine wpList_storeNode rfl rfl (.tmp 2) (.tmp 15) rfl (k := x.f0) (p0 := x.f1.f0) (p1 := x.f1.f1) (p2 := x.f1.f2) (p3 := x.f1.f3) (b := x.f2) (c := x.f3) (B := B) (m := x.f4.length) (e := m) rfl rfl HZ3.out rfl ?_; intro w9 hs1 hs2; have HS1 := Aside0.mk hs1; have HS2 := Aside0.mk hs2; clear hs1 hs2)))
    refine bodyPost_ret (results_ct rfl _ _ w.heap.size 27 _ (0, 0) _ rfl HS1.out Try.underlying27 rfl (by kernel_rfl)) rfl ?_
    exact HO.out.up (Pow.of_below HB1.out) hlt (blk_lt HZ1.out) HS2.out (Nat.le_refl _)
section
variable {P : Program} {ops : Array Oper} {rest : List Oper} {o : Oper} {a : Act} {Q : Exit → Act → World → Prop} {α : Type}
theorem N_append_at (d : Kd α) {w0 W : World} (base : Nat) (hgd : o.guard = none) (s x : Operand) (t e : TypeId) (z : Value) (bytes : Nat)
    (ho : o.op = .call { callee := .builtin .append, args := #[s, x], argTypes := #[t, t] })
    (ht : P.underlying t = some (.slice e)) (hinfo : (P.info? e).map (fun i => (i.zero, i.size, i.bytes)) = some (some z, d.sz, bytes)) (hz : z.cells.size = d.sz) (hs0 : 0 < d.sz) (hb0 : 0 < bytes)
    (v : Value) (xs : List α) (p : α) (cs : List Value) (ok okp : Nat → Prop) (n : Nat) (hs : a.eval s = v) (hx : a.eval x = .slice (some ⟨n, 0, none⟩) 1 1) (hn : n = W.heap.size) (hp : Kd.FK d W okp p cs) (hokp : ∀ k, okp k → ok k ∧ some k ≠ v.ownBlock) (hfresh : ∀ k, W.heap.size ≤ k → ok k)
    (HO : Kd.N d e W base ok v xs) (HB : Below base w0 W) (hbase : base ≤ W.heap.size) (hl : (xs.length + 1) * bytes ≤ 140737488355328)
    (h : ∀ v1 w1, Kd.N d e w1 base ok v1 (xs ++ [p]) → Below base w0 w1 → W.grownBy w1 v.ownBlock → (v1.ownBlock = v.ownBlock ∨ ∃ b, v1.ownBlock = some b ∧ W.heap.size ≤ b) → wpList P ops Q rest (a.put o.dst v1) w1) :
    wpList P ops Q (o :: rest) a (W.alloc (.cells cs.toArray e)) := by
  subst hn
  exact Kd.N_append d base hgd s x t e z bytes ho ht hinfo hz hs0 hb0 v xs p cs ok okp hs hx hp hokp hfresh HO HB hbase hl h
end
theorem pWord_n {n n1 : Int} {l l1 : List S48} {x : S27} (h : pWord n l = .ok (x, l1, n1)) : n1 = n := by
  cases l with
  | nil => simp [pWord] at h
  | cons t r =>
    rw [pWord] at h
    cases hp : pRead t.f2 with
    | none => rw [hp] at h; simp at h
    | some p => rw [hp] at h; simp at h; exact h.2.2.symm
theorem pEnd_n {n n1 : Int} {l l1 : List S48} {x : S27} (h : pEnd n l = .ok (x, l1, n1)) : n1 = n + 1 := by
  cases l with
  | nil => simp [pEnd] at h
  | cons t r =>
    rw [pEnd] at h
    split at h
    · split at h
      · simp at h
      · split at h
        · exact pWord_n h
        · simp at h; exact h.2.2.symm
    · simp at h
theorem pSpan_n {n n1 : Int} {l l1 : List S48} {x : S27} (h : pSpan n l = .ok (x, l1, n1)) : n + 1 ≤ n1 := by
  rw [pSpan] at h
  split at h
  · simp at h
  · simp at h
  · rename_i a t r n2 he
    have h1 := pEnd_n he
    split at h
    · split at h
      · simp at h
      · simp at h; omega
    · split at h
      · simp at h
      · split at h
        · simp at h
        · rename_i b l2 n3 he2
          have h2 := pEnd_n he2
          simp at h
          omega
theorem pBoth_n (f : Nat) : (∀ (l : List S48) (n d : Int) (x : S27) (l1 : List S48) (n1 : Int), pExpr f l n d = some (.ok (x, l1, n1)) → n + 1 ≤ n1) ∧
    (∀ (l : List S48) (n d : Int) (acc : List S27) (x : S27) (l1 : List S48) (n1 : Int), pItems f l n d acc = some (.ok (x, l1, n1)) → n ≤ n1) := by
  induction f with
  | zero => exact ⟨fun _ _ _ _ _ _ h => (by cases h), fun _ _ _ _ _ _ _ h => (by cases h)⟩
  | succ f ih =>
    refine ⟨fun l n d x l1 n1 h => ?_, fun l n d acc x l1 n1 h => ?_⟩
    · cases l with
      | nil => cases h
      | cons t r =>
        rw [pExpr] at h
        split at h
        · split at h
          · simp at h
          · split at h
            · simp at h
            · exact ih.2 _ _ _ _ _ _ _ h
        · exact pSpan_n (Option.some.inj h)
    · rw [pItems] at h
      split at h
      · simp at h
      · simp at h
      · simp at h
      · rename_i y t r n2 he
        have h1 := ih.1 _ _ _ _ _ _ he
        split at h
        · have h2 := ih.2 _ _ _ _ _ _ _ h
          omega
        · split at h
          · simp at h
            omega
          · simp at h
theorem pMarked_len : ∀ (l : List S48) (a b : Bool), (pMarked l a b).2.2.length ≤ l.length := by
  intro l
  induction l with
  | nil => intro a b; simp [pMarked]
  | cons t r ih =>
    intro a b
    rw [pMarked]
    split
    · have := ih true b; simp; omega
    · split
      · have := ih a true; simp; omega
      · simp
theorem pWord_len {n n1 : Int} {l l1 : List S48} {x : S27} (h : pWord n l = .ok (x, l1, n1)) : l1.length < l.length := by
  cases l with
  | nil => simp [pWord] at h
  | cons t r =>
    rw [pWord] at h
    have hm := pMarked_len r false false
    cases hp : pRead t.f2 with
    | none => rw [hp] at h; simp at h
    | some p => rw [hp] at h; simp at h; rw [← h.2.1]; simp; omega
theorem pEnd_len {n n1 : Int} {l l1 : List S48} {x : S27} (h : pEnd n l = .ok (x, l1, n1)) : l1.length < l.length := by
  cases l with
  | nil => simp [pEnd] at h
  | cons t r =>
    rw [pEnd] at h
    split at h
    · split at h
      · simp at h
      · split at h
        · exact pWord_len h
        · simp at h; rw [← h.2.1]; simp
    · simp at h
theorem pSpan_len {n n1 : Int} {l l1 : List S48} {x : S27} (h : pSpan n l = .ok (x, l1, n1)) : l1.length < l.length := by
  rw [pSpan] at h
  split at h
  · simp at h
  · simp at h
  · rename_i a t r n2 he
    have h1 := pEnd_len he
    simp at h1
    split at h
    · split at h
      · simp at h
      · simp at h; rw [← h.2.1]; simp; omega
    · split at h
      · simp at h
      · split at h
        · simp at h
        · rename_i b l2 n3 he2
          have h2 := pEnd_len he2
          simp at h
          rw [← h.2.1]; omega
theorem pBoth_len (f : Nat) : (∀ (l : List S48) (n d : Int) (x : S27) (l1 : List S48) (n1 : Int), pExpr f l n d = some (.ok (x, l1, n1)) → l1.length < l.length) ∧
    (∀ (l : List S48) (n d : Int) (acc : List S27) (x : S27) (l1 : List S48) (n1 : Int), pItems f l n d acc = some (.ok (x, l1, n1)) → l1.length < l.length) := by
  induction f with
  | zero => exact ⟨fun _ _ _ _ _ _ h => (by cases h), fun _ _ _ _ _ _ _ h => (by cases h)⟩
  | succ f ih =>
    refine ⟨fun l n d x l1 n1 h => ?_, fun l n d acc x l1 n1 h => ?_⟩
    · cases l with
      | nil => cases h
      | cons t r =>
        rw [pExpr] at h
        split at h
        · split at h
          · simp at h
          · split at h
            · simp at h
            · have := ih.2 _ _ _ _ _ _ _ h; simp; omega
        · exact pSpan_len (Option.some.inj h)
    · rw [pItems] at h
      split at h
      · simp at h
      · simp at h
      · simp at h
      · rename_i y t r n2 he
        have h1 := ih.1 _ _ _ _ _ _ he
        simp at h1
        split at h
        · have h2 := ih.2 _ _ _ _ _ _ _ h
          omega
        · split at h
          · simp at h
            rw [← h.2.1]; omega
          · simp at h
theorem PAt.low {w w' : World} {g B : Nat} {l : List S48} {n d : Int} {A : Option Addr} {c : Nat} (h : PAt w g l n d A c) (hb : Below B w w') (hg : g < B) : PAt w' g l n d A c :=
  ⟨(hb.block g hg).trans h.blk, h.cap, Kd.F_step h.row (fun k hk _ => hb.block k (Nat.lt_trans hk hg)), h.ok, h.n0, h.n1, h.d0, h.d1⟩
theorem Pow.low {g B : Nat} {a b c : World} (h : Pow g a b) (k : Below B b c) (hB : a.heap.size ≤ B) : Pow g a c := ⟨k.os.trans h.os, k.tape.trans h.tape, k.output.trans h.output, Nat.le_trans h.size k.size, fun i hi hg => (k.block i (Nat.lt_of_lt_of_le hi hB)).trans (h.block i hi hg)⟩
theorem oneof_calls {w : World} {base b0 : Nat} {l : List S27} {v : Value} (hN : Kd.N k27 27 w b0 (fun k => base ≤ k) v l) (hb : base ≤ w.heap.size) (hl : l.length < 1000) :
    Calls Try.prog 7 #[v] w fun e1 w' =>
      ∃ D k, e1 = .returned (.agg #[.int .i64 2, .int .i64 0, .string ⟨#[]⟩, .string ⟨#[]⟩, .string ⟨#[]⟩, .bool false, .bool false, .slice D l.length k]) ∧ l.length ≤ k ∧ Kd.F k27 w' (fun k => base ≤ k) D l.length l ∧ Below w.heap.size w w' := by
  have hV := Kd.N_V (base' := w.heap.size) hN
  obtain ⟨D, k, rfl⟩ := Kd.V_slice hV
  refine (tree_OneOf.calls (fun k => base ≤ k) D k l 2 0 ⟨#[]⟩ ⟨#[]⟩ ⟨#[]⟩ false false l w hV (by rw [tree_OneOf.f, show api_Node.f l = some l from if_pos (by omega)]; rfl)).mono ?_
  rintro e1 w' ⟨v, rfl, hN, hbb⟩
  have hV := Kd.N_V (base' := 0) hN
  obtain ⟨D, k, rfl⟩ := Kd.V_slice hV
  have hV2 := Kd.V_at hV
  exact ⟨D, k, rfl, hV2.2.1, Kd.F_mono hV2.2.2 (fun k hk => by rcases hk with h | h <;> omega), hbb⟩
attribute [local go_sem] tokKind tokAt tokText
set_option maxRecDepth 100000 in
set_option maxHeartbeats 8000000 in
theorem list_step {f : Nat} (HX : ∀ m, m ≤ f → ExprAt m) : ListAt (f + 1) := by
  intro w g t r n d A c R h h4 hR
  have hlt := h.lt
  have hd0 := h.d0
  have hd1 := h.d1
  have d0 := (blk_cell h.blk 2).trans rfl
  have df := blk_frozen h.blk 2
  have HH := Aside0.mk h
  have HK := Aside0.mk h4
  clear h
  rw [pExpr, if_pos h4] at hR
  clear h4
  by_cases h8 : d = 8
  · have k8 : (d == 8) = true := by rw [h8]; rfl
    rw [if_pos h8] at hR
    have HR := Aside0.mk (Option.some.inj hR)
    clear h8 hR
    go_enter Try.func26, Try.ntmps26
    go_wp2_with fail
    refine (not_calls (HH.out.below (below_alloc (Below.refl _ _) _)) 5).mono ?_
    rintro e1 w1 ⟨q, rfl, hw, hq, hb⟩
    have HB1 := Aside0.mk (below_step (below_alloc (Below.refl _ _) _) hb)
    have HZ1 := Aside0.mk (blk_below (blk_new w _) hb)
    have HW1 := Aside0.mk hw
    have HQ := Aside0.mk (show w.heap.size < q from by simp at hq; omega)
    clear hw hq hb
    go_wp2_with ((refine gate_ (.store 27 (.tmp 2) (.tmp 13)) rfl ?_; go_loud (refine wpList_storeNode rfl rfl (.tmp 2) (.tmp 13) rfl (k := 0) (p0 := 0) (p1 := ⟨#[]⟩) (p2 := ⟨#[]⟩) (p3 := ⟨#[]⟩) (b := false) (c := false) (B := none) (m := 0) (e := 0) rfl rfl HZ1.out rfl ?_; intro w9 hs1 hs2; have HS1 := Aside0.mk hs1; have HS2 := Aside0.mk hs2; clear hs1 hs2)))
    refine bodyPost_ret (results_ct rfl _ _ w.heap.size 27 _ (0, 0) _ rfl HS1.out Try.underlying27 rfl (by kernel_rfl)) rfl ?_
    rw [← HR.out]
    exact ⟨zNode, none, 0, Kd.F_nil _ _ _, Nat.le_refl _, (Pow.of_below HB1.out).new HS2.out (Nat.le_refl _), q, rfl, (HS2.out.block _ (blk_lt HW1.out) (Nat.ne_of_gt HQ.out)).trans HW1.out, Nat.le_of_lt HQ.out⟩
  · have k8 : (d == 8) = false := by rw [beq_eq_false_iff_ne]; exact h8
    rw [if_neg h8] at hR
    have HR := Aside0.mk hR
    have HD8 := Aside0.mk h8
    clear h8 hR
    go_enter Try.func26, Try.ntmps26
    go_wp2_with fail
    refine (begin_calls (HH.out.below (below_alloc (Below.refl _ _) _))).mono ?_
    rintro e1 w1 (⟨hn, q, rfl, hw, hq, hb⟩ | ⟨hn, rfl, hp, hw⟩)
    · have HB1 := Aside0.mk (below_step (below_alloc (Below.refl _ _) _) hb)
      have HZ1 := Aside0.mk (blk_below (blk_new w _) hb)
      have HW1 := Aside0.mk hw
      have HQ := Aside0.mk (show w.heap.size < q from by simp at hq; omega)
      have HE : Aside0 (.error (pNot t 6) = R) := ⟨Option.some.inj ((if_pos hn).symm.trans HR.out)⟩
      clear hw hq hb hn
      go_wp2_with ((refine gate_ (.store 27 (.tmp 2) (.tmp 20)) rfl ?_; go_loud (refine wpList_storeNode rfl rfl (.tmp 2) (.tmp 20) rfl (k := 0) (p0 := 0) (p1 := ⟨#[]⟩) (p2 := ⟨#[]⟩) (p3 := ⟨#[]⟩) (b := false) (c := false) (B := none) (m := 0) (e := 0) rfl rfl HZ1.out rfl ?_; intro w9 hs1 hs2; have HS1 := Aside0.mk hs1; have HS2 := Aside0.mk hs2; clear hs1 hs2)))
      refine bodyPost_ret (results_ct rfl _ _ w.heap.size 27 _ (0, 0) _ rfl HS1.out Try.underlying27 rfl (by kernel_rfl)) rfl ?_
      rw [← HE.out]
      exact ⟨zNode, none, 0, Kd.F_nil _ _ _, Nat.le_refl _, (Pow.of_below HB1.out).new HS2.out (Nat.le_refl _), q, rfl, (HS2.out.block _ (blk_lt HW1.out) (Nat.ne_of_gt HQ.out)).trans HW1.out, Nat.le_of_lt HQ.out⟩
    · have HI : Aside0 (pItems f r (n + 1) (d + 1) [] = some R) := ⟨(if_neg hn).symm.trans HR.out⟩
      have HP1 := Aside0.mk hp
      have HW1 := Aside0.mk (((Pow.refl g w).alloc _).trans hw)
      have HZ1 := Aside0.mk ((hw.block _ (blk_lt (blk_new w _)) (Nat.ne_of_gt hlt)).trans (blk_new w _))
      have e0 := (blk_cell hp.blk 2).trans rfl
      have ef := blk_frozen hp.blk 2
      have hlt1 := hp.lt
      clear hp hw hn d0 df
      have hP2 := HP1.out.deeper (d + 1) (by omega) (by have := HD8.out; omega)
      have HP2 := Aside0.mk hP2
      have HW2 := Aside0.mk (HW1.out.set hlt1 2 (.int .i64 (d + 1)))
      have HZ2 := Aside0.mk (blk_far HZ1.out (p := ⟨g, 2, none⟩) (Nat.ne_of_gt hlt) (.int .i64 (d + 1)))
      have hn0 := HP1.out.n0
      clear hP2
      go_wp2_with fail
      go_loopw [5] (fun v5 wr => ∃ (t' : S48) (l' : List S48) (n' : Int) (acc : List S27) (A' : Option Addr) (c' m : Nat), m ≤ f ∧ t'.f0 ≠ 9 ∧ (acc.length : Int) ≤ n' ∧ Aside0 (PAt wr g (t' :: l') n' (d + 1) A' c') ∧ Aside0 (pItems m l' n' (d + 1) acc = some R) ∧
        Aside0 (Kd.N k27 27 wr (w.heap.size + 1) (fun k => w.heap.size < k) v5 acc) ∧ Aside0 (Pow g w wr) ∧ Aside0 (∃ z : Array Value, z.size = 8 ∧ wr.heap[w.heap.size]? = some (.cells z 27 (0, 0)))) (fun _ wr => lenAt g wr)
      case atStart => exact ⟨t, r, n + 1, [], A, c, f, Nat.le_refl _, (fun h => by rw [HK.out] at h; simp at h), by simp; omega, HP2, HI, ⟨Kd.N_nil _ _ _ _ _⟩, HW2, ⟨_, rfl, HZ2.out⟩⟩
      case round =>
        obtain ⟨t', l', n', acc, A', c', m, hm, ht, hacc, HP, HI, HN, HW, HZ⟩ := hrel
        have HT := Aside0.mk ht
        clear ht
        go_wp2_with fail
        refine (take_calls HP.out HT.out).mono ?_
        rintro e1 w2 ⟨rfl, A2, c2, hp, hw⟩
        have HP2 := Aside0.mk hp
        have HW2 := Aside0.mk (HW.out.trans hw)
        have HZ2 : Aside0 (∃ z : Array Value, z.size = 8 ∧ w2.heap[w.heap.size]? = some (.cells z 27 (0, 0))) := by
          obtain ⟨z, hz, hzz⟩ := HZ.out
          exact ⟨⟨z, hz, (hw.block _ (blk_lt hzz) (Nat.ne_of_gt hlt)).trans hzz⟩⟩
        have HN2 := Aside0.mk (Kd.N_step HN.out (fun k hk hl => hw.block k hl (by omega)))
        clear hp hw
        obtain ⟨m, rfl⟩ : ∃ j, m = j + 1 := ⟨m - 1, by
          have h := HI.out
          cases m with
          | zero => cases h
          | succ m => rfl⟩
        have HI2 := Aside0.mk (HI.out)
        cases hE : pExpr m l' n' (d + 1) with
        | none => exact absurd HI.out (by rw [pItems, hE]; simp)
        | some RE =>
          match RE, hE with
          | .error e, hE =>
            have HR2 : Aside0 (.error e = R) := ⟨by have h := HI.out; rw [pItems, hE] at h; exact Option.some.inj h⟩
            have HEE := Aside0.mk hE
            clear hE
            go_wp2_with fail
            refine (HX m (by omega) _ HP2.out HEE.out).mono ?_
            rintro e1 w3 ho
            obtain ⟨x, B, mm, q, rfl, hF, hmm, hW, hw3, hq⟩ := ho.err
            have HF := Aside0.mk hF
            have HMM := Aside0.mk hmm
            have HW3 := Aside0.mk (HW2.out.trans hW)
            have HWq := Aside0.mk hw3
            have hs2 : w.heap.size < w2.heap.size := by
              obtain ⟨z, hz, hzz⟩ := HZ2.out
              exact blk_lt hzz
            have HQ := Aside0.mk (show w.heap.size < q from by omega)
            obtain ⟨z, hz, hzz⟩ := HZ2.out
            have HZ3 := Aside0.mk (blk_alloc ((hW.block _ (blk_lt hzz) (Nat.ne_of_gt hlt)).trans hzz) (.cells #[.int .i64 x.f0, .int .i64 x.f1.f0, .string x.f1.f1, .string x.f1.f2, .string x.f1.f3, .bool x.f2, .bool x.f3, .slice B x.f4.length mm] 27))
            have HZS := Aside0.mk hz
            clear ho hF hmm hW hw3 hq hzz hz
            go_wp2_with ((refine gate_ (.store 27 (.tmp 2) (.tmp 38)) rfl ?_; go_loud (refine wpList_storeNode rfl rfl (.tmp 2) (.tmp 38) rfl (k := x.f0) (p0 := x.f1.f0) (p1 := x.f1.f1) (p2 := x.f1.f2) (p3 := x.f1.f3) (b := x.f2) (c := x.f3) (B := B) (m := x.f4.length) (e := mm) rfl rfl HZ3.out HZS.out ?_; intro w9 hs1 hs2; have HS1 := Aside0.mk hs1; have HS2 := Aside0.mk hs2; clear hs1 hs2)))
            refine bodyPost_ret (results_ct rfl _ _ w.heap.size 27 _ (0, 0) _ rfl HS1.out Try.underlying27 rfl (by kernel_rfl)) rfl ?_
            rw [← HR2.out]
            have hb := below_alloc (Below.refl w3.heap.size w3) (.cells #[.int .i64 x.f0, .int .i64 x.f1.f0, .string x.f1.f1, .string x.f1.f2, .string x.f1.f3, .bool x.f2, .bool x.f3, .slice B x.f4.length mm] 27)
            exact ⟨x, B, mm, Kd.F_mono (Kd.F_step (Kd.F_below HF.out hb) (fun k hk hl => HS2.out.block k hl (by omega))) (fun k hk => by omega), HMM.out, (HW3.out.below hb).new HS2.out (Nat.le_refl _), q, rfl, (HS2.out.block _ (blk_lt (blk_below HWq.out hb)) (Nat.ne_of_gt HQ.out)).trans (blk_below HWq.out hb), Nat.le_of_lt HQ.out⟩
          | .ok (x, [], n1), hE => exact absurd HI.out (by rw [pItems, hE]; simp)
          | .ok (x, t2 :: r2, n1), hE =>
            have HEE := Aside0.mk hE
            clear hE
            go_wp2_with fail
            refine (HX m (by omega) _ HP2.out HEE.out).mono ?_
            rintro e1 w3 ho
            obtain ⟨B, mm, rfl, hF, hmm, hW, A3, c3, hp⟩ := ho.good
            have hgrow := (pBoth_n m).1 _ _ _ _ _ _ HEE.out
            have hn64 := hp.n1
            have HP3 := Aside0.mk hp
            have HMM := Aside0.mk hmm
            have HW3 := Aside0.mk (HW2.out.trans hW)
            have hs2 : w.heap.size < w2.heap.size := by
              obtain ⟨z, hz, hzz⟩ := HZ2.out
              exact blk_lt hzz
            have hs3 := hW.size
            have HZ3 : Aside0 (∃ z : Array Value, z.size = 8 ∧ w3.heap[w.heap.size]? = some (.cells z 27 (0, 0))) := by
              obtain ⟨z, hz, hzz⟩ := HZ2.out
              exact ⟨⟨z, hz, (hW.block _ (blk_lt hzz) (Nat.ne_of_gt hlt)).trans hzz⟩⟩
            have HN3 := Aside0.mk (Kd.N_bound (Kd.N_step (Kd.N_bound HN2.out) (fun k hk hl => hW.block k hl (by have := hk.1; omega))))
            have HF3 := Aside0.mk hF
            have HI3 : Aside0 ((if t2.f0 = 6 then pItems m r2 n1 (d + 1) (acc ++ [x]) else if t2.f0 = 5 then some (.ok (⟨2, ⟨0, ⟨#[]⟩, ⟨#[]⟩, ⟨#[]⟩⟩, false, false, acc ++ [x]⟩, r2, n1)) else some (.error (pNot t2 3))) = some R) := ⟨by have h := HI.out; rw [pItems, HEE.out] at h; exact h⟩
            clear ho hp hF hmm hW
            have hlt5 := Kd.N_lt HN2.out
            obtain ⟨W3, hW3⟩ : ∃ W3 : World, W3 = w3.alloc (.cells #[.int .i64 x.f0, .int .i64 x.f1.f0, .string x.f1.f1, .string x.f1.f2, .string x.f1.f3, .bool x.f2, .bool x.f3, .slice B x.f4.length mm] 27) := ⟨_, rfl⟩
            have hbW : Below w3.heap.size w3 W3 := by rw [hW3]; exact below_alloc (Below.refl _ _) _
            have hsW : w3.heap.size + 1 = W3.heap.size := by rw [hW3]; simp
            have HFK := Aside0.mk (k27_mkF W3 _ x HMM.out (Kd.F_below (Kd.F_bound HF3.out) hbW))
            have HN4 := Aside0.mk (Kd.N_below (Kd.N_mono HN3.out (fun k hk => hk.1.1)) hbW)
            have HBW := Aside0.mk (hbW.mono (show w.heap.size + 1 ≤ w3.heap.size by omega))
            have HW33 := Aside0.mk hW3
            have HSW := Aside0.mk hsW
            clear hW3 hbW hsW
            go_wp2_with ((with_reducible refine gate_builtin (b := .append) (xs := #[.tmp 40, .tmp 42]) rfl ?_); go_loud (rw [← HW33.out]; at_builtin; refine N_append_at k27 (w0 := w3) (w.heap.size + 1) rfl (.tmp 40) (.tmp 42) 25 27 _ 96 rfl Try.underlying25 infoNode rfl (by decide) (by omega) u5 acc x [.int .i64 x.f0, .int .i64 x.f1.f0, .string x.f1.f1, .string x.f1.f2, .string x.f1.f3, .bool x.f2, .bool x.f3, .slice B x.f4.length mm] (fun k => w.heap.size < k) _ (w3.heap.size + 1) rfl rfl HSW.out HFK.out ?aK ?aF HN4.out HBW.out ?aS ?aL ?_; (case aK => exact fun k hk => ⟨by have := hk.1; omega, fun he => by have := hlt5 k he.symm; have := hk.1; omega⟩); (case aF => exact fun k hk => by have := HSW.out; omega); (case aS => have := HSW.out; omega); (case aL => omega); intro v7 w7 ho hb hg hat; have HN7 := Aside0.mk ho; have HB7 := Aside0.mk hb; have HG7 := Aside0.mk hg; clear ho hb hg hat))
            have hsz7 := HB7.out.size
            have HP7 := Aside0.mk (HP3.out.low HB7.out (by omega))
            have HW7 := Aside0.mk (HW3.out.low HB7.out (Nat.le_succ _))
            have HZ7 : Aside0 (∃ z : Array Value, z.size = 8 ∧ w7.heap[w.heap.size]? = some (.cells z 27 (0, 0))) := by
              obtain ⟨z, hz, hzz⟩ := HZ3.out
              exact ⟨⟨z, hz, (HB7.out.block _ (Nat.lt_succ_self _)).trans hzz⟩⟩
            have HX7 := Aside0.mk ((HG7.out.block w3.heap.size (by rw [← HSW.out]; omega) (fun he => by have := hlt5 _ he.symm; omega)).trans ((show W3.heap[w3.heap.size]? = some (.cells (nCells x.f0 x.f1.f0 x.f1.f1 x.f1.f2 x.f1.f3 x.f2 x.f3 B x.f4.length mm) 27 (0, 0)) by rw [HW33.out]; exact blk_new _ _)))
            have HF7 := Aside0.mk (Kd.F_bound (Kd.F_step (W1 := w7) (Kd.F_bound HF3.out) (fun k hk hl => (HG7.out.block k (by rw [← HSW.out]; omega) (fun he => by have := hlt5 _ he.symm; have := hk.1; omega)).trans (by rw [HW33.out]; exact Below.heap_alloc w3 _ k hl))))
            generalize hA1 : acc ++ [x] = acc1 at HN7 HI3
            have hacc2 : (acc1.length : Int) ≤ n1 := by rw [← hA1]; simp; omega
            have HA1 := Aside0.mk hA1
            clear HG7 hA1
            go_wp2_with fail
            refine (next_calls HP7.out).mono ?_
            rintro e1 w8 ⟨rfl, hb⟩
            have HP8 := Aside0.mk (HP7.out.below hb)
            have HW8 := Aside0.mk (HW7.out.below hb)
            have HN8 := Aside0.mk (Kd.N_below HN7.out hb)
            have HX8 := Aside0.mk (blk_below HX7.out hb)
            have HF8 := Aside0.mk (Kd.F_below HF7.out hb)
            have HZ8 : Aside0 (∃ z : Array Value, z.size = 8 ∧ w8.heap[w.heap.size]? = some (.cells z 27 (0, 0))) := by
              obtain ⟨z, hz, hzz⟩ := HZ7.out
              exact ⟨⟨z, hz, blk_below hzz hb⟩⟩
            have hsz8 := hb.size
            clear hb
            have hlen := (pBoth_len m).1 _ _ _ _ _ _ HEE.out
            have HLEN := Aside0.mk hlen
            clear hlen
            by_cases h6 : t2.f0 = 6
            · have k6 : (t2.f0 == 6) = true := by rw [h6]; rfl
              have H6 := Aside0.mk h6
              have HI9 : Aside0 (pItems m r2 n1 (d + 1) acc1 = some R) := ⟨by have h := HI3.out; rw [if_pos H6.out] at h; exact h⟩
              clear h6
              go_wp2_with fail
              go_roundw
              case rel => exact ⟨t2, r2, n1, acc1, A3, c3, m, by omega, (fun h => by rw [H6.out] at h; simp at h), hacc2, HP8, HI9, HN8, HW8, HZ8⟩
              case measure => rw [HP8.out.len, HP.out.len]; have := HLEN.out; simp at this ⊢; omega
            · have k6 : (t2.f0 == 6) = false := by rw [beq_eq_false_iff_ne]; exact h6
              have H6 := Aside0.mk h6
              clear h6
              by_cases h5 : t2.f0 = 5
              · have k5 : (t2.f0 == 5) = true := by rw [h5]; rfl
                have H5 := Aside0.mk h5
                clear h5
                have HR : Aside0 (.ok (⟨2, ⟨0, ⟨#[]⟩, ⟨#[]⟩, ⟨#[]⟩⟩, false, false, acc1⟩, r2, n1) = R) := ⟨by have h := HI3.out; rw [if_neg H6.out, if_pos H5.out] at h; exact Option.some.inj h⟩
                go_wp2_with fail
                refine (take_calls HP8.out (fun h => by rw [H5.out] at h; simp at h)).mono ?_
                rintro e1 w10 ⟨rfl, A4, c4, hp, hw⟩
                have hs8 : w.heap.size < w8.heap.size := by
                  obtain ⟨z, hz, hzz⟩ := HZ8.out
                  exact blk_lt hzz
                have HW10 := Aside0.mk (HW8.out.trans hw)
                have HN10 := Aside0.mk (Kd.N_step HN8.out (fun k hk hl => hw.block k hl (by omega)))
                have HZ10 : Aside0 (∃ z : Array Value, z.size = 8 ∧ w10.heap[w.heap.size]? = some (.cells z 27 (0, 0))) := by
                  obtain ⟨z, hz, hzz⟩ := HZ8.out
                  exact ⟨⟨z, hz, (hw.block _ (blk_lt hzz) (Nat.ne_of_gt hlt)).trans hzz⟩⟩
                have HP10 := Aside0.mk hp
                have hlt10 := hp.lt
                have d0 := (blk_cell hp.blk 2).trans rfl
                have df := blk_frozen hp.blk 2
                clear hp hw
                have HP11 := Aside0.mk (HP10.out.deeper d (by omega) (by omega))
                have HW11 := Aside0.mk (HW10.out.set hlt10 2 (.int .i64 d))
                have HN11 := Aside0.mk (Kd.N_step (w1 := w10.setCell ⟨g, 2, none⟩ (.int .i64 d)) HN10.out (fun k hk hl => ((Pow.refl g w10).set hlt10 2 (.int .i64 d)).block k hl (by omega)))
                have HZ11 : Aside0 (∃ z : Array Value, z.size = 8 ∧ (w10.setCell ⟨g, 2, none⟩ (.int .i64 d)).heap[w.heap.size]? = some (.cells z 27 (0, 0))) := by
                  obtain ⟨z, hz, hzz⟩ := HZ10.out
                  exact ⟨⟨z, hz, blk_far hzz (p := ⟨g, 2, none⟩) (Nat.ne_of_gt hlt) _⟩⟩
                have hs10 : w.heap.size < (w10.setCell ⟨g, 2, none⟩ (.int .i64 d)).heap.size := by
                  obtain ⟨z, hz, hzz⟩ := HZ11.out
                  exact blk_lt hzz
                have HS10 := Aside0.mk hs10
                clear hs10
                go_wp2_with fail
                refine (oneof_calls (base := w.heap.size + 1) HN11.out HS10.out (by omega)).mono ?_
                rintro e1 w12 ⟨D, kk, rfl, hkk, hFD, hb⟩
                have HB12 := Aside0.mk hb
                have HKK := Aside0.mk hkk
                have HFD := Aside0.mk hFD
                obtain ⟨z, hz, hzz⟩ := HZ11.out
                have HZ12 := Aside0.mk (blk_below hzz hb)
                have HZS := Aside0.mk hz
                clear hb hkk hFD hz hzz d0 df
                go_wp2_with ((refine gate_ (.store 27 (.tmp 2) (.tmp 64)) rfl ?_; go_loud (refine wpList_storeNode rfl rfl (.tmp 2) (.tmp 64) rfl (k := 2) (p0 := 0) (p1 := ⟨#[]⟩) (p2 := ⟨#[]⟩) (p3 := ⟨#[]⟩) (b := false) (c := false) (B := D) (m := acc1.length) (e := kk) rfl rfl HZ12.out HZS.out ?_; intro w9 hs1 hs2; have HS1 := Aside0.mk hs1; have HS2 := Aside0.mk hs2; clear hs1 hs2)))
                refine bodyPost_ret (results_ct rfl _ _ w.heap.size 27 _ (0, 0) _ rfl HS1.out Try.underlying27 rfl (by kernel_rfl)) rfl ?_
                rw [← HR.out]
                exact ⟨⟨2, ⟨0, ⟨#[]⟩, ⟨#[]⟩, ⟨#[]⟩⟩, false, false, acc1⟩, D, kk, Kd.F_mono (Kd.F_step HFD.out (fun k hk hl => HS2.out.block k hl (by omega))) (fun k hk => by omega), HKK.out, (HW11.out.below HB12.out).new HS2.out (Nat.le_refl _), rfl, rfl, A4, c4, (HP11.out.below HB12.out).new HS2.out hlt⟩
              · have k5 : (t2.f0 == 5) = false := by rw [beq_eq_false_iff_ne]; exact h5
                have H5 := Aside0.mk h5
                clear h5
                have HR : Aside0 (.error (pNot t2 3) = R) := ⟨by have h := HI3.out; rw [if_neg H6.out, if_neg H5.out] at h; exact Option.some.inj h⟩
                obtain ⟨z, hz, hzz⟩ := HZ8.out
                have HZ8' := Aside0.mk hzz
                have HZS := Aside0.mk hz
                clear hz hzz
                go_wp2_with fail
                refine wp_region_any (by kernel_rfl) ?_
                change wpAny _ _ _ _ _ _ _ (World.drew _)
                refine wpAny_take (i := 1) (v := .pointer (some ⟨g, 0, none⟩)) rfl (by kernel_rfl) (by kernel_rfl) (by kernel_rfl) (fun _ _ _ h => h) (Or.inl ⟨by rfl, fun w => by go_simp⟩) ?_
                refine wpAny_ready (rs := [0, 2]) (by kernel_rfl) (by simp) ?_
                refine AllReady.cons rfl (fun K hK => ?_) ?_
                · obtain ⟨y0, y1, y2, y3, y4, y5, y6, y7⟩ := nCells_at HX8.out
                  go_simp
                  clear y0 y1 y2 y3 y4 y5 y6 y7
                  refine hK _ _ ?_
                  clear hK K
                  refine wpAny_ready (rs := [2]) (by kernel_rfl) (by simp) ?_
                  refine AllReady.cons rfl (fun K hK => ?_) AllReady.nil
                  go_simp
                  refine (not_calls (HP8.out.below (below_drew (Below.refl _ _))) 3).mono ?_
                  rintro e1 w10 ⟨q, rfl, hw, hq, hb0⟩
                  have hb : Below w8.heap.size w8 w10 := (below_drew (Below.refl w8.heap.size w8)).trans hb0
                  have HB10 := Aside0.mk hb
                  have HW10 := Aside0.mk hw
                  have HQ10 := Aside0.mk hq
                  have HZ10 := Aside0.mk (blk_below HZ8'.out hb)
                  have HY10 := Aside0.mk (blk_below HX8.out hb)
                  clear hb hb0 hw hq
                  refine hK _ _ ?_
                  clear hK K
                  refine wpAny_ready (rs := [3]) (by kernel_rfl) (by simp) ?_
                  refine AllReady.cons rfl (fun K hK => ?_) AllReady.nil
                  refine step_storeNode (by rfl) (by rfl) (.tmp 2) (.tmp 47) (by rfl) (k := x.f0) (p0 := x.f1.f0) (p1 := x.f1.f1) (p2 := x.f1.f2) (p3 := x.f1.f3) (b := x.f2) (c := x.f3) (B := B) (m := x.f4.length) (e := mm) (by rfl) (by rfl) HZ10.out HZS.out ?_
                  intro w9 hs1 hs2
                  have HS1 := Aside0.mk hs1
                  have HS2 := Aside0.mk hs2
                  clear hs1 hs2
                  refine hK _ _ ?_
                  clear hK K
                  refine wpAny_take (i := 4) (v := .pointer (some ⟨q, 0, none⟩)) rfl (by kernel_rfl) (by kernel_rfl) (by kernel_rfl) (fun _ _ _ h => h) (Or.inl ⟨by rfl, fun w => by go_simp⟩) ?_
                  refine wpAny_done (by kernel_rfl) ?_ _
                  go_wp2_with fail
                  refine bodyPost_ret (results_ct rfl _ _ w.heap.size 27 _ (0, 0) _ rfl HS1.out Try.underlying27 rfl (by kernel_rfl)) rfl ?_
                  rw [← HR.out]
                  have hq : w8.heap.size ≤ q := HQ10.out
                  have hq2 : w.heap.size < q := by have := blk_lt HZ8'.out; omega
                  have hF3 := Kd.F_below HF8.out HB10.out
                  exact ⟨x, B, mm, Kd.F_mono (Kd.F_step hF3 (fun k hk hlt2 => HS2.out.block k hlt2 (by have := hk.1; omega))) (fun k hk => by have := hk.1; omega), HMM.out, (HW8.out.below HB10.out).new HS2.out (Nat.le_refl _), q, rfl, (HS2.out.block _ (blk_lt HW10.out) (Nat.ne_of_gt hq2)).trans HW10.out, Nat.le_of_lt hq2⟩
                · refine AllReady.cons rfl (fun K hK => ?_) AllReady.nil
                  go_simp
                  refine (not_calls (HP8.out.below (below_drew (Below.refl _ _))) 3).mono ?_
                  rintro e1 w10 ⟨q, rfl, hw, hq, hb0⟩
                  have hb : Below w8.heap.size w8 w10 := (below_drew (Below.refl w8.heap.size w8)).trans hb0
                  have HB10 := Aside0.mk hb
                  have HW10 := Aside0.mk hw
                  have HQ10 := Aside0.mk hq
                  have HZ10 := Aside0.mk (blk_below HZ8'.out hb)
                  have HY10 := Aside0.mk (blk_below HX8.out hb)
                  clear hb hb0 hw hq
                  refine hK _ _ ?_
                  clear hK K
                  obtain ⟨y0, y1, y2, y3, y4, y5, y6, y7⟩ := nCells_at HY10.out
                  refine wpAny_ready (rs := [0]) (by kernel_rfl) (by simp) ?_
                  refine AllReady.cons rfl (fun K hK => ?_) AllReady.nil
                  go_simp
                  clear y0 y1 y2 y3 y4 y5 y6 y7
                  refine hK _ _ ?_
                  clear hK K
                  refine wpAny_ready (rs := [3]) (by kernel_rfl) (by simp) ?_
                  refine AllReady.cons rfl (fun K hK => ?_) AllReady.nil
                  refine step_storeNode (by rfl) (by rfl) (.tmp 2) (.tmp 47) (by rfl) (k := x.f0) (p0 := x.f1.f0) (p1 := x.f1.f1) (p2 := x.f1.f2) (p3 := x.f1.f3) (b := x.f2) (c := x.f3) (B := B) (m := x.f4.length) (e := mm) (by rfl) (by rfl) HZ10.out HZS.out ?_
                  intro w9 hs1 hs2
                  have HS1 := Aside0.mk hs1
                  have HS2 := Aside0.mk hs2
                  clear hs1 hs2
                  refine hK _ _ ?_
                  clear hK K
                  refine wpAny_take (i := 4) (v := .pointer (some ⟨q, 0, none⟩)) rfl (by kernel_rfl) (by kernel_rfl) (by kernel_rfl) (fun _ _ _ h => h) (Or.inl ⟨by rfl, fun w => by go_simp⟩) ?_
                  refine wpAny_done (by kernel_rfl) ?_ _
                  go_wp2_with fail
                  refine bodyPost_ret (results_ct rfl _ _ w.heap.size 27 _ (0, 0) _ rfl HS1.out Try.underlying27 rfl (by kernel_rfl)) rfl ?_
                  rw [← HR.out]
                  have hq : w8.heap.size ≤ q := HQ10.out
                  have hq2 : w.heap.size < q := by have := blk_lt HZ8'.out; omega
                  have hF3 := Kd.F_below HF8.out HB10.out
                  exact ⟨x, B, mm, Kd.F_mono (Kd.F_step hF3 (fun k hk hlt2 => HS2.out.block k hlt2 (by have := hk.1; omega))) (fun k hk => by have := hk.1; omega), HMM.out, (HW8.out.below HB10.out).new HS2.out (Nat.le_refl _), q, rfl, (HS2.out.block _ (blk_lt HW10.out) (Nat.ne_of_gt hq2)).trans HW10.out, Nat.le_of_lt hq2⟩
end Go.Proofs.Ytchodmjleceooaa.V
