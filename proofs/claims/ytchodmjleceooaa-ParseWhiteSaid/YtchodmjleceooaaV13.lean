import Derived.Test.YtchodmjleceooaaV0
import Derived.Test.YtchodmjleceooaaV1
import Derived.Test.YtchodmjleceooaaV2
import Derived.Test.YtchodmjleceooaaV5
import Derived.Test.YtchodmjleceooaaV6
import Derived.Test.YtchodmjleceooaaV7
import Derived.Test.YtchodmjleceooaaV8
import Derived.Test.YtchodmjleceooaaV9
import Derived.Test.YtchodmjleceooaaV11
namespace Go.Proofs.Ytchodmjleceooaa.V
open Go.RowKit Go.Proofs.YtchodmjleceooaaW.PrintWords Go.Proofs.YtchodmjleceooaaW.PrintLast Go.Proofs.YtchodmjleceooaaW.PrintMore
attribute [local go_sem] max2_int min2_int max_two min_two max_three min_three max_four min_four
set_option linter.unusedVariables false
set_option linter.unusedSimpArgs false
def parse_Parse.f (a0 : ByteArray) : Option (Int × Int × ByteArray × ByteArray × ByteArray × Bool × Bool × (List (S27)) × Int × Int) := match pParse a0 with | (x, at_, e) => some (x.f0, x.f1.f0, x.f1.f1, x.f1.f2, x.f1.f3, x.f2, x.f3, x.f4, at_, e)
attribute [local go_sem] tokKind tokAt tokText
set_option maxRecDepth 100000 in
set_option maxHeartbeats 8000000 in
theorem parse_Parse.calls (a0 : ByteArray) (r1 : Int) (r2 : Int) (r3 : ByteArray) (r4 : ByteArray) (r5 : ByteArray) (r6 : Bool) (r7 : Bool) (r8 : List (S27)) (r9 : Int) (r10 : Int) (w : World) (h : parse_Parse.f a0 = some (r1, r2, r3, r4, r5, r6, r7, r8, r9, r10)) :
    Calls Try.prog 6 #[.string a0] w fun e w' => ∃ v7_ : Value, e = .returned (.tuple #[.agg #[.int .i64 r1, .int .i64 r2, .string r3, .string r4, .string r5, .bool r6, .bool r7, v7_], .int .i64 r9, .int .i64 r10]) ∧ Kd.V k27 27 w' w.heap.size (fun k_ => (w.heap.size ≤ k_)) v7_ r8 ∧ Below w.heap.size w w' := by
  have hr : ∃ x, pParse a0 = (x, r9, r10) ∧ x.f0 = r1 ∧ x.f1.f0 = r2 ∧ x.f1.f1 = r3 ∧ x.f1.f2 = r4 ∧ x.f1.f3 = r5 ∧ x.f2 = r6 ∧ x.f3 = r7 ∧ x.f4 = r8 := by
    rw [parse_Parse.f] at h
    generalize pParse a0 = y at h ⊢
    obtain ⟨x, a, e⟩ := y
    simp only [Option.some.injEq, Prod.mk.injEq] at h
    obtain ⟨rfl, rfl, rfl, rfl, rfl, rfl, rfl, rfl, rfl, rfl⟩ := h
    exact ⟨x, rfl, rfl, rfl, rfl, rfl, rfl, rfl, rfl, rfl⟩
  clear h
  obtain ⟨xr, hr, rfl, rfl, rfl, rfl, rfl, rfl, rfl, rfl⟩ := hr
  rw [pParse] at hr
  generalize hL : lexAll a0 = L at hr
  obtain ⟨l, at_, e⟩ := L
  have HL := Aside0.mk (show lex_All.f a0 = some (l, at_, e) by rw [lex_All.f, hL])
  simp only [] at hr
  by_cases he : e = 0
  · subst he
    have HOK := Aside0.mk (lexAll_ok hL)
    clear hL
    rw [if_neg (by simp)] at hr
    obtain ⟨R, hR, hRok⟩ := (pBoth_some (2 * l.length + 1)).1 l 0 0 HOK.out (by omega)
    rw [hR] at hr
    have HR := Aside0.mk hR
    have HRR := Aside0.mk hr
    have HRO := Aside0.mk hRok
    clear hR hr hRok
    go_enter Try.func6, Try.ntmps6
    go_wp2_with fail
    refine (lex_All.calls a0 l at_ 0 _ HL.out).mono ?_
    rintro e1 w1 ⟨v, rfl, hv, hb⟩
    have hV := Kd.R_V (base' := 0) hv
    obtain ⟨A, c, rfl⟩ := Kd.V_slice hV
    have hV2 := Kd.V_at hV
    have HB1 := Aside0.mk (below_step (below_alloc (Below.refl w.heap.size w) _) hb)
    have HZ1 := Aside0.mk (blk_below (blk_new w _) hb)
    have HF1 := Aside0.mk (Kd.F_bound hV2.2.2)
    have hlc := hV2.2.1
    have hz1 : w.heap.size < w1.heap.size := blk_lt HZ1.out
    clear hv hV hV2 hb
    have HP2 : Aside0 (PAt (w1.alloc (.cells #[.slice A l.length c, .int .i64 0, .int .i64 0] 43)) w1.heap.size l 0 0 A c) :=
      ⟨⟨blk_new _ _, hlc, Kd.F_below (Kd.F_mono HF1.out (fun k hk => hk.2)) (below_alloc (Below.refl _ _) _), HOK.out, by omega, by omega, by omega, by omega⟩⟩
    have HZ2 := Aside0.mk (blk_alloc HZ1.out (.cells #[.slice A l.length c, .int .i64 0, .int .i64 0] 43))
    clear hlc
    go_wp2_with fail
    refine (expr_all _ R HP2.out HR.out).mono ?_
    rintro e1 w3 ho
    have hs2 : w1.heap.size + 1 = (w1.alloc (.cells #[.slice A l.length c, .int .i64 0, .int .i64 0] 43)).heap.size := by simp
    cases R with
    | error ae =>
      obtain ⟨x, B, mm, q, rfl, hF, hmm, hW, hw3, hq⟩ := ho.err
      have HXR : Aside0 (xr = zNode ∧ r9 = ae.1 ∧ r10 = ae.2) := ⟨by have h := HRR.out; simp only [Prod.mk.injEq] at h; exact ⟨h.1.symm, h.2.1.symm, h.2.2.symm⟩⟩
      have HZ3 := Aside0.mk ((hW.block _ (blk_lt HZ2.out) (by omega)).trans HZ2.out)
      have HB3 := Aside0.mk ((below_alloc HB1.out _).trans (hW.to_below (Nat.le_of_lt hz1) (by simp; omega)))
      have hq3 : w.heap.size < q := by omega
      have HB4 := Aside0.mk (below_alloc HB3.out (.cells #[.int .i64 x.f0, .int .i64 x.f1.f0, .string x.f1.f1, .string x.f1.f2, .string x.f1.f3, .bool x.f2, .bool x.f3, .slice B x.f4.length mm] 27))
      have HZ4 := Aside0.mk (blk_alloc HZ3.out (.cells #[.int .i64 x.f0, .int .i64 x.f1.f0, .string x.f1.f1, .string x.f1.f2, .string x.f1.f3, .bool x.f2, .bool x.f3, .slice B x.f4.length mm] 27))
      have HW4 := Aside0.mk (blk_alloc hw3 (.cells #[.int .i64 x.f0, .int .i64 x.f1.f0, .string x.f1.f1, .string x.f1.f2, .string x.f1.f3, .bool x.f2, .bool x.f3, .slice B x.f4.length mm] 27))
      have HQ := Aside0.mk hq3
      clear ho hF hmm hW hw3 hq hs2 hq3
      go_wp2_with fail
      have c0 : (w3.alloc _).cell? ⟨q, 0, none⟩ = some (.int .i64 ae.1) := (blk_cell HW4.out 0).trans rfl
      have c1 : (w3.alloc _).cell? ⟨q, 1, none⟩ = some (.int .i64 ae.2) := (blk_cell HW4.out 1).trans rfl
      refine wp_region_any (by kernel_rfl) ?_
      change wpAny _ _ _ _ _ _ _ (World.drew _)
      refine wpAny_take (i := 0) (v := .agg #[.int .i64 0, .int .i64 0, .string ⟨#[]⟩, .string ⟨#[]⟩, .string ⟨#[]⟩, .bool false, .bool false, .slice none 0 0]) rfl (by kernel_rfl) (by kernel_rfl) (by kernel_rfl) (fun _ _ _ h => h) (Or.inl ⟨by rfl, fun w => by go_simp⟩) ?_
      refine wpAny_take (i := 1) (v := .pointer (some ⟨q, 0, none⟩)) rfl (by kernel_rfl) (by kernel_rfl) (by kernel_rfl) (fun _ _ _ h => h) (Or.inl ⟨by rfl, fun w => by go_simp⟩) ?_
      refine wpAny_take (i := 2) (v := .pointer (some ⟨q, 0, none⟩)) rfl (by kernel_rfl) (by kernel_rfl) (by kernel_rfl) (fun _ _ _ h => h) (Or.inl ⟨by rfl, fun w => by go_simp⟩) ?_
      refine wpAny_take (i := 3) (v := .pointer (some ⟨q, 0, none⟩)) rfl (by kernel_rfl) (by kernel_rfl) (by kernel_rfl) (fun _ _ _ h => h) (Or.inl ⟨by rfl, fun w => by go_simp⟩) ?_
      refine wpAny_take (i := 5) (v := .pointer (some ⟨q, 0, none⟩)) rfl (by kernel_rfl) (by kernel_rfl) (by kernel_rfl) (fun _ _ _ h => h) (Or.inl ⟨by rfl, fun w => by go_simp⟩) ?_
      refine wpAny_take (i := 6) (v := .pointer (some ⟨q, 0, none⟩)) rfl (by kernel_rfl) (by kernel_rfl) (by kernel_rfl) (fun _ _ _ h => h) (Or.inl ⟨by rfl, fun w => by go_simp⟩) ?_
      refine wpAny_take (i := 7) (v := .pointer (some ⟨q, 1, none⟩)) rfl (by kernel_rfl) (by kernel_rfl) (by kernel_rfl) (fun _ _ _ h => h) (Or.inl ⟨by rfl, fun w => by go_simp⟩) ?_
      simp only [Act.put, List.getElem_toArray, List.getElem_cons_succ, List.getElem_cons_zero, List.setIfInBounds_toArray, List.set_cons_succ, List.set_cons_zero]
      refine wpAny_ready (rs := [4, 8, 9]) (by kernel_rfl) (by simp) ?_
      refine AllReady.cons rfl (fun K hK => ?_) ?_
      · go_simp
        refine hK _ _ ?_
        clear hK K
        refine wpAny_ready (rs := [8, 9]) (by kernel_rfl) (by simp) ?_
        refine AllReady.cons rfl (fun K hK => ?_) ?_
        · go_simp
          refine hK _ _ ?_
          clear hK K
          refine wpAny_ready (rs := [9]) (by kernel_rfl) (by simp) ?_
          refine AllReady.cons rfl (fun K hK => ?_) AllReady.nil
          refine step_storeNode (by rfl) (by rfl) (.tmp 2) (.tmp 42) (by rfl) (k := 0) (p0 := 0) (p1 := ⟨#[]⟩) (p2 := ⟨#[]⟩) (p3 := ⟨#[]⟩) (b := false) (c := false) (B := none) (m := 0) (e := 0) (by rfl) (by rfl) (z := _) HZ4.out rfl ?_
          intro w9 hs1 hs2
          have HS1 := Aside0.mk hs1
          have HS2 := Aside0.mk hs2
          have e0 : w9.cell? ⟨q, 0, none⟩ = some (.int .i64 ae.1) := (blk_cell ((hs2.block _ (blk_lt HW4.out) (Nat.ne_of_gt HQ.out)).trans HW4.out) 0).trans rfl
          have e1 : w9.cell? ⟨q, 1, none⟩ = some (.int .i64 ae.2) := (blk_cell ((hs2.block _ (blk_lt HW4.out) (Nat.ne_of_gt HQ.out)).trans HW4.out) 1).trans rfl
          clear hs1 hs2
          refine hK _ _ ?_
          clear hK K
          refine wpAny_take (i := 10) (v := .int .i64 ae.1) rfl (by kernel_rfl) (by kernel_rfl) (by kernel_rfl) (fun _ _ _ h => h) (Or.inl ⟨by rfl, fun w => by go_simp⟩) ?_
          refine wpAny_take (i := 11) (v := .int .i64 ae.2) rfl (by kernel_rfl) (by kernel_rfl) (by kernel_rfl) (fun _ _ _ h => h) (Or.inl ⟨by rfl, fun w => by go_simp⟩) ?_
          refine wpAny_done (by kernel_rfl) ?_ _
          go_wp2_with fail
          refine bodyPost_ret (results_ctt rfl _ _ w.heap.size 27 _ (0, 0) _ rfl HS1.out Try.underlying27 rfl (by kernel_rfl)) rfl ?_
          obtain ⟨rfl, rfl, rfl⟩ := HXR.out
          exact ⟨_, rfl, Kd.V_mk (Nat.le_refl _) (Kd.F_nil _ _ _), (HB4.out.trans (below_drew (Below.refl _ _))).trans (HS2.out.to_below (Nat.le_refl _) (Nat.le_of_lt (blk_lt HZ4.out)))⟩
        refine AllReady.cons rfl (fun K hK => ?_) AllReady.nil
        refine step_storeNode (by rfl) (by rfl) (.tmp 2) (.tmp 42) (by rfl) (k := 0) (p0 := 0) (p1 := ⟨#[]⟩) (p2 := ⟨#[]⟩) (p3 := ⟨#[]⟩) (b := false) (c := false) (B := none) (m := 0) (e := 0) (by rfl) (by rfl) (z := _) HZ4.out rfl ?_
        intro w9 hs1 hs2
        have HS1 := Aside0.mk hs1
        have HS2 := Aside0.mk hs2
        have e0 : w9.cell? ⟨q, 0, none⟩ = some (.int .i64 ae.1) := (blk_cell ((hs2.block _ (blk_lt HW4.out) (Nat.ne_of_gt HQ.out)).trans HW4.out) 0).trans rfl
        have e1 : w9.cell? ⟨q, 1, none⟩ = some (.int .i64 ae.2) := (blk_cell ((hs2.block _ (blk_lt HW4.out) (Nat.ne_of_gt HQ.out)).trans HW4.out) 1).trans rfl
        clear hs1 hs2
        refine hK _ _ ?_
        clear hK K
        refine wpAny_take (i := 10) (v := .int .i64 ae.1) rfl (by kernel_rfl) (by kernel_rfl) (by kernel_rfl) (fun _ _ _ h => h) (Or.inl ⟨by rfl, fun w => by go_simp⟩) ?_
        refine wpAny_ready (rs := [8]) (by kernel_rfl) (by simp) ?_
        refine AllReady.cons rfl (fun K hK => ?_) AllReady.nil
        go_simp
        refine hK _ _ ?_
        clear hK K
        refine wpAny_take (i := 11) (v := .int .i64 ae.2) rfl (by kernel_rfl) (by kernel_rfl) (by kernel_rfl) (fun _ _ _ h => h) (Or.inl ⟨by rfl, fun w => by go_simp⟩) ?_
        refine wpAny_done (by kernel_rfl) ?_ _
        go_wp2_with fail
        refine bodyPost_ret (results_ctt rfl _ _ w.heap.size 27 _ (0, 0) _ rfl HS1.out Try.underlying27 rfl (by kernel_rfl)) rfl ?_
        obtain ⟨rfl, rfl, rfl⟩ := HXR.out
        exact ⟨_, rfl, Kd.V_mk (Nat.le_refl _) (Kd.F_nil _ _ _), (HB4.out.trans (below_drew (Below.refl _ _))).trans (HS2.out.to_below (Nat.le_refl _) (Nat.le_of_lt (blk_lt HZ4.out)))⟩
      refine AllReady.cons rfl (fun K hK => ?_) ?_
      · go_simp
        refine hK _ _ ?_
        clear hK K
        refine wpAny_ready (rs := [4, 9]) (by kernel_rfl) (by simp) ?_
        refine AllReady.cons rfl (fun K hK => ?_) ?_
        · go_simp
          refine hK _ _ ?_
          clear hK K
          refine wpAny_ready (rs := [9]) (by kernel_rfl) (by simp) ?_
          refine AllReady.cons rfl (fun K hK => ?_) AllReady.nil
          refine step_storeNode (by rfl) (by rfl) (.tmp 2) (.tmp 42) (by rfl) (k := 0) (p0 := 0) (p1 := ⟨#[]⟩) (p2 := ⟨#[]⟩) (p3 := ⟨#[]⟩) (b := false) (c := false) (B := none) (m := 0) (e := 0) (by rfl) (by rfl) (z := _) HZ4.out rfl ?_
          intro w9 hs1 hs2
          have HS1 := Aside0.mk hs1
          have HS2 := Aside0.mk hs2
          have e0 : w9.cell? ⟨q, 0, none⟩ = some (.int .i64 ae.1) := (blk_cell ((hs2.block _ (blk_lt HW4.out) (Nat.ne_of_gt HQ.out)).trans HW4.out) 0).trans rfl
          have e1 : w9.cell? ⟨q, 1, none⟩ = some (.int .i64 ae.2) := (blk_cell ((hs2.block _ (blk_lt HW4.out) (Nat.ne_of_gt HQ.out)).trans HW4.out) 1).trans rfl
          clear hs1 hs2
          refine hK _ _ ?_
          clear hK K
          refine wpAny_take (i := 10) (v := .int .i64 ae.1) rfl (by kernel_rfl) (by kernel_rfl) (by kernel_rfl) (fun _ _ _ h => h) (Or.inl ⟨by rfl, fun w => by go_simp⟩) ?_
          refine wpAny_take (i := 11) (v := .int .i64 ae.2) rfl (by kernel_rfl) (by kernel_rfl) (by kernel_rfl) (fun _ _ _ h => h) (Or.inl ⟨by rfl, fun w => by go_simp⟩) ?_
          refine wpAny_done (by kernel_rfl) ?_ _
          go_wp2_with fail
          refine bodyPost_ret (results_ctt rfl _ _ w.heap.size 27 _ (0, 0) _ rfl HS1.out Try.underlying27 rfl (by kernel_rfl)) rfl ?_
          obtain ⟨rfl, rfl, rfl⟩ := HXR.out
          exact ⟨_, rfl, Kd.V_mk (Nat.le_refl _) (Kd.F_nil _ _ _), (HB4.out.trans (below_drew (Below.refl _ _))).trans (HS2.out.to_below (Nat.le_refl _) (Nat.le_of_lt (blk_lt HZ4.out)))⟩
        refine AllReady.cons rfl (fun K hK => ?_) AllReady.nil
        refine step_storeNode (by rfl) (by rfl) (.tmp 2) (.tmp 42) (by rfl) (k := 0) (p0 := 0) (p1 := ⟨#[]⟩) (p2 := ⟨#[]⟩) (p3 := ⟨#[]⟩) (b := false) (c := false) (B := none) (m := 0) (e := 0) (by rfl) (by rfl) (z := _) HZ4.out rfl ?_
        intro w9 hs1 hs2
        have HS1 := Aside0.mk hs1
        have HS2 := Aside0.mk hs2
        have e0 : w9.cell? ⟨q, 0, none⟩ = some (.int .i64 ae.1) := (blk_cell ((hs2.block _ (blk_lt HW4.out) (Nat.ne_of_gt HQ.out)).trans HW4.out) 0).trans rfl
        have e1 : w9.cell? ⟨q, 1, none⟩ = some (.int .i64 ae.2) := (blk_cell ((hs2.block _ (blk_lt HW4.out) (Nat.ne_of_gt HQ.out)).trans HW4.out) 1).trans rfl
        clear hs1 hs2
        refine hK _ _ ?_
        clear hK K
        refine wpAny_ready (rs := [4]) (by kernel_rfl) (by simp) ?_
        refine AllReady.cons rfl (fun K hK => ?_) AllReady.nil
        go_simp
        refine hK _ _ ?_
        clear hK K
        refine wpAny_take (i := 10) (v := .int .i64 ae.1) rfl (by kernel_rfl) (by kernel_rfl) (by kernel_rfl) (fun _ _ _ h => h) (Or.inl ⟨by rfl, fun w => by go_simp⟩) ?_
        refine wpAny_take (i := 11) (v := .int .i64 ae.2) rfl (by kernel_rfl) (by kernel_rfl) (by kernel_rfl) (fun _ _ _ h => h) (Or.inl ⟨by rfl, fun w => by go_simp⟩) ?_
        refine wpAny_done (by kernel_rfl) ?_ _
        go_wp2_with fail
        refine bodyPost_ret (results_ctt rfl _ _ w.heap.size 27 _ (0, 0) _ rfl HS1.out Try.underlying27 rfl (by kernel_rfl)) rfl ?_
        obtain ⟨rfl, rfl, rfl⟩ := HXR.out
        exact ⟨_, rfl, Kd.V_mk (Nat.le_refl _) (Kd.F_nil _ _ _), (HB4.out.trans (below_drew (Below.refl _ _))).trans (HS2.out.to_below (Nat.le_refl _) (Nat.le_of_lt (blk_lt HZ4.out)))⟩
      refine AllReady.cons rfl (fun K hK => ?_) AllReady.nil
      refine step_storeNode (by rfl) (by rfl) (.tmp 2) (.tmp 42) (by rfl) (k := 0) (p0 := 0) (p1 := ⟨#[]⟩) (p2 := ⟨#[]⟩) (p3 := ⟨#[]⟩) (b := false) (c := false) (B := none) (m := 0) (e := 0) (by rfl) (by rfl) (z := _) HZ4.out rfl ?_
      intro w9 hs1 hs2
      have HS1 := Aside0.mk hs1
      have HS2 := Aside0.mk hs2
      have e0 : w9.cell? ⟨q, 0, none⟩ = some (.int .i64 ae.1) := (blk_cell ((hs2.block _ (blk_lt HW4.out) (Nat.ne_of_gt HQ.out)).trans HW4.out) 0).trans rfl
      have e1 : w9.cell? ⟨q, 1, none⟩ = some (.int .i64 ae.2) := (blk_cell ((hs2.block _ (blk_lt HW4.out) (Nat.ne_of_gt HQ.out)).trans HW4.out) 1).trans rfl
      clear hs1 hs2
      refine hK _ _ ?_
      clear hK K
      refine wpAny_ready (rs := [4, 8]) (by kernel_rfl) (by simp) ?_
      refine AllReady.cons rfl (fun K hK => ?_) ?_
      · go_simp
        refine hK _ _ ?_
        clear hK K
        refine wpAny_take (i := 10) (v := .int .i64 ae.1) rfl (by kernel_rfl) (by kernel_rfl) (by kernel_rfl) (fun _ _ _ h => h) (Or.inl ⟨by rfl, fun w => by go_simp⟩) ?_
        refine wpAny_ready (rs := [8]) (by kernel_rfl) (by simp) ?_
        refine AllReady.cons rfl (fun K hK => ?_) AllReady.nil
        go_simp
        refine hK _ _ ?_
        clear hK K
        refine wpAny_take (i := 11) (v := .int .i64 ae.2) rfl (by kernel_rfl) (by kernel_rfl) (by kernel_rfl) (fun _ _ _ h => h) (Or.inl ⟨by rfl, fun w => by go_simp⟩) ?_
        refine wpAny_done (by kernel_rfl) ?_ _
        go_wp2_with fail
        refine bodyPost_ret (results_ctt rfl _ _ w.heap.size 27 _ (0, 0) _ rfl HS1.out Try.underlying27 rfl (by kernel_rfl)) rfl ?_
        obtain ⟨rfl, rfl, rfl⟩ := HXR.out
        exact ⟨_, rfl, Kd.V_mk (Nat.le_refl _) (Kd.F_nil _ _ _), (HB4.out.trans (below_drew (Below.refl _ _))).trans (HS2.out.to_below (Nat.le_refl _) (Nat.le_of_lt (blk_lt HZ4.out)))⟩
      refine AllReady.cons rfl (fun K hK => ?_) AllReady.nil
      go_simp
      refine hK _ _ ?_
      clear hK K
      refine wpAny_ready (rs := [4]) (by kernel_rfl) (by simp) ?_
      refine AllReady.cons rfl (fun K hK => ?_) AllReady.nil
      go_simp
      refine hK _ _ ?_
      clear hK K
      refine wpAny_take (i := 10) (v := .int .i64 ae.1) rfl (by kernel_rfl) (by kernel_rfl) (by kernel_rfl) (fun _ _ _ h => h) (Or.inl ⟨by rfl, fun w => by go_simp⟩) ?_
      refine wpAny_take (i := 11) (v := .int .i64 ae.2) rfl (by kernel_rfl) (by kernel_rfl) (by kernel_rfl) (fun _ _ _ h => h) (Or.inl ⟨by rfl, fun w => by go_simp⟩) ?_
      refine wpAny_done (by kernel_rfl) ?_ _
      go_wp2_with fail
      refine bodyPost_ret (results_ctt rfl _ _ w.heap.size 27 _ (0, 0) _ rfl HS1.out Try.underlying27 rfl (by kernel_rfl)) rfl ?_
      obtain ⟨rfl, rfl, rfl⟩ := HXR.out
      exact ⟨_, rfl, Kd.V_mk (Nat.le_refl _) (Kd.F_nil _ _ _), (HB4.out.trans (below_drew (Below.refl _ _))).trans (HS2.out.to_below (Nat.le_refl _) (Nat.le_of_lt (blk_lt HZ4.out)))⟩
    | ok p =>
      obtain ⟨x, l1, n1⟩ := p
      obtain ⟨t, r, rfl⟩ : ∃ t r, l1 = t :: r := by
        have h := HRO.out _ _ _ rfl
        cases l1 with
        | nil => exact h.elim
        | cons t r => exact ⟨t, r, rfl⟩
      obtain ⟨B, mm, rfl, hF, hmm, hW, A3, c3, hp⟩ := ho.good
      have HZ3 := Aside0.mk ((hW.block _ (blk_lt HZ2.out) (by omega)).trans HZ2.out)
      have HB3 := Aside0.mk ((below_alloc HB1.out _).trans (hW.to_below (Nat.le_of_lt hz1) (by simp; omega)))
      have HB4 := Aside0.mk (below_alloc HB3.out (.cells #[.int .i64 x.f0, .int .i64 x.f1.f0, .string x.f1.f1, .string x.f1.f2, .string x.f1.f3, .bool x.f2, .bool x.f3, .slice B x.f4.length mm] 27))
      have HZ4 := Aside0.mk (blk_alloc HZ3.out (.cells #[.int .i64 x.f0, .int .i64 x.f1.f0, .string x.f1.f1, .string x.f1.f2, .string x.f1.f3, .bool x.f2, .bool x.f3, .slice B x.f4.length mm] 27))
      have HP4 := Aside0.mk (hp.below (below_alloc (Below.refl _ _) (.cells #[.int .i64 x.f0, .int .i64 x.f1.f0, .string x.f1.f1, .string x.f1.f2, .string x.f1.f3, .bool x.f2, .bool x.f3, .slice B x.f4.length mm] 27)))
      have HF4 := Aside0.mk (Kd.F_below (Kd.F_bound hF) (below_alloc (Below.refl _ _) (.cells #[.int .i64 x.f0, .int .i64 x.f1.f0, .string x.f1.f1, .string x.f1.f2, .string x.f1.f3, .bool x.f2, .bool x.f3, .slice B x.f4.length mm] 27)))
      have HX4 := Aside0.mk (blk_new w3 (.cells #[.int .i64 x.f0, .int .i64 x.f1.f0, .string x.f1.f1, .string x.f1.f2, .string x.f1.f3, .bool x.f2, .bool x.f3, .slice B x.f4.length mm] 27))
      have HMM := Aside0.mk hmm
      have hs3 : w1.heap.size + 1 ≤ w3.heap.size := by have := hW.size; omega
      clear ho hF hmm hW hp
      go_wp2_with fail
      refine (next_calls HP4.out).mono ?_
      rintro e1 w5 ⟨rfl, hb⟩
      have HP5 := Aside0.mk (HP4.out.below hb)
      have HZ5 := Aside0.mk (blk_below HZ4.out hb)
      have HX5 := Aside0.mk (blk_below HX4.out hb)
      have HF5 := Aside0.mk (Kd.F_below (Kd.F_bound HF4.out) hb)
      have HB5 := Aside0.mk (below_step HB4.out hb)
      clear hb
      by_cases h9 : t.f0 = 9
      · have k9 : (t.f0 != 9) = false := by rw [h9]; rfl
        have HXR : Aside0 (xr = x ∧ r9 = at_ ∧ r10 = 0) := ⟨by have h := HRR.out; simp only [if_pos h9, Prod.mk.injEq] at h; exact ⟨h.1.symm, h.2.1.symm, h.2.2.symm⟩⟩
        obtain ⟨y0, y1, y2, y3, y4, y5, y6, y7⟩ := nCells_at HX5.out
        clear h9
        go_wp2_with ((refine gate_ (.store 27 (.tmp 2) (.tmp 51)) rfl ?_; go_loud (refine wpList_storeNode rfl rfl (.tmp 2) (.tmp 51) rfl (k := x.f0) (p0 := x.f1.f0) (p1 := x.f1.f1) (p2 := x.f1.f2) (p3 := x.f1.f3) (b := x.f2) (c := x.f3) (B := B) (m := x.f4.length) (e := mm) rfl rfl HZ5.out rfl ?_; intro w9 hs1 hs2; have HS1 := Aside0.mk hs1; have HS2 := Aside0.mk hs2; clear hs1 hs2)))
        refine bodyPost_ret (results_ctt rfl _ _ w.heap.size 27 _ (0, 0) _ rfl HS1.out Try.underlying27 rfl (by kernel_rfl)) rfl ?_
        obtain ⟨rfl, rfl, rfl⟩ := HXR.out
        exact ⟨_, rfl, Kd.V_mk HMM.out (Kd.F_mono (Kd.F_step HF5.out (fun k hk hl => HS2.out.block k hl (by have := hk.1.1; omega))) (fun k hk => by have := hk.1.1; omega)), HB5.out.trans (HS2.out.to_below (Nat.le_refl _) (Nat.le_of_lt (blk_lt HZ5.out)))⟩
      · have k9 : (t.f0 != 9) = true := by simpa using h9
        have HXR : Aside0 (xr = zNode ∧ r9 = (pNot t 3).1 ∧ r10 = (pNot t 3).2) := ⟨by have h := HRR.out; simp only [if_neg h9, Prod.mk.injEq] at h; exact ⟨h.1.symm, h.2.1.symm, h.2.2.symm⟩⟩
        clear h9
        go_wp2_with fail
        refine (not_calls HP5.out 3).mono ?_
        rintro e1 w6 ⟨q, rfl, hw, hq, hb⟩
        generalize pNot t 3 = ae at hw HXR
        have HZ6 := Aside0.mk (blk_below HZ5.out hb)
        have HB6 := Aside0.mk (below_step HB5.out hb)
        have HW6 := Aside0.mk hw
        have HQ := Aside0.mk (show w.heap.size < q by have := blk_lt HZ5.out; omega)
        clear hw hq hb
        go_wp2_with fail
        have c0 : w6.cell? ⟨q, 0, none⟩ = some (.int .i64 ae.1) := (blk_cell HW6.out 0).trans rfl
        have c1 : w6.cell? ⟨q, 1, none⟩ = some (.int .i64 ae.2) := (blk_cell HW6.out 1).trans rfl
        refine wp_region_any (by kernel_rfl) ?_
        change wpAny _ _ _ _ _ _ _ (World.drew _)
        refine wpAny_take (i := 0) (v := .agg #[.int .i64 0, .int .i64 0, .string ⟨#[]⟩, .string ⟨#[]⟩, .string ⟨#[]⟩, .bool false, .bool false, .slice none 0 0]) rfl (by kernel_rfl) (by kernel_rfl) (by kernel_rfl) (fun _ _ _ h => h) (Or.inl ⟨by rfl, fun w => by go_simp⟩) ?_
        refine wpAny_take (i := 1) (v := .pointer (some ⟨q, 0, none⟩)) rfl (by kernel_rfl) (by kernel_rfl) (by kernel_rfl) (fun _ _ _ h => h) (Or.inl ⟨by rfl, fun w => by go_simp⟩) ?_
        refine wpAny_take (i := 2) (v := .pointer (some ⟨q, 0, none⟩)) rfl (by kernel_rfl) (by kernel_rfl) (by kernel_rfl) (fun _ _ _ h => h) (Or.inl ⟨by rfl, fun w => by go_simp⟩) ?_
        refine wpAny_take (i := 3) (v := .pointer (some ⟨q, 0, none⟩)) rfl (by kernel_rfl) (by kernel_rfl) (by kernel_rfl) (fun _ _ _ h => h) (Or.inl ⟨by rfl, fun w => by go_simp⟩) ?_
        refine wpAny_take (i := 5) (v := .pointer (some ⟨q, 0, none⟩)) rfl (by kernel_rfl) (by kernel_rfl) (by kernel_rfl) (fun _ _ _ h => h) (Or.inl ⟨by rfl, fun w => by go_simp⟩) ?_
        refine wpAny_take (i := 6) (v := .pointer (some ⟨q, 0, none⟩)) rfl (by kernel_rfl) (by kernel_rfl) (by kernel_rfl) (fun _ _ _ h => h) (Or.inl ⟨by rfl, fun w => by go_simp⟩) ?_
        refine wpAny_take (i := 7) (v := .pointer (some ⟨q, 1, none⟩)) rfl (by kernel_rfl) (by kernel_rfl) (by kernel_rfl) (fun _ _ _ h => h) (Or.inl ⟨by rfl, fun w => by go_simp⟩) ?_
        simp only [Act.put, List.getElem_toArray, List.getElem_cons_succ, List.getElem_cons_zero, List.setIfInBounds_toArray, List.set_cons_succ, List.set_cons_zero]
        refine wpAny_ready (rs := [4, 8, 9]) (by kernel_rfl) (by simp) ?_
        refine AllReady.cons rfl (fun K hK => ?_) ?_
        · go_simp
          refine hK _ _ ?_
          clear hK K
          refine wpAny_ready (rs := [8, 9]) (by kernel_rfl) (by simp) ?_
          refine AllReady.cons rfl (fun K hK => ?_) ?_
          · go_simp
            refine hK _ _ ?_
            clear hK K
            refine wpAny_ready (rs := [9]) (by kernel_rfl) (by simp) ?_
            refine AllReady.cons rfl (fun K hK => ?_) AllReady.nil
            refine step_storeNode (by rfl) (by rfl) (.tmp 2) (.tmp 42) (by rfl) (k := 0) (p0 := 0) (p1 := ⟨#[]⟩) (p2 := ⟨#[]⟩) (p3 := ⟨#[]⟩) (b := false) (c := false) (B := none) (m := 0) (e := 0) (by rfl) (by rfl) (z := _) HZ6.out rfl ?_
            intro w9 hs1 hs2
            have HS1 := Aside0.mk hs1
            have HS2 := Aside0.mk hs2
            have e0 : w9.cell? ⟨q, 0, none⟩ = some (.int .i64 ae.1) := (blk_cell ((hs2.block _ (blk_lt HW6.out) (Nat.ne_of_gt HQ.out)).trans HW6.out) 0).trans rfl
            have e1 : w9.cell? ⟨q, 1, none⟩ = some (.int .i64 ae.2) := (blk_cell ((hs2.block _ (blk_lt HW6.out) (Nat.ne_of_gt HQ.out)).trans HW6.out) 1).trans rfl
            clear hs1 hs2
            refine hK _ _ ?_
            clear hK K
            refine wpAny_take (i := 10) (v := .int .i64 ae.1) rfl (by kernel_rfl) (by kernel_rfl) (by kernel_rfl) (fun _ _ _ h => h) (Or.inl ⟨by rfl, fun w => by go_simp⟩) ?_
            refine wpAny_take (i := 11) (v := .int .i64 ae.2) rfl (by kernel_rfl) (by kernel_rfl) (by kernel_rfl) (fun _ _ _ h => h) (Or.inl ⟨by rfl, fun w => by go_simp⟩) ?_
            refine wpAny_done (by kernel_rfl) ?_ _
            go_wp2_with fail
            refine bodyPost_ret (results_ctt rfl _ _ w.heap.size 27 _ (0, 0) _ rfl HS1.out Try.underlying27 rfl (by kernel_rfl)) rfl ?_
            obtain ⟨rfl, rfl, rfl⟩ := HXR.out
            exact ⟨_, rfl, Kd.V_mk (Nat.le_refl _) (Kd.F_nil _ _ _), (HB6.out.trans (below_drew (Below.refl _ _))).trans (HS2.out.to_below (Nat.le_refl _) (Nat.le_of_lt (blk_lt HZ6.out)))⟩
          refine AllReady.cons rfl (fun K hK => ?_) AllReady.nil
          refine step_storeNode (by rfl) (by rfl) (.tmp 2) (.tmp 42) (by rfl) (k := 0) (p0 := 0) (p1 := ⟨#[]⟩) (p2 := ⟨#[]⟩) (p3 := ⟨#[]⟩) (b := false) (c := false) (B := none) (m := 0) (e := 0) (by rfl) (by rfl) (z := _) HZ6.out rfl ?_
          intro w9 hs1 hs2
          have HS1 := Aside0.mk hs1
          have HS2 := Aside0.mk hs2
          have e0 : w9.cell? ⟨q, 0, none⟩ = some (.int .i64 ae.1) := (blk_cell ((hs2.block _ (blk_lt HW6.out) (Nat.ne_of_gt HQ.out)).trans HW6.out) 0).trans rfl
          have e1 : w9.cell? ⟨q, 1, none⟩ = some (.int .i64 ae.2) := (blk_cell ((hs2.block _ (blk_lt HW6.out) (Nat.ne_of_gt HQ.out)).trans HW6.out) 1).trans rfl
          clear hs1 hs2
          refine hK _ _ ?_
          clear hK K
          refine wpAny_take (i := 10) (v := .int .i64 ae.1) rfl (by kernel_rfl) (by kernel_rfl) (by kernel_rfl) (fun _ _ _ h => h) (Or.inl ⟨by rfl, fun w => by go_simp⟩) ?_
          refine wpAny_ready (rs := [8]) (by kernel_rfl) (by simp) ?_
          refine AllReady.cons rfl (fun K hK => ?_) AllReady.nil
          go_simp
          refine hK _ _ ?_
          clear hK K
          refine wpAny_take (i := 11) (v := .int .i64 ae.2) rfl (by kernel_rfl) (by kernel_rfl) (by kernel_rfl) (fun _ _ _ h => h) (Or.inl ⟨by rfl, fun w => by go_simp⟩) ?_
          refine wpAny_done (by kernel_rfl) ?_ _
          go_wp2_with fail
          refine bodyPost_ret (results_ctt rfl _ _ w.heap.size 27 _ (0, 0) _ rfl HS1.out Try.underlying27 rfl (by kernel_rfl)) rfl ?_
          obtain ⟨rfl, rfl, rfl⟩ := HXR.out
          exact ⟨_, rfl, Kd.V_mk (Nat.le_refl _) (Kd.F_nil _ _ _), (HB6.out.trans (below_drew (Below.refl _ _))).trans (HS2.out.to_below (Nat.le_refl _) (Nat.le_of_lt (blk_lt HZ6.out)))⟩
        refine AllReady.cons rfl (fun K hK => ?_) ?_
        · go_simp
          refine hK _ _ ?_
          clear hK K
          refine wpAny_ready (rs := [4, 9]) (by kernel_rfl) (by simp) ?_
          refine AllReady.cons rfl (fun K hK => ?_) ?_
          · go_simp
            refine hK _ _ ?_
            clear hK K
            refine wpAny_ready (rs := [9]) (by kernel_rfl) (by simp) ?_
            refine AllReady.cons rfl (fun K hK => ?_) AllReady.nil
            refine step_storeNode (by rfl) (by rfl) (.tmp 2) (.tmp 42) (by rfl) (k := 0) (p0 := 0) (p1 := ⟨#[]⟩) (p2 := ⟨#[]⟩) (p3 := ⟨#[]⟩) (b := false) (c := false) (B := none) (m := 0) (e := 0) (by rfl) (by rfl) (z := _) HZ6.out rfl ?_
            intro w9 hs1 hs2
            have HS1 := Aside0.mk hs1
            have HS2 := Aside0.mk hs2
            have e0 : w9.cell? ⟨q, 0, none⟩ = some (.int .i64 ae.1) := (blk_cell ((hs2.block _ (blk_lt HW6.out) (Nat.ne_of_gt HQ.out)).trans HW6.out) 0).trans rfl
            have e1 : w9.cell? ⟨q, 1, none⟩ = some (.int .i64 ae.2) := (blk_cell ((hs2.block _ (blk_lt HW6.out) (Nat.ne_of_gt HQ.out)).trans HW6.out) 1).trans rfl
            clear hs1 hs2
            refine hK _ _ ?_
            clear hK K
            refine wpAny_take (i := 10) (v := .int .i64 ae.1) rfl (by kernel_rfl) (by kernel_rfl) (by kernel_rfl) (fun _ _ _ h => h) (Or.inl ⟨by rfl, fun w => by go_simp⟩) ?_
            refine wpAny_take (i := 11) (v := .int .i64 ae.2) rfl (by kernel_rfl) (by kernel_rfl) (by kernel_rfl) (fun _ _ _ h => h) (Or.inl ⟨by rfl, fun w => by go_simp⟩) ?_
            refine wpAny_done (by kernel_rfl) ?_ _
            go_wp2_with fail
            refine bodyPost_ret (results_ctt rfl _ _ w.heap.size 27 _ (0, 0) _ rfl HS1.out Try.underlying27 rfl (by kernel_rfl)) rfl ?_
            obtain ⟨rfl, rfl, rfl⟩ := HXR.out
            exact ⟨_, rfl, Kd.V_mk (Nat.le_refl _) (Kd.F_nil _ _ _), (HB6.out.trans (below_drew (Below.refl _ _))).trans (HS2.out.to_below (Nat.le_refl _) (Nat.le_of_lt (blk_lt HZ6.out)))⟩
          refine AllReady.cons rfl (fun K hK => ?_) AllReady.nil
          refine step_storeNode (by rfl) (by rfl) (.tmp 2) (.tmp 42) (by rfl) (k := 0) (p0 := 0) (p1 := ⟨#[]⟩) (p2 := ⟨#[]⟩) (p3 := ⟨#[]⟩) (b := false) (c := false) (B := none) (m := 0) (e := 0) (by rfl) (by rfl) (z := _) HZ6.out rfl ?_
          intro w9 hs1 hs2
          have HS1 := Aside0.mk hs1
          have HS2 := Aside0.mk hs2
          have e0 : w9.cell? ⟨q, 0, none⟩ = some (.int .i64 ae.1) := (blk_cell ((hs2.block _ (blk_lt HW6.out) (Nat.ne_of_gt HQ.out)).trans HW6.out) 0).trans rfl
          have e1 : w9.cell? ⟨q, 1, none⟩ = some (.int .i64 ae.2) := (blk_cell ((hs2.block _ (blk_lt HW6.out) (Nat.ne_of_gt HQ.out)).trans HW6.out) 1).trans rfl
          clear hs1 hs2
          refine hK _ _ ?_
          clear hK K
          refine wpAny_ready (rs := [4]) (by kernel_rfl) (by simp) ?_
          refine AllReady.cons rfl (fun K hK => ?_) AllReady.nil
          go_simp
          refine hK _ _ ?_
          clear hK K
          refine wpAny_take (i := 10) (v := .int .i64 ae.1) rfl (by kernel_rfl) (by kernel_rfl) (by kernel_rfl) (fun _ _ _ h => h) (Or.inl ⟨by rfl, fun w => by go_simp⟩) ?_
          refine wpAny_take (i := 11) (v := .int .i64 ae.2) rfl (by kernel_rfl) (by kernel_rfl) (by kernel_rfl) (fun _ _ _ h => h) (Or.inl ⟨by rfl, fun w => by go_simp⟩) ?_
          refine wpAny_done (by kernel_rfl) ?_ _
          go_wp2_with fail
          refine bodyPost_ret (results_ctt rfl _ _ w.heap.size 27 _ (0, 0) _ rfl HS1.out Try.underlying27 rfl (by kernel_rfl)) rfl ?_
          obtain ⟨rfl, rfl, rfl⟩ := HXR.out
          exact ⟨_, rfl, Kd.V_mk (Nat.le_refl _) (Kd.F_nil _ _ _), (HB6.out.trans (below_drew (Below.refl _ _))).trans (HS2.out.to_below (Nat.le_refl _) (Nat.le_of_lt (blk_lt HZ6.out)))⟩
        refine AllReady.cons rfl (fun K hK => ?_) AllReady.nil
        refine step_storeNode (by rfl) (by rfl) (.tmp 2) (.tmp 42) (by rfl) (k := 0) (p0 := 0) (p1 := ⟨#[]⟩) (p2 := ⟨#[]⟩) (p3 := ⟨#[]⟩) (b := false) (c := false) (B := none) (m := 0) (e := 0) (by rfl) (by rfl) (z := _) HZ6.out rfl ?_
        intro w9 hs1 hs2
        have HS1 := Aside0.mk hs1
        have HS2 := Aside0.mk hs2
        have e0 : w9.cell? ⟨q, 0, none⟩ = some (.int .i64 ae.1) := (blk_cell ((hs2.block _ (blk_lt HW6.out) (Nat.ne_of_gt HQ.out)).trans HW6.out) 0).trans rfl
        have e1 : w9.cell? ⟨q, 1, none⟩ = some (.int .i64 ae.2) := (blk_cell ((hs2.block _ (blk_lt HW6.out) (Nat.ne_of_gt HQ.out)).trans HW6.out) 1).trans rfl
        clear hs1 hs2
        refine hK _ _ ?_
        clear hK K
        refine wpAny_ready (rs := [4, 8]) (by kernel_rfl) (by simp) ?_
        refine AllReady.cons rfl (fun K hK => ?_) ?_
        · go_simp
          refine hK _ _ ?_
          clear hK K
          refine wpAny_take (i := 10) (v := .int .i64 ae.1) rfl (by kernel_rfl) (by kernel_rfl) (by kernel_rfl) (fun _ _ _ h => h) (Or.inl ⟨by rfl, fun w => by go_simp⟩) ?_
          refine wpAny_ready (rs := [8]) (by kernel_rfl) (by simp) ?_
          refine AllReady.cons rfl (fun K hK => ?_) AllReady.nil
          go_simp
          refine hK _ _ ?_
          clear hK K
          refine wpAny_take (i := 11) (v := .int .i64 ae.2) rfl (by kernel_rfl) (by kernel_rfl) (by kernel_rfl) (fun _ _ _ h => h) (Or.inl ⟨by rfl, fun w => by go_simp⟩) ?_
          refine wpAny_done (by kernel_rfl) ?_ _
          go_wp2_with fail
          refine bodyPost_ret (results_ctt rfl _ _ w.heap.size 27 _ (0, 0) _ rfl HS1.out Try.underlying27 rfl (by kernel_rfl)) rfl ?_
          obtain ⟨rfl, rfl, rfl⟩ := HXR.out
          exact ⟨_, rfl, Kd.V_mk (Nat.le_refl _) (Kd.F_nil _ _ _), (HB6.out.trans (below_drew (Below.refl _ _))).trans (HS2.out.to_below (Nat.le_refl _) (Nat.le_of_lt (blk_lt HZ6.out)))⟩
        refine AllReady.cons rfl (fun K hK => ?_) AllReady.nil
        go_simp
        refine hK _ _ ?_
        clear hK K
        refine wpAny_ready (rs := [4]) (by kernel_rfl) (by simp) ?_
        refine AllReady.cons rfl (fun K hK => ?_) AllReady.nil
        go_simp
        refine hK _ _ ?_
        clear hK K
        refine wpAny_take (i := 10) (v := .int .i64 ae.1) rfl (by kernel_rfl) (by kernel_rfl) (by kernel_rfl) (fun _ _ _ h => h) (Or.inl ⟨by rfl, fun w => by go_simp⟩) ?_
        refine wpAny_take (i := 11) (v := .int .i64 ae.2) rfl (by kernel_rfl) (by kernel_rfl) (by kernel_rfl) (fun _ _ _ h => h) (Or.inl ⟨by rfl, fun w => by go_simp⟩) ?_
        refine wpAny_done (by kernel_rfl) ?_ _
        go_wp2_with fail
        refine bodyPost_ret (results_ctt rfl _ _ w.heap.size 27 _ (0, 0) _ rfl HS1.out Try.underlying27 rfl (by kernel_rfl)) rfl ?_
        obtain ⟨rfl, rfl, rfl⟩ := HXR.out
        exact ⟨_, rfl, Kd.V_mk (Nat.le_refl _) (Kd.F_nil _ _ _), (HB6.out.trans (below_drew (Below.refl _ _))).trans (HS2.out.to_below (Nat.le_refl _) (Nat.le_of_lt (blk_lt HZ6.out)))⟩
  · have HXR : Aside0 (xr = zNode ∧ r9 = at_ ∧ r10 = e) := ⟨by rw [if_pos he] at hr; simp only [Prod.mk.injEq] at hr; exact ⟨hr.1.symm, hr.2.1.symm, hr.2.2.symm⟩⟩
    have ke : (e != 0) = true := by simpa using he
    clear hr hL he
    go_enter Try.func6, Try.ntmps6
    go_wp2_with fail
    refine (lex_All.calls a0 l at_ e _ HL.out).mono ?_
    rintro e1 w1 ⟨v, rfl, hv, hb⟩
    have HB1 := Aside0.mk (below_step (below_alloc (Below.refl w.heap.size w) _) hb)
    have HZ1 := Aside0.mk (blk_below (blk_new w _) hb)
    clear hv hb
    go_wp2_with ((refine gate_ (.store 27 (.tmp 2) (.tmp 19)) rfl ?_; go_loud (refine wpList_storeNode rfl rfl (.tmp 2) (.tmp 19) rfl (k := 0) (p0 := 0) (p1 := ⟨#[]⟩) (p2 := ⟨#[]⟩) (p3 := ⟨#[]⟩) (b := false) (c := false) (B := none) (m := 0) (e := 0) rfl rfl HZ1.out rfl ?_; intro w9 hs1 hs2; have HS1 := Aside0.mk hs1; have HS2 := Aside0.mk hs2; clear hs1 hs2)))
    refine bodyPost_ret (results_ctt rfl _ _ w.heap.size 27 _ (0, 0) _ rfl HS1.out Try.underlying27 rfl (by kernel_rfl)) rfl ?_
    obtain ⟨rfl, rfl, rfl⟩ := HXR.out
    exact ⟨_, rfl, Kd.V_mk (Nat.le_refl _) (Kd.F_nil _ _ _), HB1.out.trans (HS2.out.to_below (Nat.le_refl _) (Nat.le_of_lt (blk_lt HZ1.out)))⟩
theorem parse_calls {w : World} (s : ByteArray) {x : S27} {a e : Int} (h : pParse s = (x, a, e)) :
    Calls Try.prog 6 #[.string s] w fun e1 w' => ∃ B m, e1 = .returned (.tuple #[.agg #[.int .i64 x.f0, .int .i64 x.f1.f0, .string x.f1.f1, .string x.f1.f2, .string x.f1.f3, .bool x.f2, .bool x.f3, .slice B x.f4.length m], .int .i64 a, .int .i64 e]) ∧ x.f4.length ≤ m ∧ Kd.F k27 w' (fun k => w.heap.size ≤ k) B x.f4.length x.f4 ∧ Below w.heap.size w w' := by
  refine (parse_Parse.calls s x.f0 x.f1.f0 x.f1.f1 x.f1.f2 x.f1.f3 x.f2 x.f3 x.f4 a e w (by rw [parse_Parse.f, h])).mono ?_
  rintro e1 w' ⟨v, rfl, hV, hb⟩
  obtain ⟨B, m, rfl⟩ := Kd.V_slice hV
  have hV2 := Kd.V_at hV
  exact ⟨B, m, rfl, hV2.2.1, hV2.2.2, hb⟩
def lustrumlaw13_awake.f  : Option (Bool) := some true
set_option maxRecDepth 100000 in
set_option maxHeartbeats 4000000 in
theorem lustrumlaw13_awake.calls  (r : Bool) (w : World) (h : lustrumlaw13_awake.f  = some r) :
    Calls Try.prog 5 #[] w fun e w' => e = .returned (.bool r) ∧ Below w.heap.size w w' := by
  obtain rfl := Option.some.inj h
  clear h
  obtain ⟨x, hx⟩ : ∃ x, x = aw1 := ⟨_, rfl⟩
  have ha := aw_a
  have hd := aw_d
  rw [← hx] at ha hd
  have HA := Aside0.mk ha
  have HD := Aside0.mk hd
  clear ha hd hx
  go_enter Try.func5, Try.ntmps5
  go_wp2_with fail
  refine (parse_calls _ HA.out).mono ?_
  rintro e w2 ⟨B2, m2, rfl, hm, hF, hb⟩
  have HB2 := Aside0.mk (below_alloc hb (.cells #[.int .i64 x.f0, .int .i64 x.f1.f0, .string x.f1.f1, .string x.f1.f2, .string x.f1.f3, .bool x.f2, .bool x.f3, .slice B2 x.f4.length m2] 27))
  have HM2 := Aside0.mk hm
  have HX2 := Aside0.mk (blk_new w2 (.cells #[.int .i64 x.f0, .int .i64 x.f1.f0, .string x.f1.f1, .string x.f1.f2, .string x.f1.f3, .bool x.f2, .bool x.f3, .slice B2 x.f4.length m2] 27))
  have HF2 := Aside0.mk (Kd.F_below hF (below_alloc (Below.refl _ _) (.cells #[.int .i64 x.f0, .int .i64 x.f1.f0, .string x.f1.f1, .string x.f1.f2, .string x.f1.f3, .bool x.f2, .bool x.f3, .slice B2 x.f4.length m2] 27)))
  clear hm hF hb
  go_wp2_with fail
  refine (parse_calls _ aw_b).mono ?_
  rintro e w3 ⟨B3, m3, rfl, hm, hF, hb⟩
  have HB3 := Aside0.mk (below_alloc (below_step HB2.out hb) (.cells #[.int .i64 zNode.f0, .int .i64 zNode.f1.f0, .string zNode.f1.f1, .string zNode.f1.f2, .string zNode.f1.f3, .bool zNode.f2, .bool zNode.f3, .slice B3 zNode.f4.length m3] 27))
  have HX3 := Aside0.mk (blk_alloc (blk_below HX2.out hb) (.cells #[.int .i64 zNode.f0, .int .i64 zNode.f1.f0, .string zNode.f1.f1, .string zNode.f1.f2, .string zNode.f1.f3, .bool zNode.f2, .bool zNode.f3, .slice B3 zNode.f4.length m3] 27))
  have HF3 := Aside0.mk (Kd.F_below (Kd.F_below HF2.out hb) (below_alloc (Below.refl _ _) (.cells #[.int .i64 zNode.f0, .int .i64 zNode.f1.f0, .string zNode.f1.f1, .string zNode.f1.f2, .string zNode.f1.f3, .bool zNode.f2, .bool zNode.f3, .slice B3 zNode.f4.length m3] 27)))
  clear hm hF hb
  go_wp2_with fail
  refine (parse_calls _ aw_c).mono ?_
  rintro e w4 ⟨B4, m4, rfl, hm, hF, hb⟩
  have HB4 := Aside0.mk (below_alloc (below_step HB3.out hb) (.cells #[.int .i64 zNode.f0, .int .i64 zNode.f1.f0, .string zNode.f1.f1, .string zNode.f1.f2, .string zNode.f1.f3, .bool zNode.f2, .bool zNode.f3, .slice B4 zNode.f4.length m4] 27))
  have hX4 := blk_alloc (blk_below HX3.out hb) (.cells #[.int .i64 zNode.f0, .int .i64 zNode.f1.f0, .string zNode.f1.f1, .string zNode.f1.f2, .string zNode.f1.f3, .bool zNode.f2, .bool zNode.f3, .slice B4 zNode.f4.length m4] 27)
  have HF4 := Aside0.mk (Kd.F_below (Kd.F_below HF3.out hb) (below_alloc (Below.refl _ _) (.cells #[.int .i64 zNode.f0, .int .i64 zNode.f1.f0, .string zNode.f1.f1, .string zNode.f1.f2, .string zNode.f1.f3, .bool zNode.f2, .bool zNode.f3, .slice B4 zNode.f4.length m4] 27)))
  obtain ⟨x0, x1, x2, x3, x4, x5, x6, x7⟩ := nCells_at hX4
  clear hm hF hb hX4
  go_wp2_with fail
  refine (print_Text.calls 20 x.f0 x.f1.f0 x.f1.f1 x.f1.f2 x.f1.f3 x.f2 x.f3 B2 m2 x.f4 _ _ (Kd.F_now HF4.out) HM2.out HD.out).mono ?_
  rintro e w5 ⟨rfl, hb⟩
  have HB5 := Aside0.mk (below_step HB4.out hb)
  clear hb x0 x1 x2 x3 x4 x5 x6 x7
  go_wp2_with fail
  go_ret
  exact ⟨rfl, HB5.out⟩
def Sim : PR → PR → Prop
  | .error a, .error b => a.2 = b.2
  | .ok (x, l, n), .ok (y, m, k) => x = y ∧ l.map tk = m.map tk ∧ n = k
  | _, _ => False
theorem sim_not {t u : S48} (h : tk t = tk u) (e : Int) : (pNot t e).2 = (pNot u e).2 := by
  have h1 : t.f0 = u.f0 := congrArg Prod.fst h
  rw [pNot, pNot, h1]
theorem sim_nil {l m : List S48} (h : l.map tk = m.map tk) (hl : l = []) : m = [] := by subst hl; simpa using h.symm
theorem sim_cons {t : S48} {r m : List S48} (h : (t :: r).map tk = m.map tk) : ∃ u s, m = u :: s ∧ tk t = tk u ∧ r.map tk = s.map tk := by
  cases m with
  | nil => simp at h
  | cons u s => simp only [List.map_cons, List.cons.injEq] at h; exact ⟨u, s, rfl, h.1, h.2⟩
theorem sim_marked : ∀ (l m : List S48) (a b : Bool), l.map tk = m.map tk → (pMarked l a b).1 = (pMarked m a b).1 ∧ (pMarked l a b).2.1 = (pMarked m a b).2.1 ∧ (pMarked l a b).2.2.map tk = (pMarked m a b).2.2.map tk := by
  intro l
  induction l with
  | nil =>
    intro m a b h
    obtain rfl := sim_nil h rfl
    exact ⟨rfl, rfl, rfl⟩
  | cons t r ih =>
    intro m a b h
    obtain ⟨u, s, rfl, h1, h2⟩ := sim_cons h
    have hk : t.f0 = u.f0 := congrArg Prod.fst h1
    rw [pMarked, pMarked, hk]
    split
    · exact ih s true b h2
    · split
      · exact ih s a true h2
      · exact ⟨rfl, rfl, h⟩
theorem sim_end (n : Int) (l m : List S48) (h : l.map tk = m.map tk) : Sim (pEnd n l) (pEnd n m) := by
  cases l with
  | nil => obtain rfl := sim_nil h rfl; exact rfl
  | cons t r =>
    obtain ⟨u, s, rfl, h1, h2⟩ := sim_cons h
    have hk : t.f0 = u.f0 := congrArg Prod.fst h1
    have hs : t.f2 = u.f2 := congrArg Prod.snd h1
    rw [pEnd, pEnd, hk]
    split
    · split
      · exact sim_not h1 6
      · split
        · rw [pWord, pWord, hs]
          cases pRead u.f2 with
          | none => exact sim_not h1 2
          | some p =>
            have hm := sim_marked r s false false h2
            refine ⟨?_, hm.2.2, rfl⟩
            rw [hm.1, hm.2.1]
        · exact ⟨rfl, h2, rfl⟩
    · exact sim_not h1 3
theorem sim_span (n : Int) (l m : List S48) (h : l.map tk = m.map tk) : Sim (pSpan n l) (pSpan n m) := by
  have he := sim_end n l m h
  rw [pSpan, pSpan]
  cases h1 : pEnd n l with
  | error a =>
    cases h2 : pEnd n m with
    | error b => rw [h1, h2] at he; exact he
    | ok b => rw [h1, h2] at he; exact he.elim
  | ok a =>
    cases h2 : pEnd n m with
    | error b => rw [h1, h2] at he; obtain ⟨x, r, k⟩ := a; exact he.elim
    | ok b =>
      rw [h1, h2] at he
      obtain ⟨x, r, k⟩ := a
      obtain ⟨y, s, k2⟩ := b
      obtain ⟨rfl, hr, rfl⟩ := he
      cases r with
      | nil => obtain rfl := sim_nil hr rfl; exact rfl
      | cons t r =>
        obtain ⟨u, s, rfl, g1, g2⟩ := sim_cons hr
        have hk : t.f0 = u.f0 := congrArg Prod.fst g1
        simp only []
        rw [hk]
        split
        · split
          · exact sim_not g1 3
          · exact ⟨rfl, hr, rfl⟩
        · split
          · exact sim_not g1 6
          · have hf := sim_end (k + 1) r s g2
            cases h3 : pEnd (k + 1) r with
            | error a =>
              cases h4 : pEnd (k + 1) s with
              | error b => rw [h3, h4] at hf; exact hf
              | ok b => rw [h3, h4] at hf; exact hf.elim
            | ok a =>
              cases h4 : pEnd (k + 1) s with
              | error b => rw [h3, h4] at hf; obtain ⟨x, r, k⟩ := a; exact hf.elim
              | ok b =>
                rw [h3, h4] at hf
                obtain ⟨z, r2, k3⟩ := a
                obtain ⟨z2, s2, k4⟩ := b
                obtain ⟨rfl, hr2, rfl⟩ := hf
                exact ⟨rfl, hr2, rfl⟩
def SimO : Option PR → Option PR → Prop
  | none, none => True
  | some a, some b => Sim a b
  | _, _ => False
theorem sim_both (f : Nat) : (∀ (l m : List S48) (n d : Int), l.map tk = m.map tk → SimO (pExpr f l n d) (pExpr f m n d)) ∧
    (∀ (l m : List S48) (n d : Int) (acc : List S27), l.map tk = m.map tk → SimO (pItems f l n d acc) (pItems f m n d acc)) := by
  induction f with
  | zero => exact ⟨fun _ _ _ _ _ => trivial, fun _ _ _ _ _ _ => trivial⟩
  | succ f ih =>
    refine ⟨fun l m n d h => ?_, fun l m n d acc h => ?_⟩
    · cases l with
      | nil => obtain rfl := sim_nil h rfl; exact trivial
      | cons t r =>
        obtain ⟨u, s, rfl, h1, h2⟩ := sim_cons h
        have hk : t.f0 = u.f0 := congrArg Prod.fst h1
        rw [pExpr, pExpr, hk]
        split
        · split
          · exact sim_not h1 5
          · split
            · exact sim_not h1 6
            · exact ih.2 r s _ _ _ h2
        · exact sim_span n _ _ h
    · have he := ih.1 l m n d h
      rw [pItems, pItems]
      cases h1 : pExpr f l n d with
      | none =>
        cases h2 : pExpr f m n d with
        | none => exact trivial
        | some b => rw [h1, h2] at he; exact he.elim
      | some a =>
        cases h2 : pExpr f m n d with
        | none => rw [h1, h2] at he; exact he.elim
        | some b =>
          rw [h1, h2] at he
          have he : Sim a b := he
          cases a with
          | error a =>
            cases b with
            | error b => exact he
            | ok b => exact he.elim
          | ok a =>
            cases b with
            | error b => obtain ⟨x, r, k⟩ := a; exact he.elim
            | ok b =>
              obtain ⟨x, r, k⟩ := a
              obtain ⟨y, s, k2⟩ := b
              obtain ⟨rfl, hr, rfl⟩ := he
              cases r with
              | nil => obtain rfl := sim_nil hr rfl; exact trivial
              | cons t r =>
                obtain ⟨u, s, rfl, g1, g2⟩ := sim_cons hr
                have hk : t.f0 = u.f0 := congrArg Prod.fst g1
                simp only []
                rw [hk]
                split
                · exact ih.2 r s _ _ _ g2
                · split
                  · exact ⟨rfl, g2, rfl⟩
                  · exact sim_not g1 3
end Go.Proofs.Ytchodmjleceooaa.V
