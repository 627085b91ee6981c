import Derived.Test.YtchodmjleceooaaV0
import Derived.Test.YtchodmjleceooaaV1
import Derived.Test.YtchodmjleceooaaV2
namespace Go.Proofs.Ytchodmjleceooaa.V
open Go.RowKit Go.Proofs.YtchodmjleceooaaW.PrintWords Go.Proofs.YtchodmjleceooaaW.PrintLast Go.Proofs.YtchodmjleceooaaW.PrintMore
attribute [local go_sem] max2_int min2_int max_two min_two max_three min_three max_four min_four
set_option linter.unusedVariables false
set_option linter.unusedSimpArgs false
def rMeet : List S100 → List S100 → List S100
  | [], _ => []
  | _, [] => []
  | a :: ra, b :: rb =>
    (if max a.f0 b.f0 ≤ min a.f1 b.f1 then [⟨max a.f0 b.f0, min a.f1 b.f1⟩] else []) ++
    (if a.f1 < b.f1 then rMeet ra (b :: rb) else rMeet (a :: ra) rb)
  termination_by a b => a.length + b.length
def sets_Meet.f (l0 : List (S100)) (l1 : List (S100)) : Option ((List (S100))) := (sets_known.f l0).bind fun a => (sets_known.f l1).bind fun b => if a.length + b.length < 4398046511104 then some (rMeet a b) else none
theorem rMeet_step (a b : List S100) (i k : Nat) (hi : i < a.length) (hk : k < b.length) : rMeet (a.drop i) (b.drop k) =
    (if max a[i].f0 b[k].f0 ≤ min a[i].f1 b[k].f1 then [⟨max a[i].f0 b[k].f0, min a[i].f1 b[k].f1⟩] else []) ++
    (if a[i].f1 < b[k].f1 then rMeet (a.drop (i + 1)) (b.drop k) else rMeet (a.drop i) (b.drop (k + 1))) := by
  rw [List.drop_eq_getElem_cons hi, List.drop_eq_getElem_cons hk, rMeet]
theorem rMeet_end (a b : List S100) (i k : Nat) (h : ¬ (i < a.length ∧ k < b.length)) : rMeet (a.drop i) (b.drop k) = [] := by
  by_cases hi : i < a.length
  · rw [List.drop_of_length_le (l := b) (by omega)]
    cases a.drop i <;> rw [rMeet]
    intro h; cases h
  · rw [List.drop_of_length_le (l := a) (by omega), rMeet]
set_option maxRecDepth 100000 in
set_option maxHeartbeats 4000000 in
theorem sets_Meet.calls (A0 : Option Addr) (c0 : Nat) (l0 : List (S100)) (A1 : Option Addr) (c1 : Nat) (l1 : List (S100)) (r : List (S100)) (w : World) (hr0 : Kd.C k100 w A0 l0.length l0) (hc0 : l0.length ≤ c0) (hr1 : Kd.C k100 w A1 l1.length l1) (hc1 : l1.length ≤ c1) (h : sets_Meet.f l0 l1 = some r) :
    Calls Try.prog 68 #[.slice A0 l0.length c0, .slice A1 l1.length c1] w fun e w' => ∃ v0_ : Value, e = .returned (v0_) ∧ Kd.R k100 100 w' w.heap.size (fun _ => True) v0_ r ∧ Below w.heap.size w w' := by
  rw [sets_Meet.f] at h
  obtain ⟨a, ha, h⟩ := Option.bind_eq_some_iff.mp h
  obtain ⟨b, hb, h⟩ := Option.bind_eq_some_iff.mp h
  have hlen : a.length + b.length < 4398046511104 := by
    split at h
    · assumption
    · cases h
  rw [if_pos hlen] at h
  obtain ⟨r, hr⟩ : ∃ r, r = rMeet a b := ⟨_, rfl⟩
  rw [← hr] at h
  cases h
  have HRR := Aside0.mk hr
  have HA := Aside0.mk ha
  have HBB := Aside0.mk hb
  clear hr ha hb
  have HR0 := Aside0.mk hr0
  have HR1 := Aside0.mk hr1
  have HC0 := Aside0.mk hc0
  have HC1 := Aside0.mk hc1
  clear hr0 hr1 hc0 hc1
  go_enter Try.func68, Try.ntmps68
  go_wp2
  go_step3
  go_wp2_with fail
  refine (sets_known.calls (fun k => k < w.heap.size) A0 c0 l0 a _ (Kd.V_mk HC0.out (Kd.C_F k100_heap HR0.out)) HA.out).mono ?_
  rintro e w1 ⟨v1, rfl, hV1, hb1⟩
  obtain ⟨A2, c2, e2⟩ := Kd.V_slice hV1
  subst e2
  have HB1 := Aside0.mk hb1
  have HV1 := Aside0.mk hV1
  clear hb1 hV1
  go_wp2_with fail
  refine (sets_known.calls (fun k => k < w1.heap.size) A1 c1 l1 b _ (Kd.V_mk HC1.out (Kd.C_F k100_heap (Kd.C_below HR1.out HB1.out))) HBB.out).mono ?_
  rintro e w2 ⟨v2, rfl, hV2, hb2⟩
  obtain ⟨A3, c3, e3⟩ := Kd.V_slice hV2
  subst e3
  have HCA := Aside0.mk (Kd.V_reads' (Kd.V_below HV1.out hb2)).2.2
  have HCB := Aside0.mk (Kd.V_reads' hV2).2.2
  have HB2 := Aside0.mk (below_step HB1.out hb2)
  clear hb2 hV2 HV1 HB1
  go_wp2_with fail
  go_step3
  go_wp2_with fail
  go_loopw [5, 6, 7] (fun v5 v6 v7 wr => ∃ (i k : Nat) (acc : List S100), i ≤ a.length ∧ k ≤ b.length ∧ acc.length ≤ i + k ∧ v6 = .int .i64 i ∧ v7 = .int .i64 k ∧ Aside0 (acc ++ rMeet (a.drop i) (b.drop k) = r) ∧ Aside0 (Kd.R k100 100 wr w2.heap.size (fun _ => True) v5 acc) ∧ Aside0 (Below w2.heap.size w2 wr)) (fun _ v6 v7 _ => a.length - (intOf v6).toNat + (b.length - (intOf v7).toNat))
  case atStart => exact ⟨0, 0, [], by omega, by omega, by simp, rfl, rfl, ⟨HRR.out.symm⟩, ⟨Kd.R_nil _ _ _ _ _⟩, ⟨Below.refl _ _⟩⟩
  case round =>
    as_aux_lemma =>
    obtain ⟨i, k, acc, hi, hk, hacc, rfl, rfl, HE, HO, HB⟩ := hrel
    by_cases hlt : i < a.length ∧ k < b.length
    · obtain ⟨hi1, hk1⟩ := hlt
      obtain ⟨ad, eA, x0, x1⟩ := at_T100 HCA.out (i : Int) (by omega) (by omega)
      cases eA
      obtain ⟨bd, eB, y0, y1⟩ := at_T100 HCB.out (k : Int) (by omega) (by omega)
      cases eB
      simp only [Int.toNat_natCast] at x0 x1 y0 y1
      have X1 := Aside0.mk x1
      have Y1 := Aside0.mk y1
      replace x0 := pw_cell_below HB.out x0
      replace x1 := pw_cell_below HB.out x1
      replace y0 := pw_cell_below HB.out y0
      replace y1 := pw_cell_below HB.out y1
      have hd := rMeet_step a b i k hi1 hk1
      have ea : rd_T100 a (i : Int) = a[i] := by simp [rd_T100, hi1]
      have eb : rd_T100 b (k : Int) = b[k] := by simp [rd_T100, hk1]
      rw [← ea, ← eb] at hd
      have HD := Aside0.mk hd
      clear hd ea eb
      generalize rd_T100 a (i : Int) = p at *
      generalize rd_T100 b (k : Int) = q at *
      obtain ⟨p0, p1⟩ := p
      obtain ⟨q0, q1⟩ := q
      simp only at *
      obtain ⟨O5, c5, e5⟩ := Kd.R_slice HO.out
      subst e5
      go_wp2_with fail
      obtain ⟨m0, hm0⟩ : ∃ m, (if p0 < q0 then q0 else p0) = m := ⟨_, rfl⟩
      obtain ⟨m1, hm1⟩ : ∃ m, (if q1 < p1 then q1 else p1) = m := ⟨_, rfl⟩
      have e0 : max p0 q0 = m0 := by rw [← hm0]; split <;> omega
      have e1 : min p1 q1 = m1 := by rw [← hm1]; split <;> omega
      rw [e0, e1] at HD
      clear e0 e1
      have hxb := World.block_lt_of_cell? wr _ x0
      have hyb := World.block_lt_of_cell? wr _ y0
      have hxb' := World.block_lt_of_cell? wr _ x1
      have hyb' := World.block_lt_of_cell? wr _ y1
      go_region
      as_aux_lemma =>
      clear hm0 hm1 x0 x1 y0 y1 hxb hyb hxb' hyb'
      have HK3 : Aside0 (((wr.alloc (.cells #[.int .i64 m0, .int .i64 m1] 100)).drew).heap[wr.heap.size]? = some (.cells #[.int .i64 m0, .int .i64 m1] 100 (0, 0))) := ⟨blk_new wr _⟩
      have HO3 := Aside0.mk (Kd.R_drew (Kd.R_alloc HO.out (.cells #[.int .i64 m0, .int .i64 m1] 100)))
      have HB3 := Aside0.mk (below_drew (below_alloc HB.out (.cells #[.int .i64 m0, .int .i64 m1] 100)))
      generalize hW3 : (wr.alloc (.cells #[.int .i64 m0, .int .i64 m1] 100)).drew = W3
      rw [hW3] at HK3 HO3 HB3
      clear hW3
      have z0 : W3.cell? ⟨wr.heap.size, 0, none⟩ = some (.int .i64 m0) := blk_cell HK3.out 0
      have z1 : W3.cell? ⟨wr.heap.size, 1, none⟩ = some (.int .i64 m1) := blk_cell HK3.out 1
      by_cases hmm : m0 ≤ m1
      · have HDM : Aside0 (acc ++ [⟨m0, m1⟩] ++ (if p1 < q1 then rMeet (a.drop (i + 1)) (b.drop k) else rMeet (a.drop i) (b.drop (k + 1))) = r) := ⟨by rw [← HE.out, HD.out, if_pos hmm, List.append_assoc]⟩
        go_wp2_with ((with_reducible refine gate_builtin (b := .append) (xs := #[.tmp 51, .tmp 53]) rfl ?_); at_builtin; go_must (refine R_append_at k100 (w0 := w2) w2.heap.size rfl (.tmp 51) (.tmp 53) 96 100 (.agg #[(.int .i64 0), (.int .i64 0)]) 16 rfl Try.underlying96 infoRun rfl (by decide) (by omega) (.slice O5 acc.length c5) acc (⟨m0, m1⟩ : S100) [.int .i64 m0, .int .i64 m1] (fun _ => True) (fun _ => False) W3.heap.size rfl rfl rfl ?aP (fun _ hk => hk.elim) ?aF ?aO ?aB ?aS ?aL ?_; (case aP => exact k100_mkM _ _ _ (⟨m0, m1⟩ : S100)); (case aF => exact fun _ _ => trivial); (case aO => exact HO3.out); (case aB => exact HB3.out); (case aS => exact HB3.out.size); (case aL => omega); intro v7 w7 ho hb hg hat; have HO7 := Aside0.mk ho; have HB7 := Aside0.mk hb; clear ho hb hg hat))
        all_goals
          as_aux_lemma =>
          have x1 := pw_cell_below HB7.out X1.out
          have y1 := pw_cell_below HB7.out Y1.out
          by_cases hpq : p1 < q1
          · go_quiet (fail)
            go_wp2
            go_roundw
            case rel => exact ⟨i + 1, k, _, by omega, by omega, by simp; omega, by go_num, rfl, ⟨by rw [← HDM.out, if_pos hpq]⟩, ⟨Kd.R_drewN HO7.out _⟩, ⟨pw_below_drewN HB7.out _⟩⟩
            case measure => simp [intOf]; omega
          · go_quiet (fail)
            go_wp2
            go_roundw
            case rel => exact ⟨i, k + 1, _, by omega, by omega, by simp; omega, rfl, by go_num, ⟨by rw [← HDM.out, if_neg hpq]⟩, ⟨Kd.R_drewN HO7.out _⟩, ⟨pw_below_drewN HB7.out _⟩⟩
            case measure => simp [intOf]; omega
      · have HDM : Aside0 (acc ++ (if p1 < q1 then rMeet (a.drop (i + 1)) (b.drop k) else rMeet (a.drop i) (b.drop (k + 1))) = r) := ⟨by rw [← HE.out, HD.out, if_neg hmm, List.nil_append]⟩
        go_wp2_with fail
        all_goals
          as_aux_lemma =>
          have x1 := pw_cell_below HB3.out X1.out
          have y1 := pw_cell_below HB3.out Y1.out
          by_cases hpq : p1 < q1
          · go_quiet (fail)
            go_wp2
            go_roundw
            case rel => exact ⟨i + 1, k, _, by omega, by omega, by omega, by go_num, rfl, ⟨by rw [← HDM.out, if_pos hpq]⟩, ⟨Kd.R_drewN HO3.out _⟩, ⟨pw_below_drewN HB3.out _⟩⟩
            case measure => simp [intOf]; omega
          · go_quiet (fail)
            go_wp2
            go_roundw
            case rel => exact ⟨i, k + 1, _, by omega, by omega, by omega, rfl, by go_num, ⟨by rw [← HDM.out, if_neg hpq]⟩, ⟨Kd.R_drewN HO3.out _⟩, ⟨pw_below_drewN HB3.out _⟩⟩
            case measure => simp [intOf]; omega
    · go_wp2
      all_goals
        rw [Exit.noGoto_ret]
        go_ret
        refine ⟨_, rfl, ?_, below_then HB2.out HB2.out.size HB.out⟩
        have h := HE.out
        rw [rMeet_end a b i k hlt, List.append_nil] at h
        rw [← h]
        exact Kd.R_lower HO.out HB2.out.size
def sets_Clip.f (l0 : List (S100)) (a1 : Int) (a2 : Int) : Option ((List (S100))) := (sets_Meet.f l0 (([(⟨a1, a2⟩ : S100)] : List (S100)))).bind fun t121 => (some t121)
set_option maxHeartbeats 8000000 in
set_option maxRecDepth 100000 in
theorem sets_Clip.calls (A0 : Option Addr) (c0 : Nat) (l0 : List (S100)) (a1 : Int) (a2 : Int) (r : List (S100)) (w : World) (hr0 : Kd.C k100 w A0 l0.length l0) (hc0 : l0.length ≤ c0) (h : sets_Clip.f l0 a1 a2 = some r) :
    Calls Try.prog 64 #[.slice A0 l0.length c0, .int .i64 a1, .int .i64 a2] w fun e w' => ∃ v0_ : Value, e = .returned (v0_) ∧ Kd.R k100 100 w' w.heap.size (fun _ => True) v0_ r ∧ Below w.heap.size w w' := by
  have hu100 := Try.underlying100
  have HR0 := Aside0.mk hr0
  have HC0 := Aside0.mk hc0
  clear hr0 hc0
  have HB := Aside0.mk (Below.refl w.heap.size w)
  have H : ((sets_Meet.f l0 (([(⟨a1, a2⟩ : S100)] : List (S100)))).bind fun t121 => (some t121)) = some r := h
  clear h
  obtain ⟨y118, hy118⟩ : ∃ y_ : List (S100), y_ = (([(⟨a1, a2⟩ : S100)] : List (S100))) := ⟨_, rfl⟩
  replace H : ((sets_Meet.f l0 y118).bind fun t121 => (some t121)) = some r := by first | (rw [hy118]; with_reducible exact H) | (have H2_ := (Option.bind_some _ _).symm.trans H; rw [hy118]; with_reducible exact H2_) | (have H2_ := (Option.bind_some _ _).symm.trans H; with_reducible exact H2_) | with_reducible exact H | (rw [hy118]; exact H) | exact H
  have Ny118 := Aside0.mk hy118
  clear hy118
  replace H := Option.bind_eq_some_iff.mp H
  obtain ⟨t121, A40, H⟩ := H
  replace H : (some t121) = some r := H
  have A4 := Aside0.mk A40
  clear A40
  obtain rfl := Option.some.inj H
  go_enter Try.func64, Try.ntmps64
  go_wp2_with (first | ((with_reducible refine gate_dst (N := 11) rfl ?_); refine Kd.R_lit k100 _ 100 ?hg (N := 11) ?hd (xs := ([(⟨a1, a2⟩ : S100)] : List (S100))) (inner := [.int .i64 a1, .int .i64 a2]) (ok := fun _ => True) (okp := fun _ => True) ?hr ?hp (fun _ hk => hk) trivial (Below.refl _ _) (Nat.le_refl _) (by simp) ?_; (case hd => rfl); (case hg => rfl); (case hr => first | (go_simp; done) | (go_simp; rfl)); (case hp => exact (Reps.c2 (show Kd.M k100 _ _ _ (⟨a1, a2⟩ : S100) [.int .i64 a1, .int .i64 a2] from (k100_mkM _ _ _ (⟨a1, a2⟩ : S100) )) (Reps.none _ _))); intro v119 w5 ho6 hb hg_ hnew_; clear hg_ hnew_; (first | rw [← Ny118.out] at ho6 | (simp only [Int.reduceToNat] at ho6; rw [← Ny118.out] at ho6)); have n0_ := Aside0.mk (Kd.R_lower ho6 (below_size (by repeat (first | (with_reducible first | exact HB.out | apply below_alloc | apply pw_below_drewN | apply below_drew1) | exact HB.out)))); have n1_ := Aside0.mk (below_step (by repeat (first | (with_reducible first | exact HB.out | apply below_alloc | apply pw_below_drewN | apply below_drew1) | exact HB.out)) hb); clear HB; have HO120 := n0_; have HB := n1_; clear n0_ n1_; clear hb ho6; obtain ⟨Ao7, co7, eo7⟩ := Kd.R_slice HO120.out; subst eo7) | ((with_reducible refine gate_callee (f := 68) rfl ?_); refine goesL_ (some 12) rfl rfl Try.func68 (by kernel_rfl) rfl #[.slice A0 l0.length c0, .slice Ao7 y118.length co7] rfl (by (try simp only [List.map_toArray, List.map_cons, List.map_nil]); first | done | rfl | (simp only [List.length_drop, List.length_take]; rfl)) ?_; (with_reducible refine (sets_Meet.calls _ _ l0 _ _ y118 t121 _ ?side1 ?side2 ?side3 ?side4 A4.out).mono ?_); (case side1 => repeat (first | exact (Kd.C_below HR0.out HB.out) | (with_reducible refine Kd.C_alloc ?_ _) | (with_reducible refine Kd.C_drewN ?_ _) | (with_reducible refine Kd.C_drew ?_))); (case side2 => exact HC0.out); (case side3 => repeat (first | exact (Kd.R_reads' HO120.out).2.2 | (with_reducible refine Kd.C_alloc ?_ _) | (with_reducible refine Kd.C_drewN ?_ _) | (with_reducible refine Kd.C_drew ?_))); (case side4 => exact (Kd.R_reads' HO120.out).2.1); rintro e w8 ⟨v122, rfl, ho0, hb⟩; refine ⟨_, rfl, ?_⟩; have n0_ := Aside0.mk (Kd.R_elder' (by (with_reducible repeat (first | apply Kd.R_alloc | apply Kd.R_drewN | apply Kd.R_drew)); exact HO120.out) (Kd.R_base ho0) hb); have n1_ := Aside0.mk (Kd.R_lower (Kd.R_new' ho0 (Kd.R_lt (by (with_reducible repeat (first | apply Kd.R_alloc | apply Kd.R_drewN | apply Kd.R_drew)); exact HO120.out))) (below_size (by repeat (first | (with_reducible first | exact HB.out | apply below_alloc | apply pw_below_drewN | apply below_drew1) | exact HB.out)))); have n2_ := Aside0.mk (below_step (by repeat (first | (with_reducible first | exact HB.out | apply below_alloc | apply pw_below_drewN | apply below_drew1) | exact HB.out)) hb); clear HO120; clear HB; have HO120 := n0_; have HO123 := n1_; have HB := n2_; clear n0_ n1_ n2_; (try clear hb); (try clear hb2); (try clear hk); (try clear hi); (try clear ho0)))
  go_ret
  exact ⟨_, by first | rfl | (simp [errW_none, errW_some] <;> rfl) | (simp [*, errW_none, errW_some] <;> rfl), by (with_reducible repeat (first | apply Kd.R_alloc | apply Kd.R_drewN | apply Kd.R_drew)); exact Kd.R_mono HO123.out (fun _ hk => trivial), by repeat (first | (with_reducible first | exact HB.out | apply below_alloc | apply pw_below_drewN | apply below_drew1) | exact HB.out)⟩
theorem infoInt : (Try.prog.info? 3).map (fun i => (i.zero, i.size, i.bytes)) = some (some (.int .i64 0), 1, 8) := by kernel_rfl
def numOne (r : S100) : List Int := (List.range (r.f1 - r.f0 + 1).toNat).map fun i => r.f0 + (i : Nat)
def numsOf (l : List S100) : List Int := l.flatMap numOne
def numsFit (l : List S100) : Prop := (∀ r ∈ l, -1125899906842624 ≤ r.f0 ∧ r.f0 ≤ r.f1 ∧ r.f1 ≤ 1125899906842624) ∧ (numsOf l).length < 1099511627776
instance (l : List S100) : Decidable (numsFit l) := by unfold numsFit; infer_instance
def point_numbers.f (a0 : ByteArray) (a1 : Int) : Option (List Int) := (sets_Clip.f (maskSet a0) 1 a1).bind fun l => if numsFit l then some (numsOf l) else none
theorem numsOf_take_len (l : List S100) (j : Nat) : (numsOf (l.take j)).length ≤ (numsOf l).length := by
  have h : numsOf l = numsOf (l.take j) ++ numsOf (l.drop j) := by rw [numsOf, numsOf, numsOf, ← List.flatMap_append, List.take_append_drop]
  rw [h]; simp
set_option maxHeartbeats 4000000 in
theorem point_numbers.calls (a0 : ByteArray) (a1 : Int) (r : List Int) (w : World) (h : point_numbers.f a0 a1 = some r) :
    Calls Try.prog 60 #[.string a0, .int .i64 a1] w fun e w' => ∃ v0_ : Value, e = .returned (v0_) ∧ Kd.R (Kd.int .i64) 3 w' w.heap.size (fun _ => True) v0_ r ∧ Below w.heap.size w w' := by
  rw [point_numbers.f] at h
  obtain ⟨l, hl, h⟩ := Option.bind_eq_some_iff.mp h
  have hfit : numsFit l := by
    split at h
    · assumption
    · cases h
  rw [if_pos hfit] at h
  obtain ⟨r0, hr0⟩ : ∃ r, r = numsOf l := ⟨_, rfl⟩
  rw [← hr0] at h
  cases h
  have HRR := Aside0.mk hr0
  have HL := Aside0.mk hl
  have HFIT := Aside0.mk hfit
  clear hl hfit hr0
  go_enter Try.func60, Try.ntmps60
  go_wp2_with fail
  refine (mask_Set.calls a0 _ _ rfl).mono ?_
  rintro e w1 ⟨v1, rfl, hV1, hb1⟩
  obtain ⟨A1, c1, e1⟩ := Kd.R_slice hV1
  subst e1
  have HB1 := Aside0.mk hb1
  have HV1 := Aside0.mk hV1
  clear hb1 hV1
  generalize maskSet a0 = s at *
  go_wp2_with fail
  refine (sets_Clip.calls _ _ _ _ _ _ _ (Kd.R_reads' HV1.out).2.2 (Kd.R_reads' HV1.out).2.1 HL.out).mono ?_
  rintro e w2 ⟨v2, rfl, hV2, hb2⟩
  obtain ⟨A2, c2, e2⟩ := Kd.R_slice hV2
  subst e2
  have HC := Aside0.mk (Kd.R_reads' hV2).2.2
  have hmx : l.length ≤ 9223372036854775807 := HC.out.2.1
  have HB2 := Aside0.mk (below_step HB1.out hb2)
  clear hb2 hV2 HV1 HB1
  go_wp2_with fail
  go_loopw [5, 14] (fun v5 v14 wr => ∃ j : Nat, j ≤ l.length ∧ v14 = .int .i64 j ∧ Aside0 (Kd.R (Kd.int .i64) 3 wr w2.heap.size (fun _ => True) v5 (numsOf (l.take j))) ∧ Aside0 (Below w2.heap.size w2 wr)) (fun _ v14 _ => l.length - (intOf v14).toNat)
  case atStart => exact ⟨0, by omega, rfl, ⟨by simpa [numsOf] using Kd.R_nil _ _ _ _ _⟩, ⟨Below.refl _ _⟩⟩
  case round =>
    obtain ⟨j, hj, rfl, HO, HB⟩ := hrel
    by_cases hlt : j < l.length
    · obtain ⟨ad, eA, x0, x1⟩ := at_T100 HC.out (j : Int) (by omega) (by omega)
      cases eA
      simp only [Int.toNat_natCast] at x0 x1
      replace x0 := pw_cell_below HB.out x0
      replace x1 := pw_cell_below HB.out x1
      have er : rd_T100 l (j : Int) = l[j] := by simp [rd_T100, hlt]
      obtain ⟨hb0, hb1, hb2⟩ := HFIT.out.1 l[j] (List.getElem_mem hlt)
      have HTS : Aside0 (numsOf (l.take (j + 1)) = numsOf (l.take j) ++ numOne (rd_T100 l (j : Int))) := ⟨by rw [er, List.take_succ_eq_append_getElem hlt, numsOf, numsOf, List.flatMap_append, List.flatMap_singleton]⟩
      have hsz := numsOf_take_len l (j + 1)
      have hsz2 := HFIT.out.2
      rw [HTS.out] at hsz
      rw [← er] at hb0 hb1 hb2
      clear er
      generalize rd_T100 l (j : Int) = q at *
      obtain ⟨q0, q1⟩ := q
      simp only at *
      obtain ⟨L, hL⟩ : ∃ L, L = numsOf (l.take j) := ⟨_, rfl⟩
      rw [← hL] at HO HTS hsz
      clear hL
      have hll : L.length + (q1 - q0 + 1).toNat < 1099511627776 := by simp [numOne] at hsz; omega
      clear hsz hsz2
      go_wp2_with fail
      have HK8 : Aside0 ((wr.alloc (.cells #[.int .i64 q0, .int .i64 q1] 100)).heap[wr.heap.size]? = some (.cells #[.int .i64 q0, .int .i64 q1] 100 (0, 0))) := ⟨blk_new _ _⟩
      have HO8 := Aside0.mk (Kd.R_alloc HO.out (.cells #[.int .i64 q0, .int .i64 q1] 100))
      have HB8 := Aside0.mk (below_alloc HB.out (.cells #[.int .i64 q0, .int .i64 q1] 100))
      generalize wr.alloc (.cells #[.int .i64 q0, .int .i64 q1] 100) = W8 at *
      generalize wr.heap.size = g8 at *
      go_loopw [5, 8] (fun v5 v8 w3 => ∃ i : Nat, (i : Int) ≤ q1 - q0 + 1 ∧ v8 = .int .i64 (q0 + i) ∧ Aside0 (w3.heap[g8]? = some (.cells #[.int .i64 q0, .int .i64 q1] 100 (0, 0))) ∧ Aside0 (Kd.R (Kd.int .i64) 3 w3 w2.heap.size (fun _ => True) v5 (L ++ (List.range i).map fun i => q0 + (i : Nat))) ∧ Aside0 (Below w2.heap.size w2 w3)) (fun _ v8 _ => (q1 + 1 - intOf v8).toNat)
      case atStart => exact ⟨0, by omega, by simp, HK8, ⟨by simpa using HO8.out⟩, HB8⟩
      case round =>
        obtain ⟨i, hi, rfl, HK3, HO3, HB3⟩ := hrel
        have hcell : wr.cell? ⟨g8, 1, none⟩ = some (.int .i64 q1) := blk_cell HK3.out 1
        by_cases hin : q0 + (i : Int) ≤ q1
        · obtain ⟨L3, hL3⟩ : ∃ L3, L3 = L ++ (List.range i).map fun i => q0 + (i : Nat) := ⟨_, rfl⟩
          rw [← hL3] at HO3
          have HLL : Aside0 (L3.length < 1099511627776) := ⟨by rw [hL3]; simp; omega⟩
          have HL3 : Aside0 (L ++ (List.range (i + 1)).map (fun i => q0 + (i : Nat)) = L3 ++ [q0 + i]) := ⟨by rw [hL3, List.range_succ]; simp⟩
          clear hL3
          go_wp2_with ((with_reducible refine gate_builtin (b := .append) (xs := #[.tmp 26, .tmp 28]) rfl ?_); at_builtin; go_must (refine R_append_at (Kd.int .i64) (w0 := w2) w2.heap.size rfl (.tmp 26) (.tmp 28) 90 3 (.int .i64 0) 8 rfl Try.underlying90 infoInt rfl (by decide) (by omega) _ L3 (q0 + i) [.int .i64 (q0 + i)] (fun _ => True) (fun _ => False) wr.heap.size rfl rfl rfl ?aP (fun _ hk => hk.elim) ?aF ?aO ?aB ?aS ?aL ?_; (case aP => exact rfl); (case aF => exact fun _ _ => trivial); (case aO => exact HO3.out); (case aB => exact HB3.out); (case aS => exact HB3.out.size); (case aL => have := HLL.out; omega); intro v7 w7 ho hb hg hat; have HO7 := Aside0.mk ho; have HB7 := Aside0.mk hb; have HK7 := Aside0.mk (blk_grown HK3.out hg (by intro he; obtain ⟨cc, hcc⟩ := Kd.R_typed HO3.out g8 he.symm; rw [HK3.out] at hcc; injection hcc with hcc; injection hcc with h1 h2; cases h2)); clear ho hb hg hat))
          go_roundw
          case rel => exact ⟨i + 1, by omega, by congr 1; push_cast; omega, HK7, ⟨by rw [HL3.out]; exact HO7.out⟩, HB7⟩
          case measure => simp [intOf]; omega
        · go_wp2
          have HIE : Aside0 ((q1 - q0 + 1).toNat = i) := ⟨by omega⟩
          go_roundw
          case rel => exact ⟨j + 1, by omega, by go_num, ⟨by rw [HTS.out, numOne]; simp only [HIE.out]; exact HO3.out⟩, HB3⟩
          case measure => simp [intOf]; omega
    · go_wp2
      go_ret
      have hje : j = l.length := by omega
      subst hje
      refine ⟨_, rfl, ?_, below_then HB2.out HB2.out.size HB.out⟩
      have h := HO.out
      rw [List.take_length] at h
      rw [HRR.out]
      exact Kd.R_lower h HB2.out.size
def point_some.f (a0 : ByteArray) (a1 : Int) (a2 : Int) : Option (Bool) := if (a0.size : Int) = a1 then ((point_numbers.f a0 a2).bind fun t124 => (some (decide ((t124.length : Int) > 0)))) else (some false)
set_option maxHeartbeats 8000000 in
set_option maxRecDepth 100000 in
theorem point_some.calls (a0 : ByteArray) (a1 : Int) (a2 : Int) (r : Bool) (w : World) (h : point_some.f a0 a1 a2 = some r) :
    Calls Try.prog 53 #[.string a0, .int .i64 a1, .int .i64 a2] w fun e w' => e = .returned (.bool r) ∧ Below w.heap.size w w' := by
  have HB := Aside0.mk (Below.refl w.heap.size w)
  have H : (if (a0.size : Int) = a1 then ((point_numbers.f a0 a2).bind fun t124 => (some (decide ((t124.length : Int) > 0)))) else (some false)) = some r := h
  clear h
  by_cases c4 : (a0.size : Int) = a1
  · rw [if_pos c4] at H
    have c4b0 : ((a0.size : Int) == a1) = true := beq_iff_eq.mpr c4
    have c4b1 : ((a0.size : Int) != a1) = false := bne_eq_false_iff_eq.mpr c4
    clear c4
    replace H := Option.bind_eq_some_iff.mp H
    obtain ⟨t124, A50, H⟩ := H
    replace H : (some (decide ((t124.length : Int) > 0))) = some r := H
    have A5 := Aside0.mk A50
    clear A50
    obtain rfl := Option.some.inj H
    go_enter Try.func53, Try.ntmps53
    go_wp2_with (first | (go_at_call 60; (with_reducible refine (point_numbers.calls a0 a2 t124 _ A5.out).mono ?_); rintro e w6 ⟨v125, rfl, ho0, hb⟩; have n0_ := Aside0.mk (Kd.R_lower ho0 (below_size (by repeat (first | (with_reducible first | exact HB.out | apply below_alloc | apply pw_below_drewN | apply below_drew1) | exact HB.out)))); have n1_ := Aside0.mk (below_step (by repeat (first | (with_reducible first | exact HB.out | apply below_alloc | apply pw_below_drewN | apply below_drew1) | exact HB.out)) hb); clear HB; have HO126 := n0_; have HB := n1_; clear n0_ n1_; (try clear hb); (try clear hb2); (try clear hk); (try clear hi); (try clear ho0); obtain ⟨Ao7, co7, eo7⟩ := Kd.R_slice HO126.out; subst eo7))
    go_ret
    exact ⟨by first | rfl | (simp [errW_none, errW_some] <;> rfl) | (simp [*, errW_none, errW_some] <;> rfl), by repeat (first | (with_reducible first | exact HB.out | apply below_alloc | apply pw_below_drewN | apply below_drew1) | exact HB.out)⟩
  · rw [if_neg c4] at H
    have c4b0 : ((a0.size : Int) == a1) = false := beq_eq_false_iff_ne.mpr c4
    have c4b1 : ((a0.size : Int) != a1) = true := bne_iff_ne.mpr c4
    obtain rfl := Option.some.inj H
    go_enter Try.func53, Try.ntmps53
    go_wp2
    go_ret
    exact ⟨by first | rfl | (simp [errW_none, errW_some] <;> rfl) | (simp [*, errW_none, errW_some] <;> rfl), by repeat (first | (with_reducible first | exact HB.out | apply below_alloc | apply pw_below_drewN | apply below_drew1) | exact HB.out)⟩
end Go.Proofs.Ytchodmjleceooaa.V
