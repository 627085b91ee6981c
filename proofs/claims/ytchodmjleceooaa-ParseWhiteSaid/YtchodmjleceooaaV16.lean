import Derived.Test.YtchodmjleceooaaV0
import Derived.Test.YtchodmjleceooaaV1
import Derived.Test.YtchodmjleceooaaV2
import Derived.Test.YtchodmjleceooaaV6
import Derived.Test.YtchodmjleceooaaV8
import Derived.Test.YtchodmjleceooaaV9
import Derived.Test.YtchodmjleceooaaV12
import Derived.Test.YtchodmjleceooaaV13
import Derived.Test.YtchodmjleceooaaV14
import Derived.Test.YtchodmjleceooaaV15
namespace Go.Proofs.Ytchodmjleceooaa.V
open Go.RowKit Go.Proofs.YtchodmjleceooaaW.PrintWords Go.Proofs.YtchodmjleceooaaW.PrintLast Go.Proofs.YtchodmjleceooaaW.PrintMore
attribute [local go_sem] max2_int min2_int max_two min_two max_three min_three max_four min_four
set_option linter.unusedVariables false
set_option linter.unusedSimpArgs false
theorem show_word (k : Nat) (a : Int) (s : ByteArray) (hs : s.size < 100000) : lex_Show.f (k + 3) [⟨0, a, s⟩] = some s := by
  have e1 : lex_Show.f (k + 3) [⟨0, a, s⟩] = if ([] : List Int).length + s.size < 140737488355328 then lex_Show.l0 (k + 2) [⟨0, a, s⟩] ([] ++ bytesOf s) [⟨0, a, s⟩] 1 1 else none := by kernel_rfl
  have e2 : lex_Show.l0 (k + 2) [⟨0, a, s⟩] ([] ++ bytesOf s) [⟨0, a, s⟩] 1 1 = some (strOfNums (bytesOf s)) := by kernel_rfl
  rw [e1, if_pos (by simp; omega), e2]
  have e3 : strOfNums (bytesOf s) = s := by
    apply ByteArray.ext
    apply Array.toList_inj.mp
    rw [strOfNums_data, bytesOf, List.map_map]
    exact (List.map_congr_left (g := id) (fun b _ => by simp)).trans (List.map_id _)
  rw [e3]
theorem show_1 (k : Nat) (a : Int) (s : ByteArray) : lex_Show.f (k + 3) [⟨1, a, s⟩] = some ⟨#[47]⟩ := by kernel_rfl
theorem show_2 (k : Nat) (a : Int) (s : ByteArray) : lex_Show.f (k + 3) [⟨2, a, s⟩] = some ⟨#[46, 46]⟩ := by kernel_rfl
theorem show_3 (k : Nat) (a : Int) (s : ByteArray) : lex_Show.f (k + 3) [⟨3, a, s⟩] = some ⟨#[42]⟩ := by kernel_rfl
theorem show_4 (k : Nat) (a : Int) (s : ByteArray) : lex_Show.f (k + 3) [⟨4, a, s⟩] = some ⟨#[91]⟩ := by kernel_rfl
theorem show_5 (k : Nat) (a : Int) (s : ByteArray) : lex_Show.f (k + 3) [⟨5, a, s⟩] = some ⟨#[93]⟩ := by kernel_rfl
theorem show_6 (k : Nat) (a : Int) (s : ByteArray) : lex_Show.f (k + 3) [⟨6, a, s⟩] = some ⟨#[44]⟩ := by kernel_rfl
theorem show_7 (k : Nat) (a : Int) (s : ByteArray) : lex_Show.f (k + 3) [⟨7, a, s⟩] = some ⟨#[63]⟩ := by kernel_rfl
theorem show_8 (k : Nat) (a : Int) (s : ByteArray) : lex_Show.f (k + 3) [⟨8, a, s⟩] = some ⟨#[126]⟩ := by kernel_rfl
theorem show_9 (k : Nat) (a : Int) (s : ByteArray) : lex_Show.f (k + 3) [⟨9, a, s⟩] = some ⟨#[]⟩ := by kernel_rfl
theorem show_one (k : Nat) (t : S48) (h0 : 0 ≤ t.f0) (h9 : t.f0 ≤ 9) (hs : t.f2.size < 100000) : lex_Show.f (k + 3) [t] = some ⟨(shwK (tk t)).toArray⟩ := by
  obtain ⟨q, a, s⟩ := t
  simp only at h0 h9 hs
  have hq : q = 0 ∨ q = 1 ∨ q = 2 ∨ q = 3 ∨ q = 4 ∨ q = 5 ∨ q = 6 ∨ q = 7 ∨ q = 8 ∨ q = 9 := by omega
  rcases hq with rfl | rfl | rfl | rfl | rfl | rfl | rfl | rfl | rfl | rfl
  · rw [show_word k a s hs]
    show some s = some ⟨s.data.toList.toArray⟩
    congr 1
  · exact show_1 k a s
  · exact show_2 k a s
  · exact show_3 k a s
  · exact show_4 k a s
  · exact show_5 k a s
  · exact show_6 k a s
  · exact show_7 k a s
  · exact show_8 k a s
  · exact show_9 k a s
theorem cut_one (l : List S48) (i : Nat) (h : i < l.length) : (l.take (i + 1)).drop i = [l[i]] := by
  rw [List.take_succ_eq_append_getElem h, List.drop_append_of_le_length (by simp; omega)]
  simp
set_option maxRecDepth 100000 in
set_option maxHeartbeats 4000000 in
theorem white_walk (a0 : ByteArray) (w : World) (z0 : a0.size ≤ 140737488351232) :
    Calls Try.prog 4 #[.string a0] w fun e w' => e = .returned (.bool true) ∧ Below w.heap.size w w' := by
  by_cases h4 : 400 < a0.size
  · have s0 : decide (400 < (a0.size : Int)) = true := by rw [decide_eq_true_eq]; omega
    go_enter Try.func4, Try.ntmps4
    go_wp2_with fail
    refine (lustrumlaw13_awake.calls true _ rfl).mono ?_
    rintro e w1 ⟨rfl, hb⟩
    have HB := Aside0.mk hb
    clear hb
    go_wp2_with fail
    go_ret
    exact ⟨rfl, HB.out⟩
  · have s0 : decide (400 < (a0.size : Int)) = false := by rw [decide_eq_false_iff_not]; omega
    obtain ⟨l, at_, e, hL⟩ : ∃ l a e, lexAll a0 = (l, a, e) := ⟨_, _, _, rfl⟩
    obtain ⟨x, ap, ep, hP⟩ : ∃ x a e, pParse a0 = (x, a, e) := ⟨_, _, _, rfl⟩
    have HL := Aside0.mk (show lex_All.f a0 = some (l, at_, e) by rw [lex_All.f, hL])
    have HLL := Aside0.mk hL
    have HP := Aside0.mk hP
    have H4 := Aside0.mk (show a0.size ≤ 400 by omega)
    clear h4 z0 hL hP
    by_cases he : e = 0
    · subst he
      obtain ⟨l0, ts, hl0, h1, h2, h3, _⟩ := lexAll_of HLL.out
      have hsh := h2.shape
      have hsl : a0.data.toList.length = a0.size := Array.length_toList
      obtain ⟨g1, g2, g3⟩ := apart_lex h2
      have hlen : l.length ≤ 401 := by
        rw [hl0, List.length_append, ← List.length_map (f := tk), h1]; have := H4.out; simp only [List.length_cons, List.length_nil]; omega
      have hk : ∀ t ∈ l, 0 ≤ t.f0 ∧ t.f0 ≤ 9 ∧ t.f2.size ≤ 400 := by
        intro t ht
        rw [hl0, List.mem_append] at ht
        rcases ht with ht | ht
        · have h5 := hsh (tk t) (by rw [← h1]; exact List.mem_map_of_mem ht)
          have h6 : (tk t).1 = t.f0 := rfl
          have h7 : (tk t).2 = t.f2 := rfl
          rw [h6, h7] at h5
          have := H4.out
          omega
        · simp only [List.mem_cons, List.not_mem_nil, or_false] at ht
          subst ht
          exact ⟨by show (0 : Int) ≤ 9; omega, by show (9 : Int) ≤ 9; omega, Nat.zero_le _⟩
      have hal : (apartK (l.map tk)).length ≤ 900 := by
        have e : apartK (l.map tk) = apartK ts ++ [32] := by rw [hl0, List.map_append, h1, apartK, List.flatMap_append]; rfl
        rw [e, List.length_append]; have := H4.out; simp only [List.length_cons, List.length_nil]; omega
      have HK := Aside0.mk hk
      have HAL := Aside0.mk hal
      clear hl0 h1 h2 h3 hsh hsl g1 g2 g3 hk hal
      obtain ⟨i0, hi0, _, hsz0, _⟩ := info_parts infoTok
      have HI0 := Aside0.mk hi0
      have HZ0 := Aside0.mk hsz0
      clear hi0 hsz0
      go_enter Try.func4, Try.ntmps4
      go_wp2_with fail
      refine (lustrumlaw13_awake.calls true _ rfl).mono ?_
      rintro e w1 ⟨rfl, hb⟩
      have HB1 := Aside0.mk hb
      clear hb
      go_wp2_with fail
      refine (lex_All.calls a0 l at_ 0 _ HL.out).mono ?_
      rintro e1 w2 ⟨v, rfl, hv, hb⟩
      have HB2 := Aside0.mk (below_step HB1.out hb)
      obtain ⟨A, c, rfl⟩ := Kd.R_slice hv
      have hlc : l.length ≤ c := (Kd.R_reads' hv).2.1
      have HC2 := Aside0.mk (Kd.R_reads' hv).2.2
      clear hv hb
      go_wp2_with fail
      go_loopw [13, 14] (fun v13 v14 wr => ∃ (i : Nat) (t : ByteArray), i ≤ l.length ∧ v13 = .string t ∧ v14 = .int .i64 i ∧ Aside0 (t.data.toList = apartK ((l.take i).map tk)) ∧ Aside0 (Below w.heap.size w wr) ∧ Aside0 (Kd.C k48 wr A l.length l)) (fun _ v14 _ => l.length - (intOf v14).toNat)
      case atStart => exact ⟨0, ⟨#[]⟩, Nat.zero_le _, rfl, rfl, ⟨by simp [apartK]⟩, HB2, HC2⟩
      case round =>
        obtain ⟨i, t, hi, rfl, rfl, HT, HB, HC⟩ := hrel
        have hts : t.size = (apartK ((l.take i).map tk)).length := by rw [← HT.out, Array.length_toList]; rfl
        by_cases hlt : i < l.length
        · have htk : apartK ((l.take (i + 1)).map tk) = apartK ((l.take i).map tk) ++ 32 :: shwK (tk l[i]) := by
            rw [List.take_succ_eq_append_getElem hlt, List.map_append, apartK, List.flatMap_append]; simp [apartK]
          have hle : (apartK ((l.take (i + 1)).map tk)).length ≤ (apartK (l.map tk)).length := by
            have h1 : l.map tk = (l.take (i + 1)).map tk ++ (l.drop (i + 1)).map tk := by rw [← List.map_append, List.take_append_drop]
            rw [h1, apartK, apartK, List.flatMap_append, List.length_append]; omega
          have hal := HAL.out
          rw [htk, List.length_append, List.length_cons] at hle
          obtain ⟨u, hu⟩ : ∃ u : ByteArray, u = ⟨(shwK (tk l[i])).toArray⟩ := ⟨_, rfl⟩
          have hus : u.size = (shwK (tk l[i])).length := by rw [hu, ← ByteArray.size_data]; simp
          have hti := HK.out l[i] (List.getElem_mem hlt)
          have HSH := Aside0.mk ((show_one 0 l[i] hti.1 hti.2.1 (by omega)).trans (congrArg some hu.symm))
          have hcut := cut_mid (P := Try.prog) 35 48 .i64 .i64 Try.underlying35 HI0.out 3 HZ0.out A l.length c (i : Int) ((i : Int) + 1) (by omega) (by omega) (by omega) hlc
          have hmid := Kd.C_mid (lo := i) (hi := i + 1) (c := c) HC.out (by omega) (by omega) hlc
          rw [cut_one l i hlt] at hmid
          rw [show ((i : Int) + 1).toNat - (i : Int).toNat = 1 by omega, show (i : Int).toNat = i from rfl] at hcut
          have HT2 : Aside0 ((t ++ (⟨#[32]⟩ : ByteArray) ++ u).data.toList = apartK ((l.take (i + 1)).map tk)) := ⟨by rw [htk, ← HT.out, hu]; simp⟩
          have q1 : t.size + 1 ≤ 9223372036854775807 := by omega
          have q2 : t.size + 1 + u.size ≤ 9223372036854775807 := by omega
          have hmid2 : Kd.C k48 wr (if c = i then A else A.map (·.add (i * 3))) ([l[i]] : List S48).length [l[i]] := by
            exact hmid
          have HM := Aside0.mk hmid2
          have HCI := Aside0.mk (show ([l[i]] : List S48).length ≤ c - i by simp; omega)
          clear hts htk hle hal hu hus hti hmid hmid2
          generalize (if c = i then A else A.map (·.add (i * 3))) = A1 at hcut HM
          generalize l[i] = ti at HSH HM HCI
          go_wp2_with fail
          refine (lex_Show.calls 3 A1 (c - i) [ti] u _ HM.out HCI.out HSH.out).mono ?_
          rintro e2 w3 ⟨rfl, hb⟩
          have HB3 := Aside0.mk (below_step HB.out hb)
          have HC3 := Aside0.mk (Kd.C_below HC.out hb)
          clear hb
          go_wp2_with fail
          go_roundw
          case rel => exact ⟨i + 1, _, by omega, rfl, by go_num, HT2, HB3, HC3⟩
          case measure => simp [intOf]; omega
        · obtain rfl : i = l.length := by omega
          have hT := HT.out
          rw [List.take_length] at hT
          rcases hq : pParse t with ⟨y, aq, eq⟩
          have hs := white_same HLL.out H4.out hT
          rw [HP.out, hq] at hs
          simp only at hs
          obtain ⟨rfl, rfl⟩ := hs
          have HQ := Aside0.mk hq
          clear hT hq hts hlt
          go_wp2_with fail
          refine (parse_calls a0 HP.out).mono ?_
          rintro e2 w3 ⟨B, m, rfl, hm, hF, hb⟩
          have HB3 := Aside0.mk (below_alloc (below_step HB.out hb) (.cells #[.int .i64 x.f0, .int .i64 x.f1.f0, .string x.f1.f1, .string x.f1.f2, .string x.f1.f3, .bool x.f2, .bool x.f3, .slice B x.f4.length m] 27))
          have HM3 := Aside0.mk hm
          have HX3 := Aside0.mk (blk_new w3 (.cells #[.int .i64 x.f0, .int .i64 x.f1.f0, .string x.f1.f1, .string x.f1.f2, .string x.f1.f3, .bool x.f2, .bool x.f3, .slice B x.f4.length m] 27))
          have HF3 := Aside0.mk (Kd.F_below hF (below_alloc (Below.refl _ _) (.cells #[.int .i64 x.f0, .int .i64 x.f1.f0, .string x.f1.f1, .string x.f1.f2, .string x.f1.f3, .bool x.f2, .bool x.f3, .slice B x.f4.length m] 27)))
          clear hm hF hb
          go_wp2_with fail
          refine (parse_calls t HQ.out).mono ?_
          rintro e2 w4 ⟨B2, m2, rfl, hm, hF, hb⟩
          have HB4 := Aside0.mk (below_alloc (below_step HB3.out hb) (.cells #[.int .i64 x.f0, .int .i64 x.f1.f0, .string x.f1.f1, .string x.f1.f2, .string x.f1.f3, .bool x.f2, .bool x.f3, .slice B2 x.f4.length m2] 27))
          have HM4 := Aside0.mk hm
          have hx4 := blk_alloc (blk_below HX3.out hb) (.cells #[.int .i64 x.f0, .int .i64 x.f1.f0, .string x.f1.f1, .string x.f1.f2, .string x.f1.f3, .bool x.f2, .bool x.f3, .slice B2 x.f4.length m2] 27)
          have hy4 := blk_new w4 (.cells #[.int .i64 x.f0, .int .i64 x.f1.f0, .string x.f1.f1, .string x.f1.f2, .string x.f1.f3, .bool x.f2, .bool x.f3, .slice B2 x.f4.length m2] 27)
          have HF4 := Aside0.mk (Kd.F_below (Kd.F_below HF3.out hb) (below_alloc (Below.refl _ _) (.cells #[.int .i64 x.f0, .int .i64 x.f1.f0, .string x.f1.f1, .string x.f1.f2, .string x.f1.f3, .bool x.f2, .bool x.f3, .slice B2 x.f4.length m2] 27)))
          have HG4 := Aside0.mk (Kd.F_below hF (below_alloc (Below.refl _ _) (.cells #[.int .i64 x.f0, .int .i64 x.f1.f0, .string x.f1.f1, .string x.f1.f2, .string x.f1.f3, .bool x.f2, .bool x.f3, .slice B2 x.f4.length m2] 27)))
          obtain ⟨x0, x1, x2, x3, x4, x5, x6, x7⟩ := nCells_at hx4
          obtain ⟨y0, y1, y2, y3, y4, y5, y6, y7⟩ := nCells_at hy4
          clear hm hF hb hx4 hy4
          go_wp2_with fail
          refine (tree_Same.calls x.f0 x.f1.f0 x.f1.f1 x.f1.f2 x.f1.f3 x.f2 x.f3 B m x.f4 x.f0 x.f1.f0 x.f1.f1 x.f1.f2 x.f1.f3 x.f2 x.f3 B2 m2 x.f4 true _ (Kd.F_now HF4.out) HM3.out (Kd.F_now HG4.out) HM4.out (by
            rw [tree_Same.f, nSame_refl])).mono ?_
          rintro e2 w5 ⟨rfl, hb⟩
          have HB5 := Aside0.mk (below_step HB4.out hb)
          clear hb x0 x1 x2 x3 x4 x5 x6 x7 y0 y1 y2 y3 y4 y5 y6 y7
          go_wp2_with fail
          go_ret
          exact ⟨rfl, HB5.out⟩
    · have ke : (e != 0) = true := by simpa using he
      have hpp : x = zNode ∧ ap = at_ ∧ ep = e := by
        have h := HP.out
        rw [pParse, HLL.out] at h
        simp only [] at h
        rw [if_pos he] at h
        simp only [Prod.mk.injEq] at h
        exact ⟨h.1.symm, h.2.1.symm, h.2.2.symm⟩
      obtain ⟨rfl, rfl, rfl⟩ := hpp
      clear he
      go_enter Try.func4, Try.ntmps4
      go_wp2_with fail
      refine (lustrumlaw13_awake.calls true _ rfl).mono ?_
      rintro e1 w1 ⟨rfl, hb⟩
      have HB1 := Aside0.mk hb
      clear hb
      go_wp2_with fail
      refine (lex_All.calls a0 l ap ep _ HL.out).mono ?_
      rintro e1 w2 ⟨v, rfl, hv, hb⟩
      have HB2 := Aside0.mk (below_step HB1.out hb)
      obtain ⟨A, c, rfl⟩ := Kd.R_slice hv
      clear hv hb
      go_wp2_with fail
      refine (parse_calls a0 HP.out).mono ?_
      rintro e1 w3 ⟨B, m, rfl, hm, hF, hb⟩
      have HB3 := Aside0.mk (below_alloc (below_step HB2.out hb) (.cells #[.int .i64 zNode.f0, .int .i64 zNode.f1.f0, .string zNode.f1.f1, .string zNode.f1.f2, .string zNode.f1.f3, .bool zNode.f2, .bool zNode.f3, .slice B zNode.f4.length m] 27))
      clear hm hF hb
      go_wp2_with fail
      refine (lex_All.calls a0 l ap ep _ HL.out).mono ?_
      rintro e1 w4 ⟨v, rfl, hv, hb⟩
      have HB4 := Aside0.mk (below_step HB3.out hb)
      obtain ⟨A4, c4, rfl⟩ := Kd.R_slice hv
      clear hv hb
      go_wp2_with fail
      go_ret
      exact ⟨rfl, HB4.out⟩
end Go.Proofs.Ytchodmjleceooaa.V
