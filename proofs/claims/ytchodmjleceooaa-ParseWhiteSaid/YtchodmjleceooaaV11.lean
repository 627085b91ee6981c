import Derived.Test.YtchodmjleceooaaV0
import Derived.Test.YtchodmjleceooaaV1
import Derived.Test.YtchodmjleceooaaV2
import Derived.Test.YtchodmjleceooaaV5
import Derived.Test.YtchodmjleceooaaV6
import Derived.Test.YtchodmjleceooaaV7
import Derived.Test.YtchodmjleceooaaV8
import Derived.Test.YtchodmjleceooaaV9
import Derived.Test.YtchodmjleceooaaV10
namespace Go.Proofs.Ytchodmjleceooaa.V
open Go.RowKit Go.Proofs.YtchodmjleceooaaW.PrintWords Go.Proofs.YtchodmjleceooaaW.PrintLast Go.Proofs.YtchodmjleceooaaW.PrintMore
attribute [local go_sem] max2_int min2_int max_two min_two max_three min_three max_four min_four
set_option linter.unusedVariables false
set_option linter.unusedSimpArgs false
def print_Text.f (k : Nat) (a0_0 : Int) (a0_1 : Int) (a0_2 : ByteArray) (a0_3 : ByteArray) (a0_4 : ByteArray) (a0_5 : Bool) (a0_6 : Bool) (l0_7 : List (S27)) : Option (ByteArray) := (tree_Sane.f a0_0 a0_1 a0_2 a0_3 a0_4 a0_5 a0_6 l0_7).bind fun t199 => (if t199 = true then ((print_text.f k a0_0 a0_1 a0_2 a0_3 a0_4 a0_5 a0_6 l0_7).bind fun t200 => (some t200)) else (some (⟨#[]⟩ : ByteArray)))
theorem print_Text.mono : ∀ a0 a1 a2 a3 a4 a5 a6 a7 k, LeO (print_Text.f k a0 a1 a2 a3 a4 a5 a6 a7) (print_Text.f (k + 1) a0 a1 a2 a3 a4 a5 a6 a7) := by
  intro a0 a1 a2 a3 a4 a5 a6 a7 k
  unfold print_Text.f
  repeat' first
      | (with_reducible exact print_text.mono _ _ _ _ _ _ _ _ _)
      | (with_reducible exact LeO.refl _)
      | (with_reducible exact LeO.none _)
      | (with_reducible refine LeO.ite ?_ ?_)
      | (with_reducible refine LeO.bind ?_ (fun _ => ?_))
      | exact print_text.mono _ _ _ _ _ _ _ _ _
      | exact LeO.none _
      | refine LeO.ite ?_ ?_
      | refine LeO.bind ?_ (fun _ => ?_)
set_option maxHeartbeats 8000000 in
set_option maxRecDepth 100000 in
theorem print_Text.calls (k : Nat) (a0_0 : Int) (a0_1 : Int) (a0_2 : ByteArray) (a0_3 : ByteArray) (a0_4 : ByteArray) (a0_5 : Bool) (a0_6 : Bool) (A0_7 : Option Addr) (c0_7 : Nat) (l0_7 : List (S27)) (r : ByteArray) (w : World) (hr0_7 : Kd.C k27 w A0_7 l0_7.length l0_7) (hc0_7 : l0_7.length ≤ c0_7) (h : print_Text.f k a0_0 a0_1 a0_2 a0_3 a0_4 a0_5 a0_6 l0_7 = some r) :
    Calls Try.prog 12 #[.agg #[.int .i64 a0_0, .int .i64 a0_1, .string a0_2, .string a0_3, .string a0_4, .bool a0_5, .bool a0_6, .slice A0_7 l0_7.length c0_7]] w fun e w' => e = .returned (.string r) ∧ Below w.heap.size w w' := by
  have hu27 := Try.underlying27
  have HR0_7 := Aside0.mk hr0_7
  have HC0_7 := Aside0.mk hc0_7
  clear hr0_7 hc0_7
  have HB := Aside0.mk (Below.refl w.heap.size w)
  have H : ((tree_Sane.f a0_0 a0_1 a0_2 a0_3 a0_4 a0_5 a0_6 l0_7).bind fun t199 => (if t199 = true then ((print_text.f k a0_0 a0_1 a0_2 a0_3 a0_4 a0_5 a0_6 l0_7).bind fun t200 => (some t200)) else (some (⟨#[]⟩ : ByteArray)))) = some r := h
  clear h
  replace H := Option.bind_eq_some_iff.mp H
  obtain ⟨t199, A20, H⟩ := H
  replace H : (if t199 = true then ((print_text.f k a0_0 a0_1 a0_2 a0_3 a0_4 a0_5 a0_6 l0_7).bind fun t200 => (some t200)) else (some (⟨#[]⟩ : ByteArray))) = some r := H
  have A2 := Aside0.mk A20
  clear A20
  by_cases c3 : t199 = true
  · subst c3
    have H1 : ((print_text.f k a0_0 a0_1 a0_2 a0_3 a0_4 a0_5 a0_6 l0_7).bind fun t200 => (some t200)) = some r := by rw [if_pos rfl] at H; exact H
    clear H
    have H := H1
    clear H1
    replace H := Option.bind_eq_some_iff.mp H
    obtain ⟨t200, A40, H⟩ := H
    replace H : (some t200) = some r := H
    have A4 := Aside0.mk A40
    clear A40
    obtain rfl := Option.some.inj H
    go_enter Try.func12, Try.ntmps12
    go_wp2_with (first | ((with_reducible refine gate_dst (N := 1) rfl ?_); refine box_event ?hg (N := 1) ?hd (cs := #[.int .i64 a0_0, .int .i64 a0_1, .string a0_2, .string a0_3, .string a0_4, .bool a0_5, .bool a0_6, .slice A0_7 l0_7.length c0_7]) (t := 27) ?hr ?_; (case hd => rfl); (case hg => rfl); (case hr => first | (go_simp; done) | (go_simp; rfl)); intro gb198 hg w5 hbox hb; have n0_ := Aside0.mk (below_step (by repeat (first | (with_reducible first | exact HB.out | apply below_alloc | apply pw_below_drewN | apply below_drew1) | exact HB.out)) hb); have n1_ := Aside0.mk (hbox); have n2_ := Aside0.mk ((by rw [hg]; exact (below_size (by repeat (first | (with_reducible first | exact HB.out | apply below_alloc | apply pw_below_drewN | apply below_drew1) | exact HB.out))) : w.heap.size ≤ gb198)); have n3_ := Aside0.mk ((by rw [hg]; exact (below_size (by repeat (first | (with_reducible first | exact HB.out | apply below_alloc | apply pw_below_drewN | apply below_drew1) | exact HB.out))) : w.heap.size ≤ gb198)); clear HB; have HB := n0_; have BK198 := n1_; have GW198 := n2_; have GE198 := n3_; clear n0_ n1_ n2_ n3_; clear hb hbox hg; have hcz6_0 : w5.cell? ⟨gb198, 0, none⟩ = some (.int .i64 a0_0) := (blk_cell BK198.out 0).trans rfl; have hcz6_1 : w5.cell? ⟨gb198, 1, none⟩ = some (.int .i64 a0_1) := (blk_cell BK198.out 1).trans rfl; have hcz6_2 : w5.cell? ⟨gb198, 2, none⟩ = some (.string a0_2) := (blk_cell BK198.out 2).trans rfl; have hcz6_3 : w5.cell? ⟨gb198, 3, none⟩ = some (.string a0_3) := (blk_cell BK198.out 3).trans rfl; have hcz6_4 : w5.cell? ⟨gb198, 4, none⟩ = some (.string a0_4) := (blk_cell BK198.out 4).trans rfl; have hcz6_5 : w5.cell? ⟨gb198, 5, none⟩ = some (.bool a0_5) := (blk_cell BK198.out 5).trans rfl; have hcz6_6 : w5.cell? ⟨gb198, 6, none⟩ = some (.bool a0_6) := (blk_cell BK198.out 6).trans rfl; have hcz6_7 : w5.cell? ⟨gb198, 7, none⟩ = some (.slice A0_7 l0_7.length c0_7) := (blk_cell BK198.out 7).trans rfl; have hfz6_0 := blk_frozen BK198.out 0; have hfz6_1 := blk_frozen BK198.out 1; have hfz6_2 := blk_frozen BK198.out 2; have hfz6_3 := blk_frozen BK198.out 3; have hfz6_4 := blk_frozen BK198.out 4; have hfz6_5 := blk_frozen BK198.out 5; have hfz6_6 := blk_frozen BK198.out 6; have hfz6_7 := blk_frozen BK198.out 7) | ((with_reducible refine gate_callee (f := 8) rfl ?_); refine goesL_ (some 4) rfl rfl Try.func8 (by kernel_rfl) rfl #[.agg #[.int .i64 a0_0, .int .i64 a0_1, .string a0_2, .string a0_3, .string a0_4, .bool a0_5, .bool a0_6, .slice A0_7 l0_7.length c0_7]] rfl (by (try simp only [List.map_toArray, List.map_cons, List.map_nil]); first | done | rfl | (simp only [List.length_drop, List.length_take]; rfl)) ?_; (with_reducible refine (tree_Sane.calls a0_0 a0_1 a0_2 a0_3 a0_4 a0_5 a0_6 _ _ l0_7 true _ ?side1 ?side2 A2.out).mono ?_); (case side1 => repeat (first | exact (Kd.C_below HR0_7.out HB.out) | (with_reducible refine Kd.C_alloc ?_ _) | (with_reducible refine Kd.C_drewN ?_ _) | (with_reducible refine Kd.C_drew ?_))); (case side2 => exact HC0_7.out); rintro e w7 ⟨rfl, hb⟩; refine ⟨_, rfl, ?_⟩; have n0_ := Aside0.mk (blk_below (g := gb198) (o := .cells #[.int .i64 a0_0, .int .i64 a0_1, .string a0_2, .string a0_3, .string a0_4, .bool a0_5, .bool a0_6, .slice A0_7 l0_7.length c0_7] 27 (0, 0)) (by (with_reducible repeat (first | refine blk_drewN ?_ _ | refine blk_drew ?_ | refine blk_alloc ?_ _)); exact BK198.out) hb); have n1_ := Aside0.mk (below_step (by repeat (first | (with_reducible first | exact HB.out | apply below_alloc | apply pw_below_drewN | apply below_drew1 | refine below_set ?_ GE198.out) | exact HB.out)) hb); clear BK198; clear HB; have BK198 := n0_; have HB := n1_; clear n0_ n1_; (try clear hb); (try clear hb2); (try clear hk); (try clear hi); have hcz8_0 : w7.cell? ⟨gb198, 0, none⟩ = some (.int .i64 a0_0) := (blk_cell BK198.out 0).trans rfl; have hcz8_1 : w7.cell? ⟨gb198, 1, none⟩ = some (.int .i64 a0_1) := (blk_cell BK198.out 1).trans rfl; have hcz8_2 : w7.cell? ⟨gb198, 2, none⟩ = some (.string a0_2) := (blk_cell BK198.out 2).trans rfl; have hcz8_3 : w7.cell? ⟨gb198, 3, none⟩ = some (.string a0_3) := (blk_cell BK198.out 3).trans rfl; have hcz8_4 : w7.cell? ⟨gb198, 4, none⟩ = some (.string a0_4) := (blk_cell BK198.out 4).trans rfl; have hcz8_5 : w7.cell? ⟨gb198, 5, none⟩ = some (.bool a0_5) := (blk_cell BK198.out 5).trans rfl; have hcz8_6 : w7.cell? ⟨gb198, 6, none⟩ = some (.bool a0_6) := (blk_cell BK198.out 6).trans rfl; have hcz8_7 : w7.cell? ⟨gb198, 7, none⟩ = some (.slice A0_7 l0_7.length c0_7) := (blk_cell BK198.out 7).trans rfl; have hfz8_0 := blk_frozen BK198.out 0; have hfz8_1 := blk_frozen BK198.out 1; have hfz8_2 := blk_frozen BK198.out 2; have hfz8_3 := blk_frozen BK198.out 3; have hfz8_4 := blk_frozen BK198.out 4; have hfz8_5 := blk_frozen BK198.out 5; have hfz8_6 := blk_frozen BK198.out 6; have hfz8_7 := blk_frozen BK198.out 7) | ((with_reducible refine gate_callee (f := 24) rfl ?_); refine goesL_ (some 7) rfl rfl Try.func24 (by kernel_rfl) rfl #[.agg #[.int .i64 a0_0, .int .i64 a0_1, .string a0_2, .string a0_3, .string a0_4, .bool a0_5, .bool a0_6, .slice A0_7 l0_7.length c0_7]] rfl (by (try simp only [List.map_toArray, List.map_cons, List.map_nil]); first | done | rfl | (simp only [List.length_drop, List.length_take]; rfl)) ?_; (with_reducible refine (print_text.calls k a0_0 a0_1 a0_2 a0_3 a0_4 a0_5 a0_6 _ _ l0_7 t200 _ ?side1 ?side2 A4.out).mono ?_); (case side1 => repeat (first | exact (Kd.C_below HR0_7.out HB.out) | (with_reducible refine Kd.C_alloc ?_ _) | (with_reducible refine Kd.C_drewN ?_ _) | (with_reducible refine Kd.C_drew ?_))); (case side2 => exact HC0_7.out); rintro e w9 ⟨rfl, hb⟩; refine ⟨_, rfl, ?_⟩; have n0_ := Aside0.mk (blk_below (g := gb198) (o := .cells #[.int .i64 a0_0, .int .i64 a0_1, .string a0_2, .string a0_3, .string a0_4, .bool a0_5, .bool a0_6, .slice A0_7 l0_7.length c0_7] 27 (0, 0)) (by (with_reducible repeat (first | refine blk_drewN ?_ _ | refine blk_drew ?_ | refine blk_alloc ?_ _)); exact BK198.out) hb); have n1_ := Aside0.mk (below_step (by repeat (first | (with_reducible first | exact HB.out | apply below_alloc | apply pw_below_drewN | apply below_drew1 | refine below_set ?_ GE198.out) | exact HB.out)) hb); clear BK198; clear HB; have BK198 := n0_; have HB := n1_; clear n0_ n1_; (try clear hb); (try clear hb2); (try clear hk); (try clear hi)))
    go_ret
    exact ⟨by first | rfl | (simp [errW_none, errW_some] <;> rfl) | (simp [*, errW_none, errW_some] <;> rfl), by repeat (first | (with_reducible first | exact HB.out | apply below_alloc | apply pw_below_drewN | apply below_drew1 | refine below_set ?_ GE198.out) | exact HB.out)⟩
  · replace c3 := Bool.eq_false_iff.mpr c3
    subst c3
    have H1 : (some (⟨#[]⟩ : ByteArray)) = some r := by rw [if_neg (show ¬ (false = true) by decide)] at H; exact H
    clear H
    have H := H1
    clear H1
    obtain rfl := Option.some.inj H
    go_enter Try.func12, Try.ntmps12
    go_wp2_with (first | ((with_reducible refine gate_dst (N := 1) rfl ?_); refine box_event ?hg (N := 1) ?hd (cs := #[.int .i64 a0_0, .int .i64 a0_1, .string a0_2, .string a0_3, .string a0_4, .bool a0_5, .bool a0_6, .slice A0_7 l0_7.length c0_7]) (t := 27) ?hr ?_; (case hd => rfl); (case hg => rfl); (case hr => first | (go_simp; done) | (go_simp; rfl)); intro gb198 hg w10 hbox hb; have n0_ := Aside0.mk (below_step (by repeat (first | (with_reducible first | exact HB.out | apply below_alloc | apply pw_below_drewN | apply below_drew1) | exact HB.out)) hb); have n1_ := Aside0.mk (hbox); have n2_ := Aside0.mk ((by rw [hg]; exact (below_size (by repeat (first | (with_reducible first | exact HB.out | apply below_alloc | apply pw_below_drewN | apply below_drew1) | exact HB.out))) : w.heap.size ≤ gb198)); have n3_ := Aside0.mk ((by rw [hg]; exact (below_size (by repeat (first | (with_reducible first | exact HB.out | apply below_alloc | apply pw_below_drewN | apply below_drew1) | exact HB.out))) : w.heap.size ≤ gb198)); clear HB; have HB := n0_; have BK198 := n1_; have GW198 := n2_; have GE198 := n3_; clear n0_ n1_ n2_ n3_; clear hb hbox hg; have hcz11_0 : w10.cell? ⟨gb198, 0, none⟩ = some (.int .i64 a0_0) := (blk_cell BK198.out 0).trans rfl; have hcz11_1 : w10.cell? ⟨gb198, 1, none⟩ = some (.int .i64 a0_1) := (blk_cell BK198.out 1).trans rfl; have hcz11_2 : w10.cell? ⟨gb198, 2, none⟩ = some (.string a0_2) := (blk_cell BK198.out 2).trans rfl; have hcz11_3 : w10.cell? ⟨gb198, 3, none⟩ = some (.string a0_3) := (blk_cell BK198.out 3).trans rfl; have hcz11_4 : w10.cell? ⟨gb198, 4, none⟩ = some (.string a0_4) := (blk_cell BK198.out 4).trans rfl; have hcz11_5 : w10.cell? ⟨gb198, 5, none⟩ = some (.bool a0_5) := (blk_cell BK198.out 5).trans rfl; have hcz11_6 : w10.cell? ⟨gb198, 6, none⟩ = some (.bool a0_6) := (blk_cell BK198.out 6).trans rfl; have hcz11_7 : w10.cell? ⟨gb198, 7, none⟩ = some (.slice A0_7 l0_7.length c0_7) := (blk_cell BK198.out 7).trans rfl; have hfz11_0 := blk_frozen BK198.out 0; have hfz11_1 := blk_frozen BK198.out 1; have hfz11_2 := blk_frozen BK198.out 2; have hfz11_3 := blk_frozen BK198.out 3; have hfz11_4 := blk_frozen BK198.out 4; have hfz11_5 := blk_frozen BK198.out 5; have hfz11_6 := blk_frozen BK198.out 6; have hfz11_7 := blk_frozen BK198.out 7) | ((with_reducible refine gate_callee (f := 8) rfl ?_); refine goesL_ (some 4) rfl rfl Try.func8 (by kernel_rfl) rfl #[.agg #[.int .i64 a0_0, .int .i64 a0_1, .string a0_2, .string a0_3, .string a0_4, .bool a0_5, .bool a0_6, .slice A0_7 l0_7.length c0_7]] rfl (by (try simp only [List.map_toArray, List.map_cons, List.map_nil]); first | done | rfl | (simp only [List.length_drop, List.length_take]; rfl)) ?_; (with_reducible refine (tree_Sane.calls a0_0 a0_1 a0_2 a0_3 a0_4 a0_5 a0_6 _ _ l0_7 false _ ?side1 ?side2 A2.out).mono ?_); (case side1 => repeat (first | exact (Kd.C_below HR0_7.out HB.out) | (with_reducible refine Kd.C_alloc ?_ _) | (with_reducible refine Kd.C_drewN ?_ _) | (with_reducible refine Kd.C_drew ?_))); (case side2 => exact HC0_7.out); rintro e w12 ⟨rfl, hb⟩; refine ⟨_, rfl, ?_⟩; have n0_ := Aside0.mk (blk_below (g := gb198) (o := .cells #[.int .i64 a0_0, .int .i64 a0_1, .string a0_2, .string a0_3, .string a0_4, .bool a0_5, .bool a0_6, .slice A0_7 l0_7.length c0_7] 27 (0, 0)) (by (with_reducible repeat (first | refine blk_drewN ?_ _ | refine blk_drew ?_ | refine blk_alloc ?_ _)); exact BK198.out) hb); have n1_ := Aside0.mk (below_step (by repeat (first | (with_reducible first | exact HB.out | apply below_alloc | apply pw_below_drewN | apply below_drew1 | refine below_set ?_ GE198.out) | exact HB.out)) hb); clear BK198; clear HB; have BK198 := n0_; have HB := n1_; clear n0_ n1_; (try clear hb); (try clear hb2); (try clear hk); (try clear hi)))
    go_ret
    exact ⟨by first | rfl | (simp [errW_none, errW_some] <;> rfl) | (simp [*, errW_none, errW_some] <;> rfl), by repeat (first | (with_reducible first | exact HB.out | apply below_alloc | apply pw_below_drewN | apply below_drew1 | refine below_set ?_ GE198.out) | exact HB.out)⟩
def aw1 : S27 := ⟨2, zPt, false, false, [⟨0, ⟨3, ⟨#[49, 57, 56, 52]⟩, ⟨#[]⟩, ⟨#[]⟩⟩, true, true, []⟩, ⟨1, zPt, false, false, [⟨3, zPt, false, false, []⟩, ⟨0, ⟨3, ⟨#[49, 57, 88, 52]⟩, ⟨#[]⟩, ⟨#[]⟩⟩, false, false, []⟩]⟩]⟩
set_option maxRecDepth 100000 in
theorem aw_a : pParse ⟨#[91, 49, 57, 56, 52, 126, 63, 44, 32, 46, 46, 47, 49, 57, 88, 52, 93]⟩ = (aw1, 17, 0) := by kernel_rfl
set_option maxRecDepth 100000 in
theorem aw_b : pParse ⟨#[49, 57, 56, 52, 47, 91]⟩ = (zNode, 5, 3) := by kernel_rfl
set_option maxRecDepth 100000 in
theorem aw_c : pParse ⟨#[91, 49, 57, 56, 52]⟩ = (zNode, 5, 4) := by kernel_rfl
set_option maxRecDepth 100000 in
theorem aw_d : print_Text.f 20 aw1.f0 aw1.f1.f0 aw1.f1.f1 aw1.f1.f2 aw1.f1.f3 aw1.f2 aw1.f3 aw1.f4 = some ⟨#[91, 49, 57, 56, 52, 63, 126, 44, 32, 46, 46, 47, 49, 57, 88, 52, 93]⟩ := by kernel_rfl
def NoMark : List S48 → Prop
  | [] => False
  | t :: _ => t.f0 ≠ 7 ∧ t.f0 ≠ 8
def Stop (r : List S48) : Prop := NoMark r ∧ ∀ t ∈ r.head?, t.f0 ≠ 1
theorem Stop.mk_ {t : S48} {r : List S48} (h1 : t.f0 ≠ 1) (h7 : t.f0 ≠ 7) (h8 : t.f0 ≠ 8) : Stop (t :: r) := ⟨⟨h7, h8⟩, fun u hu => by simp at hu; rw [← hu]; exact h1⟩
theorem map_cons_inv {l : List S48} {k : Int} {s : ByteArray} {m : List (Int × ByteArray)} (h : l.map tk = (k, s) :: m) : ∃ t r, l = t :: r ∧ t.f0 = k ∧ t.f2 = s ∧ r.map tk = m := by
  cases l with
  | nil => simp at h
  | cons t r =>
    rw [tk_cons] at h
    simp only [List.cons.injEq, Prod.mk.injEq] at h
    exact ⟨t, r, rfl, h.1.1, h.1.2, h.2⟩
theorem map_append_inv {l : List S48} {a b : List (Int × ByteArray)} (h : l.map tk = a ++ b) : ∃ u v, l = u ++ v ∧ u.map tk = a ∧ v.map tk = b := List.map_eq_append_iff.mp h
theorem marked_back {ms : List (Int × ByteArray)} {a b c d : Bool} (h : Marks ms a b c d) : ∀ (l r : List S48), l.map tk = ms → NoMark r → pMarked (l ++ r) a b = (c, d, r) := by
  induction h with
  | nil a b =>
    intro l r hl hr
    obtain rfl : l = [] := by simpa using hl
    cases r with
    | nil => exact hr.elim
    | cons t r => rw [List.nil_append, pMarked, if_neg (fun h => hr.1 h.1), if_neg (fun h => hr.2 h.1)]
  | ask s h ih =>
    intro l r hl hr
    obtain ⟨t, l, rfl, h7, _, hl⟩ := map_cons_inv hl
    rw [List.cons_append, pMarked, if_pos ⟨h7, rfl⟩]
    exact ih l r hl hr
  | tilde s h ih =>
    intro l r hl hr
    obtain ⟨t, l, rfl, h8, _, hl⟩ := map_cons_inv hl
    rw [List.cons_append, pMarked, if_neg (fun h => by rw [h8] at h; exact absurd h.1 (by decide)), if_pos ⟨h8, rfl⟩]
    exact ih l r hl hr
theorem end_back {pre : List (Int × ByteArray)} {x : S27} (h : IsEnd pre x) (l r : List S48) (hl : l.map tk = pre) (hr : NoMark r) (n : Int) :
    (n ≠ 64 → pEnd n (l ++ r) = .ok (x, r, n + 1)) ∧ (n = 64 → ∃ a, pEnd n (l ++ r) = .error (a, 6)) := by
  cases h with
  | @point s p ms a b h hm =>
    obtain ⟨t, l, rfl, h0, hs, hl⟩ := map_cons_inv hl
    rw [List.cons_append, pEnd, if_pos (.inl h0)]
    refine ⟨fun hn => ?_, fun hn => ⟨t.f1, ?_⟩⟩
    · rw [if_neg hn, if_pos h0, pWord, hs, h]
      simp only [marked_back hm l r hl hr]
    · rw [if_pos hn, pNot, if_neg (by omega)]
  | dots s =>
    obtain ⟨t, l, rfl, h0, hs, hl⟩ := map_cons_inv hl
    obtain rfl : l = [] := by simpa using hl
    rw [List.cons_append, pEnd, if_pos (.inr (.inl h0))]
    refine ⟨fun hn => ?_, fun hn => ⟨t.f1, ?_⟩⟩
    · rw [if_neg hn, if_neg (by omega), if_pos h0]; rfl
    · rw [if_pos hn, pNot, if_neg (by omega)]
  | star s =>
    obtain ⟨t, l, rfl, h0, hs, hl⟩ := map_cons_inv hl
    obtain rfl : l = [] := by simpa using hl
    rw [List.cons_append, pEnd, if_pos (.inr (.inr h0))]
    refine ⟨fun hn => ?_, fun hn => ⟨t.f1, ?_⟩⟩
    · rw [if_neg hn, if_neg (by omega), if_neg (by omega)]; rfl
    · rw [if_pos hn, pNot, if_neg (by omega)]
theorem span_back {pre : List (Int × ByteArray)} {x : S27} (h : IsSpan pre x) (l r : List S48) (hl : l.map tk = pre) (hr : Stop r) (n : Int) (hn : n ≤ 64) :
    (n + nsz x ≤ 64 → pSpan n (l ++ r) = .ok (x, r, n + nsz x)) ∧ (64 < n + nsz x → ∃ a, pSpan n (l ++ r) = .error (a, 6)) := by
  cases h with
  | one h h0 =>
    have hz := (nsz_end h).1
    have hb := end_back h l r hl hr.1 n
    rw [hz]
    refine ⟨fun h2 => ?_, fun h2 => ?_⟩
    · rw [pSpan, hb.1 (by omega)]
      cases r with
      | nil => exact hr.1.elim
      | cons t r =>
        have ht := hr.2 t rfl
        simp only []
        rw [if_pos ht, if_neg (by simpa using h0)]; rfl
    · obtain ⟨a, ha⟩ := hb.2 (by omega)
      exact ⟨a, by rw [pSpan, ha]⟩
  | @two p q x y s h k =>
    have hz := (nsz_end h).1
    have hz2 := (nsz_end k).1
    obtain ⟨u, v, rfl, hu, hv⟩ := map_append_inv hl
    obtain ⟨t, v, rfl, h1, _, hv⟩ := map_cons_inv hv
    have hb := end_back h u (t :: (v ++ r)) hu ⟨by omega, by omega⟩ n
    have hc := end_back k v r hv hr.1 (n + 1 + 1)
    rw [nsz_two, hz, hz2, List.append_assoc, List.cons_append]
    rw [pSpan]
    by_cases h64 : n = 64
    · obtain ⟨a, ha⟩ := hb.2 h64
      rw [ha]
      exact ⟨fun h => by omega, fun _ => ⟨a, rfl⟩⟩
    · rw [hb.1 h64]
      simp only []
      rw [if_neg (by simpa using h1)]
      by_cases h65 : n + 1 = 64
      · rw [if_pos h65]
        exact ⟨fun h => by omega, fun _ => ⟨t.f1, by rw [pNot, if_neg (by omega)]⟩⟩
      · rw [if_neg h65]
        by_cases h66 : n + 1 + 1 = 64
        · obtain ⟨a, ha⟩ := hc.2 h66
          rw [ha]
          exact ⟨fun h => by omega, fun _ => ⟨a, rfl⟩⟩
        · rw [hc.1 h66]
          refine ⟨fun _ => ?_, fun h => by omega⟩
          simp only []
          congr 3
          omega
theorem both_back (N : Nat) : (∀ {pre : List (Int × ByteArray)} {x : S27}, pre.length ≤ N → IsExpr pre x → ∀ (l r : List S48) (n d : Int) (f : Nat), l.map tk = pre → Stop r → n ≤ 64 → d ≤ 8 → 2 * l.length < f →
      (n + nsz x ≤ 64 ∧ d + ndp x ≤ 8 → pExpr f (l ++ r) n d = some (.ok (x, r, n + nsz x))) ∧ (¬ (n + nsz x ≤ 64 ∧ d + ndp x ≤ 8) → ∃ a e, pExpr f (l ++ r) n d = some (.error (a, e)) ∧ (e = 5 ∨ e = 6))) ∧
    (∀ {pre : List (Int × ByteArray)} {xs : List S27}, pre.length ≤ N → IsItems pre xs → ∀ (l r : List S48) (n d : Int) (acc : List S27) (f : Nat), l.map tk = pre → n ≤ 64 → d ≤ 8 → 2 * l.length + 1 < f →
      (n + nszs xs ≤ 64 ∧ d + ndps xs ≤ 8 → pItems f (l ++ r) n d acc = some (.ok (⟨2, zPt, false, false, acc ++ xs⟩, r, n + nszs xs))) ∧ (¬ (n + nszs xs ≤ 64 ∧ d + ndps xs ≤ 8) → ∃ a e, pItems f (l ++ r) n d acc = some (.error (a, e)) ∧ (e = 5 ∨ e = 6))) := by
  induction N using Nat.strongRecOn with
  | _ N ih =>
  refine ⟨fun {pre x} hN h l r n d f hl hr hn hd hf => ?_, fun {pre xs} hN h l r n d acc f hl hn hd hf => ?_⟩
  · obtain ⟨f, rfl⟩ : ∃ g, f = g + 1 := ⟨f - 1, by omega⟩
    cases h with
    | span h =>
      have hz := nsz_span h
      have hb := span_back h l r hl hr n hn
      have hne : ∃ t u, l = t :: u ∧ t.f0 ≠ 4 := by
        cases h with
        | one h h0 =>
          cases h with
          | point h hm => obtain ⟨t, u, rfl, h0, _, _⟩ := map_cons_inv hl; exact ⟨t, u, rfl, by omega⟩
          | dots s => obtain ⟨t, u, rfl, h0, _, _⟩ := map_cons_inv hl; exact ⟨t, u, rfl, by omega⟩
          | star s => obtain ⟨t, u, rfl, h0, _, _⟩ := map_cons_inv hl; exact ⟨t, u, rfl, by omega⟩
        | two s h k =>
          cases h with
          | point h hm => obtain ⟨t, u, rfl, h0, _, _⟩ := map_cons_inv hl; exact ⟨t, u, rfl, by omega⟩
          | dots s => obtain ⟨t, u, rfl, h0, _, _⟩ := map_cons_inv hl; exact ⟨t, u, rfl, by omega⟩
          | star s => obtain ⟨t, u, rfl, h0, _, _⟩ := map_cons_inv hl; exact ⟨t, u, rfl, by omega⟩
      obtain ⟨t, u, rfl, h4⟩ := hne
      rw [List.cons_append, pExpr, if_neg h4, ← List.cons_append]
      refine ⟨fun h2 => by rw [hb.1 h2.1], fun h2 => ?_⟩
      obtain ⟨a, ha⟩ := hb.2 (by omega)
      exact ⟨a, 6, by rw [ha], .inr rfl⟩
    | @list m xs s h =>
      obtain ⟨t, u, rfl, h4, _, hu⟩ := map_cons_inv hl
      simp only [List.length_cons] at hf hN
      rw [List.cons_append, pExpr, if_pos h4, nsz_list, ndp_list]
      by_cases h8 : d = 8
      · rw [if_pos h8]
        exact ⟨fun h => by omega, fun _ => ⟨t.f1, 5, by rw [pNot, if_neg (by omega)], .inl rfl⟩⟩
      · rw [if_neg h8]
        by_cases h64 : n = 64
        · rw [if_pos h64]
          exact ⟨fun h => by omega, fun _ => ⟨t.f1, 6, by rw [pNot, if_neg (by omega)], .inr rfl⟩⟩
        · rw [if_neg h64]
          have hb := (ih m.length (by omega)).2 (Nat.le_refl _) h u r (n + 1) (d + 1) [] f hu (by omega) (by omega) (by omega)
          refine ⟨fun h2 => ?_, fun h2 => hb.2 (by omega)⟩
          rw [hb.1 (by omega), List.nil_append]
          congr 4
          omega
  · obtain ⟨f, rfl⟩ : ∃ g, f = g + 1 := ⟨f - 1, by omega⟩
    cases h with
    | @last m x s h =>
      obtain ⟨u, v, rfl, hu, hv⟩ := map_append_inv hl
      obtain ⟨t, v, rfl, h5, _, hv⟩ := map_cons_inv hv
      obtain rfl : v = [] := by simpa using hv
      simp only [List.length_append, List.length_cons, List.length_nil] at hf hN
      rw [List.append_assoc, List.cons_append, List.nil_append, pItems]
      have hb := (ih m.length (by omega)).1 (Nat.le_refl _) h u (t :: r) n d f hu (Stop.mk_ (by omega) (by omega) (by omega)) hn hd (by omega)
      rw [nszs, nszs, ndps, ndps]
      by_cases hc : n + nsz x ≤ 64 ∧ d + ndp x ≤ 8
      · rw [hb.1 hc]
        refine ⟨fun _ => ?_, fun h => absurd hc (by omega)⟩
        simp only []
        rw [if_neg (by omega), if_pos h5]; rfl
      · obtain ⟨a, e, he, h2⟩ := hb.2 hc
        rw [he]
        exact ⟨fun h => absurd h (by omega), fun _ => ⟨a, e, rfl, h2⟩⟩
    | @more p q x xs s h k =>
      obtain ⟨u, v, rfl, hu, hv⟩ := map_append_inv hl
      obtain ⟨t, v, rfl, h6, _, hv⟩ := map_cons_inv hv
      simp only [List.length_append, List.length_cons] at hf hN
      rw [List.append_assoc, List.cons_append, pItems]
      have hb := (ih p.length (by omega)).1 (Nat.le_refl _) h u (t :: (v ++ r)) n d f hu (Stop.mk_ (by omega) (by omega) (by omega)) hn hd (by omega)
      rw [nszs, ndps]
      by_cases hc : n + nsz x ≤ 64 ∧ d + ndp x ≤ 8
      · rw [hb.1 hc]
        simp only []
        rw [if_pos h6]
        have hb2 := (ih q.length (by omega)).2 (Nat.le_refl _) k v r (n + nsz x) d (acc ++ [x]) f hv hc.1 hd (by omega)
        refine ⟨fun h2 => ?_, fun h2 => hb2.2 (by omega)⟩
        rw [hb2.1 (by omega), List.append_assoc]
        congr 4
        omega
      · obtain ⟨a, e, he, h2⟩ := hb.2 hc
        rw [he]
        exact ⟨fun h => absurd h (by omega), fun _ => ⟨a, e, rfl, h2⟩⟩
theorem expr_back {pre : List (Int × ByteArray)} {x : S27} (h : IsExpr pre x) (l r : List S48) (n d : Int) (f : Nat) (hl : l.map tk = pre) (hr : Stop r) (hn : n ≤ 64) (hd : d ≤ 8) (hf : 2 * l.length < f) :
      (n + nsz x ≤ 64 ∧ d + ndp x ≤ 8 → pExpr f (l ++ r) n d = some (.ok (x, r, n + nsz x))) ∧ (¬ (n + nsz x ≤ 64 ∧ d + ndp x ≤ 8) → ∃ a e, pExpr f (l ++ r) n d = some (.error (a, e)) ∧ (e = 5 ∨ e = 6)) :=
  (both_back pre.length).1 (Nat.le_refl _) h l r n d f hl hr hn hd hf
theorem pRead_sane {s : ByteArray} {p : S24} (h : pRead s = some p) : pSane p.f0 p.f1 p.f2 p.f3 = true := by
  rw [pRead] at h
  split at h
  · rename_i hs
    rw [← Option.some.inj h]; exact hs
  · simp at h
theorem end_right {l : List (Int × ByteArray)} {x : S27} (h : IsEnd l x) : nEnd x = true := by
  cases h with
  | point h hm =>
    have h2 := pRead_sane h
    simp [nEnd, h2]
  | dots s => simp [nEnd, nBare, zPt]
  | star s => simp [nEnd, nBare, zPt]
theorem span_right {l : List (Int × ByteArray)} {x : S27} (h : IsSpan l x) : nRight x = true := by
  cases h with
  | one h h0 => rw [nRight_mk, if_pos h0]; exact end_right h
  | two s h k =>
    have h1 := end_right h
    have h2 := end_right k
    rw [nRight_mk]
    simp [h1, h2, nBare, zPt]
theorem both_right (N : Nat) : (∀ {pre : List (Int × ByteArray)} {x : S27}, pre.length ≤ N → IsExpr pre x → nRight x = true) ∧ (∀ {pre : List (Int × ByteArray)} {xs : List S27}, pre.length ≤ N → IsItems pre xs → xs ≠ [] ∧ xs.all nRight = true) := by
  induction N using Nat.strongRecOn with
  | _ N ih =>
  refine ⟨fun {pre x} hN h => ?_, fun {pre xs} hN h => ?_⟩
  · cases h with
    | span h => exact span_right h
    | @list m xs s h =>
      simp only [List.length_cons] at hN
      have h2 := (ih m.length (by omega)).2 (Nat.le_refl _) h
      rw [nRight_mk]
      have h3 : 0 < xs.length := List.length_pos_iff.mpr h2.1
      simp [h2.1, h3, nBare, zPt]
      simpa using h2.2
  · cases h with
    | @last m x s h =>
      simp only [List.length_append, List.length_cons, List.length_nil] at hN
      have h1 := (ih m.length (by omega)).1 (Nat.le_refl _) h
      exact ⟨by simp, by simp [h1]⟩
    | @more p q x xs s h k =>
      simp only [List.length_append, List.length_cons] at hN
      have h1 := (ih p.length (by omega)).1 (Nat.le_refl _) h
      have h2 := (ih q.length (by omega)).2 (Nat.le_refl _) k
      exact ⟨by simp, by simp [h1]; simpa using h2.2⟩
theorem expr_right {pre : List (Int × ByteArray)} {x : S27} (h : IsExpr pre x) : nRight x = true := (both_right pre.length).1 (Nat.le_refl _) h
end Go.Proofs.Ytchodmjleceooaa.V
