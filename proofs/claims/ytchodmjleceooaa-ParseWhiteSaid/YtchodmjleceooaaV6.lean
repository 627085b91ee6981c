import Derived.Test.YtchodmjleceooaaV0
import Derived.Test.YtchodmjleceooaaV1
import Derived.Test.YtchodmjleceooaaV2
import Derived.Test.YtchodmjleceooaaV5
namespace Go.Proofs.Ytchodmjleceooaa.V
open Go.RowKit Go.Proofs.YtchodmjleceooaaW.PrintWords Go.Proofs.YtchodmjleceooaaW.PrintLast Go.Proofs.YtchodmjleceooaaW.PrintMore
attribute [local go_sem] max2_int min2_int max_two min_two max_three min_three max_four min_four
set_option linter.unusedVariables false
set_option linter.unusedSimpArgs false
attribute [local go_sem] tokKind tokAt tokText
abbrev PR := Except (Int × Int) (S27 × List S48 × Int)
def nVal (x : S27) (B : Option Addr) (m : Nat) : Value := .agg (nCells x.f0 x.f1.f0 x.f1.f1 x.f1.f2 x.f1.f3 x.f2 x.f3 B x.f4.length m)
def POut (g : Nat) (d : Int) (w : World) (R : PR) (e1 : Ending) (w' : World) : Prop :=
  ∃ (x : S27) (B : Option Addr) (m : Nat), Kd.F k27 w' (fun k => w.heap.size ≤ k) B x.f4.length x.f4 ∧ x.f4.length ≤ m ∧ Pow g w w' ∧
    match R with
    | .ok (y, l, n) => x = y ∧ e1 = .returned (.tuple #[nVal x B m, .pointer none]) ∧ ∃ A c, PAt w' g l n d A c
    | .error (a, e) => ∃ q, e1 = .returned (.tuple #[nVal x B m, .pointer (some ⟨q, 0, none⟩)]) ∧ WAt w' q a e ∧ w.heap.size ≤ q
def zNode : S27 := ⟨0, ⟨0, ⟨#[]⟩, ⟨#[]⟩, ⟨#[]⟩⟩, false, false, []⟩
def pWord (n : Int) : List S48 → PR
  | [] => .error (0, 0)
  | t :: r => match pRead t.f2 with
    | none => .error (pNot t 2)
    | some p => .ok (⟨0, p, (pMarked r false false).1, (pMarked r false false).2.1, []⟩, (pMarked r false false).2.2, n)
theorem of_calls (p0 : Int) (p1 p2 p3 : ByteArray) (a b : Bool) (w : World) :
    Calls Try.prog 59 #[.agg #[.int .i64 p0, .string p1, .string p2, .string p3], .bool a, .bool b] w fun e w' => e = .returned (.agg (nCells 0 p0 p1 p2 p3 a b none 0 0)) ∧ Below w.heap.size w w' := by
  go_enter Try.func59, Try.ntmps59
  go_wp2
  refine bodyPost_ret (results_single rfl (.cell (w.heap.size + 1) 27 _ (0, 0) _ rfl (blk_new1 w _ _) Try.underlying27 rfl (by kernel_rfl) .nil)) rfl ?_
  exact ⟨rfl, below_alloc (below_alloc (Below.refl _ _) _) _⟩
set_option maxRecDepth 100000 in
set_option maxHeartbeats 4000000 in
theorem word_calls {w : World} {g : Nat} {t : S48} {r : List S48} {n d : Int} {A : Option Addr} {c : Nat} (h : PAt w g (t :: r) n d A c) (hk : t.f0 ≠ 9) :
    Calls Try.prog 49 #[.pointer (some ⟨g, 0, none⟩)] w (POut g d w (pWord n (t :: r))) := by
  have hlt := h.lt
  have HK := Aside0.mk hk
  have HH := Aside0.mk h
  have HSZ := Aside0.mk h.ok.size
  clear h hk
  cases hr : pRead t.f2 with
  | none =>
    have HRD : Aside0 (point_Read.f 1 t.f2 = some (0, ⟨#[]⟩, ⟨#[]⟩, ⟨#[]⟩, false)) := ⟨by rw [read_total _ (by have := HSZ.out; omega), hr]⟩
    have HR : Aside0 (pWord n (t :: r) = .error (pNot t 2)) := ⟨by rw [pWord, hr]⟩
    clear hr
    go_enter Try.func49, Try.ntmps49
    go_wp2_with fail
    refine (next_calls (HH.out.below (below_alloc (Below.refl _ _) _))).mono ?_
    rintro e1 w1 ⟨rfl, hb⟩
    have HB1 := Aside0.mk (below_step (below_alloc (Below.refl _ _) _) hb)
    have HZ1 := Aside0.mk (blk_below (blk_new w _) hb)
    clear hb
    go_wp2_with fail
    refine (point_Read.calls 1 _ _ _ _ _ _ _ HRD.out).mono ?_
    rintro e1 w2 ⟨rfl, hb⟩
    have HB2 := Aside0.mk (below_step HB1.out hb)
    have HZ2 := Aside0.mk (blk_below HZ1.out hb)
    clear hb
    go_wp2_with fail
    refine (not_calls (HH.out.below (below_alloc HB2.out _)) 2).mono ?_
    rintro e1 w3 ⟨q, rfl, hw, hq, hb⟩
    have HB3 := Aside0.mk (below_step (below_alloc HB2.out _) hb)
    have HZ3 := Aside0.mk (blk_below (blk_alloc HZ2.out _) hb)
    have HW3 := Aside0.mk hw
    have hq3 : w.heap.size ≤ q := by have := HB2.out.size; simp at hq; omega
    have hq4 : w.heap.size < q := by have := blk_lt HZ2.out; simp at hq; omega
    clear hw hb hq
    go_wp2_with (refine gate_ (.store 27 (.tmp 2) (.tmp 15)) rfl ?_; go_loud (refine wpList_storeNode rfl rfl (.tmp 2) (.tmp 15) rfl (k := 0) (p0 := 0) (p1 := ⟨#[]⟩) (p2 := ⟨#[]⟩) (p3 := ⟨#[]⟩) (b := false) (c := false) (B := none) (m := 0) (e := 0) rfl rfl HZ3.out rfl ?_; intro w9 hs1 hs2; have HS1 := Aside0.mk hs1; have HS2 := Aside0.mk hs2; clear hs1 hs2))
    refine bodyPost_ret (results_ct rfl _ _ w.heap.size 27 _ (0, 0) _ rfl HS1.out Try.underlying27 rfl (by kernel_rfl)) rfl ?_
    rw [HR.out]
    exact ⟨zNode, none, 0, Kd.F_nil _ _ _, Nat.le_refl _, (Pow.of_below HB3.out).new HS2.out (Nat.le_refl _), q, rfl, (HS2.out.block _ (blk_lt HW3.out) (Nat.ne_of_gt hq4)).trans HW3.out, hq3⟩
  | some p =>
    have HRD : Aside0 (point_Read.f 1 t.f2 = some (p.f0, p.f1, p.f2, p.f3, true)) := ⟨by rw [read_total _ (by have := HSZ.out; omega), hr]⟩
    have HR : Aside0 (pWord n (t :: r) = .ok (⟨0, p, (pMarked r false false).1, (pMarked r false false).2.1, []⟩, (pMarked r false false).2.2, n)) := ⟨by rw [pWord, hr]⟩
    clear hr
    go_enter Try.func49, Try.ntmps49
    go_wp2_with fail
    refine (next_calls (HH.out.below (below_alloc (Below.refl _ _) _))).mono ?_
    rintro e1 w1 ⟨rfl, hb⟩
    have HB1 := Aside0.mk (below_step (below_alloc (Below.refl _ _) _) hb)
    have HZ1 := Aside0.mk (blk_below (blk_new w _) hb)
    clear hb
    go_wp2_with fail
    refine (point_Read.calls 1 _ _ _ _ _ _ _ HRD.out).mono ?_
    rintro e1 w2 ⟨rfl, hb⟩
    have HB2 := Aside0.mk (below_step HB1.out hb)
    have HZ2 := Aside0.mk (blk_below HZ1.out hb)
    clear hb
    go_wp2_with fail
    refine (take_calls (HH.out.below (below_alloc HB2.out _)) HK.out).mono ?_
    rintro e1 w3 ⟨rfl, A3, c3, hp, hw⟩
    have HP3 := Aside0.mk hp
    have HW3 := Aside0.mk ((Pow.of_below (below_alloc HB2.out _)).trans hw)
    have HZ3 := Aside0.mk ((hw.block _ (blk_lt (blk_alloc HZ2.out _)) (Nat.ne_of_gt hlt)).trans (blk_alloc HZ2.out _))
    have hz4 := (hw.block w2.heap.size (by simp) (Nat.ne_of_gt (Nat.lt_of_lt_of_le hlt HB2.out.size))).trans (blk_new w2 _)
    have x0 := (blk_cell hz4 0).trans rfl
    have x1 := (blk_cell hz4 1).trans rfl
    have x2 := (blk_cell hz4 2).trans rfl
    have x3 := (blk_cell hz4 3).trans rfl
    clear hp hw hz4
    go_wp2_with fail
    refine (of_calls _ _ _ _ _ _ _).mono ?_
    rintro e1 w4 ⟨rfl, hb⟩
    have HP4 := Aside0.mk (HP3.out.below hb)
    have HW4 := Aside0.mk (HW3.out.below hb)
    have HZ4 := Aside0.mk (blk_below HZ3.out hb)
    clear hb x0 x1 x2 x3
    simp only [nCells]
    go_wp2_with fail
    refine (marked_calls HP4.out _ _ _ _ _ _ _ _ _ _).mono ?_
    rintro e1 w5 ⟨rfl, hp, hw⟩
    have HP5 := Aside0.mk hp
    have HW5 := Aside0.mk (HW4.out.trans hw)
    have HZ5 := Aside0.mk ((hw.block _ (blk_lt HZ4.out) (Nat.ne_of_gt hlt)).trans HZ4.out)
    clear hp hw
    simp only [nCells]
    go_wp2_with (refine gate_ (.store 27 (.tmp 2) (.tmp 23)) rfl ?_; go_loud (refine wpList_storeNode rfl rfl (.tmp 2) (.tmp 23) rfl (k := 0) (p0 := p.f0) (p1 := p.f1) (p2 := p.f2) (p3 := p.f3) (b := (pMarked r false false).1) (c := (pMarked r false false).2.1) (B := none) (m := 0) (e := 0) rfl rfl HZ5.out rfl ?_; intro w9 hs1 hs2; have HS1 := Aside0.mk hs1; have HS2 := Aside0.mk hs2; clear hs1 hs2))
    refine bodyPost_ret (results_ct rfl _ _ w.heap.size 27 _ (0, 0) _ rfl HS1.out Try.underlying27 rfl (by kernel_rfl)) rfl ?_
    rw [HR.out]
    obtain ⟨A5, c5, hp5⟩ := HP5.out
    exact ⟨_, none, 0, Kd.F_nil _ _ _, Nat.le_refl _, HW5.out.new HS2.out (Nat.le_refl _), rfl, rfl, A5, c5, hp5.new HS2.out hlt⟩
set_option maxRecDepth 100000 in
set_option maxHeartbeats 4000000 in
theorem dots_calls {w : World} {g : Nat} {t : S48} {r : List S48} {n d : Int} {A : Option Addr} {c : Nat} (h : PAt w g (t :: r) n d A c) (hk : t.f0 ≠ 9) :
    Calls Try.prog 50 #[.pointer (some ⟨g, 0, none⟩)] w (POut g d w (.ok (⟨3, ⟨0, ⟨#[]⟩, ⟨#[]⟩, ⟨#[]⟩⟩, false, false, []⟩, r, n))) := by
  have hlt := h.lt
  have HK := Aside0.mk hk
  have HH := Aside0.mk h
  clear h hk
  go_enter Try.func50, Try.ntmps50
  go_wp2_with fail
  refine (take_calls (HH.out.below (below_alloc (Below.refl _ _) _)) HK.out).mono ?_
  rintro e1 w3 ⟨rfl, A3, c3, hp, hw⟩
  have HP3 := Aside0.mk hp
  have HW3 := Aside0.mk ((Pow.of_below (below_alloc (Below.refl _ _) _)).trans hw)
  have HZ3 := Aside0.mk ((hw.block _ (blk_lt (blk_new w _)) (Nat.ne_of_gt hlt)).trans (blk_new w _))
  clear hp hw
  go_wp2_with (refine gate_ (.store 27 (.tmp 2) (.tmp 6)) rfl ?_; go_loud (refine wpList_storeNode rfl rfl (.tmp 2) (.tmp 6) rfl (k := 3) (p0 := 0) (p1 := ⟨#[]⟩) (p2 := ⟨#[]⟩) (p3 := ⟨#[]⟩) (b := false) (c := false) (B := none) (m := 0) (e := 0) rfl rfl HZ3.out rfl ?_; intro w9 hs1 hs2; have HS1 := Aside0.mk hs1; have HS2 := Aside0.mk hs2; clear hs1 hs2))
  refine bodyPost_ret (results_ct rfl _ _ w.heap.size 27 _ (0, 0) _ rfl HS1.out Try.underlying27 rfl (by kernel_rfl)) rfl ?_
  exact ⟨_, none, 0, Kd.F_nil _ _ _, Nat.le_refl _, HW3.out.new HS2.out (Nat.le_refl _), rfl, rfl, A3, c3, HP3.out.new HS2.out hlt⟩
set_option maxRecDepth 100000 in
set_option maxHeartbeats 4000000 in
theorem star_calls {w : World} {g : Nat} {t : S48} {r : List S48} {n d : Int} {A : Option Addr} {c : Nat} (h : PAt w g (t :: r) n d A c) (hk : t.f0 ≠ 9) :
    Calls Try.prog 51 #[.pointer (some ⟨g, 0, none⟩)] w (POut g d w (.ok (⟨4, ⟨0, ⟨#[]⟩, ⟨#[]⟩, ⟨#[]⟩⟩, false, false, []⟩, r, n))) := by
  have hlt := h.lt
  have HK := Aside0.mk hk
  have HH := Aside0.mk h
  clear h hk
  go_enter Try.func51, Try.ntmps51
  go_wp2_with fail
  refine (take_calls (HH.out.below (below_alloc (Below.refl _ _) _)) HK.out).mono ?_
  rintro e1 w3 ⟨rfl, A3, c3, hp, hw⟩
  have HP3 := Aside0.mk hp
  have HW3 := Aside0.mk ((Pow.of_below (below_alloc (Below.refl _ _) _)).trans hw)
  have HZ3 := Aside0.mk ((hw.block _ (blk_lt (blk_new w _)) (Nat.ne_of_gt hlt)).trans (blk_new w _))
  clear hp hw
  go_wp2_with (refine gate_ (.store 27 (.tmp 2) (.tmp 6)) rfl ?_; go_loud (refine wpList_storeNode rfl rfl (.tmp 2) (.tmp 6) rfl (k := 4) (p0 := 0) (p1 := ⟨#[]⟩) (p2 := ⟨#[]⟩) (p3 := ⟨#[]⟩) (b := false) (c := false) (B := none) (m := 0) (e := 0) rfl rfl HZ3.out rfl ?_; intro w9 hs1 hs2; have HS1 := Aside0.mk hs1; have HS2 := Aside0.mk hs2; clear hs1 hs2))
  refine bodyPost_ret (results_ct rfl _ _ w.heap.size 27 _ (0, 0) _ rfl HS1.out Try.underlying27 rfl (by kernel_rfl)) rfl ?_
  exact ⟨_, none, 0, Kd.F_nil _ _ _, Nat.le_refl _, HW3.out.new HS2.out (Nat.le_refl _), rfl, rfl, A3, c3, HP3.out.new HS2.out hlt⟩
attribute [local go_sem] tokKind tokAt tokText
theorem POut.form {g : Nat} {d : Int} {w w' : World} {R : PR} {e1 : Ending} (h : POut g d w R e1 w') : ∃ (x : S27) (B : Option Addr) (m : Nat) (v : Value), e1 = .returned (.tuple #[.agg #[.int .i64 x.f0, .int .i64 x.f1.f0, .string x.f1.f1, .string x.f1.f2, .string x.f1.f3, .bool x.f2, .bool x.f3, .slice B x.f4.length m], v]) := by
  obtain ⟨x, B, m, _, _, _, hr⟩ := h
  match R, hr with
  | .ok (y, l, n), ⟨_, h2, _⟩ => exact ⟨x, B, m, _, h2⟩
  | .error (a, e), ⟨q, h2, _⟩ => exact ⟨x, B, m, _, h2⟩
theorem POut.up {g q : Nat} {d : Int} {w w2 w3 w9 : World} {R : PR} {e1 : Ending} (h : POut g d w2 R e1 w3) (hP : Pow g w w2) (hg : g < q) (hq1 : q < w2.heap.size) (hs : Pow q w3 w9) (hq0 : w.heap.size ≤ q) : POut g d w R e1 w9 := by
  obtain ⟨x, B, m, hF, hm, hp, hr⟩ := h
  refine ⟨x, B, m, Kd.F_mono (Kd.F_step hF (fun k hk hlt => hs.block k hlt (by omega))) (fun k hk => Nat.le_trans hP.size hk), hm, (hP.trans hp).new hs hq0, ?_⟩
  match R, hr with
  | .ok (y, l, n), ⟨h1, h2, A, c, h3⟩ => exact ⟨h1, h2, A, c, h3.new hs hg⟩
  | .error (a, e), ⟨z, h2, h3, h4⟩ => exact ⟨z, h2, (hs.block z (blk_lt h3) (by omega)).trans h3, Nat.le_trans hP.size h4⟩
def pEnd (n : Int) : List S48 → PR
  | [] => .error (0, 0)
  | t :: r => if t.f0 = 0 ∨ t.f0 = 2 ∨ t.f0 = 3 then (if n = 64 then .error (pNot t 6) else if t.f0 = 0 then pWord (n + 1) (t :: r) else .ok (⟨if t.f0 = 2 then 3 else 4, ⟨0, ⟨#[]⟩, ⟨#[]⟩, ⟨#[]⟩⟩, false, false, []⟩, r, n + 1)) else .error (pNot t 3)
set_option maxRecDepth 100000 in
set_option maxHeartbeats 8000000 in
theorem end_calls {w : World} {g : Nat} {l : List S48} {n d : Int} {A : Option Addr} {c : Nat} (h : PAt w g l n d A c) :
    Calls Try.prog 39 #[.pointer (some ⟨g, 0, none⟩)] w (POut g d w (pEnd n l)) := by
  obtain ⟨t, r, rfl⟩ := h.cons
  have hlt := h.lt
  have HH := Aside0.mk h
  clear h
  by_cases h0 : t.f0 = 0
  · have k0 : (t.f0 == 0) = true := by rw [h0]; rfl
    have HK := Aside0.mk h0
    clear h0
    have HR : Aside0 (pEnd n (t :: r) = if n = 64 then .error (pNot t 6) else pWord (n + 1) (t :: r)) := ⟨by rw [pEnd, if_pos (.inl HK.out), if_pos HK.out]⟩
    go_enter Try.func39, Try.ntmps39
    go_wp2_with fail
    refine (next_calls (HH.out.below (below_alloc (Below.refl _ _) _))).mono ?_
    rintro e1 w1 ⟨rfl, hb⟩
    have HB1 := Aside0.mk (below_step (below_alloc (Below.refl _ _) _) hb)
    have HZ1 := Aside0.mk (blk_below (blk_new w _) hb)
    clear hb
    go_wp2_with fail
    refine (begin_calls (HH.out.below HB1.out)).mono ?_
    rintro e1 w2 (⟨hn, q, rfl, hw, hq, hb⟩ | ⟨hn, rfl, hp, hw⟩)
    · have HB2 := Aside0.mk (below_step HB1.out hb)
      have HZ2 := Aside0.mk (blk_below HZ1.out hb)
      have HW2 := Aside0.mk hw
      have HN := Aside0.mk hn
      clear hb hw hn
      have HQ := Aside0.mk (show w.heap.size < q from by have := blk_lt HZ1.out; omega)
      clear hq
      go_wp2_with (refine gate_ (.store 27 (.tmp 2) (.tmp 28)) rfl ?_; go_loud (refine wpList_storeNode rfl rfl (.tmp 2) (.tmp 28) rfl (k := 0) (p0 := 0) (p1 := ⟨#[]⟩) (p2 := ⟨#[]⟩) (p3 := ⟨#[]⟩) (b := false) (c := false) (B := none) (m := 0) (e := 0) rfl rfl HZ2.out rfl ?_; intro w9 hs1 hs2; have HS1 := Aside0.mk hs1; have HS2 := Aside0.mk hs2; clear hs1 hs2))
      refine bodyPost_ret (results_ct rfl _ _ w.heap.size 27 _ (0, 0) _ rfl HS1.out Try.underlying27 rfl (by kernel_rfl)) rfl ?_
      rw [HR.out, if_pos HN.out]
      exact ⟨zNode, none, 0, Kd.F_nil _ _ _, Nat.le_refl _, (Pow.of_below HB2.out).new HS2.out (Nat.le_refl _), q, rfl, (HS2.out.block _ (blk_lt HW2.out) (Nat.ne_of_gt HQ.out)).trans HW2.out, Nat.le_of_lt HQ.out⟩
    · have HW2 := Aside0.mk ((Pow.of_below HB1.out).trans hw)
      have HZ2 := Aside0.mk ((hw.block _ (blk_lt HZ1.out) (Nat.ne_of_gt hlt)).trans HZ1.out)
      have HP2 := Aside0.mk hp
      have HN := Aside0.mk hn
      clear hp hw hn
      go_wp2_with fail
      refine (word_calls HP2.out (fun h => by rw [HK.out] at h; simp at h)).mono ?_
      rintro e1 w3 ho
      obtain ⟨x, B, m, v, rfl⟩ := ho.form
      have HO := Aside0.mk ho
      have HZ3 := Aside0.mk (((ho.choose_spec.choose_spec.choose_spec.2.2.1).block _ (blk_lt HZ2.out) (Nat.ne_of_gt hlt)).trans HZ2.out)
      clear ho
      go_wp2_with (refine gate_ (.store 27 (.tmp 2) (.tmp 32)) rfl ?_; go_loud (refine wpList_storeNode rfl rfl (.tmp 2) (.tmp 32) rfl (k := x.f0) (p0 := x.f1.f0) (p1 := x.f1.f1) (p2 := x.f1.f2) (p3 := x.f1.f3) (b := x.f2) (c := x.f3) (B := B) (m := x.f4.length) (e := m) rfl rfl HZ3.out rfl ?_; intro w9 hs1 hs2; have HS1 := Aside0.mk hs1; have HS2 := Aside0.mk hs2; clear hs1 hs2))
      refine bodyPost_ret (results_ct rfl _ _ w.heap.size 27 _ (0, 0) _ rfl HS1.out Try.underlying27 rfl (by kernel_rfl)) rfl ?_
      rw [HR.out, if_neg HN.out]
      exact HO.out.up HW2.out hlt (blk_lt HZ2.out) HS2.out (Nat.le_refl _)
  have k0 : (t.f0 == 0) = false := by rw [beq_eq_false_iff_ne]; exact h0
  by_cases h2 : t.f0 = 2
  · have k2 : (t.f0 == 2) = true := by rw [h2]; rfl
    have HK := Aside0.mk h2
    have HK0 := Aside0.mk h0
    clear h0 h2
    have HR : Aside0 (pEnd n (t :: r) = if n = 64 then .error (pNot t 6) else .ok (⟨3, ⟨0, ⟨#[]⟩, ⟨#[]⟩, ⟨#[]⟩⟩, false, false, []⟩, r, n + 1)) := ⟨by rw [pEnd, if_pos (.inr (.inl HK.out)), if_neg HK0.out, if_pos HK.out]⟩
    go_enter Try.func39, Try.ntmps39
    go_wp2_with fail
    refine (next_calls (HH.out.below (below_alloc (Below.refl _ _) _))).mono ?_
    rintro e1 w1 ⟨rfl, hb⟩
    have HB1 := Aside0.mk (below_step (below_alloc (Below.refl _ _) _) hb)
    have HZ1 := Aside0.mk (blk_below (blk_new w _) hb)
    clear hb
    go_wp2_with fail
    refine (begin_calls (HH.out.below HB1.out)).mono ?_
    rintro e1 w2 (⟨hn, q, rfl, hw, hq, hb⟩ | ⟨hn, rfl, hp, hw⟩)
    · have HB2 := Aside0.mk (below_step HB1.out hb)
      have HZ2 := Aside0.mk (blk_below HZ1.out hb)
      have HW2 := Aside0.mk hw
      have HN := Aside0.mk hn
      clear hb hw hn
      have HQ := Aside0.mk (show w.heap.size < q from by have := blk_lt HZ1.out; omega)
      clear hq
      go_wp2_with (refine gate_ (.store 27 (.tmp 2) (.tmp 28)) rfl ?_; go_loud (refine wpList_storeNode rfl rfl (.tmp 2) (.tmp 28) rfl (k := 0) (p0 := 0) (p1 := ⟨#[]⟩) (p2 := ⟨#[]⟩) (p3 := ⟨#[]⟩) (b := false) (c := false) (B := none) (m := 0) (e := 0) rfl rfl HZ2.out rfl ?_; intro w9 hs1 hs2; have HS1 := Aside0.mk hs1; have HS2 := Aside0.mk hs2; clear hs1 hs2))
      refine bodyPost_ret (results_ct rfl _ _ w.heap.size 27 _ (0, 0) _ rfl HS1.out Try.underlying27 rfl (by kernel_rfl)) rfl ?_
      rw [HR.out, if_pos HN.out]
      exact ⟨zNode, none, 0, Kd.F_nil _ _ _, Nat.le_refl _, (Pow.of_below HB2.out).new HS2.out (Nat.le_refl _), q, rfl, (HS2.out.block _ (blk_lt HW2.out) (Nat.ne_of_gt HQ.out)).trans HW2.out, Nat.le_of_lt HQ.out⟩
    · have HW2 := Aside0.mk ((Pow.of_below HB1.out).trans hw)
      have HZ2 := Aside0.mk ((hw.block _ (blk_lt HZ1.out) (Nat.ne_of_gt hlt)).trans HZ1.out)
      have HP2 := Aside0.mk hp
      have HN := Aside0.mk hn
      clear hp hw hn
      go_wp2_with fail
      refine (dots_calls HP2.out (fun h => by rw [HK.out] at h; simp at h)).mono ?_
      rintro e1 w3 ho
      obtain ⟨x, B, m, v, rfl⟩ := ho.form
      have HO := Aside0.mk ho
      have HZ3 := Aside0.mk (((ho.choose_spec.choose_spec.choose_spec.2.2.1).block _ (blk_lt HZ2.out) (Nat.ne_of_gt hlt)).trans HZ2.out)
      clear ho
      go_wp2_with (refine gate_ (.store 27 (.tmp 2) (.tmp 32)) rfl ?_; go_loud (refine wpList_storeNode rfl rfl (.tmp 2) (.tmp 32) rfl (k := x.f0) (p0 := x.f1.f0) (p1 := x.f1.f1) (p2 := x.f1.f2) (p3 := x.f1.f3) (b := x.f2) (c := x.f3) (B := B) (m := x.f4.length) (e := m) rfl rfl HZ3.out rfl ?_; intro w9 hs1 hs2; have HS1 := Aside0.mk hs1; have HS2 := Aside0.mk hs2; clear hs1 hs2))
      refine bodyPost_ret (results_ct rfl _ _ w.heap.size 27 _ (0, 0) _ rfl HS1.out Try.underlying27 rfl (by kernel_rfl)) rfl ?_
      rw [HR.out, if_neg HN.out]
      exact HO.out.up HW2.out hlt (blk_lt HZ2.out) HS2.out (Nat.le_refl _)
  have k2 : (t.f0 == 2) = false := by rw [beq_eq_false_iff_ne]; exact h2
  by_cases h3 : t.f0 = 3
  · have k3 : (t.f0 == 3) = true := by rw [h3]; rfl
    have HK := Aside0.mk h3
    have HK0 := Aside0.mk h0
    have HK2 := Aside0.mk h2
    clear h0 h2 h3
    have HR : Aside0 (pEnd n (t :: r) = if n = 64 then .error (pNot t 6) else .ok (⟨4, ⟨0, ⟨#[]⟩, ⟨#[]⟩, ⟨#[]⟩⟩, false, false, []⟩, r, n + 1)) := ⟨by rw [pEnd, if_pos (.inr (.inr HK.out)), if_neg HK0.out, if_neg HK2.out]⟩
    go_enter Try.func39, Try.ntmps39
    go_wp2_with fail
    refine (next_calls (HH.out.below (below_alloc (Below.refl _ _) _))).mono ?_
    rintro e1 w1 ⟨rfl, hb⟩
    have HB1 := Aside0.mk (below_step (below_alloc (Below.refl _ _) _) hb)
    have HZ1 := Aside0.mk (blk_below (blk_new w _) hb)
    clear hb
    go_wp2_with fail
    refine (begin_calls (HH.out.below HB1.out)).mono ?_
    rintro e1 w2 (⟨hn, q, rfl, hw, hq, hb⟩ | ⟨hn, rfl, hp, hw⟩)
    · have HB2 := Aside0.mk (below_step HB1.out hb)
      have HZ2 := Aside0.mk (blk_below HZ1.out hb)
      have HW2 := Aside0.mk hw
      have HN := Aside0.mk hn
      clear hb hw hn
      have HQ := Aside0.mk (show w.heap.size < q from by have := blk_lt HZ1.out; omega)
      clear hq
      go_wp2_with (refine gate_ (.store 27 (.tmp 2) (.tmp 28)) rfl ?_; go_loud (refine wpList_storeNode rfl rfl (.tmp 2) (.tmp 28) rfl (k := 0) (p0 := 0) (p1 := ⟨#[]⟩) (p2 := ⟨#[]⟩) (p3 := ⟨#[]⟩) (b := false) (c := false) (B := none) (m := 0) (e := 0) rfl rfl HZ2.out rfl ?_; intro w9 hs1 hs2; have HS1 := Aside0.mk hs1; have HS2 := Aside0.mk hs2; clear hs1 hs2))
      refine bodyPost_ret (results_ct rfl _ _ w.heap.size 27 _ (0, 0) _ rfl HS1.out Try.underlying27 rfl (by kernel_rfl)) rfl ?_
      rw [HR.out, if_pos HN.out]
      exact ⟨zNode, none, 0, Kd.F_nil _ _ _, Nat.le_refl _, (Pow.of_below HB2.out).new HS2.out (Nat.le_refl _), q, rfl, (HS2.out.block _ (blk_lt HW2.out) (Nat.ne_of_gt HQ.out)).trans HW2.out, Nat.le_of_lt HQ.out⟩
    · have HW2 := Aside0.mk ((Pow.of_below HB1.out).trans hw)
      have HZ2 := Aside0.mk ((hw.block _ (blk_lt HZ1.out) (Nat.ne_of_gt hlt)).trans HZ1.out)
      have HP2 := Aside0.mk hp
      have HN := Aside0.mk hn
      clear hp hw hn
      go_wp2_with fail
      refine (star_calls HP2.out (fun h => by rw [HK.out] at h; simp at h)).mono ?_
      rintro e1 w3 ho
      obtain ⟨x, B, m, v, rfl⟩ := ho.form
      have HO := Aside0.mk ho
      have HZ3 := Aside0.mk (((ho.choose_spec.choose_spec.choose_spec.2.2.1).block _ (blk_lt HZ2.out) (Nat.ne_of_gt hlt)).trans HZ2.out)
      clear ho
      go_wp2_with (refine gate_ (.store 27 (.tmp 2) (.tmp 32)) rfl ?_; go_loud (refine wpList_storeNode rfl rfl (.tmp 2) (.tmp 32) rfl (k := x.f0) (p0 := x.f1.f0) (p1 := x.f1.f1) (p2 := x.f1.f2) (p3 := x.f1.f3) (b := x.f2) (c := x.f3) (B := B) (m := x.f4.length) (e := m) rfl rfl HZ3.out rfl ?_; intro w9 hs1 hs2; have HS1 := Aside0.mk hs1; have HS2 := Aside0.mk hs2; clear hs1 hs2))
      refine bodyPost_ret (results_ct rfl _ _ w.heap.size 27 _ (0, 0) _ rfl HS1.out Try.underlying27 rfl (by kernel_rfl)) rfl ?_
      rw [HR.out, if_neg HN.out]
      exact HO.out.up HW2.out hlt (blk_lt HZ2.out) HS2.out (Nat.le_refl _)
  have k3 : (t.f0 == 3) = false := by rw [beq_eq_false_iff_ne]; exact h3
  have HR : Aside0 (pEnd n (t :: r) = .error (pNot t 3)) := ⟨by rw [pEnd, if_neg (by omega)]⟩
  clear h0 h2 h3
  go_enter Try.func39, Try.ntmps39
  go_wp2_with fail
  refine (next_calls (HH.out.below (below_alloc (Below.refl _ _) _))).mono ?_
  rintro e1 w1 ⟨rfl, hb⟩
  have HB1 := Aside0.mk (below_step (below_alloc (Below.refl _ _) _) hb)
  have HZ1 := Aside0.mk (blk_below (blk_new w _) hb)
  clear hb
  go_wp2_with fail
  refine (not_calls (HH.out.below HB1.out) 3).mono ?_
  rintro e1 w2 ⟨q, rfl, hw, hq, hb⟩
  have HB2 := Aside0.mk (below_step HB1.out hb)
  have HZ2 := Aside0.mk (blk_below HZ1.out hb)
  have HW2 := Aside0.mk hw
  clear hb hw
  have HQ := Aside0.mk (show w.heap.size < q from by have := blk_lt HZ1.out; omega)
  clear hq
  go_wp2_with (refine gate_ (.store 27 (.tmp 2) (.tmp 9)) rfl ?_; go_loud (refine wpList_storeNode rfl rfl (.tmp 2) (.tmp 9) rfl (k := 0) (p0 := 0) (p1 := ⟨#[]⟩) (p2 := ⟨#[]⟩) (p3 := ⟨#[]⟩) (b := false) (c := false) (B := none) (m := 0) (e := 0) rfl rfl HZ2.out rfl ?_; intro w9 hs1 hs2; have HS1 := Aside0.mk hs1; have HS2 := Aside0.mk hs2; clear hs1 hs2))
  refine bodyPost_ret (results_ct rfl _ _ w.heap.size 27 _ (0, 0) _ rfl HS1.out Try.underlying27 rfl (by kernel_rfl)) rfl ?_
  rw [HR.out]
  exact ⟨zNode, none, 0, Kd.F_nil _ _ _, Nat.le_refl _, (Pow.of_below HB2.out).new HS2.out (Nat.le_refl _), q, rfl, (HS2.out.block _ (blk_lt HW2.out) (Nat.ne_of_gt HQ.out)).trans HW2.out, Nat.le_of_lt HQ.out⟩
attribute [local go_sem] tokKind tokAt tokText
theorem POut.below {g : Nat} {d : Int} {w w2 w3 : World} {R : PR} {e1 : Ending} (h : POut g d w R e1 w2) (hb : Below w2.heap.size w2 w3) : POut g d w R e1 w3 := by
  obtain ⟨x, B, m, hF, hm, hp, hr⟩ := h
  refine ⟨x, B, m, Kd.F_below hF hb, hm, hp.below hb, ?_⟩
  match R, hr with
  | .ok (y, l, n), ⟨h1, h2, A, c, h3⟩ => exact ⟨h1, h2, A, c, h3.below hb⟩
  | .error (a, e), ⟨z, h2, h3, h4⟩ => exact ⟨z, h2, blk_below h3 hb, h4⟩
theorem POut.err {g : Nat} {d : Int} {w w' : World} {ae : Int × Int} {e1 : Ending} (h : POut g d w (.error ae) e1 w') : ∃ (x : S27) (B : Option Addr) (m q : Nat), e1 = .returned (.tuple #[.agg #[.int .i64 x.f0, .int .i64 x.f1.f0, .string x.f1.f1, .string x.f1.f2, .string x.f1.f3, .bool x.f2, .bool x.f3, .slice B x.f4.length m], .pointer (some ⟨q, 0, none⟩)]) ∧ Kd.F k27 w' (fun k => w.heap.size ≤ k) B x.f4.length x.f4 ∧ x.f4.length ≤ m ∧ Pow g w w' ∧ WAt w' q ae.1 ae.2 ∧ w.heap.size ≤ q := by
  obtain ⟨x, B, m, h1, h2, h3, q, h4, h5, h6⟩ := h
  exact ⟨x, B, m, q, h4, h1, h2, h3, h5, h6⟩
theorem POut.good {g : Nat} {d : Int} {w w' : World} {x : S27} {l : List S48} {n : Int} {e1 : Ending} (h : POut g d w (.ok (x, l, n)) e1 w') : ∃ (B : Option Addr) (m : Nat), e1 = .returned (.tuple #[.agg #[.int .i64 x.f0, .int .i64 x.f1.f0, .string x.f1.f1, .string x.f1.f2, .string x.f1.f3, .bool x.f2, .bool x.f3, .slice B x.f4.length m], .pointer none]) ∧ Kd.F k27 w' (fun k => w.heap.size ≤ k) B x.f4.length x.f4 ∧ x.f4.length ≤ m ∧ Pow g w w' ∧ ∃ A c, PAt w' g l n d A c := by
  obtain ⟨y, B, m, h1, h2, h3, h4, h5, h6⟩ := h
  subst h4
  exact ⟨B, m, h5, h1, h2, h3, h6⟩
set_option maxRecDepth 100000 in
theorem between_calls {w : World} {base : Nat} (x y : S27) {B C : Option Addr} {m e : Nat} (hx : Kd.F k27 w (fun k => base ≤ k) B x.f4.length x.f4) (hm : x.f4.length ≤ m) (hy : Kd.F k27 w (fun k => base ≤ k) C y.f4.length y.f4) (he : y.f4.length ≤ e) (hb : base ≤ w.heap.size) :
    Calls Try.prog 42 #[.agg #[.int .i64 x.f0, .int .i64 x.f1.f0, .string x.f1.f1, .string x.f1.f2, .string x.f1.f3, .bool x.f2, .bool x.f3, .slice B x.f4.length m], .agg #[.int .i64 y.f0, .int .i64 y.f1.f0, .string y.f1.f1, .string y.f1.f2, .string y.f1.f3, .bool y.f2, .bool y.f3, .slice C y.f4.length e]] w fun e1 w' =>
      ∃ D k, e1 = .returned (.agg #[.int .i64 1, .int .i64 0, .string ⟨#[]⟩, .string ⟨#[]⟩, .string ⟨#[]⟩, .bool false, .bool false, .slice D ([x, y] : List S27).length k]) ∧ ([x, y] : List S27).length ≤ k ∧ Kd.F k27 w' (fun k => base ≤ k) D ([x, y] : List S27).length [x, y] ∧ Below w.heap.size w w' := by
  refine (tree_Between.calls _ _ _ _ _ _ _ (fun k => base ≤ k) _ _ x.f4 _ _ _ _ _ _ _ (fun k => base ≤ k) _ _ y.f4 1 0 ⟨#[]⟩ ⟨#[]⟩ ⟨#[]⟩ false false [x, y] w (Kd.V_mk hm hx) (Kd.V_mk he hy) (by cases x; cases y; rfl)).mono ?_
  rintro e1 w' ⟨v, rfl, hN, hbb⟩
  have hV := Kd.N_V (base' := 0) hN
  obtain ⟨D, k, rfl⟩ := Kd.V_slice hV
  have hV2 := Kd.V_at hV
  exact ⟨D, k, rfl, hV2.2.1, Kd.F_mono hV2.2.2 (fun k hk => by rcases hk with (h | h) | h <;> omega), hbb⟩
section
variable {ops : Array Oper} {o : Oper} {a : Act} {Q : Exit → Act → World → Prop} {Kc : Act → World → Prop}
theorem step_storeNode {w : World} (hw : Region.wanted o (yielded ops a.tmps) = true) (hN : o.dst = none) (p x : Operand) (ho : o.op = .store 27 p x) {q : Nat} {z : Array Value} {k p0 : Int} {p1 p2 p3 : ByteArray} {b c : Bool} {B : Option Addr} {m e : Nat}
    (hp : a.eval p = .pointer (some ⟨q, 0, none⟩)) (hx : a.eval x = .agg #[.int .i64 k, .int .i64 p0, .string p1, .string p2, .string p3, .bool b, .bool c, .slice B m e]) (hb : w.heap[q]? = some (.cells z 27 (0, 0))) (hz : z.size = 8)
    (h : ∀ w2, w2.heap[q]? = some (.cells (nCells k p0 p1 p2 p3 b c B m e) 27 (0, 0)) → Pow q w w2 → Kc a w2) : if Region.wanted o (yielded ops a.tmps) = true then Oper.wp Try.prog o a w Kc Q else Kc (a.put o.dst undef) w := by
  obtain ⟨w2, hrun, h1, h2⟩ := storeNode hb hz k p0 p1 p2 p3 b c B m e
  rw [if_pos hw]
  unfold Oper.wp execOp
  simp only [ho, hp, hx, Sem.run_bind, Sem.run_pure, Result.andThen_ok, hrun]
  show Kc (a.put o.dst undef) _
  rw [hN]
  exact h w2 h1 h2
end
def Slot (w : World) (q : Nat) : Prop := ∃ z : Array Value, z.size = 8 ∧ w.heap[q]? = some (.cells z 27 (0, 0))
def setNode (w : World) (q : Nat) (k p0 : Int) (p1 p2 p3 : ByteArray) (a b : Bool) (B : Option Addr) (m e : Nat) : World := w.setCells q 0 [.int .i64 k, .int .i64 p0, .string p1, .string p2, .string p3, .bool a, .bool b, .slice B m e]
theorem setNode_run {w : World} {q : Nat} (h : Slot w q) (k p0 : Int) (p1 p2 p3 : ByteArray) (a b : Bool) (B : Option Addr) (m e : Nat) :
    (Instr.storeAt 27 (.pointer (some ⟨q, 0, none⟩)) (.agg #[.int .i64 k, .int .i64 p0, .string p1, .string p2, .string p3, .bool a, .bool b, .slice B m e])).run Try.prog w = .ok () (setNode w q k p0 p1 p2 p3 a b B m e) := by
  obtain ⟨z, hz, hb⟩ := h
  exact run_store_run _ _ _ hb rfl (by kernel_rfl) (by simp [hz]) (by simp [Value.oneCell'])
theorem setNode_blk {w : World} {q : Nat} (h : Slot w q) (k p0 : Int) (p1 p2 p3 : ByteArray) (a b : Bool) (B : Option Addr) (m e : Nat) : (setNode w q k p0 p1 p2 p3 a b B m e).heap[q]? = some (.cells (nCells k p0 p1 p2 p3 a b B m e) 27 (0, 0)) := by
  obtain ⟨z, hz, hb⟩ := h
  obtain ⟨cur, h1, h2, h3⟩ := setCells_row [.int .i64 k, .int .i64 p0, .string p1, .string p2, .string p3, .bool a, .bool b, .slice B m e] 0 w z hb (by simp [hz])
  have h4 : (z.toList.drop 8) = [] := List.drop_of_length_le (by rw [Array.length_toList, hz]; exact Nat.le_refl _)
  have h5 : cur = nCells k p0 p1 p2 p3 a b B m e := by
    apply Array.toList_inj.mp
    rw [h3]
    simp [nCells, h4]
  rw [setNode, h1, h5]
theorem setNode_pow (w : World) (q : Nat) (k p0 : Int) (p1 p2 p3 : ByteArray) (a b : Bool) (B : Option Addr) (m e : Nat) : Pow q w (setNode w q k p0 p1 p2 p3 a b B m e) := by
  obtain ⟨s1, s2, s3, s4⟩ := setCells_same q [.int .i64 k, .int .i64 p0, .string p1, .string p2, .string p3, .bool a, .bool b, .slice B m e] 0 w
  exact ⟨s1, s2, s3, by rw [setNode, s4]; exact Nat.le_refl _, fun i _ hi => setCells_far _ _ i hi⟩
def pSpan (n : Int) (l : List S48) : PR :=
  match pEnd n l with
  | .error e => .error e
  | .ok (a, [], _) => .error (0, 0)
  | .ok (a, t :: r, n1) =>
    if t.f0 ≠ 1 then (if a.f0 ≠ 0 then .error (pNot t 3) else .ok (a, t :: r, n1))
    else if n1 = 64 then .error (pNot t 6)
    else match pEnd (n1 + 1) r with
      | .error e => .error e
      | .ok (b, l2, n2) => .ok (⟨1, ⟨0, ⟨#[]⟩, ⟨#[]⟩, ⟨#[]⟩⟩, false, false, [a, b]⟩, l2, n2)
set_option maxRecDepth 100000 in
set_option maxHeartbeats 8000000 in
attribute [local go_sem high] setNode_run in
theorem span_calls {w : World} {g : Nat} {l : List S48} {n d : Int} {A : Option Addr} {c : Nat} (h : PAt w g l n d A c) :
    Calls Try.prog 25 #[.pointer (some ⟨g, 0, none⟩)] w (POut g d w (pSpan n l)) := by
  have hlt := h.lt
  have HH := Aside0.mk h
  clear h
  cases hE : pEnd n l with
  | error ae =>
    have HR : Aside0 (pSpan n l = .error ae) := ⟨by rw [pSpan, hE]⟩
    have HE := Aside0.mk hE
    clear hE
    go_enter Try.func25, Try.ntmps25
    go_wp2_with fail
    refine (end_calls (HH.out.below (below_alloc (Below.refl _ _) _))).mono ?_
    rw [HE.out]
    rintro e1 w1 ho
    obtain ⟨x, B, m, q, rfl, hF, hm, hW, _, _⟩ := ho.err
    have HO := Aside0.mk ho
    have HZ1 := Aside0.mk ((hW.block _ (blk_lt (blk_new w _)) (Nat.ne_of_gt hlt)).trans (blk_new w _))
    have HZ2 := Aside0.mk (blk_alloc HZ1.out (.cells #[.int .i64 x.f0, .int .i64 x.f1.f0, .string x.f1.f1, .string x.f1.f2, .string x.f1.f3, .bool x.f2, .bool x.f3, .slice B x.f4.length m] 27))
    clear ho hF hm hW
    go_wp2_with ((refine gate_ (.store 27 (.tmp 2) (.tmp 15)) rfl ?_; go_loud (refine wpList_storeNode rfl rfl (.tmp 2) (.tmp 15) rfl (k := x.f0) (p0 := x.f1.f0) (p1 := x.f1.f1) (p2 := x.f1.f2) (p3 := x.f1.f3) (b := x.f2) (c := x.f3) (B := B) (m := x.f4.length) (e := m) rfl rfl HZ2.out rfl ?_; intro w9 hs1 hs2; have HS1 := Aside0.mk hs1; have HS2 := Aside0.mk hs2; clear hs1 hs2)))
    refine bodyPost_ret (results_ct rfl _ _ w.heap.size 27 _ (0, 0) _ rfl HS1.out Try.underlying27 rfl (by kernel_rfl)) rfl ?_
    rw [HR.out]
    exact (HO.out.below (below_alloc (Below.refl _ _) _)).up ((Pow.refl g w).alloc _) hlt (by simp) HS2.out (Nat.le_refl _)
  | ok p =>
    obtain ⟨a, l1, n1⟩ := p
    have HE := Aside0.mk hE
    clear hE
    go_enter Try.func25, Try.ntmps25
    go_wp2_with fail
    refine (end_calls (HH.out.below (below_alloc (Below.refl _ _) _))).mono ?_
    rw [HE.out]
    rintro e1 w1 ho
    obtain ⟨B, m, rfl, hF, hm, hW, A1, c1, hp⟩ := ho.good
    have HZ1 := Aside0.mk ((hW.block _ (blk_lt (blk_new w _)) (Nat.ne_of_gt hlt)).trans (blk_new w _))
    have HF1 := Aside0.mk (Kd.F_mono hF (fun k (hk : (w.alloc _).heap.size ≤ k) => show w.heap.size < k by simp at hk; omega))
    have HM := Aside0.mk hm
    have HP1 := Aside0.mk hp
    have HW1 := Aside0.mk (((Pow.refl g w).alloc _).trans hW)
    clear ho hF hm hW hp
    obtain ⟨t, r, rfl⟩ := HP1.out.cons
    go_wp2_with fail
    refine (next_calls (HP1.out.below (below_alloc (Below.refl _ _) _))).mono ?_
    rintro e1 w2 ⟨rfl, hb⟩
    have hy := blk_below (blk_new w1 _) hb
    have hBB := below_step (below_alloc (Below.refl w1.heap.size w1) _) hb
    have HP2 := Aside0.mk (HP1.out.below hBB)
    have HW2 := Aside0.mk (HW1.out.below hBB)
    have HZ2 := Aside0.mk (blk_below HZ1.out hBB)
    have HF2 := Aside0.mk (Kd.F_below (Kd.F_bound HF1.out) hBB)
    have hg1 : g < w1.heap.size := HP1.out.lt
    have hz1 : w.heap.size < w1.heap.size := blk_lt HZ1.out
    obtain ⟨y0, y1, y2, y3, y4, y5, y6, y7⟩ := nCells_at hy
    have HY2 := Aside0.mk hy
    clear hb hy hBB
    by_cases h1 : t.f0 = 1
    · have k1 : (t.f0 != 1) = false := by rw [h1]; rfl
      have HK := Aside0.mk h1
      clear h1
      go_wp2_with fail
      refine (begin_calls HP2.out).mono ?_
      rintro e1 w3 (⟨hn, q, rfl, hw, hq, hb⟩ | ⟨hn, rfl, hp, hw⟩)
      · have HR : Aside0 (pSpan n l = .error (pNot t 6)) := ⟨by rw [pSpan, HE.out]; simp only []; rw [if_neg (by simpa using HK.out), if_pos hn]⟩
        have HB3 := Aside0.mk hb
        have HZ3 := Aside0.mk (blk_below HZ2.out hb)
        have hy3 := blk_below HY2.out hb
        obtain ⟨y0, y1, y2, y3, y4, y5, y6, y7⟩ := nCells_at hy3
        have HW3 := Aside0.mk hw
        have HQ3 := Aside0.mk hq
        clear hw hq hb hn hy3
        go_wp2_with ((refine gate_ (.store 27 (.tmp 2) (.tmp 32)) rfl ?_; go_loud (refine wpList_storeNode rfl rfl (.tmp 2) (.tmp 32) rfl (k := a.f0) (p0 := a.f1.f0) (p1 := a.f1.f1) (p2 := a.f1.f2) (p3 := a.f1.f3) (b := a.f2) (c := a.f3) (B := B) (m := a.f4.length) (e := m) rfl rfl HZ3.out rfl ?_; intro w9 hs1 hs2; have HS1 := Aside0.mk hs1; have HS2 := Aside0.mk hs2; clear hs1 hs2)))
        refine bodyPost_ret (results_ct rfl _ _ w.heap.size 27 _ (0, 0) _ rfl HS1.out Try.underlying27 rfl (by kernel_rfl)) rfl ?_
        rw [HR.out]
        have hq2 : w.heap.size < q := Nat.lt_of_lt_of_le (blk_lt HZ2.out) HQ3.out
        have hF3 := Kd.F_below HF2.out HB3.out
        exact ⟨a, B, m, Kd.F_mono (Kd.F_step hF3 (fun k hk hlt2 => HS2.out.block k hlt2 (by have := hk.1; omega))) (fun k hk => Nat.le_of_lt hk.1), HM.out, (HW2.out.below HB3.out).new HS2.out (Nat.le_refl _), q, rfl, (HS2.out.block _ (blk_lt HW3.out) (Nat.ne_of_gt hq2)).trans HW3.out, Nat.le_of_lt hq2⟩
      · have HP3 := Aside0.mk hp
        have HN := Aside0.mk hn
        have HW3 := Aside0.mk (HW2.out.trans hw)
        have HZ3 := Aside0.mk ((hw.block _ (blk_lt HZ2.out) (Nat.ne_of_gt hlt)).trans HZ2.out)
        have HY3 := Aside0.mk ((hw.block _ (blk_lt HY2.out) (Nat.ne_of_gt (Nat.lt_trans hlt hz1))).trans HY2.out)
        have HF3 := Aside0.mk (Kd.F_step HF2.out (fun k hk hl => hw.block k hl (by have := hk.1; omega)))
        clear hp hn hw y0 y1 y2 y3 y4 y5 y6 y7
        go_wp2_with fail
        refine (take_calls HP3.out (fun h => by rw [HK.out] at h; simp at h)).mono ?_
        rintro e1 w4 ⟨rfl, A4, c4, hp, hw⟩
        have HP4 := Aside0.mk hp
        have HW4 := Aside0.mk (HW3.out.trans hw)
        have HZ4 := Aside0.mk ((hw.block _ (blk_lt HZ3.out) (Nat.ne_of_gt hlt)).trans HZ3.out)
        have HY4 := Aside0.mk ((hw.block _ (blk_lt HY3.out) (Nat.ne_of_gt (Nat.lt_trans hlt hz1))).trans HY3.out)
        have HF4 := Aside0.mk (Kd.F_step HF3.out (fun k hk hl => hw.block k hl (by have := hk.1; omega)))
        clear hp hw
        cases hE2 : pEnd (n1 + 1) r with
        | error ae =>
          have HR : Aside0 (pSpan n l = .error ae) := ⟨by rw [pSpan, HE.out]; simp only []; rw [if_neg (by simpa using HK.out), if_neg HN.out, hE2]⟩
          have HE2 := Aside0.mk hE2
          clear hE2
          go_wp2_with fail
          refine (end_calls HP4.out).mono ?_
          rw [HE2.out]
          rintro e1 w5 ho
          obtain ⟨x, B5, m5, q, rfl, hF, hm5, hW, hw5, hq⟩ := ho.err
          have HW5q := Aside0.mk hw5
          have HQ5 := Aside0.mk hq
          have hsz5 : w.heap.size + 1 ≤ w4.heap.size := blk_lt HZ4.out
          have HW5 := Aside0.mk (HW4.out.trans hW)
          have HZ5 := Aside0.mk ((hW.block _ (blk_lt HZ4.out) (Nat.ne_of_gt hlt)).trans HZ4.out)
          have hy5 := (hW.block _ (blk_lt HY4.out) (Nat.ne_of_gt (Nat.lt_trans hlt hz1))).trans HY4.out
          have HFa := Aside0.mk (Kd.F_step HF4.out (fun k hk hl => hW.block k hl (by have := hk.1; omega)))
          have HFb := Aside0.mk hF
          have HM5 := Aside0.mk hm5
          have hw45 := hW.size
          have hy5' := nCells_at (blk_alloc hy5 (.cells #[.int .i64 x.f0, .int .i64 x.f1.f0, .string x.f1.f1, .string x.f1.f2, .string x.f1.f3, .bool x.f2, .bool x.f3, .slice B5 x.f4.length m5] 27))
          obtain ⟨y0, y1, y2, y3, y4, y5, y6, y7⟩ := hy5'
          clear ho hF hm5 hW hy5 hw5 hq
          go_wp2_with fail
          refine (between_calls (base := w.heap.size + 1) a x (Kd.F_below (Kd.F_mono HFa.out (fun k hk => hk.1)) (below_alloc (Below.refl _ _) _)) HM.out (Kd.F_below (Kd.F_mono HFb.out (fun k hk => Nat.le_trans hsz5 hk)) (below_alloc (Below.refl _ _) _)) HM5.out (by simp; omega)).mono ?_
          rintro e1 w6 ⟨D, kk, rfl, hkk, hFD, hb⟩
          have hbb := below_step (below_alloc (Below.refl w5.heap.size w5) _) hb
          have HB6 := Aside0.mk hbb
          have HZ6 := Aside0.mk (blk_below HZ5.out hbb)
          have HKK := Aside0.mk hkk
          have HFD := Aside0.mk hFD
          clear hb hbb hkk hFD y0 y1 y2 y3 y4 y5 y6 y7
          go_wp2_with ((refine gate_ (.store 27 (.tmp 2) (.tmp 43)) rfl ?_; go_loud (refine wpList_storeNode rfl rfl (.tmp 2) (.tmp 43) rfl (k := 1) (p0 := 0) (p1 := ⟨#[]⟩) (p2 := ⟨#[]⟩) (p3 := ⟨#[]⟩) (b := false) (c := false) (B := D) (m := ([a, x] : List S27).length) (e := kk) rfl rfl HZ6.out rfl ?_; intro w9 hs1 hs2; have HS1 := Aside0.mk hs1; have HS2 := Aside0.mk hs2; clear hs1 hs2)))
          refine bodyPost_ret (results_ct rfl _ _ w.heap.size 27 _ (0, 0) _ rfl HS1.out Try.underlying27 rfl (by kernel_rfl)) rfl ?_
          rw [HR.out]
          have hq2 : w.heap.size < q := Nat.lt_of_lt_of_le hsz5 HQ5.out
          exact ⟨⟨1, ⟨0, ⟨#[]⟩, ⟨#[]⟩, ⟨#[]⟩⟩, false, false, [a, x]⟩, D, kk, Kd.F_mono (Kd.F_step HFD.out (fun k hk hl => HS2.out.block k hl (by omega))) (fun k hk => by omega), HKK.out, (HW5.out.below HB6.out).new HS2.out (Nat.le_refl _), q, rfl, (HS2.out.block _ (blk_lt (blk_below HW5q.out HB6.out)) (Nat.ne_of_gt hq2)).trans (blk_below HW5q.out HB6.out), Nat.le_of_lt hq2⟩
        | ok p2 =>
          obtain ⟨b, l2, n2⟩ := p2
          have HR : Aside0 (pSpan n l = .ok (⟨1, ⟨0, ⟨#[]⟩, ⟨#[]⟩, ⟨#[]⟩⟩, false, false, [a, b]⟩, l2, n2)) := ⟨by rw [pSpan, HE.out]; simp only []; rw [if_neg (by simpa using HK.out), if_neg HN.out, hE2]⟩
          have HE2 := Aside0.mk hE2
          clear hE2
          go_wp2_with fail
          refine (end_calls HP4.out).mono ?_
          rw [HE2.out]
          rintro e1 w5 ho
          obtain ⟨B5, m5, rfl, hF, hm5, hW, A5, c5, hp⟩ := ho.good
          have HP5 := Aside0.mk hp
          have hsz5 : w.heap.size + 1 ≤ w4.heap.size := blk_lt HZ4.out
          have HW5 := Aside0.mk (HW4.out.trans hW)
          have HZ5 := Aside0.mk ((hW.block _ (blk_lt HZ4.out) (Nat.ne_of_gt hlt)).trans HZ4.out)
          have hy5 := (hW.block _ (blk_lt HY4.out) (Nat.ne_of_gt (Nat.lt_trans hlt hz1))).trans HY4.out
          have HFa := Aside0.mk (Kd.F_step HF4.out (fun k hk hl => hW.block k hl (by have := hk.1; omega)))
          have HFb := Aside0.mk hF
          have HM5 := Aside0.mk hm5
          have hw45 := hW.size
          have hy5' := nCells_at (blk_alloc hy5 (.cells #[.int .i64 b.f0, .int .i64 b.f1.f0, .string b.f1.f1, .string b.f1.f2, .string b.f1.f3, .bool b.f2, .bool b.f3, .slice B5 b.f4.length m5] 27))
          obtain ⟨y0, y1, y2, y3, y4, y5, y6, y7⟩ := hy5'
          clear ho hF hm5 hW hy5 hp
          go_wp2_with fail
          refine (between_calls (base := w.heap.size + 1) a b (Kd.F_below (Kd.F_mono HFa.out (fun k hk => hk.1)) (below_alloc (Below.refl _ _) _)) HM.out (Kd.F_below (Kd.F_mono HFb.out (fun k hk => Nat.le_trans hsz5 hk)) (below_alloc (Below.refl _ _) _)) HM5.out (by simp; omega)).mono ?_
          rintro e1 w6 ⟨D, kk, rfl, hkk, hFD, hb⟩
          have hbb := below_step (below_alloc (Below.refl w5.heap.size w5) _) hb
          have HB6 := Aside0.mk hbb
          have HZ6 := Aside0.mk (blk_below HZ5.out hbb)
          have HKK := Aside0.mk hkk
          have HFD := Aside0.mk hFD
          clear hb hbb hkk hFD y0 y1 y2 y3 y4 y5 y6 y7
          go_wp2_with ((refine gate_ (.store 27 (.tmp 2) (.tmp 43)) rfl ?_; go_loud (refine wpList_storeNode rfl rfl (.tmp 2) (.tmp 43) rfl (k := 1) (p0 := 0) (p1 := ⟨#[]⟩) (p2 := ⟨#[]⟩) (p3 := ⟨#[]⟩) (b := false) (c := false) (B := D) (m := ([a, b] : List S27).length) (e := kk) rfl rfl HZ6.out rfl ?_; intro w9 hs1 hs2; have HS1 := Aside0.mk hs1; have HS2 := Aside0.mk hs2; clear hs1 hs2)))
          refine bodyPost_ret (results_ct rfl _ _ w.heap.size 27 _ (0, 0) _ rfl HS1.out Try.underlying27 rfl (by kernel_rfl)) rfl ?_
          rw [HR.out]
          exact ⟨⟨1, ⟨0, ⟨#[]⟩, ⟨#[]⟩, ⟨#[]⟩⟩, false, false, [a, b]⟩, D, kk, Kd.F_mono (Kd.F_step HFD.out (fun k hk hl => HS2.out.block k hl (by omega))) (fun k hk => by omega), HKK.out, (HW5.out.below HB6.out).new HS2.out (Nat.le_refl _), rfl, rfl, A5, c5, (HP5.out.below HB6.out).new HS2.out hlt⟩
    · have k1 : (t.f0 != 1) = true := by simpa using h1
      by_cases h0 : a.f0 = 0
      · have k0 : (a.f0 != 0) = false := by rw [h0]; rfl
        have HR : Aside0 (pSpan n l = .ok (a, t :: r, n1)) := ⟨by rw [pSpan, HE.out]; simp only []; rw [if_pos h1, if_neg (by simpa using h0)]⟩
        clear h0 h1
        go_wp2_with ((refine gate_ (.store 27 (.tmp 2) (.tmp 27)) rfl ?_; go_loud (refine wpList_storeNode rfl rfl (.tmp 2) (.tmp 27) rfl (k := a.f0) (p0 := a.f1.f0) (p1 := a.f1.f1) (p2 := a.f1.f2) (p3 := a.f1.f3) (b := a.f2) (c := a.f3) (B := B) (m := a.f4.length) (e := m) rfl rfl HZ2.out rfl ?_; intro w9 hs1 hs2; have HS1 := Aside0.mk hs1; have HS2 := Aside0.mk hs2; clear hs1 hs2)))
        refine bodyPost_ret (results_ct rfl _ _ w.heap.size 27 _ (0, 0) _ rfl HS1.out Try.underlying27 rfl (by kernel_rfl)) rfl ?_
        rw [HR.out]
        exact ⟨a, B, m, Kd.F_mono (Kd.F_step HF2.out (fun k hk hlt2 => HS2.out.block k hlt2 (by have := hk.1; omega))) (fun k hk => Nat.le_of_lt hk.1), HM.out, HW2.out.new HS2.out (Nat.le_refl _), rfl, rfl, A1, c1, HP2.out.new HS2.out hlt⟩
      · have k0 : (a.f0 != 0) = true := by simpa using h0
        have HR : Aside0 (pSpan n l = .error (pNot t 3)) := ⟨by rw [pSpan, HE.out]; simp only []; rw [if_pos h1, if_pos (by simpa using h0)]⟩
        clear h0 h1
        go_wp2_with fail
        refine wp_region_any (by kernel_rfl) ?_
        change wpAny _ _ _ _ _ _ _ (World.drew _)
        refine wpAny_take (i := 1) (v := .pointer (some ⟨g, 0, none⟩)) rfl (by kernel_rfl) (by kernel_rfl) (by kernel_rfl) (fun _ _ _ h => h) (Or.inl ⟨by rfl, fun w => by go_simp⟩) ?_
        refine wpAny_ready (rs := [0, 2]) (by kernel_rfl) (by simp) ?_
        refine AllReady.cons rfl (fun K hK => ?_) ?_
        · go_simp
          refine hK _ _ ?_
          clear hK K
          refine wpAny_ready (rs := [2]) (by kernel_rfl) (by simp) ?_
          refine AllReady.cons rfl (fun K hK => ?_) AllReady.nil
          go_simp
          refine (not_calls (HP2.out.below (below_drew (Below.refl _ _))) 3).mono ?_
          rintro e1 w3 ⟨q, rfl, hw, hq, hb0⟩
          have hb : Below w2.heap.size w2 w3 := (below_drew (Below.refl w2.heap.size w2)).trans hb0
          have HB3 := Aside0.mk hb
          have HW3 := Aside0.mk hw
          have HQ3 := Aside0.mk hq
          have HZ3 := Aside0.mk (blk_below HZ2.out hb)
          have HY3 := Aside0.mk (blk_below HY2.out hb)
          clear hb hb0 hw hq
          refine hK _ _ ?_
          clear hK K
          refine wpAny_ready (rs := [3]) (by kernel_rfl) (by simp) ?_
          refine AllReady.cons rfl (fun K hK => ?_) AllReady.nil
          refine step_storeNode (by rfl) (by rfl) (.tmp 2) (.tmp 24) (by rfl) (k := a.f0) (p0 := a.f1.f0) (p1 := a.f1.f1) (p2 := a.f1.f2) (p3 := a.f1.f3) (b := a.f2) (c := a.f3) (B := B) (m := a.f4.length) (e := m) (by rfl) (by rfl) HZ3.out (by rfl) ?_
          intro w9 hs1 hs2
          have HS1 := Aside0.mk hs1
          have HS2 := Aside0.mk hs2
          clear hs1 hs2
          refine hK _ _ ?_
          clear hK K
          refine wpAny_take (i := 4) (v := .pointer (some ⟨q, 0, none⟩)) rfl (by kernel_rfl) (by kernel_rfl) (by kernel_rfl) (fun _ _ _ h => h) (Or.inl ⟨by rfl, fun w => by go_simp⟩) ?_
          refine wpAny_done (by kernel_rfl) ?_ _
          go_wp2_with fail
          refine bodyPost_ret (results_ct rfl _ _ w.heap.size 27 _ (0, 0) _ rfl HS1.out Try.underlying27 rfl (by kernel_rfl)) rfl ?_
          rw [HR.out]
          have hq := HQ3.out
          have hq2 : w.heap.size < q := Nat.lt_of_lt_of_le (blk_lt HZ2.out) hq
          have hF3 := Kd.F_below HF2.out HB3.out
          exact ⟨a, B, m, Kd.F_mono (Kd.F_step hF3 (fun k hk hlt2 => HS2.out.block k hlt2 (by have := hk.1; omega))) (fun k hk => Nat.le_of_lt hk.1), HM.out, (HW2.out.below HB3.out).new HS2.out (Nat.le_refl _), q, rfl, (HS2.out.block _ (blk_lt HW3.out) (Nat.ne_of_gt hq2)).trans HW3.out, Nat.le_of_lt hq2⟩
        · refine AllReady.cons rfl (fun K hK => ?_) AllReady.nil
          go_simp
          refine (not_calls (HP2.out.below (below_drew (Below.refl _ _))) 3).mono ?_
          rintro e1 w3 ⟨q, rfl, hw, hq, hb0⟩
          have hb : Below w2.heap.size w2 w3 := (below_drew (Below.refl w2.heap.size w2)).trans hb0
          have HB3 := Aside0.mk hb
          have HW3 := Aside0.mk hw
          have HQ3 := Aside0.mk hq
          have HZ3 := Aside0.mk (blk_below HZ2.out hb)
          have HY3 := Aside0.mk (blk_below HY2.out hb)
          clear hb hb0 hw hq
          refine hK _ _ ?_
          clear hK K
          obtain ⟨y0, y1, y2, y3, y4, y5, y6, y7⟩ := nCells_at HY3.out
          refine wpAny_ready (rs := [0]) (by kernel_rfl) (by simp) ?_
          refine AllReady.cons rfl (fun K hK => ?_) AllReady.nil
          go_simp
          refine hK _ _ ?_
          clear hK K
          refine wpAny_ready (rs := [3]) (by kernel_rfl) (by simp) ?_
          refine AllReady.cons rfl (fun K hK => ?_) AllReady.nil
          refine step_storeNode (by rfl) (by rfl) (.tmp 2) (.tmp 24) (by rfl) (k := a.f0) (p0 := a.f1.f0) (p1 := a.f1.f1) (p2 := a.f1.f2) (p3 := a.f1.f3) (b := a.f2) (c := a.f3) (B := B) (m := a.f4.length) (e := m) (by rfl) (by rfl) HZ3.out (by rfl) ?_
          intro w9 hs1 hs2
          have HS1 := Aside0.mk hs1
          have HS2 := Aside0.mk hs2
          clear hs1 hs2
          refine hK _ _ ?_
          clear hK K
          refine wpAny_take (i := 4) (v := .pointer (some ⟨q, 0, none⟩)) rfl (by kernel_rfl) (by kernel_rfl) (by kernel_rfl) (fun _ _ _ h => h) (Or.inl ⟨by rfl, fun w => by go_simp⟩) ?_
          refine wpAny_done (by kernel_rfl) ?_ _
          go_wp2_with fail
          refine bodyPost_ret (results_ct rfl _ _ w.heap.size 27 _ (0, 0) _ rfl HS1.out Try.underlying27 rfl (by kernel_rfl)) rfl ?_
          rw [HR.out]
          have hq := HQ3.out
          have hq2 : w.heap.size < q := Nat.lt_of_lt_of_le (blk_lt HZ2.out) hq
          have hF3 := Kd.F_below HF2.out HB3.out
          exact ⟨a, B, m, Kd.F_mono (Kd.F_step hF3 (fun k hk hlt2 => HS2.out.block k hlt2 (by have := hk.1; omega))) (fun k hk => Nat.le_of_lt hk.1), HM.out, (HW2.out.below HB3.out).new HS2.out (Nat.le_refl _), q, rfl, (HS2.out.block _ (blk_lt HW3.out) (Nat.ne_of_gt hq2)).trans HW3.out, Nat.le_of_lt hq2⟩
end Go.Proofs.Ytchodmjleceooaa.V
