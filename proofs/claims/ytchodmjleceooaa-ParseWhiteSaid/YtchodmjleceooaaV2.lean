import Derived.Test.YtchodmjleceooaaV0
import Derived.Test.YtchodmjleceooaaV1
namespace Go.Proofs.Ytchodmjleceooaa.V
open Go.RowKit Go.Proofs.YtchodmjleceooaaW.PrintWords Go.Proofs.YtchodmjleceooaaW.PrintLast Go.Proofs.YtchodmjleceooaaW.PrintMore
attribute [local go_sem] max2_int min2_int max_two min_two max_three min_three max_four min_four
set_option linter.unusedVariables false
set_option linter.unusedSimpArgs false
attribute [local go_sem] tokKind tokAt tokText
def pMarked : List S48 → Bool → Bool → Bool × Bool × List S48
  | [], a, b => (a, b, [])
  | t :: r, a, b => if t.f0 = 7 ∧ a = false then pMarked r true b else if t.f0 = 8 ∧ b = false then pMarked r a true else (a, b, t :: r)
def lenAt (g : Nat) (w : World) : Nat := match w.cell? ⟨g, 0, none⟩ with | some (.slice _ n _) => n | _ => 0
theorem PAt.len {w : World} {g : Nat} {l : List S48} {n d : Int} {A : Option Addr} {c : Nat} (h : PAt w g l n d A c) : lenAt g w = l.length := by
  have h0 : w.cell? ⟨g, 0, none⟩ = some (.slice A l.length c) := (blk_cell h.blk 0).trans rfl
  rw [lenAt, h0]
theorem PAt.cons {w : World} {g : Nat} {l : List S48} {n d : Int} {A : Option Addr} {c : Nat} (h : PAt w g l n d A c) : ∃ t r, l = t :: r := by
  have h2 := h.ok
  cases l with
  | nil => exact h2.elim
  | cons t r => exact ⟨t, r, rfl⟩
def nCells (k p0 : Int) (p1 p2 p3 : ByteArray) (a b : Bool) (B : Option Addr) (m e : Nat) : Array Value := #[.int .i64 k, .int .i64 p0, .string p1, .string p2, .string p3, .bool a, .bool b, .slice B m e]
theorem nCells_at {w : World} {q : Nat} {k p0 : Int} {p1 p2 p3 : ByteArray} {a b : Bool} {B : Option Addr} {m e : Nat} (h : w.heap[q]? = some (.cells (nCells k p0 p1 p2 p3 a b B m e) 27 (0, 0))) :
    w.cell? ⟨q, 0, none⟩ = some (.int .i64 k) ∧ w.cell? ⟨q, 1, none⟩ = some (.int .i64 p0) ∧ w.cell? ⟨q, 2, none⟩ = some (.string p1) ∧ w.cell? ⟨q, 3, none⟩ = some (.string p2) ∧ w.cell? ⟨q, 4, none⟩ = some (.string p3) ∧ w.cell? ⟨q, 5, none⟩ = some (.bool a) ∧ w.cell? ⟨q, 6, none⟩ = some (.bool b) ∧ w.cell? ⟨q, 7, none⟩ = some (.slice B m e) :=
  ⟨(blk_cell h 0).trans rfl, (blk_cell h 1).trans rfl, (blk_cell h 2).trans rfl, (blk_cell h 3).trans rfl, (blk_cell h 4).trans rfl, (blk_cell h 5).trans rfl, (blk_cell h 6).trans rfl, (blk_cell h 7).trans rfl⟩
theorem Pow.new {g q : Nat} {a b c : World} (h : Pow g a b) (k : Pow q b c) (hq : a.heap.size ≤ q) : Pow g a c := ⟨k.os.trans h.os, k.tape.trans h.tape, k.output.trans h.output, Nat.le_trans h.size k.size, fun i hi hg => (k.block i (Nat.lt_of_lt_of_le hi h.size) (by omega)).trans (h.block i hi hg)⟩
theorem PAt.new {w w' : World} {g q : Nat} {l : List S48} {n d : Int} {A : Option Addr} {c : Nat} (h : PAt w g l n d A c) (hp : Pow q w w') (hq : g < q) : PAt w' g l n d A c :=
  ⟨(hp.block g h.lt (Nat.ne_of_lt hq)).trans h.blk, h.cap, Kd.F_step h.row (fun k hk hlt => hp.block k hlt (Nat.ne_of_lt (Nat.lt_trans hk hq))), h.ok, h.n0, h.n1, h.d0, h.d1⟩
theorem storeNode {w : World} {q : Nat} {z : Array Value} (hb : w.heap[q]? = some (.cells z 27 (0, 0))) (hz : z.size = 8) (k p0 : Int) (p1 p2 p3 : ByteArray) (a b : Bool) (B : Option Addr) (m e : Nat) :
    ∃ w2, (Instr.storeAt 27 (.pointer (some ⟨q, 0, none⟩)) (.agg #[.int .i64 k, .int .i64 p0, .string p1, .string p2, .string p3, .bool a, .bool b, .slice B m e])).run Try.prog w = .ok () w2 ∧ w2.heap[q]? = some (.cells (nCells k p0 p1 p2 p3 a b B m e) 27 (0, 0)) ∧ Pow q w w2 := by
  have h1 : ∀ u ∈ ([.int .i64 k, .int .i64 p0, .string p1, .string p2, .string p3, .bool a, .bool b, .slice B m e] : List Value), u.oneCell' = true := by
    simp [Value.oneCell']
  refine ⟨w.setCells q 0 [.int .i64 k, .int .i64 p0, .string p1, .string p2, .string p3, .bool a, .bool b, .slice B m e], run_store_run _ _ _ hb rfl (by kernel_rfl) (by simp [hz]) h1, ?_, ?_⟩
  · obtain ⟨cur, h1, h2, h3⟩ := setCells_row [.int .i64 k, .int .i64 p0, .string p1, .string p2, .string p3, .bool a, .bool b, .slice B m e] 0 w z hb (by simp [hz])
    have h4 : (z.toList.drop 8) = [] := List.drop_of_length_le (by rw [Array.length_toList, hz]; exact Nat.le_refl _)
    have h5 : cur = nCells k p0 p1 p2 p3 a b B m e := by
      apply Array.toList_inj.mp
      rw [h3]
      simp [nCells, h4]
    rw [h1, h5]
  · obtain ⟨s1, s2, s3, s4⟩ := setCells_same q [.int .i64 k, .int .i64 p0, .string p1, .string p2, .string p3, .bool a, .bool b, .slice B m e] 0 w
    exact ⟨s1, s2, s3, by rw [s4]; exact Nat.le_refl _, fun i _ hi => setCells_far _ _ i hi⟩
section
variable {P : Program} {ops : Array Oper} {rest : List Oper} {o : Oper} {a : Act} {Q : Exit → Act → World → Prop}
theorem wpList_storeNode {w : World} (hN : o.dst = none) (hgd : o.guard = none) (p x : Operand) (ho : o.op = .store 27 p x) {q : Nat} {z : Array Value} {k p0 : Int} {p1 p2 p3 : ByteArray} {b c : Bool} {B : Option Addr} {m e : Nat}
    (hp : a.eval p = .pointer (some ⟨q, 0, none⟩)) (hx : a.eval x = .agg #[.int .i64 k, .int .i64 p0, .string p1, .string p2, .string p3, .bool b, .bool c, .slice B m e]) (hb : w.heap[q]? = some (.cells z 27 (0, 0))) (hz : z.size = 8)
    (h : ∀ w2, w2.heap[q]? = some (.cells (nCells k p0 p1 p2 p3 b c B m e) 27 (0, 0)) → Pow q w w2 → wpList Try.prog ops Q rest a w2) : wpList Try.prog ops Q (o :: rest) a w := by
  obtain ⟨w2, hrun, h1, h2⟩ := storeNode hb hz k p0 p1 p2 p3 b c B m e
  refine wpList_plain hgd fun K hK => ?_
  unfold Oper.wp execOp
  simp only [ho, hp, hx, Sem.run_bind, Sem.run_pure, Result.andThen_ok, hrun]
  show K (a.put o.dst undef) _
  rw [hN]
  exact hK a _ (h w2 h1 h2)
end
theorem PAt.far {w : World} {g : Nat} {l : List S48} {n d : Int} {A : Option Addr} {c : Nat} (h : PAt w g l n d A c) {q : Nat} (hq : g < q) (i : Nat) (u : Value) : PAt (w.setCell ⟨q, i, none⟩ u) g l n d A c :=
  ⟨blk_far h.blk (p := ⟨q, i, none⟩) (Nat.ne_of_lt hq) u, h.cap, Kd.F_far h.row (p := ⟨q, i, none⟩) (fun k hk => Nat.ne_of_lt (Nat.lt_trans hk hq)) u, h.ok, h.n0, h.n1, h.d0, h.d1⟩
set_option maxRecDepth 100000 in
set_option maxHeartbeats 4000000 in
theorem marked_calls {w : World} {g : Nat} {l : List S48} {n d : Int} {A : Option Addr} {c : Nat} (h : PAt w g l n d A c) (k p0 : Int) (p1 p2 p3 : ByteArray) (a0 b0 : Bool) (B : Option Addr) (m e : Nat) :
    Calls Try.prog 58 #[.pointer (some ⟨g, 0, none⟩), .agg (nCells k p0 p1 p2 p3 a0 b0 B m e)] w fun e1 w' =>
      e1 = .returned (.agg (nCells k p0 p1 p2 p3 (pMarked l a0 b0).1 (pMarked l a0 b0).2.1 B m e)) ∧ (∃ A' c', PAt w' g (pMarked l a0 b0).2.2 n d A' c') ∧ Pow g w w' := by
  have hlt := h.lt
  have HH := Aside0.mk h
  clear h
  simp only [nCells]
  go_enter Try.func58, Try.ntmps58
  go_wp2_with fail
  go_loopw [5] (fun v5 wr => ∃ (l' : List S48) (a b : Bool) (A' : Option Addr) (c' : Nat), Aside0 (PAt wr g l' n d A' c') ∧ Aside0 (pMarked l' a b = pMarked l a0 b0) ∧ Aside0 (Pow g w wr) ∧ w.heap.size < wr.heap.size ∧
    Aside0 (wr.heap[w.heap.size]? = some (.cells (nCells k p0 p1 p2 p3 a b B m e) 27 (0, 0))) ∧ Aside0 (∃ z : Array Value, z.size = 8 ∧ wr.heap[w.heap.size + 1]? = some (.cells z 27 (0, 0)))) (fun _ wr => lenAt g wr)
  case atStart =>
    refine ⟨l, a0, b0, A, c, ⟨(HH.out.below (below_alloc (Below.refl _ _) _)).below (below_alloc (Below.refl _ _) _)⟩, ⟨rfl⟩, ⟨((Pow.refl g w).alloc _).alloc _⟩, by simp; omega, ⟨?_⟩, ⟨_, ?_, blk_new1 _ _ _⟩⟩
    · exact blk_alloc (blk_new _ _) _
    · rfl
  case round =>
    as_aux_lemma =>
    obtain ⟨l', a, b, A', c', HP, HE, HW, hsz, HN, HZ⟩ := hrel
    obtain ⟨t, r, rfl⟩ := HP.out.cons
    go_wp2_with fail
    refine (next_calls HP.out).mono ?_
    rintro e1 w1 ⟨rfl, hb⟩
    have HP1 := Aside0.mk (HP.out.below hb)
    have HW1 := Aside0.mk (HW.out.below hb)
    have hn := blk_below HN.out hb
    have HN1 := Aside0.mk hn
    obtain ⟨c0, c1, c2, c3, c4, c5, c6, c7⟩ := nCells_at hn
    have f5 := blk_frozen hn 5
    have f6 := blk_frozen hn 6
    have hsz1 := hb.size
    have HZ1 : Aside0 (∃ z : Array Value, z.size = 8 ∧ w1.heap[w.heap.size + 1]? = some (.cells z 27 (0, 0))) := by
      obtain ⟨z, hz, hzz⟩ := HZ.out
      exact ⟨⟨z, hz, blk_below hzz hb⟩⟩
    clear hb hn
    have HEE := Aside0.mk (show pMarked (t :: r) a b = _ from HE.out)
    cases k7 : (t.f0 == 7)
    · have HK7 : Aside0 (¬ t.f0 = 7) := ⟨by simpa using k7⟩
      cases k8 : (t.f0 == 8)
      · have HK8 : Aside0 (¬ t.f0 = 8) := ⟨by simpa using k8⟩
        have HF : Aside0 (pMarked l a0 b0 = (a, b, t :: r)) := ⟨by rw [← HE.out, pMarked, if_neg (fun h => HK7.out h.1), if_neg (fun h => HK8.out h.1)]⟩
        obtain ⟨z, hz, hzz⟩ := HZ1.out
        have HZZ := Aside0.mk hzz
        have HZS := Aside0.mk hz
        clear hzz hz
        go_wp2_with (refine gate_ (.store 27 (.tmp 4) (.tmp 9)) rfl ?_; go_loud (refine wpList_storeNode rfl rfl (.tmp 4) (.tmp 9) rfl (k := k) (p0 := p0) (p1 := p1) (p2 := p2) (p3 := p3) (b := a) (c := b) (B := B) (m := m) (e := e) rfl rfl HZZ.out HZS.out ?_; intro w2 hs1 hs2; have HS1 := Aside0.mk hs1; have HS2 := Aside0.mk hs2; clear hs1 hs2))
        refine bodyPost_ret (results_single rfl (.cell (w.heap.size + 1) 27 _ (0, 0) _ rfl HS1.out Try.underlying27 rfl (by kernel_rfl) .nil)) rfl ?_
        rw [HF.out]
        exact ⟨rfl, ⟨A', c', HP1.out.new HS2.out (by omega)⟩, HW1.out.new HS2.out (by omega)⟩
      · have HK8 : Aside0 (t.f0 = 8) := ⟨by simpa using k8⟩
        cases b
        · have HE2 : Aside0 (pMarked r a true = pMarked l a0 b0) := ⟨by rw [← HE.out, pMarked, if_neg (fun h => HK7.out h.1), if_pos ⟨HK8.out, rfl⟩]⟩
          go_wp2_with fail
          refine (take_calls (HP1.out.far (Nat.lt_trans hlt (Nat.lt_of_lt_of_le hsz hsz1) |> fun _ => hlt) 6 (.bool true)) (fun h => by rw [HK8.out] at h; simp at h)).mono ?_
          rintro e1 w2 ⟨rfl, A2, c2', hp, hw⟩
          have HP2 := Aside0.mk hp
          have HW2 := Aside0.mk ((HW1.out.setNew (p := ⟨w.heap.size, 6, none⟩) (Nat.le_refl _) (.bool true)).trans hw)
          have HN2 : Aside0 (w2.heap[w.heap.size]? = some (.cells (nCells k p0 p1 p2 p3 a true B m e) 27 (0, 0))) := ⟨(hw.block _ (by simp; omega) (Nat.ne_of_gt hlt)).trans (blk_put HN1.out 6 _ rfl)⟩
          have HZ2 : Aside0 (∃ z : Array Value, z.size = 8 ∧ w2.heap[w.heap.size + 1]? = some (.cells z 27 (0, 0))) := by
            obtain ⟨z, hz, hzz⟩ := HZ1.out
            exact ⟨⟨z, hz, (hw.block _ (by simp; exact blk_lt hzz) (by omega)).trans (blk_far hzz (p := ⟨w.heap.size, 6, none⟩) (by simp) _)⟩⟩
          have hsz2 := hw.size
          clear hp hw c0 c1 c2 c3 c4 c5 c6 c7 f5 f6
          go_wp2_with fail
          go_roundw
          case rel => exact ⟨r, a, true, A2, c2', HP2, ⟨HE2.out⟩, HW2, by simp at hsz2; omega, HN2, HZ2⟩
          case measure => (rw [HP2.out.len, HP.out.len]; simp)
        · have HF : Aside0 (pMarked l a0 b0 = (a, true, t :: r)) := ⟨by rw [← HE.out, pMarked, if_neg (fun h => HK7.out h.1), if_neg (fun h => by simp at h)]⟩
          obtain ⟨z, hz, hzz⟩ := HZ1.out
          have HZZ := Aside0.mk hzz
          have HZS := Aside0.mk hz
          clear hzz hz
          go_wp2_with (refine gate_ (.store 27 (.tmp 4) (.tmp 9)) rfl ?_; go_loud (refine wpList_storeNode rfl rfl (.tmp 4) (.tmp 9) rfl (k := k) (p0 := p0) (p1 := p1) (p2 := p2) (p3 := p3) (b := a) (c := true) (B := B) (m := m) (e := e) rfl rfl HZZ.out HZS.out ?_; intro w2 hs1 hs2; have HS1 := Aside0.mk hs1; have HS2 := Aside0.mk hs2; clear hs1 hs2))
          refine bodyPost_ret (results_single rfl (.cell (w.heap.size + 1) 27 _ (0, 0) _ rfl HS1.out Try.underlying27 rfl (by kernel_rfl) .nil)) rfl ?_
          rw [HF.out]
          exact ⟨rfl, ⟨A', c', HP1.out.new HS2.out (by omega)⟩, HW1.out.new HS2.out (by omega)⟩
    · have HK7 : Aside0 (t.f0 = 7) := ⟨by simpa using k7⟩
      have k8 : (t.f0 == 8) = false := by rw [HK7.out]; rfl
      cases a
      · have HE2 : Aside0 (pMarked r true b = pMarked l a0 b0) := ⟨by rw [← HE.out, pMarked, if_pos ⟨HK7.out, rfl⟩]⟩
        go_wp2_with fail
        refine (take_calls (HP1.out.far (Nat.lt_trans hlt (Nat.lt_of_lt_of_le hsz hsz1) |> fun _ => hlt) 5 (.bool true)) (fun h => by rw [HK7.out] at h; simp at h)).mono ?_
        rintro e1 w2 ⟨rfl, A2, c2', hp, hw⟩
        have HP2 := Aside0.mk hp
        have HW2 := Aside0.mk ((HW1.out.setNew (p := ⟨w.heap.size, 5, none⟩) (Nat.le_refl _) (.bool true)).trans hw)
        have HN2 : Aside0 (w2.heap[w.heap.size]? = some (.cells (nCells k p0 p1 p2 p3 true b B m e) 27 (0, 0))) := ⟨(hw.block _ (by simp; omega) (Nat.ne_of_gt hlt)).trans (blk_put HN1.out 5 _ rfl)⟩
        have HZ2 : Aside0 (∃ z : Array Value, z.size = 8 ∧ w2.heap[w.heap.size + 1]? = some (.cells z 27 (0, 0))) := by
          obtain ⟨z, hz, hzz⟩ := HZ1.out
          exact ⟨⟨z, hz, (hw.block _ (by simp; exact blk_lt hzz) (by omega)).trans (blk_far hzz (p := ⟨w.heap.size, 5, none⟩) (by simp) _)⟩⟩
        have hsz2 := hw.size
        clear hp hw c0 c1 c2 c3 c4 c5 c6 c7 f5 f6
        go_wp2_with fail
        go_roundw
        case rel => exact ⟨r, true, b, A2, c2', HP2, ⟨HE2.out⟩, HW2, by simp at hsz2; omega, HN2, HZ2⟩
        case measure => (rw [HP2.out.len, HP.out.len]; simp)
      · have HF : Aside0 (pMarked l a0 b0 = (true, b, t :: r)) := ⟨by rw [← HE.out, pMarked, if_neg (fun h => by simp at h), if_neg (fun h => by rw [HK7.out] at h; simp at h)]⟩
        obtain ⟨z, hz, hzz⟩ := HZ1.out
        have HZZ := Aside0.mk hzz
        have HZS := Aside0.mk hz
        clear hzz hz
        go_wp2_with (refine gate_ (.store 27 (.tmp 4) (.tmp 9)) rfl ?_; go_loud (refine wpList_storeNode rfl rfl (.tmp 4) (.tmp 9) rfl (k := k) (p0 := p0) (p1 := p1) (p2 := p2) (p3 := p3) (b := true) (c := b) (B := B) (m := m) (e := e) rfl rfl HZZ.out HZS.out ?_; intro w2 hs1 hs2; have HS1 := Aside0.mk hs1; have HS2 := Aside0.mk hs2; clear hs1 hs2))
        refine bodyPost_ret (results_single rfl (.cell (w.heap.size + 1) 27 _ (0, 0) _ rfl HS1.out Try.underlying27 rfl (by kernel_rfl) .nil)) rfl ?_
        rw [HF.out]
        exact ⟨rfl, ⟨A', c', HP1.out.new HS2.out (by omega)⟩, HW1.out.new HS2.out (by omega)⟩
theorem eqPt (d : Nat) (w : World) (x0 y0 : Int) (x1 y1 : ByteArray) (x2 y2 : ByteArray) (x3 y3 : ByteArray) :
    (Op.equalIn (d + 2) 24 (.agg #[.int .i64 x0, .string x1, .string x2, .string x3]) (.agg #[.int .i64 y0, .string y1, .string y2, .string y3])).run Try.prog w = .ok (x0 == y0 && (x1.toList == y1.toList && (x2.toList == y2.toList && (x3.toList == y3.toList)))) w := by
  refine eqA_of Try.underlying24 (by kernel_rfl) ?_
  refine eqf_cons (by rfl) (by go_simp; rfl) (by go_simp; rfl) (by go_simp) ?_
  refine eqf_cons (by rfl) (by go_simp; rfl) (by go_simp; rfl) (by go_simp) ?_
  refine eqf_cons (by rfl) (by go_simp; rfl) (by go_simp; rfl) (by go_simp) ?_
  exact eqf_last (by rfl) (by go_simp; rfl) (by go_simp; rfl) (by go_simp)
def nBare (p0 : Int) (p1 p2 p3 : ByteArray) (ask tilde : Bool) : Bool := p0 == 0 && (p1.toList.isEmpty && (p2.toList.isEmpty && p3.toList.isEmpty)) && !ask && !tilde
def tree_bare.f (a0_0 : Int) (a0_1 : Int) (a0_2 : ByteArray) (a0_3 : ByteArray) (a0_4 : ByteArray) (a0_5 : Bool) (a0_6 : Bool) (l0_7 : List (S27)) : Option (Bool) := some (nBare a0_1 a0_2 a0_3 a0_4 a0_5 a0_6)
section
attribute [local go_sem high] eqPt
set_option maxHeartbeats 4000000 in
theorem tree_bare.calls (a0_0 : Int) (a0_1 : Int) (a0_2 : ByteArray) (a0_3 : ByteArray) (a0_4 : ByteArray) (a0_5 : Bool) (a0_6 : Bool) (A0_7 : Option Addr) (c0_7 : Nat) (l0_7 : List (S27)) (r : Bool) (w : World) (hr0_7 : Kd.C k27 w A0_7 l0_7.length l0_7) (hc0_7 : l0_7.length ≤ c0_7) (h : tree_bare.f a0_0 a0_1 a0_2 a0_3 a0_4 a0_5 a0_6 l0_7 = some r) :
    Calls Try.prog 30 #[.agg #[.int .i64 a0_0, .int .i64 a0_1, .string a0_2, .string a0_3, .string a0_4, .bool a0_5, .bool a0_6, .slice A0_7 l0_7.length c0_7]] w fun e w' => e = .returned (.bool r) ∧ Below w.heap.size w w' := by
  obtain rfl : nBare a0_1 a0_2 a0_3 a0_4 a0_5 a0_6 = r := Option.some.inj h
  clear h hr0_7 hc0_7
  cases hb : (a0_1 == 0 && (a0_2.toList.isEmpty && (a0_3.toList.isEmpty && a0_4.toList.isEmpty)))
  · go_enter Try.func30, Try.ntmps30
    go_wp2_with fail
    go_ret
    exact ⟨by rw [nBare, hb]; rfl, below_alloc (Below.refl _ _) _⟩
  · cases a0_5
    all_goals
      go_enter Try.func30, Try.ntmps30
      go_wp2_with fail
      go_ret
      exact ⟨by rw [nBare, hb]; simp, below_alloc (Below.refl _ _) _⟩
end
def mkc (c : Int) : Bool := decide ((48 ≤ c ∧ c ≤ 57) ∨ c = 88)
def maskSane (s : ByteArray) : Bool := s.data.toList.all (fun c => mkc c.toNat) && decide (s.size ≠ 0) && decide (s.size ≤ 4)
def mask_Sane.f (a0 : ByteArray) : Option (Bool) := some (maskSane a0)
theorem decode_mask (s : ByteArray) (pos : Nat) (hp : pos < s.size) : ∃ (r wd : Nat), Utf8.decode s pos = (r, wd) ∧ 1 ≤ wd ∧
    ((mkc (s[pos]'hp).toNat = true ∧ wd = 1 ∧ mkc r = true) ∨ (mkc (s[pos]'hp).toNat = false ∧ mkc r = false)) := by
  by_cases ha : (s[pos]'hp).toNat < 128
  · refine ⟨_, _, decode_ascii s pos hp ha, Nat.le_refl _, ?_⟩
    cases h : mkc (s[pos]'hp).toNat
    · exact .inr ⟨rfl, rfl⟩
    · exact .inl ⟨rfl, rfl, rfl⟩
  · have hh := decode_high s pos hp (by omega)
    generalize Utf8.decode s pos = q at hh
    refine ⟨q.1, q.2, rfl, hh.2, .inr ⟨?_, ?_⟩⟩
    · unfold mkc; apply decide_eq_false; omega
    · unfold mkc; apply decide_eq_false; omega
theorem bytes_take (s : ByteArray) (k : Nat) (h : k < s.size) : s.data.toList.take (k + 1) = s.data.toList.take k ++ [s[k]] := by
  rw [List.take_succ_eq_append_getElem (by simpa using h)]; rfl
theorem bytes_all_false (s : ByteArray) (p : UInt8 → Bool) (k : Nat) (h : k < s.size) (hp : p (s[k]'h) = false) : s.data.toList.all p = false := by
  rw [List.all_eq_false]; exact ⟨s[k], by simp [ByteArray.getElem_eq_getElem_data], by simp [hp]⟩
theorem maskSane_end (s : ByteArray) (h : s.data.toList.all (fun c => mkc c.toNat) = true) : (!s.toList.isEmpty && decide ((s.size : Int) ≤ 4)) = maskSane s := by
  rw [ByteArray.toList_eq]
  have hsz : s.size = s.data.toList.length := by simp
  simp only [maskSane, h, Bool.true_and, hsz]
  cases s.data.toList with
  | nil => rfl
  | cons c l => simp; omega
theorem maskSane_nil (s : ByteArray) (h : s.toList = []) : maskSane s = false := by
  rw [ByteArray.toList_eq] at h
  have hsz : s.size = s.data.toList.length := by simp
  simp [maskSane, h, hsz]
set_option maxHeartbeats 1000000 in
theorem mask_Sane.calls (a0 : ByteArray) (r : Bool) (w : World) (h : mask_Sane.f a0 = some r) :
    Calls Try.prog 52 #[.string a0] w fun e w' => e = .returned (.bool r) ∧ Below w.heap.size w w' := by
  obtain rfl : maskSane a0 = r := Option.some.inj h
  clear h
  go_enter Try.func52, Try.ntmps52
  go_wp2
  go_loopw [4] (fun _ w' => ∃ pos : Nat, w' = w.iter a0 pos ∧ pos ≤ a0.size ∧ Aside0 ((a0.data.toList.take pos).all (fun c => mkc c.toNat) = true)) (fun _ w' => a0.size - w'.iterPos w.heap.size)
  case atStart => exact ⟨0, rfl, by omega, ⟨by simp⟩⟩
  case round =>
    obtain ⟨pos, rfl, hpl, HA⟩ := hrel
    by_cases hp : pos < a0.size
    · obtain ⟨r, wd, hd, hw1, hm⟩ := decode_mask a0 pos hp
      have hnx : ∀ ty, (Instr.next (.pointer (some ⟨w.heap.size, 0, none⟩)) true ty).run Try.prog (w.iter a0 pos) = .ok (.tuple #[.bool true, .int .i64 pos, .int .i32 r]) (w.iter a0 (pos + wd)) := fun ty => by rw [run_next_any w a0 pos ty hp, hd]
      clear hd
      rcases hm with ⟨hm1, hwd, hr⟩ | ⟨hm1, hr⟩
      · have HM1 : Aside0 ((a0.data.toList.take (pos + 1)).all (fun c => mkc c.toNat) = true) := ⟨by rw [bytes_take a0 pos hp, List.all_append, HA.out]; simp [hm1]⟩
        subst hwd
        clear hm1
        have hr' : (48 ≤ r ∧ r ≤ 57) ∨ r = 88 := by have := of_decide_eq_true hr; omega
        clear hr
        rcases hr' with ⟨hr1, hr2⟩ | hr1
        · go_wp2
          go_roundw
          case rel => exact ⟨pos + 1, rfl, by omega, HM1⟩
          case measure => simp; omega
        · subst hr1
          go_wp2
          go_roundw
          case rel => exact ⟨pos + 1, rfl, by omega, HM1⟩
          case measure => simp; omega
      · have hr' : ¬ ((48 ≤ r ∧ r ≤ 57) ∨ r = 88) := by have := of_decide_eq_false hr; omega
        have hr1 : ((r : Int) != 88) = true := by rw [bne_iff_ne]; omega
        clear hr
        have HM := Aside0.mk hm1
        clear hm1
        go_wp2
        all_goals
          go_ret
          exact ⟨by rw [maskSane, bytes_all_false a0 _ pos hp HM.out]; rfl, below_alloc (Below.refl _ _) _⟩
    · have hnx : ∀ ty, (Instr.next (.pointer (some ⟨w.heap.size, 0, none⟩)) true ty).run Try.prog (w.iter a0 pos) = _ := fun ty => run_next_end w a0 pos ty hp
      have HA2 : Aside0 (a0.data.toList.all (fun c => mkc c.toNat) = true) := ⟨by have := HA.out; rwa [List.take_of_length_le (by simp; omega)] at this⟩
      go_wp2
      all_goals
        go_ret
        refine ⟨?_, below_alloc (Below.refl _ _) _⟩
        first
        | exact congrArg (fun b => Ending.returned (Value.bool b)) (maskSane_end a0 HA2.out)
        | (rename_i hz; exact congrArg (fun b => Ending.returned (Value.bool b)) (maskSane_nil a0 hz).symm)
def setIter (w : World) (b : Nat) (s : ByteArray) (p : Nat) : World := { w with heap := w.heap.setIfInBounds b (.stringIter s p) }
theorem setIter_size (w : World) (b : Nat) (s : ByteArray) (p : Nat) : (setIter w b s p).heap.size = w.heap.size := by simp [setIter]
theorem setIter_same (w : World) {b : Nat} (s : ByteArray) (p : Nat) (h : b < w.heap.size) : (setIter w b s p).heap[b]? = some (.stringIter s p) := by simp [setIter, h]
theorem setIter_other (w : World) {b g : Nat} (s : ByteArray) (p : Nat) (h : g ≠ b) : (setIter w b s p).heap[g]? = w.heap[g]? := by
  simp only [setIter]; rw [Array.getElem?_setIfInBounds_ne (fun e => h e.symm)]
theorem setIter_grown (w : World) (b : Nat) (s : ByteArray) (p : Nat) : w.grownBy (setIter w b s p) (some b) :=
  ⟨rfl, rfl, rfl, by simp [setIter], fun i _ hi => setIter_other w s p (fun e => hi (by rw [e]))⟩
theorem setIter_below {B : Nat} {w0 w : World} (h : Below B w0 w) {b : Nat} (hb : B ≤ b) (s : ByteArray) (p : Nat) : Below B w0 (setIter w b s p) :=
  ⟨h.os, h.tape, h.output, by rw [setIter_size]; exact h.size, fun i hi => (setIter_other w s p (by omega)).trans (h.block i hi)⟩
theorem run_next_iter {P : Program} (w : World) (b : Nat) (s : ByteArray) (pos : Nat) (ty : TypeId) (hb : w.heap[b]? = some (.stringIter s pos)) (h : pos < s.size) :
    (Instr.next (.pointer (some ⟨b, 0, none⟩)) true ty).run P w = .ok (.tuple #[.bool true, .int .i64 pos, .int .i32 (Utf8.decode s pos).1]) (setIter w b s (pos + (Utf8.decode s pos).2)) := by
  simp only [Instr.next, getObj, setObj, Sem.run_bind, Sem.run, hb, Result.andThen, h, if_true]
  simp [goInt, setIter]
theorem run_next_iter_end {P : Program} (w : World) (b : Nat) (s : ByteArray) (pos : Nat) (ty : TypeId) (hb : w.heap[b]? = some (.stringIter s pos)) (h : ¬ pos < s.size) :
    (Instr.next (.pointer (some ⟨b, 0, none⟩)) true ty).run P w = .ok (.tuple #[.bool false]) w := by
  simp [Instr.next, getObj, Sem.run, hb, h]
theorem infoRun : (Try.prog.info? 100).map (fun i => (i.zero, i.size, i.bytes)) = some (some (.agg #[(.int .i64 0), (.int .i64 0)]), 2, 16) := by kernel_rfl
def mskOne (c : Int) (r : S100) : List S100 :=
  if c = 88 then [⟨r.f0 * 10, r.f1 * 10 + 9⟩] else (List.range (r.f1 - r.f0 + 1).toNat).map fun i => ⟨(r.f0 + (i : Nat)) * 10 + (c - 48), (r.f0 + (i : Nat)) * 10 + (c - 48)⟩
def mskStep (c : Int) (out : List S100) : List S100 := out.flatMap (mskOne c)
def mskFold (l : List UInt8) : List S100 := l.foldl (fun out c => mskStep c.toNat out) [⟨0, 0⟩]
def maskSet (s : ByteArray) : List S100 := if maskSane s then mskFold s.data.toList else []
def mskLen : Nat → Nat
  | 0 => 1
  | k + 1 => mskLen k * 10 ^ k
def MskGood (k : Nat) (out : List S100) : Prop := (∀ r ∈ out, 0 ≤ r.f0 ∧ r.f0 ≤ r.f1 ∧ r.f1 < (10 ^ k : Nat)) ∧ out.length ≤ mskLen k
theorem flatMap_len {α β : Type} (f : α → List β) (M : Nat) (l : List α) (h : ∀ x ∈ l, (f x).length ≤ M) : (l.flatMap f).length ≤ l.length * M := by
  induction l with
  | nil => simp
  | cons x r ih =>
    have h1 := h x (by simp)
    have h2 := ih (fun y hy => h y (by simp [hy]))
    simp only [List.flatMap_cons, List.length_append, List.length_cons, Nat.add_mul]
    omega
theorem mskOne_len {c : Int} {r : S100} {M : Nat} (h : 0 ≤ r.f0 ∧ r.f0 ≤ r.f1 ∧ r.f1 < (M : Nat)) : (mskOne c r).length ≤ M := by
  unfold mskOne
  split
  · simp; omega
  · simp; omega
theorem mskGood_step {k : Nat} {out : List S100} {c : Int} (h : MskGood k out) (hc : (48 ≤ c ∧ c ≤ 57) ∨ c = 88) : MskGood (k + 1) (mskStep c out) := by
  refine ⟨fun r hr => ?_, ?_⟩
  · simp only [mskStep, List.mem_flatMap] at hr
    obtain ⟨q, hq, hr⟩ := hr
    obtain ⟨h0, h1, h2⟩ := h.1 q hq
    have e : ((10 ^ (k + 1) : Nat) : Int) = (10 ^ k : Nat) * 10 := by rw [Nat.pow_succ]; push_cast; rfl
    rw [e]
    generalize ((10 ^ k : Nat) : Int) = T at *
    unfold mskOne at hr
    split at hr
    · simp only [List.mem_singleton] at hr
      subst hr
      simp only
      omega
    · simp only [List.mem_map, List.mem_range] at hr
      obtain ⟨i, hi, rfl⟩ := hr
      simp only
      omega
  · have h2 := flatMap_len (mskOne c) (10 ^ k) out (fun r hr => mskOne_len (h.1 r hr))
    exact Nat.le_trans h2 (Nat.mul_le_mul_right _ h.2)
theorem mskGood_fold (l : List UInt8) (h : l.all (fun c => mkc c.toNat) = true) : MskGood l.length (mskFold l) := by
  suffices H : ∀ (l : List UInt8) (k : Nat) (out : List S100), MskGood k out → l.all (fun c => mkc c.toNat) = true → MskGood (k + l.length) (l.foldl (fun out c => mskStep c.toNat out) out) by
    have := H l 0 [⟨0, 0⟩] ⟨by simp, by simp [mskLen]⟩ h
    simpa [mskFold] using this
  intro l
  induction l with
  | nil => intro k out hg _; simpa using hg
  | cons c r ih =>
    intro k out hg hl
    simp only [List.all_cons, Bool.and_eq_true] at hl
    have := ih (k + 1) _ (mskGood_step (c := c.toNat) hg (by simpa [mkc] using hl.1)) hl.2
    rw [List.foldl_cons, List.length_cons, show k + (r.length + 1) = k + 1 + r.length from by omega]
    exact this
theorem mskLen_le {k : Nat} (h : k ≤ 4) : mskLen k ≤ 1000000 := by
  rcases k with _ | _ | _ | _ | _ | k <;> simp [mskLen] <;> omega
theorem mskFold_snoc (l : List UInt8) (c : UInt8) : mskFold (l ++ [c]) = mskStep c.toNat (mskFold l) := by simp [mskFold]
def mask_Set.f (a0 : ByteArray) : Option ((List (S100))) := some (maskSet a0)
set_option maxHeartbeats 8000000 in
theorem mask_Set.calls (a0 : ByteArray) (r : List (S100)) (w : World) (h : mask_Set.f a0 = some r) :
    Calls Try.prog 65 #[.string a0] w fun e w' => ∃ v0_ : Value, e = .returned (v0_) ∧ Kd.R k100 100 w' w.heap.size (fun _ => True) v0_ r ∧ Below w.heap.size w w' := by
  obtain rfl : maskSet a0 = r := Option.some.inj h
  clear h
  have HB := Aside0.mk (Below.refl w.heap.size w)
  cases hs : maskSane a0
  · have HS := Aside0.mk hs
    clear hs
    go_enter Try.func65, Try.ntmps65
    go_wp2_with (go_at_call 52; refine (mask_Sane.calls a0 false _ (by rw [mask_Sane.f, HS.out])).mono ?_; rintro e w1 ⟨rfl, hb⟩; have HB1 := Aside0.mk hb; clear hb)
    go_ret
    exact ⟨_, rfl, by rw [maskSet, HS.out]; exact Kd.R_nil _ _ _ _ _, HB1.out⟩
  · have HS := Aside0.mk hs
    clear hs
    go_enter Try.func65, Try.ntmps65
    go_wp2_with (go_at_call 52; refine (mask_Sane.calls a0 true _ (by rw [mask_Sane.f, HS.out])).mono ?_; rintro e w1 ⟨rfl, hb⟩; have HB1 := Aside0.mk hb; clear hb)
    have hall : a0.data.toList.all (fun c => mkc c.toNat) = true ∧ a0.size ≤ 4 := by
      have h := HS.out
      simp only [maskSane, Bool.and_eq_true, decide_eq_true_eq] at h
      exact ⟨h.1.1, h.2⟩
    have HALL := Aside0.mk hall.1
    have h4 := hall.2
    clear hall
    go_loopw [3] (fun v3 wr => ∃ pos : Nat, pos ≤ a0.size ∧ Aside0 (wr.heap[w1.heap.size + 1]? = some (.stringIter a0 pos)) ∧ Aside0 (Kd.R k100 100 wr w.heap.size (fun _ => True) v3 (mskFold (a0.data.toList.take pos))) ∧ Aside0 (Below w.heap.size w wr)) (fun _ wr => a0.size - wr.iterPos (w1.heap.size + 1))
    case atStart =>
      refine ⟨0, by omega, ⟨?_⟩, ⟨?_⟩, ⟨below_alloc (below_alloc HB1.out _) _⟩⟩
      · exact blk_new1 w1 _ _
      · exact Kd.R_alloc (one_lit w1 w.heap.size (x := (⟨0, 0⟩ : S100)) (k100_mkM _ _ _ _) HB1.out.size) _
    case round =>
      obtain ⟨pos, hpl, HI, HO, HBr⟩ := hrel
      have ipos : wr.iterPos (w1.heap.size + 1) = pos := by simp [World.iterPos, HI.out]
      have IPOS := Aside0.mk ipos
      clear ipos
      by_cases hp : pos < a0.size
      · obtain ⟨c, wd, hd, hw1, hm⟩ := decode_mask a0 pos hp
        have hmc : mkc (a0[pos]'hp).toNat = true := by
          have := List.all_eq_true.mp HALL.out (a0[pos]) (by simp [ByteArray.getElem_eq_getElem_data]); exact this
        have hcc : c = (a0[pos]'hp).toNat ∧ wd = 1 := by
          rcases hm with ⟨_, h2, _⟩ | ⟨h1, _⟩
          · refine ⟨?_, h2⟩
            have ha : (a0[pos]'hp).toNat < 128 := by have := of_decide_eq_true hmc; omega
            rw [decode_ascii a0 pos hp ha] at hd
            exact (congrArg Prod.fst hd).symm
          · rw [h1] at hmc; cases hmc
        obtain ⟨hc0, rfl⟩ := hcc
        have hc2 : (48 ≤ c ∧ c ≤ 57) ∨ c = 88 := by rw [hc0]; have := of_decide_eq_true hmc; omega
        have hnx : ∀ ty, (Instr.next (.pointer (some ⟨w1.heap.size + 1, 0, none⟩)) true ty).run Try.prog wr = .ok (.tuple #[.bool true, .int .i64 pos, .int .i32 c]) (setIter wr (w1.heap.size + 1) a0 (pos + 1)) := fun ty => by rw [run_next_iter wr _ a0 pos ty HI.out hp, hd]
        have hg : MskGood pos (mskFold (a0.data.toList.take pos)) := by
          have := mskGood_fold (a0.data.toList.take pos) (by rw [List.all_eq_true] at *; exact fun x hx => HALL.out x (List.mem_of_mem_take hx))
          rwa [List.length_take, Nat.min_eq_left (by simpa using hpl)] at this
        have hsn : mskFold (a0.data.toList.take (pos + 1)) = mskStep c (mskFold (a0.data.toList.take pos)) := by rw [bytes_take a0 pos hp, mskFold_snoc, hc0]
        clear hd hm hmc hc0
        obtain ⟨out, hout⟩ : ∃ o, o = mskFold (a0.data.toList.take pos) := ⟨_, rfl⟩
        rw [← hout] at hg hsn HO
        have HSN := Aside0.mk hsn
        have HG := Aside0.mk hg
        have hlen : out.length ≤ 1000000 := Nat.le_trans hg.2 (mskLen_le (by omega))
        clear hout hg hsn
        obtain ⟨A3, c3, e3⟩ := Kd.R_slice HO.out
        subst e3
        have HI2 : Aside0 ((setIter wr (w1.heap.size + 1) a0 (pos + 1)).heap[w1.heap.size + 1]? = some (.stringIter a0 (pos + 1))) := ⟨setIter_same wr a0 _ (blk_lt HI.out)⟩
        have HO2 : Aside0 (Kd.R k100 100 (setIter wr (w1.heap.size + 1) a0 (pos + 1)) w.heap.size (fun _ => True) (.slice A3 out.length c3) out) := ⟨Kd.R_grown1 HO.out rfl (setIter_grown wr _ a0 _) (by exact R_ne_iter HO.out HI.out)⟩
        have HB2 : Aside0 (Below w.heap.size w (setIter wr (w1.heap.size + 1) a0 (pos + 1))) := ⟨setIter_below HBr.out (by have := HB1.out.size; omega) a0 _⟩
        have HBW : Aside0 (w.heap.size ≤ w1.heap.size) := ⟨HB1.out.size⟩
        clear HI HO HBr
        go_wp2_with fail
        clear hnx
        generalize setIter wr (w1.heap.size + 1) a0 (pos + 1) = W0 at *
        go_loopw [6, 23] (fun v6 v23 wr2 => ∃ j : Nat, j ≤ out.length ∧ v23 = .int .i64 j ∧ Aside0 (wr2.heap[w1.heap.size + 1]? = some (.stringIter a0 (pos + 1))) ∧ Aside0 (Kd.R k100 100 wr2 w.heap.size (fun k_ => True ∧ some k_ ≠ v6.ownBlock) (.slice A3 out.length c3) out) ∧ Aside0 (Kd.R k100 100 wr2 w.heap.size (fun _ => True) v6 ((out.take j).flatMap (mskOne c))) ∧ Aside0 (Below w.heap.size w wr2)) (fun _ v23 _ => out.length - (intOf v23).toNat)
        case atStart => exact ⟨0, by omega, rfl, HI2, ⟨Kd.R_apart_nil HO2.out⟩, ⟨by simpa using Kd.R_nil _ _ _ _ _⟩, HB2⟩
        case round =>
          obtain ⟨j, hj, rfl, HI, HO, HN, HBr⟩ := hrel
          by_cases hlt : j < out.length
          · obtain ⟨ad, eA, x0, x1⟩ := at_T100 (Kd.R_reads' HO.out).2.2 (j : Int) (by omega) (by omega)
            cases eA
            simp only [Int.toNat_natCast] at x0 x1
            have er : rd_T100 out (j : Int) = out[j] := by simp [rd_T100, hlt]
            have hb3 : 0 ≤ (rd_T100 out (j : Int)).f0 ∧ (rd_T100 out (j : Int)).f0 ≤ (rd_T100 out (j : Int)).f1 ∧ (rd_T100 out (j : Int)).f1 < 1000 := by
              rw [er]
              obtain ⟨h0, h1, h2⟩ := HG.out.1 out[j] (List.getElem_mem hlt)
              refine ⟨h0, h1, Int.lt_of_lt_of_le h2 ?_⟩
              have : (10 ^ pos : Nat) ≤ 10 ^ 3 := Nat.pow_le_pow_right (by omega) (by omega)
              omega
            obtain ⟨hb0, hb1, hb2⟩ := hb3
            have hlj := flatMap_len (mskOne c) 1000 (out.take j) (fun r hr => mskOne_len (by
              obtain ⟨h0, h1, h2⟩ := HG.out.1 r (List.mem_of_mem_take hr)
              refine ⟨h0, h1, Int.lt_of_lt_of_le h2 ?_⟩
              have : (10 ^ pos : Nat) ≤ 10 ^ 3 := Nat.pow_le_pow_right (by omega) (by omega)
              omega))
            have HLJ : Aside0 (((out.take j).flatMap (mskOne c)).length ≤ 1000000000) := ⟨by have : (out.take j).length ≤ out.length := List.length_take_le' _ _; omega⟩
            clear hlj
            have HTS : Aside0 ((out.take (j + 1)).flatMap (mskOne c) = (out.take j).flatMap (mskOne c) ++ mskOne c (rd_T100 out (j : Int))) := ⟨by rw [er, List.take_succ_eq_append_getElem hlt, List.flatMap_append, List.flatMap_singleton]⟩
            clear er
            generalize rd_T100 out (j : Int) = q at *
            obtain ⟨q0, q1⟩ := q
            simp only at *
            obtain ⟨L, hL⟩ : ∃ L, L = (out.take j).flatMap (mskOne c) := ⟨_, rfl⟩
            rw [← hL] at HN HLJ HTS
            clear hL
            obtain ⟨N6, c6, e6⟩ := Kd.R_slice HN.out
            subst e6
            rcases hc2 with hc2 | hc2
            · have hx : ((c : Int) == 88) = false := by rw [beq_eq_false_iff_ne]; omega
              go_wp2_with fail
              have HK8 : Aside0 ((wr.alloc (.cells #[.int .i64 q0, .int .i64 q1] 100)).heap[wr.heap.size]? = some (.cells #[.int .i64 q0, .int .i64 q1] 100 (0, 0))) := ⟨blk_new _ _⟩
              have HI8 := Aside0.mk (blk_alloc HI.out (.cells #[.int .i64 q0, .int .i64 q1] 100))
              have HO8 := Aside0.mk (Kd.R_alloc HO.out (.cells #[.int .i64 q0, .int .i64 q1] 100))
              have HN8 := Aside0.mk (Kd.R_alloc HN.out (.cells #[.int .i64 q0, .int .i64 q1] 100))
              have HB8 := Aside0.mk (below_alloc HBr.out (.cells #[.int .i64 q0, .int .i64 q1] 100))
              have HE8 : Aside0 (some wr.heap.size ≠ (Value.slice N6 L.length c6).ownBlock) := ⟨fun he => by have := Kd.R_lt HN.out _ he.symm; omega⟩
              have HL8 : Aside0 (wr.heap.size < (wr.alloc (.cells #[.int .i64 q0, .int .i64 q1] 100)).heap.size) := ⟨by simp⟩
              generalize wr.alloc (.cells #[.int .i64 q0, .int .i64 q1] 100) = W8 at *
              generalize wr.heap.size = g8 at *
              go_loopw [6, 9] (fun v6 v9 w3 => ∃ i : Nat, (i : Int) ≤ q1 - q0 + 1 ∧ v9 = .int .i64 (q0 + i) ∧ Aside0 (w3.heap[g8]? = some (.cells #[.int .i64 q0, .int .i64 q1] 100 (0, 0))) ∧ Aside0 (some g8 ≠ v6.ownBlock) ∧ Aside0 (w3.heap[w1.heap.size + 1]? = some (.stringIter a0 (pos + 1))) ∧ Aside0 (Kd.R k100 100 w3 w.heap.size (fun k_ => True ∧ some k_ ≠ v6.ownBlock) (.slice (some ad) out.length c3) out) ∧ Aside0 (Kd.R k100 100 w3 w.heap.size (fun _ => True) v6 (L ++ (List.range i).map fun i => ⟨(q0 + (i : Nat)) * 10 + ((c : Int) - 48), (q0 + (i : Nat)) * 10 + ((c : Int) - 48)⟩)) ∧ Aside0 (Below w.heap.size w w3)) (fun _ v9 _ => (q1 + 1 - intOf v9).toNat)
              case atStart => exact ⟨0, by omega, by simp, HK8, HE8, HI8, HO8, ⟨by simpa using HN8.out⟩, HB8⟩
              case round =>
                obtain ⟨i, hi, rfl, HK3, HE3, HI3, HO3, HN3, HB3⟩ := hrel
                have hcell : wr.cell? ⟨g8, 1, none⟩ = some (.int .i64 q1) := blk_cell HK3.out 1
                by_cases hin : q0 + (i : Int) ≤ q1
                · obtain ⟨L3, hL3⟩ : ∃ L3, L3 = L ++ (List.range i).map fun i => (⟨(q0 + (i : Nat)) * 10 + ((c : Int) - 48), (q0 + (i : Nat)) * 10 + ((c : Int) - 48)⟩ : S100) := ⟨_, rfl⟩
                  rw [← hL3] at HN3
                  have HLL : Aside0 (L3.length ≤ 1000001000) := ⟨by rw [hL3]; have := HLJ.out; simp; omega⟩
                  have HL3 : Aside0 (L ++ (List.range (i + 1)).map (fun i => (⟨(q0 + (i : Nat)) * 10 + ((c : Int) - 48), (q0 + (i : Nat)) * 10 + ((c : Int) - 48)⟩ : S100)) = L3 ++ [⟨(q0 + i) * 10 + ((c : Int) - 48), (q0 + i) * 10 + ((c : Int) - 48)⟩]) := ⟨by rw [hL3, List.range_succ]; simp⟩
                  clear hL3
                  go_wp2_with ((with_reducible refine gate_builtin (b := .append) (xs := #[.tmp 54, .tmp 58]) rfl ?_); at_builtin; go_must (refine R_append_at k100 (w0 := w) w.heap.size rfl (.tmp 54) (.tmp 58) 96 100 (.agg #[(.int .i64 0), (.int .i64 0)]) 16 rfl Try.underlying96 infoRun rfl (by decide) (by omega) _ L3 (⟨(q0 + i) * 10 + ((c : Int) - 48), (q0 + i) * 10 + ((c : Int) - 48)⟩ : S100) [.int .i64 ((q0 + i) * 10 + ((c : Int) - 48)), .int .i64 ((q0 + i) * 10 + ((c : Int) - 48))] (fun _ => True) (fun _ => False) wr.heap.size rfl rfl rfl ?aP (fun _ hk => hk.elim) ?aF ?aO ?aB ?aS ?aL ?_; (case aP => exact k100_mkM _ _ _ (⟨(q0 + i) * 10 + ((c : Int) - 48), (q0 + i) * 10 + ((c : Int) - 48)⟩ : S100)); (case aF => exact fun _ _ => trivial); (case aO => exact HN3.out); (case aB => exact HB3.out); (case aS => exact HB3.out.size); (case aL => have := HLL.out; omega); intro v7 w7 ho hb hg hat; have HN7 := Aside0.mk ho; have HB7 := Aside0.mk hb; have HG7 := Aside0.mk hg; have HAT := Aside0.mk hat; clear ho hb hg hat))
                  go_roundw
                  case rel =>
                    refine ⟨i + 1, by omega, by congr 1; push_cast; omega, ⟨?_⟩, ⟨?_⟩, ⟨?_⟩, ⟨?_⟩, ⟨?_⟩, HB7⟩
                    · exact blk_grown HK3.out HG7.out HE3.out
                    · exact ne_new HE3.out (blk_lt HK3.out) HAT.out
                    · exact blk_grown HI3.out HG7.out (R_ne_iter HN3.out HI3.out)
                    · exact Kd.R_after HO3.out HG7.out HAT.out
                    · rw [HL3.out]; exact HN7.out
                  case measure => simp [intOf]; omega
                · go_wp2
                  have hie : (i : Int) = q1 - q0 + 1 := by omega
                  have HIE : Aside0 ((q1 - q0 + 1).toNat = i) := ⟨by omega⟩
                  have HX := Aside0.mk hx
                  clear hx hie
                  go_roundw
                  case rel =>
                    refine ⟨j + 1, by omega, by go_num, HI3, HO3, ⟨?_⟩, HB3⟩
                    rw [HTS.out, mskOne, if_neg (by simpa using HX.out)]; simp only [HIE.out]; exact HN3.out
                  case measure => simp [intOf]; omega
            · have hx : ((c : Int) == 88) = true := by rw [beq_iff_eq]; omega
              have HC := Aside0.mk hc2
              clear hc2
              go_wp2_with ((with_reducible refine gate_builtin (b := .append) (xs := #[.tmp 29, .tmp 38]) rfl ?_); at_builtin; go_must (refine R_append_at k100 (w0 := w) w.heap.size rfl (.tmp 29) (.tmp 38) 96 100 (.agg #[(.int .i64 0), (.int .i64 0)]) 16 rfl Try.underlying96 infoRun rfl (by decide) (by omega) (.slice N6 L.length c6) L (⟨q0 * 10, q1 * 10 + 9⟩ : S100) [.int .i64 (q0 * 10), .int .i64 (q1 * 10 + 9)] (fun _ => True) (fun _ => False) (wr.heap.size + 1) rfl rfl ?aN ?aP (fun _ hk => hk.elim) ?aF ?aO ?aB ?aS ?aL ?_; (case aN => simp); (case aP => exact k100_mkM _ _ _ (⟨q0 * 10, q1 * 10 + 9⟩ : S100)); (case aF => exact fun _ _ => trivial); (case aO => exact Kd.R_alloc HN.out _); (case aB => exact below_alloc HBr.out _); (case aS => exact (below_alloc HBr.out _).size); (case aL => have := HLJ.out; omega); intro v7 w7 ho hb hg hat; have HN7 := Aside0.mk ho; have HB7 := Aside0.mk hb; have HG7 := Aside0.mk hg; have HAT := Aside0.mk hat; clear ho hb hg hat))
              go_roundw
              case rel =>
                refine ⟨j + 1, by omega, by go_num, ⟨?_⟩, ⟨?_⟩, ⟨?_⟩, HB7⟩
                · exact blk_grown (blk_alloc HI.out _) HG7.out (R_ne_iter HN.out HI.out)
                · exact Kd.R_after (Kd.R_alloc HO.out _) HG7.out HAT.out
                · rw [HTS.out, mskOne, if_pos (by rw [HC.out]; rfl)]; exact HN7.out
              case measure => simp [intOf]; omega
          · go_wp2
            have hje : j = out.length := by omega
            subst hje
            go_roundw
            case rel => exact ⟨pos + 1, by omega, HI, ⟨by rw [HSN.out, mskStep]; simpa using HN.out⟩, HBr⟩
            case measure => rw [IPOS.out]; simp [World.iterPos, HI.out]; omega
      · have hnx : ∀ ty, (Instr.next (.pointer (some ⟨w1.heap.size + 1, 0, none⟩)) true ty).run Try.prog wr = _ := fun ty => run_next_iter_end wr _ a0 pos ty HI.out hp
        go_wp2
        go_ret
        have hpe : pos = a0.size := by omega
        subst hpe
        exact ⟨_, rfl, by rw [maskSet, if_pos HS.out]; have h := HO.out; rwa [List.take_of_length_le (by simp)] at h, HBr.out⟩
def rSaneFrom (last : Int) : List S100 → Bool
  | [] => true
  | r :: rs => decide (r.f0 ≤ r.f1) && (decide (last + 2 ≤ r.f0) && (decide (r.f1 ≤ 1099511627776) && rSaneFrom r.f1 rs))
def rSane (l : List S100) : Bool := rSaneFrom (-1099511627778) l
theorem rSane_drop (v : Int) (l : List S100) (j : Nat) (h : j < l.length) : rSaneFrom v (l.drop j) = (decide ((rd_T100 l (j : Int)).f0 ≤ (rd_T100 l (j : Int)).f1) && (decide (v + 2 ≤ (rd_T100 l (j : Int)).f0) && (decide ((rd_T100 l (j : Int)).f1 ≤ 1099511627776) && rSaneFrom (rd_T100 l (j : Int)).f1 (l.drop (j + 1))))) := by
  have er : rd_T100 l (j : Int) = l[j] := by simp [rd_T100, h]
  rw [er, List.drop_eq_getElem_cons h, rSaneFrom]
def runs_Sane.f (l0 : List (S100)) : Option (Bool) := some (rSane l0)
set_option maxHeartbeats 4000000 in
theorem runs_Sane.calls (A0 : Option Addr) (c0 : Nat) (l0 : List (S100)) (r : Bool) (w : World) (hr0 : Kd.C k100 w A0 l0.length l0) (hc0 : l0.length ≤ c0) (h : runs_Sane.f l0 = some r) :
    Calls Try.prog 74 #[.slice A0 l0.length c0] w fun e w' => e = .returned (.bool r) ∧ Below w.heap.size w w' := by
  obtain rfl : rSane l0 = r := Option.some.inj h
  clear h
  have HR := Aside0.mk hr0
  have hmx : l0.length ≤ 9223372036854775807 := hr0.2.1
  clear hr0
  go_enter Try.func74, Try.ntmps74
  go_wp2_with fail
  go_loopw [3, 8] (fun v3 v8 wr => ∃ (v : Int) (j : Nat), j ≤ l0.length ∧ v3 = .int .i64 v ∧ v8 = .int .i64 j ∧ -2199023255552 ≤ v ∧ v ≤ 2199023255552 ∧ Aside0 (rSaneFrom v (l0.drop j) = rSane l0) ∧ Aside0 (Below w.heap.size w wr)) (fun _ v8 _ => l0.length - (intOf v8).toNat)
  case atStart => exact ⟨_, 0, by omega, rfl, rfl, by omega, by omega, ⟨rfl⟩, ⟨Below.refl _ _⟩⟩
  case round =>
    obtain ⟨v, j, hj, rfl, rfl, hv0, hv1, HS, HB⟩ := hrel
    by_cases hlt : j < l0.length
    · obtain ⟨ad, eA, x0, x1⟩ := at_T100 HR.out (j : Int) (by omega) (by omega)
      cases eA
      replace x0 := pw_cell_below HB.out x0
      replace x1 := pw_cell_below HB.out x1
      simp only [Int.toNat_natCast] at x0 x1
      have hd := rSane_drop v l0 j hlt
      rw [HS.out] at hd
      have HD := Aside0.mk hd
      clear hd
      generalize rd_T100 l0 (j : Int) = q at *
      obtain ⟨q0, q1⟩ := q
      simp only at *
      by_cases c1 : q0 ≤ q1
      · by_cases c2 : v + 2 ≤ q0
        · by_cases c3 : q1 ≤ 1099511627776
          · go_wp2
            go_roundw
            case rel => exact ⟨q1, j + 1, by omega, rfl, by go_num, by omega, by omega, ⟨by rw [HD.out]; simp [c1, c2, c3]⟩, ⟨below_alloc HB.out _⟩⟩
            case measure => simp [intOf]; omega
          · go_wp2
            go_ret
            exact ⟨by rw [HD.out]; simp; intros; omega, below_alloc HB.out _⟩
        · go_wp2
          go_ret
          exact ⟨by rw [HD.out]; simp; intros; omega, below_alloc HB.out _⟩
      · go_wp2
        go_ret
        exact ⟨by rw [HD.out]; simp; intros; omega, below_alloc HB.out _⟩
    · go_wp2
      go_ret
      have hje : j = l0.length := by omega
      exact ⟨by rw [← HS.out, hje, List.drop_length]; rfl, HB.out⟩
def runs_Make.f (l0 : List (S100)) : Option ((List (S100))) := none
theorem runs_Make.calls (A0 : Option Addr) (c0 : Nat) (l0 : List (S100)) (r : List (S100)) (w : World) (hr0 : Kd.C k100 w A0 l0.length l0) (hc0 : l0.length ≤ c0) (h : runs_Make.f l0 = some r) :
    Calls Try.prog 75 #[.slice A0 l0.length c0] w fun e w' => ∃ v0_ : Value, e = .returned (v0_) ∧ Kd.R k100 100 w' w.heap.size (fun _ => True) v0_ r ∧ Below w.heap.size w w' := by
  cases h
def sets_known.f (l0 : List (S100)) : Option ((List (S100))) := (runs_Sane.f l0).bind fun t114 => (if t114 = true then (some l0) else ((runs_Make.f l0).bind fun t115 => (some t115)))
set_option maxHeartbeats 8000000 in
set_option maxRecDepth 100000 in
theorem sets_known.calls (P0_ : Nat → Prop) (A0 : Option Addr) (c0 : Nat) (l0 : List (S100)) (r : List (S100)) (w : World) (hs0 : Kd.V k100 100 w w.heap.size (fun k_ => P0_ k_) (.slice A0 l0.length c0) l0) (h : sets_known.f l0 = some r) :
    Calls Try.prog 71 #[.slice A0 l0.length c0] w fun e w' => ∃ v0_ : Value, e = .returned (v0_) ∧ Kd.V k100 100 w' w.heap.size (fun k_ => (P0_ k_ ∨ w.heap.size ≤ k_)) v0_ r ∧ Below w.heap.size w w' := by
  have HO0 := Aside0.mk (show Kd.V k100 100 w w.heap.size (fun k_ => (P0_ k_ ∨ w.heap.size ≤ k_)) (.slice A0 l0.length c0) l0 from Kd.V_mono hs0 (fun k_ hk => .inl hk))
  have HB := Aside0.mk (Below.refl w.heap.size w)
  have H : ((runs_Sane.f l0).bind fun t114 => (if t114 = true then (some l0) else ((runs_Make.f l0).bind fun t115 => (some t115)))) = some r := h
  clear h
  replace H := Option.bind_eq_some_iff.mp H
  obtain ⟨t114, A20, H⟩ := H
  replace H : (if t114 = true then (some l0) else ((runs_Make.f l0).bind fun t115 => (some t115))) = some r := H
  have A2 := Aside0.mk A20
  clear A20
  by_cases c3 : t114 = true
  · subst c3
    have H1 : (some l0) = some r := by rw [if_pos rfl] at H; exact H
    clear H
    have H := H1
    clear H1
    obtain rfl := Option.some.inj H
    go_enter Try.func71, Try.ntmps71
    go_wp2_with (first | ((with_reducible refine gate_callee (f := 74) rfl ?_); refine goesL_ (some 4) rfl rfl Try.func74 (by kernel_rfl) rfl #[.slice A0 l0.length c0] rfl (by (try simp only [List.map_toArray, List.map_cons, List.map_nil]); first | done | rfl | (simp only [List.length_drop, List.length_take]; rfl)) ?_; (with_reducible refine (runs_Sane.calls _ _ l0 true _ ?side1 ?side2 A2.out).mono ?_); (case side1 => repeat (first | exact (Kd.V_reads' HO0.out).2.2 | (with_reducible refine Kd.C_alloc ?_ _) | (with_reducible refine Kd.C_drewN ?_ _) | (with_reducible refine Kd.C_drew ?_))); (case side2 => exact (Kd.V_reads' HO0.out).2.1); rintro e w4 ⟨rfl, hb⟩; refine ⟨_, rfl, ?_⟩; have n0_ := Aside0.mk (Kd.V_below (by (with_reducible repeat (first | apply Kd.V_alloc | apply Kd.V_drewN | apply Kd.V_drew)); exact HO0.out) hb); have n1_ := Aside0.mk (below_step (by repeat (first | (with_reducible first | exact HB.out | apply below_alloc | apply pw_below_drewN | apply below_drew1) | exact HB.out)) hb); clear HO0; clear HB; have HO0 := n0_; have HB := n1_; clear n0_ n1_; (try clear hb); (try clear hb2); (try clear hk); (try clear hi)))
    go_ret
    exact ⟨_, by first | rfl | (simp [errW_none, errW_some] <;> rfl) | (simp [*, errW_none, errW_some] <;> rfl), by (with_reducible repeat (first | apply Kd.V_alloc | apply Kd.V_drewN | apply Kd.V_drew)); exact HO0.out, by repeat (first | (with_reducible first | exact HB.out | apply below_alloc | apply pw_below_drewN | apply below_drew1) | exact HB.out)⟩
  · replace c3 := Bool.eq_false_iff.mpr c3
    subst c3
    have H1 : ((runs_Make.f l0).bind fun t115 => (some t115)) = some r := by rw [if_neg (show ¬ (false = true) by decide)] at H; exact H
    clear H
    have H := H1
    clear H1
    replace H := Option.bind_eq_some_iff.mp H
    obtain ⟨t115, A50, H⟩ := H
    replace H : (some t115) = some r := H
    have A5 := Aside0.mk A50
    clear A50
    obtain rfl := Option.some.inj H
    go_enter Try.func71, Try.ntmps71
    go_wp2_with (first | ((with_reducible refine gate_callee (f := 74) rfl ?_); refine goesL_ (some 4) rfl rfl Try.func74 (by kernel_rfl) rfl #[.slice A0 l0.length c0] rfl (by (try simp only [List.map_toArray, List.map_cons, List.map_nil]); first | done | rfl | (simp only [List.length_drop, List.length_take]; rfl)) ?_; (with_reducible refine (runs_Sane.calls _ _ l0 false _ ?side1 ?side2 A2.out).mono ?_); (case side1 => repeat (first | exact (Kd.V_reads' HO0.out).2.2 | (with_reducible refine Kd.C_alloc ?_ _) | (with_reducible refine Kd.C_drewN ?_ _) | (with_reducible refine Kd.C_drew ?_))); (case side2 => exact (Kd.V_reads' HO0.out).2.1); rintro e w6 ⟨rfl, hb⟩; refine ⟨_, rfl, ?_⟩; have n0_ := Aside0.mk (Kd.V_below (by (with_reducible repeat (first | apply Kd.V_alloc | apply Kd.V_drewN | apply Kd.V_drew)); exact HO0.out) hb); have n1_ := Aside0.mk (below_step (by repeat (first | (with_reducible first | exact HB.out | apply below_alloc | apply pw_below_drewN | apply below_drew1) | exact HB.out)) hb); clear HO0; clear HB; have HO0 := n0_; have HB := n1_; clear n0_ n1_; (try clear hb); (try clear hb2); (try clear hk); (try clear hi)) | ((with_reducible refine gate_callee (f := 75) rfl ?_); refine goesL_ (some 7) rfl rfl Try.func75 (by kernel_rfl) rfl #[.slice A0 l0.length c0] rfl (by (try simp only [List.map_toArray, List.map_cons, List.map_nil]); first | done | rfl | (simp only [List.length_drop, List.length_take]; rfl)) ?_; (with_reducible refine (runs_Make.calls _ _ l0 t115 _ ?side1 ?side2 A5.out).mono ?_); (case side1 => repeat (first | exact (Kd.V_reads' HO0.out).2.2 | (with_reducible refine Kd.C_alloc ?_ _) | (with_reducible refine Kd.C_drewN ?_ _) | (with_reducible refine Kd.C_drew ?_))); (case side2 => exact (Kd.V_reads' HO0.out).2.1); rintro e w7 ⟨v116, rfl, ho0, hb⟩; refine ⟨_, rfl, ?_⟩; have n0_ := Aside0.mk (Kd.V_elder' (by (with_reducible repeat (first | apply Kd.V_alloc | apply Kd.V_drewN | apply Kd.V_drew)); exact HO0.out) (Kd.R_base ho0) hb); have n1_ := Aside0.mk (Kd.R_lower (Kd.R_newM (M := fun k_ => (w.heap.size ≤ k_)) ho0 (below_size (by repeat (first | (with_reducible first | exact HB.out | apply below_alloc | apply pw_below_drewN | apply below_drew1) | exact HB.out))) (fun k_ h_ => h_)) (below_size (by repeat (first | (with_reducible first | exact HB.out | apply below_alloc | apply pw_below_drewN | apply below_drew1) | exact HB.out)))); have n2_ := Aside0.mk (below_step (by repeat (first | (with_reducible first | exact HB.out | apply below_alloc | apply pw_below_drewN | apply below_drew1) | exact HB.out)) hb); clear HO0; clear HB; have HO0 := n0_; have HO117 := n1_; have HB := n2_; clear n0_ n1_ n2_; (try clear hb); (try clear hb2); (try clear hk); (try clear hi); (try clear ho0)))
    go_ret
    exact ⟨_, by first | rfl | (simp [errW_none, errW_some] <;> rfl) | (simp [*, errW_none, errW_some] <;> rfl), Kd.V_mono (Kd.R_V (by (with_reducible repeat (first | apply Kd.R_alloc | apply Kd.R_drewN | apply Kd.R_drew)); exact Kd.R_mono HO117.out (fun _ hk => hk.1))) (fun k_ hk => by first | exact ⟨(.inr (hk.1)), hk.2⟩ | exact (.inr (hk))), by repeat (first | (with_reducible first | exact HB.out | apply below_alloc | apply pw_below_drewN | apply below_drew1) | exact HB.out)⟩
end Go.Proofs.Ytchodmjleceooaa.V
