import Derived.Test.YtchodmjleceooaaV0
namespace Go.Proofs.Ytchodmjleceooaa.V
open Go.RowKit Go.Proofs.YtchodmjleceooaaW.PrintWords Go.Proofs.YtchodmjleceooaaW.PrintLast Go.Proofs.YtchodmjleceooaaW.PrintMore
attribute [local go_sem] max2_int min2_int max_two min_two max_three min_three max_four min_four
set_option linter.unusedVariables false
set_option linter.unusedSimpArgs false
theorem below_alloc' {B : Nat} {w W : World} (h : Below B w W) (hB : B ≤ W.heap.size) (o : Obj) : Below B w (W.alloc o) := h.alloc hB o
theorem blk_new1 (w : World) (o1 o2 : Obj) : ((w.alloc o1).alloc o2).heap[w.heap.size + 1]? = some o2 := by simpa using blk_new (w.alloc o1) o2
theorem blk_new2 (w : World) (o1 o2 o3 : Obj) : (((w.alloc o1).alloc o2).alloc o3).heap[w.heap.size + 1 + 1]? = some o3 := by simpa using blk_new ((w.alloc o1).alloc o2) o3
theorem one_lit {α : Type} {d : Kd α} {e : Nat} (W : World) (base : Nat) {x : α} {cs : List Value} (hp : d.M W base (fun _ => True) x cs) (hb : base ≤ W.heap.size) :
    d.R e (W.alloc (.cells cs.toArray e)) base (fun _ => True) (.slice (some ⟨W.heap.size, 0, none⟩) 1 1) [x] := by
  have hl := d.K_len (d.K_of_M hp)
  have hr : Reps (d.M W base (fun _ => True)) d.sz [x] cs := ⟨by simpa using hl, fun j q hq => by
    cases j with
    | zero => simp at hq; subst hq; simpa [← hl] using hp
    | succ j => simp at hq⟩
  have ho := OwnRow.lit (e := e) W base hr hb (by simp)
  have hb2 := hb
  refine ⟨fun _ _ => trivial, ho.imp_ (fun q c hq => ?_)⟩
  have h1 := d.M_move (w1 := W.alloc (.cells cs.toArray e)) (fun k hk => Below.heap_alloc W _ k hk.2.2.1) (d.M_bound hq)
  exact d.M_mono (fun k hk => ⟨trivial, fun he => by have := hk.2.2.1; simp [Value.ownBlock] at he; omega⟩) h1
theorem R_ne_iter {α : Type} {d : Kd α} {e base : Nat} {w : World} {ok : Nat → Prop} {v : Value} {xs : List α} {b : Nat} {s : ByteArray} {p : Nat} (h : d.R e w base ok v xs) (hb : w.heap[b]? = some (.stringIter s p)) : some b ≠ v.ownBlock := by
  intro he
  obtain ⟨c, hc⟩ := Kd.R_typed h b he.symm
  rw [hb] at hc
  cases hc
theorem ne_new {v v1 : Value} {W : World} {g : Nat} (h : some g ≠ v.ownBlock) (hg : g < W.heap.size) (hat : v1.ownBlock = v.ownBlock ∨ ∃ b, v1.ownBlock = some b ∧ W.heap.size ≤ b) : some g ≠ v1.ownBlock := by
  rcases hat with e | ⟨b, e, hb⟩
  · rw [e]; exact h
  · rw [e]; intro he; injection he; omega
section
variable {P : Program} {ops : Array Oper} {rest : List Oper} {o : Oper} {a : Act} {Q : Exit → Act → World → Prop} {α : Type}
theorem R_append_at (d : Kd α) {w0 W : World} (base : Nat) (hgd : o.guard = none) (s x : Operand) (t e : TypeId) (z : Value) (bytes : Nat)
    (ho : o.op = .call { callee := .builtin .append, args := #[s, x], argTypes := #[t, t] })
    (ht : P.underlying t = some (.slice e)) (hinfo : (P.info? e).map (fun i => (i.zero, i.size, i.bytes)) = some (some z, d.sz, bytes)) (hz : z.cells.size = d.sz) (hs0 : 0 < d.sz) (hb0 : 0 < bytes)
    (v : Value) (xs : List α) (p : α) (cs : List Value) (ok okp : Nat → Prop) (n : Nat) (hs : a.eval s = v) (hx : a.eval x = .slice (some ⟨n, 0, none⟩) 1 1) (hn : n = W.heap.size) (hp : d.M W base okp p cs) (hokp : ∀ k, okp k → ok k ∧ some k ≠ v.ownBlock) (hfresh : ∀ k, W.heap.size ≤ k → ok k)
    (HO : d.R e W base ok v xs) (HB : Below base w0 W) (hbase : base ≤ W.heap.size) (hl : (xs.length + 1) * bytes ≤ 140737488355328)
    (h : ∀ v1 w1, d.R e w1 base ok v1 (xs ++ [p]) → Below base w0 w1 → W.grownBy w1 v.ownBlock → (v1.ownBlock = v.ownBlock ∨ ∃ b, v1.ownBlock = some b ∧ W.heap.size ≤ b) → wpList P ops Q rest (a.put o.dst v1) w1) :
    wpList P ops Q (o :: rest) a (W.alloc (.cells cs.toArray e)) := by
  subst hn
  exact Kd.R_append d base hgd s x t e z bytes ho ht hinfo hz hs0 hb0 v xs p cs ok okp hs hx hp hokp hfresh HO HB hbase hl h
end
theorem ebool {a b : Bool} (h : a = b) : Ending.returned (.bool a) = Ending.returned (.bool b) := by rw [h]
theorem eint {k : IntKind} {a b : Int} (h : a = b) : Ending.returned (.int k a) = Ending.returned (.int k b) := by rw [h]
theorem estr {a b : ByteArray} (h : a = b) : Ending.returned (.string a) = Ending.returned (.string b) := by rw [h]
theorem ext_list (s : ByteArray) (a b : Nat) : (s.extract a b).data.toList = (s.data.toList.drop a).take (b - a) := by
  simp [ByteArray.data_extract]
theorem ext_mk (s : ByteArray) (a n : Nat) : s.extract a (a + n) = ⟨((s.data.toList.drop a).take n).toArray⟩ := by
  apply ByteArray.ext
  rw [← Array.toList_inj, ext_list]
  simp
theorem ext_drop (s : ByteArray) (a : Nat) : (s.extract a s.size).data.toList = s.data.toList.drop a := by
  rw [ext_list, List.take_of_length_le]
  rw [List.length_drop, Array.length_toList]
  exact Nat.le_refl _
section
open Go.Maps
theorem wpList_insert_own {H : Type} {P : Program} (w : World) {ops : Array Oper} {rest : List Oper} {o : Oper} {a : Act} {Q : Exit → Act → World → Prop}
    (hg : o.guard = none) (m x v : Operand) (t : TypeId) (hop : o.op = Op.insert t m x v)
    (k e : TypeId) (K : Keyed P k) (ht : P.underlying t = some (.map k e)) (R : Value → Option (DataW H × List MemPlace)) (b n : Nat) (D : DataW H)
    (hm : a.eval m = .map (some b)) (hown : w.ownsMap P k R b n D) (hn : n < maxLen) (key val : Value) (kl : Lit) (hx : a.eval x = key) (hv : a.eval v = val) (hkey : keyOf P k key = some kl)
    (d : DataW H) (ps : List MemPlace) (hval : R val = some (d, ps))
    (hK : ∀ w', w'.ownsMap P k R b (n + 1) (D.put kl d) → w.grownBy w' (some b) → wpList P ops Q rest (a.put o.dst undef) w') :
    wpList P ops Q (o :: rest) a w := by
  refine wpList_plain hg fun K' hK' => ?_
  obtain ⟨w', hrun, r1, r2⟩ := hown.update K ht hn hkey hval
  unfold Oper.wp
  simp [execOp, hop, hm, hx, hv, hrun, Result.andThen]
  exact hK' _ _ (hK w' r1 r2)
def signTab : DataW Unit := (((((((DataW.map ([] : List (Lit × DataW Unit))).put (.int .u8 47) (.lit (.int .i64 1))).put (.int .u8 42) (.lit (.int .i64 3))).put (.int .u8 91) (.lit (.int .i64 4))).put (.int .u8 93) (.lit (.int .i64 5))).put (.int .u8 44) (.lit (.int .i64 6))).put (.int .u8 63) (.lit (.int .i64 7))).put (.int .u8 126) (.lit (.int .i64 8))
def sgn (b : UInt8) : Option Int :=
  if b = 47 then some 1 else if b = 42 then some 3 else if b = 91 then some 4 else if b = 93 then some 5 else if b = 44 then some 6 else if b = 63 then some 7 else if b = 126 then some 8 else none
def ival : DataW Unit → Int
  | .lit (.int _ a) => a
  | _ => 0
theorem signTab_has (b : UInt8) : Maps.has signTab (.int .u8 b.toNat) = (sgn b).isSome := by
  have h : ∀ b : Fin 256, Maps.has signTab (.int .u8 (b.val : Int)) = (sgn (UInt8.ofNat b.val)).isSome := by decide +kernel
  have := h ⟨b.toNat, b.toNat_lt⟩
  simpa using this
theorem signTab_at (b : UInt8) : ival (signTab.atKey (.int .u8 b.toNat) (.lit (.int .i64 0))) = (sgn b).getD 0 := by
  have h : ∀ b : Fin 256, ival (signTab.atKey (.int .u8 (b.val : Int)) (.lit (.int .i64 0))) = (sgn (UInt8.ofNat b.val)).getD 0 := by decide +kernel
  have := h ⟨b.toNat, b.toNat_lt⟩
  simpa using this
theorem wf_u8 (b : UInt8) : (Lit.int .u8 (b.toNat : Int)).wf = true := by
  have h : ∀ b : Fin 256, (Lit.int .u8 (b.val : Int)).wf = true := by decide +kernel
  exact h ⟨b.toNat, b.toNat_lt⟩
set_option maxRecDepth 100000 in
theorem signs_calls (w : World) : Calls Try.prog 21 #[] w fun e w' => e = .returned (.map (some w.heap.size)) ∧ w'.ownsMap Try.prog 5 (plainElem (H := Unit) Try.prog 3) w.heap.size 7 signTab ∧ Below w.heap.size w w' := by
  have hmm := @run_makeMap Try.prog
  have HM := Aside0.mk (World.ownsMap_made w Try.prog 5 (plainElem (H := Unit) Try.prog 3))
  have HB := Aside0.mk (below_alloc (Below.refl w.heap.size w) (.map #[] 0))
  go_enter Try.func21, Try.ntmps21
  go_wp2_with (refine wpList_insert_own _ rfl _ _ _ 56 rfl 5 3 (int_keyed Try.underlying5) Try.underlying56 (plainElem (H := Unit) Try.prog 3) w.heap.size _ _ rfl HM.out (by unfold maxLen; omega) _ _ _ rfl rfl (keyOf_int_mk Try.underlying5 (by decide)) _ [] (plainElem_int Try.underlying3 (by decide)) ?_; intro w1 hown1 hgrow1; have HM := Aside0.mk hown1; have HB := Aside0.mk (HB.out.grown hgrow1 HB.out.size (fun j hj => by cases hj; exact Nat.le_refl _)); clear hown1 hgrow1)
  go_ret
  exact ⟨rfl, HM.out, HB.out⟩
end
def strings_IndexByte.f (a0 : ByteArray) (a1 : Int) : Option (Int) := some (Lib.indexByte a0.data.toList a1.toNat.toUInt8)
theorem strings_IndexByte.calls (a0 : ByteArray) (a1 : Int) (r : Int) (w : World) (h : strings_IndexByte.f a0 a1 = some r) :
    Calls Try.prog 33 #[.string a0, .int .u8 a1] w fun e w' => e = .returned (.int .i64 r) ∧ Below w.heap.size w w' := by
  obtain rfl := Option.some.inj h
  refine (Try.strings_IndexByte a0 a1 w).mono ?_
  rintro e w' ⟨rfl, rfl⟩
  exact ⟨rfl, Below.refl _ _⟩
def lexLet (b : UInt8) : Bool := ([48, 49, 50, 51, 52, 53, 54, 55, 56, 57, 88, 45, 115, 100, 99] : List UInt8).contains b
def wordLen : List UInt8 → Nat
  | [] => 0
  | b :: r => if lexLet b then wordLen r + 1 else 0
theorem lexLet_index (b : UInt8) : decide (Lib.indexByte [48, 49, 50, 51, 52, 53, 54, 55, 56, 57, 88, 45, 115, 100, 99] b ≥ 0) = lexLet b := (Lib.contains_iff_indexByte _ b).symm
def lex_word.f (a0 : ByteArray) : Option (Int) := if a0.size < 1000000000 then some (wordLen a0.data.toList : Int) else none
set_option maxRecDepth 100000 in
theorem lex_word.calls (a0 : ByteArray) (r : Int) (w : World) (h : lex_word.f a0 = some r) :
    Calls Try.prog 22 #[.string a0] w fun e w' => e = .returned (.int .i64 r) ∧ Below w.heap.size w w' := by
  have hsz : a0.size < 1000000000 := by
    rcases Nat.lt_or_ge a0.size 1000000000 with hn | hn
    · exact hn
    · have h2 : (if a0.size < 1000000000 then some (wordLen a0.data.toList : Int) else none) = some r := h
      rw [if_neg (by omega)] at h2
      cases h2
  obtain rfl : (wordLen a0.data.toList : Int) = r := by
    have h2 : (if a0.size < 1000000000 then some (wordLen a0.data.toList : Int) else none) = some r := h
    rw [if_pos hsz] at h2
    exact Option.some.inj h2
  clear h
  go_enter Try.func22, Try.ntmps22
  go_wp2_with fail
  go_loopw [3] (fun v3 wr => ∃ j : Nat, j ≤ a0.size ∧ v3 = .int .i64 j ∧ Aside0 (wordLen (a0.data.toList.drop j) + j = wordLen a0.data.toList) ∧ Aside0 (Below w.heap.size w wr)) (fun v3 _ => a0.size - (intOf v3).toNat)
  case atStart => exact ⟨0, by omega, rfl, ⟨rfl⟩, ⟨Below.refl _ _⟩⟩
  case round =>
    as_aux_lemma =>
    obtain ⟨j, hj, rfl, HE, HB⟩ := hrel
    by_cases hlt : j < a0.size
    · have hl : j < a0.data.toList.length := by simpa using hlt
      have HX : Aside0 (wordLen a0.data.toList = (if lexLet a0[j] then wordLen (a0.data.toList.drop (j + 1)) + 1 else 0) + j) := ⟨by rw [← HE.out, List.drop_eq_getElem_cons hl, wordLen]; rfl⟩
      have hc := lexLet_index a0[j]
      have e1 : (((a0[j].toNat : Nat) : Int)).toNat.toUInt8 = a0[j] := by simp
      cases hb : lexLet a0[j]
      all_goals
        have HQ := Aside0.mk hb
        rw [hb] at hc
        go_wp2_with (go_at_call 33; refine (Try.strings_IndexByte _ _ _).mono ?_; go_loud (rw [e1]; rintro e w1 ⟨rfl, rfl⟩))
      · go_ret
        exact ⟨by rw [HX.out, HQ.out]; simp, HB.out⟩
      · go_roundw
        case rel => exact ⟨j + 1, by omega, by go_num, ⟨by rw [HX.out, HQ.out]; simp; omega⟩, HB⟩
        case measure => simp [intOf]; omega
    · go_wp2_with fail
      go_ret
      have hje : j = a0.size := by omega
      have h := HE.out
      rw [hje, List.drop_of_length_le (by simp), wordLen] at h
      exact ⟨by rw [← h, hje]; simp, HB.out⟩
def stringslite_HasPrefix.f (a0 : ByteArray) (a1 : ByteArray) : Option (Bool) := if (a0.size : Int) ≥ (a1.size : Int) then (if 0 ≤ (a1.size : Int) then (if (a1.size : Int) ≤ (a0.size : Int) then (some ((a0.extract 0 ((a1.size : Int) : Int).toNat).toList == a1.toList)) else (none)) else (none)) else (some false)
set_option maxHeartbeats 8000000 in
set_option maxRecDepth 100000 in
theorem stringslite_HasPrefix.calls (a0 : ByteArray) (a1 : ByteArray) (r : Bool) (w : World) (h : stringslite_HasPrefix.f a0 a1 = some r) :
    Calls Try.prog 34 #[.string a0, .string a1] w fun e w' => e = .returned (.bool r) ∧ Drawn0 w w' := by
  have H : (if (a0.size : Int) ≥ (a1.size : Int) then (if 0 ≤ (a1.size : Int) then (if (a1.size : Int) ≤ (a0.size : Int) then (some ((a0.extract 0 ((a1.size : Int) : Int).toNat).toList == a1.toList)) else (none)) else (none)) else (some false)) = some r := h
  clear h
  by_cases c3 : (a0.size : Int) ≥ (a1.size : Int)
  · rw [if_pos c3] at H
    have c3b0 : decide ((a1.size : Int) ≤ (a0.size : Int)) = true := decide_eq_true c3
    have c3b1 : decide (a1.size ≤ a0.size) = true := decide_eq_true (Int.ofNat_le.mp c3)
    clear c3
    by_cases c4 : 0 ≤ (a1.size : Int)
    · rw [if_pos c4] at H
      have c4b0 := eq_true c4
      have c4b1 : decide (0 ≤ (a1.size : Int)) = true := decide_eq_true c4
      clear c4
      by_cases c5 : (a1.size : Int) ≤ (a0.size : Int)
      · rw [if_pos c5] at H
        have c5b0 := eq_true c5
        have c5b1 : decide ((a1.size : Int) ≤ (a0.size : Int)) = true := decide_eq_true c5
        clear c5
        obtain rfl := Option.some.inj H
        go_enter Try.func34, Try.ntmps34
        go_wp2
        go_ret
        exact ⟨by first | rfl | (simp; done) | (simp [*]; done), by repeat (first | exact Drawn0.refl _ | apply Drawn0.step)⟩
      · rw [if_neg c5] at H
        exact absurd H (by simp)
    · rw [if_neg c4] at H
      exact absurd H (by simp)
  · rw [if_neg c3] at H
    have c3b0 : decide ((a1.size : Int) ≤ (a0.size : Int)) = false := decide_eq_false c3
    have c3b1 : decide (a1.size ≤ a0.size) = false := decide_eq_false (fun h => c3 (Int.ofNat_le.mpr h))
    clear c3
    obtain rfl := Option.some.inj H
    go_enter Try.func34, Try.ntmps34
    go_wp2
    go_ret
    exact ⟨by first | rfl | (simp; done) | (simp [*]; done), by repeat (first | exact Drawn0.refl _ | apply Drawn0.step)⟩
def strings_HasPrefix.f (a0 : ByteArray) (a1 : ByteArray) : Option (Bool) := (stringslite_HasPrefix.f a0 a1).bind fun t101 => (some t101)
set_option maxHeartbeats 8000000 in
set_option maxRecDepth 100000 in
theorem strings_HasPrefix.calls (a0 : ByteArray) (a1 : ByteArray) (r : Bool) (w : World) (h : strings_HasPrefix.f a0 a1 = some r) :
    Calls Try.prog 23 #[.string a0, .string a1] w fun e w' => e = .returned (.bool r) ∧ Drawn0 w w' := by
  have H : ((stringslite_HasPrefix.f a0 a1).bind fun t101 => (some t101)) = some r := h
  clear h
  replace H := Option.bind_eq_some_iff.mp H
  obtain ⟨t101, A30, H⟩ := H
  replace H : (some t101) = some r := H
  have A3 := Aside0.mk A30
  clear A30
  obtain rfl := Option.some.inj H
  go_enter Try.func23, Try.ntmps23
  go_wp2_with (first | ((with_reducible refine gate_callee (f := 34) rfl ?_); refine goesL_ (some 7) rfl rfl Try.func34 (by kernel_rfl) rfl #[.string a0, .string a1] rfl (by (try simp only [List.map_toArray, List.map_cons, List.map_nil]); first | done | rfl | (simp only [List.length_drop, List.length_take]; rfl)) ?_; (with_reducible refine (stringslite_HasPrefix.calls a0 a1 t101 _ A3.out).mono ?_); rintro e w' ⟨rfl, ⟨nd, rfl⟩⟩; refine ⟨_, rfl, ?_⟩))
  go_ret
  exact ⟨by first | rfl | (simp; done) | (simp [*]; done), by repeat (first | exact Drawn0.refl _ | apply Drawn0.step)⟩
theorem infoTok : (Try.prog.info? 48).map (fun i => (i.zero, i.size, i.bytes)) = some (some (.agg #[.int .i64 0, .int .i64 0, .string ⟨#[]⟩]), 3, 32) := by kernel_rfl
def lexRest : Nat → Nat → List UInt8 → List S48 × Option Nat
  | 0, _, _ => ([], none)
  | _ + 1, _, [] => ([], none)
  | f + 1, p, b :: r =>
    if 0 < wordLen (b :: r) then
      (⟨0, p, ⟨((b :: r).take (wordLen (b :: r))).toArray⟩⟩ :: (lexRest f (p + wordLen (b :: r)) ((b :: r).drop (wordLen (b :: r)))).1, (lexRest f (p + wordLen (b :: r)) ((b :: r).drop (wordLen (b :: r)))).2)
    else if (sgn b).isSome then (⟨(sgn b).getD 0, p, ⟨#[]⟩⟩ :: (lexRest f (p + 1) r).1, (lexRest f (p + 1) r).2)
    else if b = 46 ∧ r.head? = some 46 then (⟨2, p, ⟨#[]⟩⟩ :: (lexRest f (p + 2) (r.drop 1)).1, (lexRest f (p + 2) (r.drop 1)).2)
    else if b = 32 then lexRest f (p + 1) r
    else ([], some p)
theorem lexRest_word (f p : Nat) (l : List UInt8) (h : 0 < wordLen l) : lexRest (f + 1) p l = (⟨0, p, ⟨(l.take (wordLen l)).toArray⟩⟩ :: (lexRest f (p + wordLen l) (l.drop (wordLen l))).1, (lexRest f (p + wordLen l) (l.drop (wordLen l))).2) := by
  cases l with
  | nil => simp [wordLen] at h
  | cons b r => rw [lexRest, if_pos h]
theorem lexRest_sign (f p : Nat) (b : UInt8) (r : List UInt8) (h : wordLen (b :: r) = 0) (hs : (sgn b).isSome = true) : lexRest (f + 1) p (b :: r) = (⟨(sgn b).getD 0, p, ⟨#[]⟩⟩ :: (lexRest f (p + 1) r).1, (lexRest f (p + 1) r).2) := by
  rw [lexRest, if_neg (by omega), if_pos hs]
theorem lexRest_dots (f p : Nat) (b : UInt8) (r : List UInt8) (h : wordLen (b :: r) = 0) (hs : (sgn b).isSome = false) (hd : b = 46 ∧ r.head? = some 46) : lexRest (f + 1) p (b :: r) = (⟨2, p, ⟨#[]⟩⟩ :: (lexRest f (p + 2) (r.drop 1)).1, (lexRest f (p + 2) (r.drop 1)).2) := by
  rw [lexRest, if_neg (by omega), if_neg (by simp [hs]), if_pos hd]
theorem lexRest_blank (f p : Nat) (b : UInt8) (r : List UInt8) (h : wordLen (b :: r) = 0) (hs : (sgn b).isSome = false) (hd : ¬ (b = 46 ∧ r.head? = some 46)) (hb : b = 32) : lexRest (f + 1) p (b :: r) = lexRest f (p + 1) r := by
  rw [lexRest, if_neg (by omega), if_neg (by simp [hs]), if_neg hd, if_pos hb]
theorem lexRest_err (f p : Nat) (b : UInt8) (r : List UInt8) (h : wordLen (b :: r) = 0) (hs : (sgn b).isSome = false) (hd : ¬ (b = 46 ∧ r.head? = some 46)) (hb : ¬ b = 32) : lexRest (f + 1) p (b :: r) = ([], some p) := by
  rw [lexRest, if_neg (by omega), if_neg (by simp [hs]), if_neg hd, if_neg hb]
theorem wordLen_le (l : List UInt8) : wordLen l ≤ l.length := by
  induction l with
  | nil => simp [wordLen]
  | cons b r ih => rw [wordLen]; split <;> simp <;> omega
theorem ownsMap_below {P : Program} {k : TypeId} {R : Value → Option (DataW Unit × List MemPlace)} {b n : Nat} {D : DataW Unit} {w w' : World} (h : w.ownsMap P k R b n D) (hb : Below w.heap.size w w') : w'.ownsMap P k R b n D := by
  have hlt := h.lt
  obtain ⟨es, clock, he, r⟩ := h
  exact ⟨es, clock, (hb.block b hlt).trans he, r⟩
theorem ownsMap_ne {α : Type} {d : Kd α} {e base : Nat} {w : World} {ok : Nat → Prop} {v : Value} {xs : List α} {P : Program} {k : TypeId} {R : Value → Option (DataW Unit × List MemPlace)} {b n : Nat} {D : DataW Unit} (h : d.R e w base ok v xs) (hm : w.ownsMap P k R b n D) : some b ≠ v.ownBlock := by
  intro he
  obtain ⟨c, hc⟩ := Kd.R_typed h b he.symm
  obtain ⟨es, clock, hh, _⟩ := hm
  rw [hh] at hc
  cases hc
theorem dots_eq (s : ByteArray) : strings_HasPrefix.f s ⟨#[46, 46]⟩ = some (decide (s.data.toList.head? = some 46 ∧ (s.data.toList.drop 1).head? = some 46)) := by
  have h2 : ((⟨#[46, 46]⟩ : ByteArray).size : Int) = 2 := rfl
  have h3 : (⟨#[46, 46]⟩ : ByteArray).toList = [46, 46] := ByteArray.toList_eq _
  have hs : s.data.toList.length = s.size := Array.length_toList
  have h4 : (s.extract 0 2).toList = s.data.toList.take 2 := by
    have := ext_list s 0 2
    rw [ByteArray.toList_eq, this]; rfl
  rw [strings_HasPrefix.f, stringslite_HasPrefix.f, h2, h3]
  by_cases hl : (s.size : Int) ≥ 2
  · rw [if_pos hl, if_pos (by omega), if_pos (by omega)]
    simp only [show ((2 : Int)).toNat = 2 from rfl, h4, Option.bind_some]
    congr 1
    generalize s.data.toList = l at hs ⊢
    match l, hs with
    | [], hs => simp at hs; omega
    | [_], hs => simp at hs; omega
    | a :: b :: r, _ => simp only [List.take, List.head?_cons, List.drop, Option.some.injEq]; by_cases h1 : a = 46 <;> by_cases h2 : b = 46 <;> simp [h1, h2]
  · rw [if_neg hl]
    simp only [Option.bind_some]
    congr 1
    generalize s.data.toList = l at hs ⊢
    match l, hs with
    | [], hs => simp
    | [_], hs => simp
    | a :: b :: r, hs => simp at hs; omega
theorem hasDots (s : ByteArray) (hs : s.size ≤ 2000) (w : World) : Calls Try.prog 23 #[.string s, .string ⟨#[46, 46]⟩] w fun e w' => e = .returned (.bool (decide (s.data.toList.head? = some 46 ∧ (s.data.toList.drop 1).head? = some 46))) ∧ Below w.heap.size w w' := by
  refine (strings_HasPrefix.calls s ⟨#[46, 46]⟩ (decide (s.data.toList.head? = some 46 ∧ (s.data.toList.drop 1).head? = some 46)) w (dots_eq s)).mono ?_
  rintro e w' ⟨rfl, hd⟩
  obtain ⟨n, rfl⟩ := hd.out
  exact ⟨rfl, pw_below_drewN (Below.refl _ _) _⟩
def lexAll (s : ByteArray) : List S48 × Int × Int :=
  if s.size > 2000 then ([], 2000, 7)
  else match (lexRest s.size 0 s.data.toList).2 with
    | some p => ([], p, 1)
    | none => ((lexRest s.size 0 s.data.toList).1 ++ [⟨9, s.size, ⟨#[]⟩⟩], s.size, 0)
def lex_All.f (a0 : ByteArray) : Option ((List (S48)) × Int × Int) := some (lexAll a0)
set_option maxRecDepth 100000 in
set_option maxHeartbeats 8000000 in
theorem lex_All.calls (a0 : ByteArray) (r1 : List (S48)) (r2 : Int) (r3 : Int) (w : World) (h : lex_All.f a0 = some (r1, r2, r3)) :
    Calls Try.prog 10 #[.string a0] w fun e w' => ∃ v0_ : Value, e = .returned (.tuple #[v0_, .int .i64 r2, .int .i64 r3]) ∧ Kd.R k48 48 w' w.heap.size (fun _ => True) v0_ r1 ∧ Below w.heap.size w w' := by
  have hr : lexAll a0 = (r1, r2, r3) := Option.some.inj h
  clear h
  by_cases hsz : a0.size > 2000
  · obtain ⟨rfl, rfl, rfl⟩ : [] = r1 ∧ 2000 = r2 ∧ 7 = r3 := by
      rw [lexAll, if_pos hsz] at hr
      exact ⟨congrArg (·.1) hr, congrArg (·.2.1) hr, congrArg (·.2.2) hr⟩
    clear hr
    go_enter Try.func10, Try.ntmps10
    go_wp2_with fail
    refine bodyPost_ret (results_tmp3 rfl _ _ _) rfl ?_
    exact ⟨_, rfl, Kd.R_nil _ _ _ _ _, Below.refl _ _⟩
  · have HR := Aside0.mk hr
    have hs2 : a0.size ≤ 2000 := by omega
    have hs3 : decide (2000 < (a0.size : Int)) = false := by rw [decide_eq_false_iff_not]; omega
    have zeroE : ∀ w : World, (zeroValue 3).run Try.prog w = .ok (.int .i64 0) w := fun w => by kernel_rfl
    clear hr
    go_enter Try.func10, Try.ntmps10
    go_wp2_with (go_at_call 21; refine (signs_calls _).mono ?_; rintro e w1 ⟨rfl, hm, hb⟩; have HM := Aside0.mk hm; have HB1 := Aside0.mk hb; clear hm hb)
    go_loopw [6, 7] (fun v6 v7 wr => ∃ (p : Nat) (acc : List S48) (f : Nat), p ≤ a0.size ∧ a0.size - p ≤ f ∧ acc.length ≤ p ∧ v7 = .int .i64 p ∧ Aside0 (Kd.R k48 48 wr w.heap.size (fun _ => True) v6 acc) ∧ Aside0 (wr.ownsMap Try.prog 5 (plainElem (H := Unit) Try.prog 3) w.heap.size 7 signTab) ∧ Aside0 (Below w.heap.size w wr) ∧ Aside0 ((acc ++ (lexRest f p (a0.data.toList.drop p)).1, (lexRest f p (a0.data.toList.drop p)).2) = lexRest a0.size 0 a0.data.toList)) (fun _ v7 _ => a0.size - (intOf v7).toNat)
    case atStart => exact ⟨0, [], a0.size, by omega, by omega, by simp, rfl, ⟨Kd.R_nil _ _ _ _ _⟩, HM, HB1, ⟨rfl⟩⟩
    case round =>
      as_aux_lemma =>
      obtain ⟨p, acc, f, hp, hf, hacc, rfl, HV, HM, HB, HE⟩ := hrel
      by_cases hlt : p < a0.size
      · obtain ⟨f, rfl⟩ : ∃ g, f = g + 1 := ⟨f - 1, by omega⟩
        have hll : p < a0.data.toList.length := by simpa using hlt
        have hcons : a0.data.toList.drop p = a0[p] :: a0.data.toList.drop (p + 1) := List.drop_eq_getElem_cons hll
        have hwl := wordLen_le (a0.data.toList.drop p)
        rw [List.length_drop, show a0.data.toList.length = a0.size from Array.length_toList] at hwl
        have HCN := Aside0.mk hcons
        have HHAS := Aside0.mk (signTab_has a0[p])
        have HAT0 := Aside0.mk (signTab_at a0[p])
        clear hcons
        have HW : Aside0 (lex_word.f (a0.extract p a0.size) = some ((wordLen (a0.data.toList.drop p) : Nat) : Int)) := ⟨by rw [lex_word.f, if_pos (by simp; omega), ext_drop]⟩
        by_cases hw : 0 < wordLen (a0.data.toList.drop p)
        · have HE1 : Aside0 _ := ⟨(HE.out.symm.trans (by rw [lexRest_word _ _ _ hw])).symm⟩
          have HX := Aside0.mk (ext_mk a0 p (wordLen (a0.data.toList.drop p)))
          have hw2 : (0 : Int) < (wordLen (a0.data.toList.drop p) : Nat) := by omega
          clear hw
          generalize hn : wordLen (a0.data.toList.drop p) = n at *
          obtain ⟨S, hS⟩ : ∃ S : ByteArray, S = a0.extract p (p + n) := ⟨_, rfl⟩
          have hsl : ∀ W : World, (Instr.slice 9 (.string a0) (some (.int .i64 (p : Int))) (some (.int .i64 ((p : Int) + (n : Int)))) none).run Try.prog W = .ok (.string S) W := fun W => by
            rw [run_slice_string W _ _ _ _ _ _ Try.underlying9 (by omega) (by omega) (by omega), hS]
            congr 3
          have HS : Aside0 (S = ⟨((a0.data.toList.drop p).take n).toArray⟩) := ⟨hS.trans HX.out⟩
          clear hS HX hn
          go_wp2_with (first
            | (at_lookup; refine wpList_lookup_own_ok_int _ rfl _ _ 56 rfl 5 3 .i64 (Go.Maps.int_keyed Try.underlying5) Try.underlying56 Try.underlying3 (zeroE _) w.heap.size 7 signTab rfl HM.out _ _ rfl (Go.Maps.keyOf_int_mk Try.underlying5 (wf_u8 _)) ?_; intro c hat hwc; have HAT := Aside0.mk hat; clear hat hwc)
            | (go_at_call 22; refine (lex_word.calls _ _ _ HW.out).mono ?_; rintro e w1 ⟨rfl, hb⟩; have HB1 := Aside0.mk (below_step HB.out hb); have HV1 := Aside0.mk (Kd.R_below HV.out hb); have HM1 := Aside0.mk (ownsMap_below HM.out hb); clear hb)
            | ((with_reducible refine gate_builtin (b := .append) (xs := #[.tmp 35, .tmp 44]) rfl ?_); at_builtin; go_loud (refine R_append_at k48 (w0 := w) w.heap.size rfl (.tmp 35) (.tmp 44) 35 48 (.agg #[.int .i64 0, .int .i64 0, .string ⟨#[]⟩]) 32 rfl Try.underlying35 infoTok rfl (by decide) (by omega) u6 acc (⟨0, (p : Int), S⟩ : S48) [.int .i64 0, .int .i64 (p : Int), .string S] (fun _ => True) (fun _ => False) w1.heap.size rfl rfl rfl ?aP (fun _ hk => hk.elim) ?aF ?aO ?aB ?aS ?aL ?_; (case aP => exact k48_mkM _ _ _ (⟨0, (p : Int), S⟩ : S48)); (case aF => exact fun _ _ => trivial); (case aO => exact HV1.out); (case aB => exact HB1.out); (case aS => exact HB1.out.size); (case aL => omega); intro v7 w7 ho hb hg hat7; have HV7 := Aside0.mk ho; have HB7 := Aside0.mk hb; have HG7 := Aside0.mk hg; clear ho hb hg hat7)))
          go_roundw
          case rel => exact ⟨p + n, acc ++ [⟨0, (p : Int), S⟩], f, by omega, by omega, by simp; omega, by go_num, HV7, ⟨(HM1.out).kept HG7.out (ownsMap_ne HV1.out HM1.out)⟩, HB7, ⟨by rw [← HE1.out, HS.out]; simp [List.drop_drop, Nat.add_comm]⟩⟩
          case measure => simp [intOf]; omega
        · have hw0 : wordLen (a0.data.toList.drop p) = 0 := by omega
          have HW0 : Aside0 (lex_word.f (a0.extract p a0.size) = some 0) := ⟨by rw [HW.out, hw0]; rfl⟩
          clear HW hw
          have HW := HW0
          rw [HCN.out] at hw0
          have HE0 : Aside0 ((acc ++ (lexRest (f + 1) p (a0[p] :: a0.data.toList.drop (p + 1))).1, (lexRest (f + 1) p (a0[p] :: a0.data.toList.drop (p + 1))).2) = lexRest a0.size 0 a0.data.toList) := ⟨by rw [← HCN.out]; exact HE.out⟩
          clear HE hwl
          have HE := HE0
          clear HE0
          cases hsg : (sgn a0[p]).isSome
          · have hh : Maps.has signTab (.int .u8 (a0[p].toNat : Int)) = false := HHAS.out.trans hsg
            have HD0 : Aside0 _ := ⟨ext_drop a0 p⟩
            by_cases hd : a0[p] = 46 ∧ (a0.data.toList.drop (p + 1)).head? = some 46
            · have HD : Aside0 ((decide ((a0.extract p a0.size).data.toList.head? = some 46 ∧ ((a0.extract p a0.size).data.toList.drop 1).head? = some 46)) = true) := ⟨by rw [HD0.out, HCN.out]; simpa using hd⟩
              have hp2 : p + 2 ≤ a0.size := by
                rcases Nat.lt_or_ge (p + 1) a0.size with h | h
                · omega
                · rw [List.drop_of_length_le (by rw [Array.length_toList]; exact h)] at hd
                  simp at hd
              have HE1 : Aside0 _ := ⟨(HE.out.symm.trans (by rw [lexRest_dots _ _ _ _ hw0 hsg hd])).symm⟩
              clear hd hw0 hsg
              go_wp2_with (first
                | (at_lookup; refine wpList_lookup_own_ok_int _ rfl _ _ 56 rfl 5 3 .i64 (Go.Maps.int_keyed Try.underlying5) Try.underlying56 Try.underlying3 (zeroE _) w.heap.size 7 signTab rfl HM.out _ _ rfl (Go.Maps.keyOf_int_mk Try.underlying5 (wf_u8 _)) ?_; intro c hat hwc; have HAT := Aside0.mk hat; clear hat hwc)
                | (go_at_call 22; refine (lex_word.calls _ _ _ HW.out).mono ?_; rintro e w1 ⟨rfl, hb⟩; have HB1 := Aside0.mk (below_step HB.out hb); have HV1 := Aside0.mk (Kd.R_below HV.out hb); have HM1 := Aside0.mk (ownsMap_below HM.out hb); clear hb)
                | (go_at_call 23; refine (hasDots _ (by simp; omega) _).mono ?_; rw [HD.out]; rintro e w2 ⟨rfl, hb⟩; have HB2 := Aside0.mk (below_step HB1.out hb); have HV2 := Aside0.mk (Kd.R_below HV1.out hb); have HM2 := Aside0.mk (ownsMap_below HM1.out hb); clear hb)
                | ((with_reducible refine gate_builtin (b := .append) (xs := #[.tmp 59, .tmp 62]) rfl ?_); at_builtin; go_loud (refine R_append_at k48 (w0 := w) w.heap.size rfl (.tmp 59) (.tmp 62) 35 48 (.agg #[.int .i64 0, .int .i64 0, .string ⟨#[]⟩]) 32 rfl Try.underlying35 infoTok rfl (by decide) (by omega) u6 acc (⟨2, (p : Int), ⟨#[]⟩⟩ : S48) [.int .i64 2, .int .i64 (p : Int), .string ⟨#[]⟩] (fun _ => True) (fun _ => False) w2.heap.size rfl rfl rfl ?aP (fun _ hk => hk.elim) ?aF ?aO ?aB ?aS ?aL ?_; (case aP => exact k48_mkM _ _ _ (⟨2, (p : Int), ⟨#[]⟩⟩ : S48)); (case aF => exact fun _ _ => trivial); (case aO => exact HV2.out); (case aB => exact HB2.out); (case aS => exact HB2.out.size); (case aL => omega); intro v7 w7 ho hb hg hat7; have HV7 := Aside0.mk ho; have HB7 := Aside0.mk hb; have HG7 := Aside0.mk hg; clear ho hb hg hat7)))
              go_roundw
              case rel => exact ⟨p + 2, acc ++ [⟨2, (p : Int), ⟨#[]⟩⟩], f, by omega, by omega, by simp; omega, by go_num, HV7, ⟨(HM2.out).kept HG7.out (ownsMap_ne HV2.out HM2.out)⟩, HB7, ⟨by rw [← HE1.out, show (a0.data.toList.drop (p + 1)).drop 1 = a0.data.toList.drop (p + 2) from by rw [List.drop_drop]]; simp⟩⟩
              case measure => simp [intOf]; omega
            · have HD : Aside0 ((decide ((a0.extract p a0.size).data.toList.head? = some 46 ∧ ((a0.extract p a0.size).data.toList.drop 1).head? = some 46)) = false) := ⟨by rw [HD0.out, HCN.out]; simpa using hd⟩
              by_cases hbl : a0[p] = 32
              · have HE1 : Aside0 _ := ⟨(HE.out.symm.trans (by rw [lexRest_blank _ _ _ _ hw0 hsg hd hbl])).symm⟩
                have h32 : ((a0[p].toNat : Int) == 32) = true := by rw [hbl]; rfl
                clear hd hw0 hsg hbl
                go_wp2_with (first
                  | (at_lookup; refine wpList_lookup_own_ok_int _ rfl _ _ 56 rfl 5 3 .i64 (Go.Maps.int_keyed Try.underlying5) Try.underlying56 Try.underlying3 (zeroE _) w.heap.size 7 signTab rfl HM.out _ _ rfl (Go.Maps.keyOf_int_mk Try.underlying5 (wf_u8 _)) ?_; intro c hat hwc; have HAT := Aside0.mk hat; clear hat hwc)
                  | (go_at_call 22; refine (lex_word.calls _ _ _ HW.out).mono ?_; rintro e w1 ⟨rfl, hb⟩; have HB1 := Aside0.mk (below_step HB.out hb); have HV1 := Aside0.mk (Kd.R_below HV.out hb); have HM1 := Aside0.mk (ownsMap_below HM.out hb); clear hb)
                  | (go_at_call 23; refine (hasDots _ (by simp; omega) _).mono ?_; rw [HD.out]; rintro e w2 ⟨rfl, hb⟩; have HB2 := Aside0.mk (below_step HB1.out hb); have HV2 := Aside0.mk (Kd.R_below HV1.out hb); have HM2 := Aside0.mk (ownsMap_below HM1.out hb); clear hb))
                go_roundw
                case rel => exact ⟨p + 1, acc, f, by omega, by omega, by omega, by go_num, HV2, HM2, HB2, ⟨HE1.out⟩⟩
                case measure => simp [intOf]; omega
              · have HE1 : Aside0 _ := ⟨(HE.out.symm.trans (by rw [lexRest_err _ _ _ _ hw0 hsg hd hbl])).symm⟩
                have h32 : ((a0[p].toNat : Int) == 32) = false := by
                  rw [beq_eq_false_iff_ne]
                  intro he
                  apply hbl
                  apply UInt8.toNat_inj.mp
                  have : a0[p].toNat = 32 := by omega
                  rw [this]; rfl
                clear hd hw0 hsg hbl
                go_wp2_with (first
                  | (at_lookup; refine wpList_lookup_own_ok_int _ rfl _ _ 56 rfl 5 3 .i64 (Go.Maps.int_keyed Try.underlying5) Try.underlying56 Try.underlying3 (zeroE _) w.heap.size 7 signTab rfl HM.out _ _ rfl (Go.Maps.keyOf_int_mk Try.underlying5 (wf_u8 _)) ?_; intro c hat hwc; have HAT := Aside0.mk hat; clear hat hwc)
                  | (go_at_call 22; refine (lex_word.calls _ _ _ HW.out).mono ?_; rintro e w1 ⟨rfl, hb⟩; have HB1 := Aside0.mk (below_step HB.out hb); have HV1 := Aside0.mk (Kd.R_below HV.out hb); have HM1 := Aside0.mk (ownsMap_below HM.out hb); clear hb)
                  | (go_at_call 23; refine (hasDots _ (by simp; omega) _).mono ?_; rw [HD.out]; rintro e w2 ⟨rfl, hb⟩; have HB2 := Aside0.mk (below_step HB1.out hb); have HV2 := Aside0.mk (Kd.R_below HV1.out hb); have HM2 := Aside0.mk (ownsMap_below HM1.out hb); clear hb))
                have hr2 := HR.out
                rw [lexAll, if_neg hsz, ← HE1.out] at hr2
                obtain ⟨rfl, rfl, rfl⟩ : [] = r1 ∧ (p : Int) = r2 ∧ 1 = r3 := ⟨congrArg (·.1) hr2, congrArg (·.2.1) hr2, congrArg (·.2.2) hr2⟩
                refine bodyPost_ret (results_tmp3 rfl _ _ _) rfl ?_
                exact ⟨_, rfl, Kd.R_nil _ _ _ _ _, HB2.out⟩
          · have hh : Maps.has signTab (.int .u8 (a0[p].toNat : Int)) = true := HHAS.out.trans hsg
            have HE1 : Aside0 _ := ⟨(HE.out.symm.trans (by rw [lexRest_sign _ _ _ _ hw0 hsg])).symm⟩
            clear hw0 hsg
            go_wp2_with (first
              | (at_lookup; refine wpList_lookup_own_ok_int _ rfl _ _ 56 rfl 5 3 .i64 (Go.Maps.int_keyed Try.underlying5) Try.underlying56 Try.underlying3 (zeroE _) w.heap.size 7 signTab rfl HM.out _ _ rfl (Go.Maps.keyOf_int_mk Try.underlying5 (wf_u8 _)) ?_; intro c hat hwc; have HAT := Aside0.mk hat; clear hat hwc)
              | (go_at_call 22; refine (lex_word.calls _ _ _ HW.out).mono ?_; rintro e w1 ⟨rfl, hb⟩; have HB1 := Aside0.mk (below_step HB.out hb); have HV1 := Aside0.mk (Kd.R_below HV.out hb); have HM1 := Aside0.mk (ownsMap_below HM.out hb); clear hb)
              | ((with_reducible refine gate_builtin (b := .append) (xs := #[.tmp 48, .tmp 52]) rfl ?_); at_builtin; go_loud (refine R_append_at k48 (w0 := w) w.heap.size rfl (.tmp 48) (.tmp 52) 35 48 (.agg #[.int .i64 0, .int .i64 0, .string ⟨#[]⟩]) 32 rfl Try.underlying35 infoTok rfl (by decide) (by omega) u6 acc (⟨c, (p : Int), ⟨#[]⟩⟩ : S48) [.int .i64 c, .int .i64 (p : Int), .string ⟨#[]⟩] (fun _ => True) (fun _ => False) w1.heap.size rfl rfl rfl ?aP (fun _ hk => hk.elim) ?aF ?aO ?aB ?aS ?aL ?_; (case aP => exact k48_mkM _ _ _ (⟨c, (p : Int), ⟨#[]⟩⟩ : S48)); (case aF => exact fun _ _ => trivial); (case aO => exact HV1.out); (case aB => exact HB1.out); (case aS => exact HB1.out.size); (case aL => omega); intro v7 w7 ho hb hg hat7; have HV7 := Aside0.mk ho; have HB7 := Aside0.mk hb; have HG7 := Aside0.mk hg; clear ho hb hg hat7)))
            go_roundw
            case rel => exact ⟨p + 1, acc ++ [⟨c, (p : Int), ⟨#[]⟩⟩], f, by omega, by omega, by simp; omega, by go_num, HV7, ⟨(HM1.out).kept HG7.out (ownsMap_ne HV1.out HM1.out)⟩, HB7, ⟨by rw [← HE1.out, show c = (sgn a0[p]).getD 0 from (congrArg ival HAT.out).symm.trans HAT0.out]; simp⟩⟩
            case measure => simp [intOf]; omega
      · have hpe : p = a0.size := by omega
        have HE1 : Aside0 _ := ⟨HE.out.symm⟩
        go_wp2_with (first
          | ((with_reducible refine gate_builtin (b := .append) (xs := #[.tmp 72, .tmp 76]) rfl ?_); at_builtin; go_loud (refine R_append_at k48 (w0 := w) w.heap.size rfl (.tmp 72) (.tmp 76) 35 48 (.agg #[.int .i64 0, .int .i64 0, .string ⟨#[]⟩]) 32 rfl Try.underlying35 infoTok rfl (by decide) (by omega) u6 acc (⟨9, (a0.size : Int), ⟨#[]⟩⟩ : S48) [.int .i64 9, .int .i64 (a0.size : Int), .string ⟨#[]⟩] (fun _ => True) (fun _ => False) wr.heap.size rfl rfl rfl ?aP (fun _ hk => hk.elim) ?aF ?aO ?aB ?aS ?aL ?_; (case aP => exact k48_mkM _ _ _ (⟨9, (a0.size : Int), ⟨#[]⟩⟩ : S48)); (case aF => exact fun _ _ => trivial); (case aO => exact HV.out); (case aB => exact HB.out); (case aS => exact HB.out.size); (case aL => omega); intro v7 w7 ho hb hg hat7; have HV7 := Aside0.mk ho; have HB7 := Aside0.mk hb; have HG7 := Aside0.mk hg; clear ho hb hg hat7)))
        have hr2 := HR.out
        have h0 : lexRest f p (a0.data.toList.drop p) = ([], none) := by
          rw [hpe, List.drop_of_length_le (by rw [Array.length_toList]; exact Nat.le_refl _)]
          cases f <;> rfl
        rw [lexAll, if_neg hsz, HE1.out, h0, List.append_nil] at hr2
        obtain ⟨rfl, rfl, rfl⟩ : acc ++ [⟨9, a0.size, ⟨#[]⟩⟩] = r1 ∧ (a0.size : Int) = r2 ∧ 0 = r3 := ⟨congrArg (·.1) hr2, congrArg (·.2.1) hr2, congrArg (·.2.2) hr2⟩
        refine bodyPost_ret (results_tmp3 rfl _ _ _) rfl ?_
        exact ⟨_, rfl, HV7.out, HB7.out⟩
theorem infoNode : (Try.prog.info? 27).map (fun i => (i.zero, i.size, i.bytes)) = some (some (.agg #[.int .i64 0, .int .i64 0, .string ⟨#[]⟩, .string ⟨#[]⟩, .string ⟨#[]⟩, .bool false, .bool false, .slice none 0 0]), 8, 96) := by kernel_rfl
def api_Node.f (l0 : List (S27)) : Option ((List (S27))) := if l0.length < 1000000000000 then some l0 else none
theorem empty_lit {α : Type} {d : Kd α} {e : Nat} (W : World) (base : Nat) (hb : base ≤ W.heap.size) :
    d.R e (W.alloc (.cells (#[] : Array Value) e)) base (fun _ => True) (.slice (some ⟨W.heap.size, 0, none⟩) 0 0) [] := by
  have hr : Reps (d.M W base (fun _ => True)) d.sz [] ([] : List Value) := Reps.none _ _
  have ho := OwnRow.lit (e := e) W base hr hb (by simp)
  refine ⟨fun _ _ => trivial, ho.imp_ (fun q c hq => ?_)⟩
  have h1 := d.M_move (w1 := W.alloc (.cells (#[] : Array Value) e)) (fun k hk => Below.heap_alloc W _ k hk.2.2.1) (d.M_bound hq)
  exact d.M_mono (fun k hk => ⟨trivial, fun he => by have := hk.2.2.1; simp [Value.ownBlock] at he; omega⟩) h1
set_option maxRecDepth 100000 in
theorem api_Node.calls (P0_ : Nat → Prop) (A0 : Option Addr) (c0 : Nat) (l0 : List (S27)) (r : List (S27)) (w : World) (hs0 : Kd.V k27 27 w w.heap.size (fun k_ => P0_ k_) (.slice A0 l0.length c0) l0) (h : api_Node.f l0 = some r) :
    Calls Try.prog 16 #[.slice A0 l0.length c0] w fun e w' => ∃ v0_ : Value, e = .returned (v0_) ∧ Kd.N k27 27 w' w.heap.size (fun k_ => (P0_ k_ ∨ w.heap.size ≤ k_)) v0_ r ∧ Below w.heap.size w w' := by
  have hg : l0.length < 1000000000000 := by
    rcases Nat.lt_or_ge l0.length 1000000000000 with hn | hn
    · exact hn
    · have h2 : (if l0.length < 1000000000000 then some l0 else none) = some r := h
      rw [if_neg (by omega)] at h2
      cases h2
  obtain rfl : l0 = r := by
    have h2 : (if l0.length < 1000000000000 then some l0 else none) = some r := h
    rw [if_pos hg] at h2
    exact Option.some.inj h2
  clear h
  have hV := Kd.V_at hs0
  have HC := Aside0.mk hV.2.2
  have hmx := hV.2.1
  clear hs0 hV
  rcases A0 with _ | ad
  · have h0 : l0 = [] := by
      rcases l0 with _ | ⟨x, r⟩
      · rfl
      · obtain ⟨ad, e, _⟩ := (Kd.F_now HC.out).2.2 (by simp)
        cases e
    subst h0
    have he : ∀ (w : World) (c : Nat), (binOp .eql 25 (.slice none 0 c) (.slice none 0 0)).run Try.prog w = .ok (.bool true) w := fun _ _ => rfl
    simp only [List.length_nil]
    go_enter Try.func16, Try.ntmps16
    go_wp2_with fail
    go_ret
    exact ⟨_, rfl, Kd.N_nil _ _ _ _ _, Below.refl _ _⟩
  · have he : ∀ (w : World) (n c : Nat), (binOp .eql 25 (.slice (some ad) n c) (.slice none 0 0)).run Try.prog w = .ok (.bool false) w := fun _ _ _ => rfl
    go_enter Try.func16, Try.ntmps16
    go_wp2_with ((with_reducible refine gate_builtin (b := .append) (xs := #[.tmp 5, .tmp 6]) rfl ?_); at_builtin; go_must (refine Kd.N_append_rows k27 (w0 := w) w.heap.size rfl (.tmp 5) (.tmp 6) 25 27 _ 96 rfl Try.underlying25 infoNode rfl (by decide) (by omega) (.slice (some ⟨w.heap.size, 0, none⟩) 0 0) [] l0 (some ad) l0.length c0 (fun k => P0_ k ∨ w.heap.size ≤ k) (fun k => P0_ k ∧ k < w.heap.size) rfl rfl ?aO ?aR ?aK ?aF ?aB ?aS ?aL ?_; (case aO => exact Kd.N_mono (Kd.R_N (Kd.R_bound (empty_lit w w.heap.size (Nat.le_refl _)))) (fun k hk => .inr hk.2.1)); (case aR => exact Kd.F_below (Kd.F_bound HC.out) (below_alloc (Below.refl _ _) _)); (case aK => exact fun k hk => ⟨.inl hk.1, by have := hk.2; simp [Value.ownBlock]; omega⟩); (case aF => exact fun k hk => .inr (by simp at hk; omega)); (case aB => exact below_alloc (Below.refl _ _) _); (case aS => simp); (case aL => simp; omega); intro v7 w7 ho hb hg hat; have HN7 := Aside0.mk ho; have HB7 := Aside0.mk hb; clear ho hb hg hat))
    go_ret
    exact ⟨_, rfl, HN7.out, HB7.out⟩
def tree_Between.f (a0_0 : Int) (a0_1 : Int) (a0_2 : ByteArray) (a0_3 : ByteArray) (a0_4 : ByteArray) (a0_5 : Bool) (a0_6 : Bool) (l0_7 : List (S27)) (a1_0 : Int) (a1_1 : Int) (a1_2 : ByteArray) (a1_3 : ByteArray) (a1_4 : ByteArray) (a1_5 : Bool) (a1_6 : Bool) (l1_7 : List (S27)) : Option (Int × Int × ByteArray × ByteArray × ByteArray × Bool × Bool × (List (S27))) := some (1, 0, (⟨#[]⟩ : ByteArray), (⟨#[]⟩ : ByteArray), (⟨#[]⟩ : ByteArray), false, false, (([(⟨a0_0, (⟨a0_1, a0_2, a0_3, a0_4⟩ : S24), a0_5, a0_6, l0_7⟩ : S27), (⟨a1_0, (⟨a1_1, a1_2, a1_3, a1_4⟩ : S24), a1_5, a1_6, l1_7⟩ : S27)] : List (S27))))
set_option maxHeartbeats 8000000 in
set_option maxRecDepth 100000 in
theorem tree_Between.calls (a0_0 : Int) (a0_1 : Int) (a0_2 : ByteArray) (a0_3 : ByteArray) (a0_4 : ByteArray) (a0_5 : Bool) (a0_6 : Bool) (P0_7_ : Nat → Prop) (A0_7 : Option Addr) (c0_7 : Nat) (l0_7 : List (S27)) (a1_0 : Int) (a1_1 : Int) (a1_2 : ByteArray) (a1_3 : ByteArray) (a1_4 : ByteArray) (a1_5 : Bool) (a1_6 : Bool) (P1_7_ : Nat → Prop) (A1_7 : Option Addr) (c1_7 : Nat) (l1_7 : List (S27)) (r1 : Int) (r2 : Int) (r3 : ByteArray) (r4 : ByteArray) (r5 : ByteArray) (r6 : Bool) (r7 : Bool) (r8 : List (S27)) (w : World) (hs0_7 : Kd.V k27 27 w w.heap.size (fun k_ => P0_7_ k_) (.slice A0_7 l0_7.length c0_7) l0_7) (hs1_7 : Kd.V k27 27 w w.heap.size (fun k_ => P1_7_ k_) (.slice A1_7 l1_7.length c1_7) l1_7) (h : tree_Between.f a0_0 a0_1 a0_2 a0_3 a0_4 a0_5 a0_6 l0_7 a1_0 a1_1 a1_2 a1_3 a1_4 a1_5 a1_6 l1_7 = some (r1, r2, r3, r4, r5, r6, r7, r8)) :
    Calls Try.prog 42 #[.agg #[.int .i64 a0_0, .int .i64 a0_1, .string a0_2, .string a0_3, .string a0_4, .bool a0_5, .bool a0_6, .slice A0_7 l0_7.length c0_7], .agg #[.int .i64 a1_0, .int .i64 a1_1, .string a1_2, .string a1_3, .string a1_4, .bool a1_5, .bool a1_6, .slice A1_7 l1_7.length c1_7]] w fun e w' => ∃ v7_ : Value, e = .returned (.agg #[.int .i64 r1, .int .i64 r2, .string r3, .string r4, .string r5, .bool r6, .bool r7, v7_]) ∧ Kd.N k27 27 w' w.heap.size (fun k_ => ((P0_7_ k_ ∨ P1_7_ k_) ∨ w.heap.size ≤ k_)) v7_ r8 ∧ Below w.heap.size w w' := by
  have hu27 := Try.underlying27
  have HO0_7 := Aside0.mk (show Kd.V k27 27 w w.heap.size (fun k_ => ((P0_7_ k_ ∨ P1_7_ k_) ∨ w.heap.size ≤ k_)) (.slice A0_7 l0_7.length c0_7) l0_7 from Kd.V_mono hs0_7 (fun k_ hk => .inl (.inl hk)))
  have HO1_7 := Aside0.mk (show Kd.V k27 27 w w.heap.size (fun k_ => ((P0_7_ k_ ∨ P1_7_ k_) ∨ w.heap.size ≤ k_)) (.slice A1_7 l1_7.length c1_7) l1_7 from Kd.V_mono hs1_7 (fun k_ hk => .inl (.inr hk)))
  have HB := Aside0.mk (Below.refl w.heap.size w)
  have H : (some (1, 0, (⟨#[]⟩ : ByteArray), (⟨#[]⟩ : ByteArray), (⟨#[]⟩ : ByteArray), false, false, (([(⟨a0_0, (⟨a0_1, a0_2, a0_3, a0_4⟩ : S24), a0_5, a0_6, l0_7⟩ : S27), (⟨a1_0, (⟨a1_1, a1_2, a1_3, a1_4⟩ : S24), a1_5, a1_6, l1_7⟩ : S27)] : List (S27))))) = some (r1, r2, r3, r4, r5, r6, r7, r8) := h
  clear h
  obtain ⟨y105, hy105⟩ : ∃ y_ : List (S27), y_ = (([(⟨a0_0, (⟨a0_1, a0_2, a0_3, a0_4⟩ : S24), a0_5, a0_6, l0_7⟩ : S27), (⟨a1_0, (⟨a1_1, a1_2, a1_3, a1_4⟩ : S24), a1_5, a1_6, l1_7⟩ : S27)] : List (S27))) := ⟨_, rfl⟩
  replace H : (some (1, 0, (⟨#[]⟩ : ByteArray), (⟨#[]⟩ : ByteArray), (⟨#[]⟩ : ByteArray), false, false, y105)) = some (r1, r2, r3, r4, r5, r6, r7, r8) := by first | (rw [hy105]; with_reducible exact H) | (have H2_ := (Option.bind_some _ _).symm.trans H; rw [hy105]; with_reducible exact H2_) | (have H2_ := (Option.bind_some _ _).symm.trans H; with_reducible exact H2_) | with_reducible exact H | (rw [hy105]; exact H) | exact H
  have Ny105 := Aside0.mk hy105
  clear hy105
  simp only [Option.some.injEq, Prod.mk.injEq] at H
  obtain ⟨rfl, rfl, rfl, rfl, rfl, rfl, rfl, rfl⟩ := H
  go_enter Try.func42, Try.ntmps42
  go_wp2_with (first | ((with_reducible refine gate_dst (N := 2) rfl ?_); refine box_event ?hg (N := 2) ?hd (cs := #[.int .i64 a0_0, .int .i64 a0_1, .string a0_2, .string a0_3, .string a0_4, .bool a0_5, .bool a0_6, .slice A0_7 l0_7.length c0_7]) (t := 27) ?hr ?_; (case hd => rfl); (case hg => rfl); (case hr => first | (go_simp; done) | (go_simp; rfl)); intro gb102 hg w3 hbox hb; have n0_ := Aside0.mk (Kd.V_below (Kd.V_elderB (by (with_reducible repeat (first | apply Kd.V_alloc | apply Kd.V_drewN | apply Kd.V_drew)); exact HO0_7.out) gb102 (Nat.le_of_eq hg.symm)) hb); have n1_ := Aside0.mk (Kd.V_below (Kd.V_elderB (by (with_reducible repeat (first | apply Kd.V_alloc | apply Kd.V_drewN | apply Kd.V_drew)); exact HO1_7.out) gb102 (Nat.le_of_eq hg.symm)) hb); have n2_ := Aside0.mk (below_step (by repeat (first | (with_reducible first | exact HB.out | apply below_alloc | apply pw_below_drewN | apply below_drew1) | exact HB.out)) hb); have n3_ := Aside0.mk (hbox); have n4_ := Aside0.mk ((by rw [hg]; exact (below_size (by repeat (first | (with_reducible first | exact HB.out | apply below_alloc | apply pw_below_drewN | apply below_drew1) | exact HB.out))) : w.heap.size ≤ gb102)); have n5_ := Aside0.mk ((by rw [hg]; exact (below_size (by repeat (first | (with_reducible first | exact HB.out | apply below_alloc | apply pw_below_drewN | apply below_drew1) | exact HB.out))) : w.heap.size ≤ gb102)); clear HO0_7; clear HO1_7; clear HB; have HO0_7 := n0_; have HO1_7 := n1_; have HB := n2_; have BK102 := n3_; have GW102 := n4_; have GE102 := n5_; clear n0_ n1_ n2_ n3_ n4_ n5_; clear hb hbox hg) | ((with_reducible refine gate_dst (N := 3) rfl ?_); refine box_event ?hg (N := 3) ?hd (cs := #[.int .i64 a1_0, .int .i64 a1_1, .string a1_2, .string a1_3, .string a1_4, .bool a1_5, .bool a1_6, .slice A1_7 l1_7.length c1_7]) (t := 27) ?hr ?_; (case hd => rfl); (case hg => rfl); (case hr => first | (go_simp; done) | (go_simp; rfl)); intro gb103 hg w4 hbox hb; have n0_ := Aside0.mk (Kd.V_below (Kd.V_elderB (by (with_reducible repeat (first | apply Kd.V_alloc | apply Kd.V_drewN | apply Kd.V_drew)); exact HO0_7.out) gb103 (Nat.le_of_eq hg.symm)) hb); have n1_ := Aside0.mk (Kd.V_below (Kd.V_elderB (by (with_reducible repeat (first | apply Kd.V_alloc | apply Kd.V_drewN | apply Kd.V_drew)); exact HO1_7.out) gb103 (Nat.le_of_eq hg.symm)) hb); have n2_ := Aside0.mk (blk_below (g := gb102) (o := .cells #[.int .i64 a0_0, .int .i64 a0_1, .string a0_2, .string a0_3, .string a0_4, .bool a0_5, .bool a0_6, .slice A0_7 l0_7.length c0_7] 27 (0, 0)) (by (with_reducible repeat (first | refine blk_drewN ?_ _ | refine blk_drew ?_ | refine blk_alloc ?_ _)); exact BK102.out) hb); have n3_ := Aside0.mk (below_step (by repeat (first | (with_reducible first | exact HB.out | apply below_alloc | apply pw_below_drewN | apply below_drew1 | refine below_set ?_ GE102.out) | exact HB.out)) hb); have n4_ := Aside0.mk (hbox); have n5_ := Aside0.mk ((by rw [hg]; exact (below_size (by repeat (first | (with_reducible first | exact HB.out | apply below_alloc | apply pw_below_drewN | apply below_drew1 | refine below_set ?_ GE102.out) | exact HB.out))) : w.heap.size ≤ gb103)); have n6_ := Aside0.mk ((by rw [hg]; exact (below_size (by repeat (first | (with_reducible first | exact HB.out | apply below_alloc | apply pw_below_drewN | apply below_drew1 | refine below_set ?_ GE102.out) | exact HB.out))) : w.heap.size ≤ gb103)); have n7_ := Aside0.mk ((by rw [hg]; exact Nat.ne_of_lt (blk_lt (g := gb102) (o := .cells #[.int .i64 a0_0, .int .i64 a0_1, .string a0_2, .string a0_3, .string a0_4, .bool a0_5, .bool a0_6, .slice A0_7 l0_7.length c0_7] 27 (0, 0)) (by (with_reducible repeat (first | refine blk_drewN ?_ _ | refine blk_drew ?_ | refine blk_alloc ?_ _)); exact BK102.out)) : gb102 ≠ gb103)); have n8_ := Aside0.mk ((by rw [hg]; exact Nat.ne_of_gt (blk_lt (g := gb102) (o := .cells #[.int .i64 a0_0, .int .i64 a0_1, .string a0_2, .string a0_3, .string a0_4, .bool a0_5, .bool a0_6, .slice A0_7 l0_7.length c0_7] 27 (0, 0)) (by (with_reducible repeat (first | refine blk_drewN ?_ _ | refine blk_drew ?_ | refine blk_alloc ?_ _)); exact BK102.out)) : gb103 ≠ gb102)); clear HO0_7; clear HO1_7; clear BK102; clear HB; have HO0_7 := n0_; have HO1_7 := n1_; have BK102 := n2_; have HB := n3_; have BK103 := n4_; have GW103 := n5_; have GE103 := n6_; have NB102_103 := n7_; have NB103_102 := n8_; clear n0_ n1_ n2_ n3_ n4_ n5_ n6_ n7_ n8_; clear hb hbox hg) | ((with_reducible refine gate_dst (N := 4) rfl ?_); refine box_event ?hg (N := 4) ?hd (cs := #[.int .i64 0, .int .i64 0, .string (⟨#[]⟩ : ByteArray), .string (⟨#[]⟩ : ByteArray), .string (⟨#[]⟩ : ByteArray), .bool false, .bool false, .slice none 0 0]) (t := 27) ?hr ?_; (case hd => rfl); (case hg => rfl); (case hr => first | (go_simp; done) | (go_simp; rfl)); intro gb104 hg w5 hbox hb; have n0_ := Aside0.mk (Kd.V_below (Kd.V_elderB (by (with_reducible repeat (first | apply Kd.V_alloc | apply Kd.V_drewN | apply Kd.V_drew)); exact HO0_7.out) gb104 (Nat.le_of_eq hg.symm)) hb); have n1_ := Aside0.mk (Kd.V_below (Kd.V_elderB (by (with_reducible repeat (first | apply Kd.V_alloc | apply Kd.V_drewN | apply Kd.V_drew)); exact HO1_7.out) gb104 (Nat.le_of_eq hg.symm)) hb); have n2_ := Aside0.mk (blk_below (g := gb102) (o := .cells #[.int .i64 a0_0, .int .i64 a0_1, .string a0_2, .string a0_3, .string a0_4, .bool a0_5, .bool a0_6, .slice A0_7 l0_7.length c0_7] 27 (0, 0)) (by (with_reducible repeat (first | refine blk_drewN ?_ _ | refine blk_drew ?_ | refine blk_alloc ?_ _)); exact BK102.out) hb); have n3_ := Aside0.mk (blk_below (g := gb103) (o := .cells #[.int .i64 a1_0, .int .i64 a1_1, .string a1_2, .string a1_3, .string a1_4, .bool a1_5, .bool a1_6, .slice A1_7 l1_7.length c1_7] 27 (0, 0)) (by (with_reducible repeat (first | refine blk_drewN ?_ _ | refine blk_drew ?_ | refine blk_alloc ?_ _)); exact BK103.out) hb); have n4_ := Aside0.mk (below_step (by repeat (first | (with_reducible first | exact HB.out | apply below_alloc | apply pw_below_drewN | apply below_drew1 | refine below_set ?_ GE102.out | refine below_set ?_ GE103.out) | exact HB.out)) hb); have n5_ := Aside0.mk (hbox); have n6_ := Aside0.mk ((by rw [hg]; exact (below_size (by repeat (first | (with_reducible first | exact HB.out | apply below_alloc | apply pw_below_drewN | apply below_drew1 | refine below_set ?_ GE102.out | refine below_set ?_ GE103.out) | exact HB.out))) : w.heap.size ≤ gb104)); have n7_ := Aside0.mk ((by rw [hg]; exact (below_size (by repeat (first | (with_reducible first | exact HB.out | apply below_alloc | apply pw_below_drewN | apply below_drew1 | refine below_set ?_ GE102.out | refine below_set ?_ GE103.out) | exact HB.out))) : w.heap.size ≤ gb104)); have n8_ := Aside0.mk ((by rw [hg]; exact Nat.ne_of_lt (blk_lt (g := gb102) (o := .cells #[.int .i64 a0_0, .int .i64 a0_1, .string a0_2, .string a0_3, .string a0_4, .bool a0_5, .bool a0_6, .slice A0_7 l0_7.length c0_7] 27 (0, 0)) (by (with_reducible repeat (first | refine blk_drewN ?_ _ | refine blk_drew ?_ | refine blk_alloc ?_ _)); exact BK102.out)) : gb102 ≠ gb104)); have n9_ := Aside0.mk ((by rw [hg]; exact Nat.ne_of_gt (blk_lt (g := gb102) (o := .cells #[.int .i64 a0_0, .int .i64 a0_1, .string a0_2, .string a0_3, .string a0_4, .bool a0_5, .bool a0_6, .slice A0_7 l0_7.length c0_7] 27 (0, 0)) (by (with_reducible repeat (first | refine blk_drewN ?_ _ | refine blk_drew ?_ | refine blk_alloc ?_ _)); exact BK102.out)) : gb104 ≠ gb102)); have n10_ := Aside0.mk ((by rw [hg]; exact Nat.ne_of_lt (blk_lt (g := gb103) (o := .cells #[.int .i64 a1_0, .int .i64 a1_1, .string a1_2, .string a1_3, .string a1_4, .bool a1_5, .bool a1_6, .slice A1_7 l1_7.length c1_7] 27 (0, 0)) (by (with_reducible repeat (first | refine blk_drewN ?_ _ | refine blk_drew ?_ | refine blk_alloc ?_ _)); exact BK103.out)) : gb103 ≠ gb104)); have n11_ := Aside0.mk ((by rw [hg]; exact Nat.ne_of_gt (blk_lt (g := gb103) (o := .cells #[.int .i64 a1_0, .int .i64 a1_1, .string a1_2, .string a1_3, .string a1_4, .bool a1_5, .bool a1_6, .slice A1_7 l1_7.length c1_7] 27 (0, 0)) (by (with_reducible repeat (first | refine blk_drewN ?_ _ | refine blk_drew ?_ | refine blk_alloc ?_ _)); exact BK103.out)) : gb104 ≠ gb103)); clear HO0_7; clear HO1_7; clear BK102; clear BK103; clear HB; have HO0_7 := n0_; have HO1_7 := n1_; have BK102 := n2_; have BK103 := n3_; have HB := n4_; have BK104 := n5_; have GW104 := n6_; have GE104 := n7_; have NB102_104 := n8_; have NB104_102 := n9_; have NB103_104 := n10_; have NB104_103 := n11_; clear n0_ n1_ n2_ n3_ n4_ n5_ n6_ n7_ n8_ n9_ n10_ n11_; clear hb hbox hg; have hnb6 := NB102_103.out; have hnc6 := NB103_102.out; have hnb7 := NB102_104.out; have hnc7 := NB104_102.out; have hcz8_0 : w5.cell? ⟨gb102, 0, none⟩ = some (.int .i64 a0_0) := (blk_cell BK102.out 0).trans rfl; have hcz8_1 : w5.cell? ⟨gb102, 1, none⟩ = some (.int .i64 a0_1) := (blk_cell BK102.out 1).trans rfl; have hcz8_2 : w5.cell? ⟨gb102, 2, none⟩ = some (.string a0_2) := (blk_cell BK102.out 2).trans rfl; have hcz8_3 : w5.cell? ⟨gb102, 3, none⟩ = some (.string a0_3) := (blk_cell BK102.out 3).trans rfl; have hcz8_4 : w5.cell? ⟨gb102, 4, none⟩ = some (.string a0_4) := (blk_cell BK102.out 4).trans rfl; have hcz8_5 : w5.cell? ⟨gb102, 5, none⟩ = some (.bool a0_5) := (blk_cell BK102.out 5).trans rfl; have hcz8_6 : w5.cell? ⟨gb102, 6, none⟩ = some (.bool a0_6) := (blk_cell BK102.out 6).trans rfl; have hcz8_7 : w5.cell? ⟨gb102, 7, none⟩ = some (.slice A0_7 l0_7.length c0_7) := (blk_cell BK102.out 7).trans rfl; have hfz8_0 := blk_frozen BK102.out 0; have hfz8_1 := blk_frozen BK102.out 1; have hfz8_2 := blk_frozen BK102.out 2; have hfz8_3 := blk_frozen BK102.out 3; have hfz8_4 := blk_frozen BK102.out 4; have hfz8_5 := blk_frozen BK102.out 5; have hfz8_6 := blk_frozen BK102.out 6; have hfz8_7 := blk_frozen BK102.out 7; have hnb9 := NB103_104.out; have hnc9 := NB104_103.out; have hcz10_0 : w5.cell? ⟨gb103, 0, none⟩ = some (.int .i64 a1_0) := (blk_cell BK103.out 0).trans rfl; have hcz10_1 : w5.cell? ⟨gb103, 1, none⟩ = some (.int .i64 a1_1) := (blk_cell BK103.out 1).trans rfl; have hcz10_2 : w5.cell? ⟨gb103, 2, none⟩ = some (.string a1_2) := (blk_cell BK103.out 2).trans rfl; have hcz10_3 : w5.cell? ⟨gb103, 3, none⟩ = some (.string a1_3) := (blk_cell BK103.out 3).trans rfl; have hcz10_4 : w5.cell? ⟨gb103, 4, none⟩ = some (.string a1_4) := (blk_cell BK103.out 4).trans rfl; have hcz10_5 : w5.cell? ⟨gb103, 5, none⟩ = some (.bool a1_5) := (blk_cell BK103.out 5).trans rfl; have hcz10_6 : w5.cell? ⟨gb103, 6, none⟩ = some (.bool a1_6) := (blk_cell BK103.out 6).trans rfl; have hcz10_7 : w5.cell? ⟨gb103, 7, none⟩ = some (.slice A1_7 l1_7.length c1_7) := (blk_cell BK103.out 7).trans rfl; have hfz10_0 := blk_frozen BK103.out 0; have hfz10_1 := blk_frozen BK103.out 1; have hfz10_2 := blk_frozen BK103.out 2; have hfz10_3 := blk_frozen BK103.out 3; have hfz10_4 := blk_frozen BK103.out 4; have hfz10_5 := blk_frozen BK103.out 5; have hfz10_6 := blk_frozen BK103.out 6; have hfz10_7 := blk_frozen BK103.out 7) | ((with_reducible refine gate_dst (N := 7) rfl ?_); refine Kd.N_lit k27 _ 27 ?hg (N' := 7) ?hd (xs := ([(⟨a0_0, (⟨a0_1, a0_2, a0_3, a0_4⟩ : S24), a0_5, a0_6, l0_7⟩ : S27), (⟨a1_0, (⟨a1_1, a1_2, a1_3, a1_4⟩ : S24), a1_5, a1_6, l1_7⟩ : S27)] : List (S27))) (inner := [.int .i64 a0_0, .int .i64 a0_1, .string a0_2, .string a0_3, .string a0_4, .bool a0_5, .bool a0_6, .slice A0_7 l0_7.length c0_7, .int .i64 a1_0, .int .i64 a1_1, .string a1_2, .string a1_3, .string a1_4, .bool a1_5, .bool a1_6, .slice A1_7 l1_7.length c1_7]) (ok := (fun k_ => ((P0_7_ k_ ∨ P1_7_ k_) ∨ w.heap.size ≤ k_) ∧ k_ ≠ gb102 ∧ k_ ≠ gb103 ∧ k_ ≠ gb104)) (okp := (fun k_ => ((P0_7_ k_ ∨ P1_7_ k_) ∨ w.heap.size ≤ k_) ∧ k_ ≠ gb102 ∧ k_ ≠ gb103 ∧ k_ ≠ gb104)) ?hr ?hp (fun _ hk => hk) ((show ∀ k_, w5.heap.size ≤ k_ → (fun k_ => ((P0_7_ k_ ∨ P1_7_ k_) ∨ w.heap.size ≤ k_) ∧ k_ ≠ gb102 ∧ k_ ≠ gb103 ∧ k_ ≠ gb104) k_ from fun k_ hk => ⟨(.inr (Nat.le_trans (below_size (by repeat (first | (with_reducible first | exact HB.out | apply below_alloc | apply pw_below_drewN | apply below_drew1 | refine below_set ?_ GE102.out | refine below_set ?_ GE103.out | refine below_set ?_ GE104.out) | exact HB.out))) hk)), Kd.freshB (g := gb102) (o := .cells #[.int .i64 a0_0, .int .i64 a0_1, .string a0_2, .string a0_3, .string a0_4, .bool a0_5, .bool a0_6, .slice A0_7 l0_7.length c0_7] 27 (0, 0)) (by (with_reducible repeat (first | refine blk_drewN ?_ _ | refine blk_drew ?_ | refine blk_alloc ?_ _)); exact BK102.out) k_ hk, Kd.freshB (g := gb103) (o := .cells #[.int .i64 a1_0, .int .i64 a1_1, .string a1_2, .string a1_3, .string a1_4, .bool a1_5, .bool a1_6, .slice A1_7 l1_7.length c1_7] 27 (0, 0)) (by (with_reducible repeat (first | refine blk_drewN ?_ _ | refine blk_drew ?_ | refine blk_alloc ?_ _)); exact BK103.out) k_ hk, Kd.freshB (g := gb104) (o := .cells #[.int .i64 0, .int .i64 0, .string (⟨#[]⟩ : ByteArray), .string (⟨#[]⟩ : ByteArray), .string (⟨#[]⟩ : ByteArray), .bool false, .bool false, .slice none 0 0] 27 (0, 0)) (by (with_reducible repeat (first | refine blk_drewN ?_ _ | refine blk_drew ?_ | refine blk_alloc ?_ _)); exact BK104.out) k_ hk⟩) _ (Nat.le_refl _)) (Below.refl _ _) (Nat.le_refl _) (by simp) ?_; (case hd => rfl); (case hg => rfl); (case hr => first | (go_simp; done) | (go_simp; rfl)); (case hp => exact (Reps.c8 (show Kd.FK k27 _ _ (⟨a0_0, (⟨a0_1, a0_2, a0_3, a0_4⟩ : S24), a0_5, a0_6, l0_7⟩ : S27) [.int .i64 a0_0, .int .i64 a0_1, .string a0_2, .string a0_3, .string a0_4, .bool a0_5, .bool a0_6, .slice A0_7 l0_7.length c0_7] from (k27_mkF _ _ (⟨a0_0, (⟨a0_1, a0_2, a0_3, a0_4⟩ : S24), a0_5, a0_6, l0_7⟩ : S27) (Kd.V_reads' (Kd.V_mono (ok' := (fun k_ => ((P0_7_ k_ ∨ P1_7_ k_) ∨ w.heap.size ≤ k_) ∧ k_ ≠ gb102 ∧ k_ ≠ gb103 ∧ k_ ≠ gb104)) (HO0_7.out) (fun k_ hk => ⟨hk.1.1.1, ⟨hk.1.1.2, ⟨hk.1.2, hk.2⟩⟩⟩))).2.1 (Kd.V_F (Kd.V_mono (ok' := (fun k_ => ((P0_7_ k_ ∨ P1_7_ k_) ∨ w.heap.size ≤ k_) ∧ k_ ≠ gb102 ∧ k_ ≠ gb103 ∧ k_ ≠ gb104)) (HO0_7.out) (fun k_ hk => ⟨hk.1.1.1, ⟨hk.1.1.2, ⟨hk.1.2, hk.2⟩⟩⟩))))) (Reps.c8 (show Kd.FK k27 _ _ (⟨a1_0, (⟨a1_1, a1_2, a1_3, a1_4⟩ : S24), a1_5, a1_6, l1_7⟩ : S27) [.int .i64 a1_0, .int .i64 a1_1, .string a1_2, .string a1_3, .string a1_4, .bool a1_5, .bool a1_6, .slice A1_7 l1_7.length c1_7] from (k27_mkF _ _ (⟨a1_0, (⟨a1_1, a1_2, a1_3, a1_4⟩ : S24), a1_5, a1_6, l1_7⟩ : S27) (Kd.V_reads' (Kd.V_mono (ok' := (fun k_ => ((P0_7_ k_ ∨ P1_7_ k_) ∨ w.heap.size ≤ k_) ∧ k_ ≠ gb102 ∧ k_ ≠ gb103 ∧ k_ ≠ gb104)) (HO1_7.out) (fun k_ hk => ⟨hk.1.1.1, ⟨hk.1.1.2, ⟨hk.1.2, hk.2⟩⟩⟩))).2.1 (Kd.V_F (Kd.V_mono (ok' := (fun k_ => ((P0_7_ k_ ∨ P1_7_ k_) ∨ w.heap.size ≤ k_) ∧ k_ ≠ gb102 ∧ k_ ≠ gb103 ∧ k_ ≠ gb104)) (HO1_7.out) (fun k_ hk => ⟨hk.1.1.1, ⟨hk.1.1.2, ⟨hk.1.2, hk.2⟩⟩⟩))))) (Reps.none _ _)))); intro v106 w11 ho12 hb hg_ hnew_; clear hg_ hnew_; (first | rw [← Ny105.out] at ho12 | (simp only [Int.reduceToNat] at ho12; rw [← Ny105.out] at ho12)); have n0_ := Aside0.mk (Kd.V_elder' (by (with_reducible repeat (first | apply Kd.V_alloc | apply Kd.V_drewN | apply Kd.V_drew)); exact HO0_7.out) (Kd.N_base ho12) hb); have n1_ := Aside0.mk (Kd.V_elder' (by (with_reducible repeat (first | apply Kd.V_alloc | apply Kd.V_drewN | apply Kd.V_drew)); exact HO1_7.out) (Kd.N_base ho12) hb); have n2_ := Aside0.mk (Kd.N_lower ho12 (below_size (by repeat (first | (with_reducible first | exact HB.out | apply below_alloc | apply pw_below_drewN | apply below_drew1 | refine below_set ?_ GE102.out | refine below_set ?_ GE103.out | refine below_set ?_ GE104.out) | exact HB.out)))); have n3_ := Aside0.mk (blk_below (g := gb102) (o := .cells #[.int .i64 a0_0, .int .i64 a0_1, .string a0_2, .string a0_3, .string a0_4, .bool a0_5, .bool a0_6, .slice A0_7 l0_7.length c0_7] 27 (0, 0)) (by (with_reducible repeat (first | refine blk_drewN ?_ _ | refine blk_drew ?_ | refine blk_alloc ?_ _)); exact BK102.out) hb); have n4_ := Aside0.mk (blk_below (g := gb103) (o := .cells #[.int .i64 a1_0, .int .i64 a1_1, .string a1_2, .string a1_3, .string a1_4, .bool a1_5, .bool a1_6, .slice A1_7 l1_7.length c1_7] 27 (0, 0)) (by (with_reducible repeat (first | refine blk_drewN ?_ _ | refine blk_drew ?_ | refine blk_alloc ?_ _)); exact BK103.out) hb); have n5_ := Aside0.mk (blk_below (g := gb104) (o := .cells #[.int .i64 0, .int .i64 0, .string (⟨#[]⟩ : ByteArray), .string (⟨#[]⟩ : ByteArray), .string (⟨#[]⟩ : ByteArray), .bool false, .bool false, .slice none 0 0] 27 (0, 0)) (by (with_reducible repeat (first | refine blk_drewN ?_ _ | refine blk_drew ?_ | refine blk_alloc ?_ _)); exact BK104.out) hb); have n6_ := Aside0.mk (below_step (by repeat (first | (with_reducible first | exact HB.out | apply below_alloc | apply pw_below_drewN | apply below_drew1 | refine below_set ?_ GE102.out | refine below_set ?_ GE103.out | refine below_set ?_ GE104.out) | exact HB.out)) hb); clear HO0_7; clear HO1_7; clear BK102; clear BK103; clear BK104; clear HB; have HO0_7 := n0_; have HO1_7 := n1_; have HO107 := n2_; have BK102 := n3_; have BK103 := n4_; have BK104 := n5_; have HB := n6_; clear n0_ n1_ n2_ n3_ n4_ n5_ n6_; clear hb ho12; obtain ⟨Ao13, co13, eo13⟩ := Kd.N_slice HO107.out; subst eo13; have hcz14_0 : w11.cell? ⟨gb104, 0, none⟩ = some (.int .i64 0) := (blk_cell BK104.out 0).trans rfl; have hcz14_1 : w11.cell? ⟨gb104, 1, none⟩ = some (.int .i64 0) := (blk_cell BK104.out 1).trans rfl; have hcz14_2 : w11.cell? ⟨gb104, 2, none⟩ = some (.string (⟨#[]⟩ : ByteArray)) := (blk_cell BK104.out 2).trans rfl; have hcz14_3 : w11.cell? ⟨gb104, 3, none⟩ = some (.string (⟨#[]⟩ : ByteArray)) := (blk_cell BK104.out 3).trans rfl; have hcz14_4 : w11.cell? ⟨gb104, 4, none⟩ = some (.string (⟨#[]⟩ : ByteArray)) := (blk_cell BK104.out 4).trans rfl; have hcz14_5 : w11.cell? ⟨gb104, 5, none⟩ = some (.bool false) := (blk_cell BK104.out 5).trans rfl; have hcz14_6 : w11.cell? ⟨gb104, 6, none⟩ = some (.bool false) := (blk_cell BK104.out 6).trans rfl; have hcz14_7 : w11.cell? ⟨gb104, 7, none⟩ = some (.slice none 0 0) := (blk_cell BK104.out 7).trans rfl; have hfz14_0 := blk_frozen BK104.out 0; have hfz14_1 := blk_frozen BK104.out 1; have hfz14_2 := blk_frozen BK104.out 2; have hfz14_3 := blk_frozen BK104.out 3; have hfz14_4 := blk_frozen BK104.out 4; have hfz14_5 := blk_frozen BK104.out 5; have hfz14_6 := blk_frozen BK104.out 6; have hfz14_7 := blk_frozen BK104.out 7))
  refine bodyPost_ret (results_cell_row rfl _ _ gb104 27 #[.int .i64 1, .int .i64 0, .string (⟨#[]⟩ : ByteArray), .string (⟨#[]⟩ : ByteArray), .string (⟨#[]⟩ : ByteArray), .bool false, .bool false, .slice Ao13 y105.length co13] (0, 0) _ rfl (by (with_reducible repeat (first | refine blk_drewN ?_ _ | refine blk_drew ?_ | refine blk_alloc ?_ _)); refine blk_put (cs := #[.int .i64 1, .int .i64 0, .string (⟨#[]⟩ : ByteArray), .string (⟨#[]⟩ : ByteArray), .string (⟨#[]⟩ : ByteArray), .bool false, .bool false, .slice none 0 0]) ?_ 7 _ rfl; (with_reducible repeat (first | refine blk_drewN ?_ _ | refine blk_drew ?_ | refine blk_alloc ?_ _)); refine blk_put (cs := #[.int .i64 1, .int .i64 0, .string (⟨#[]⟩ : ByteArray), .string (⟨#[]⟩ : ByteArray), .string (⟨#[]⟩ : ByteArray), .bool false, .bool false, .slice none 0 0]) ?_ 6 _ rfl; (with_reducible repeat (first | refine blk_drewN ?_ _ | refine blk_drew ?_ | refine blk_alloc ?_ _)); refine blk_put (cs := #[.int .i64 1, .int .i64 0, .string (⟨#[]⟩ : ByteArray), .string (⟨#[]⟩ : ByteArray), .string (⟨#[]⟩ : ByteArray), .bool false, .bool false, .slice none 0 0]) ?_ 5 _ rfl; (with_reducible repeat (first | refine blk_drewN ?_ _ | refine blk_drew ?_ | refine blk_alloc ?_ _)); refine blk_put (cs := #[.int .i64 1, .int .i64 0, .string (⟨#[]⟩ : ByteArray), .string (⟨#[]⟩ : ByteArray), .string (⟨#[]⟩ : ByteArray), .bool false, .bool false, .slice none 0 0]) ?_ 4 _ rfl; (with_reducible repeat (first | refine blk_drewN ?_ _ | refine blk_drew ?_ | refine blk_alloc ?_ _)); refine blk_put (cs := #[.int .i64 1, .int .i64 0, .string (⟨#[]⟩ : ByteArray), .string (⟨#[]⟩ : ByteArray), .string (⟨#[]⟩ : ByteArray), .bool false, .bool false, .slice none 0 0]) ?_ 3 _ rfl; (with_reducible repeat (first | refine blk_drewN ?_ _ | refine blk_drew ?_ | refine blk_alloc ?_ _)); refine blk_put (cs := #[.int .i64 1, .int .i64 0, .string (⟨#[]⟩ : ByteArray), .string (⟨#[]⟩ : ByteArray), .string (⟨#[]⟩ : ByteArray), .bool false, .bool false, .slice none 0 0]) ?_ 2 _ rfl; (with_reducible repeat (first | refine blk_drewN ?_ _ | refine blk_drew ?_ | refine blk_alloc ?_ _)); refine blk_put (cs := #[.int .i64 1, .int .i64 0, .string (⟨#[]⟩ : ByteArray), .string (⟨#[]⟩ : ByteArray), .string (⟨#[]⟩ : ByteArray), .bool false, .bool false, .slice none 0 0]) ?_ 1 _ rfl; (with_reducible repeat (first | refine blk_drewN ?_ _ | refine blk_drew ?_ | refine blk_alloc ?_ _)); refine blk_put (cs := #[.int .i64 0, .int .i64 0, .string (⟨#[]⟩ : ByteArray), .string (⟨#[]⟩ : ByteArray), .string (⟨#[]⟩ : ByteArray), .bool false, .bool false, .slice none 0 0]) ?_ 0 _ rfl; (with_reducible repeat (first | refine blk_drewN ?_ _ | refine blk_drew ?_ | refine blk_alloc ?_ _)); exact BK104.out) Try.underlying27 rfl (by kernel_rfl)) rfl ?_
  exact ⟨_, by first | rfl | (simp [errW_none, errW_some] <;> rfl) | (simp [*, errW_none, errW_some] <;> rfl), by (with_reducible repeat (first | apply Kd.N_alloc | apply Kd.N_drewN | apply Kd.N_drew)); exact Kd.N_mono (Kd.N_far (p := ⟨gb104, 7, none⟩) (Kd.N_far (p := ⟨gb104, 6, none⟩) (Kd.N_far (p := ⟨gb104, 5, none⟩) (Kd.N_far (p := ⟨gb104, 4, none⟩) (Kd.N_far (p := ⟨gb104, 3, none⟩) (Kd.N_far (p := ⟨gb104, 2, none⟩) (Kd.N_far (p := ⟨gb104, 1, none⟩) (Kd.N_far (p := ⟨gb104, 0, none⟩) (Kd.N_mono HO107.out (fun k_ hk => (⟨hk, hk.2.2.2⟩ : _ ∧ k_ ≠ gb104))) (fun _ hk => hk.2) (.int .i64 1)) (fun _ hk => hk.2) (.int .i64 0)) (fun _ hk => hk.2) (.string (⟨#[]⟩ : ByteArray))) (fun _ hk => hk.2) (.string (⟨#[]⟩ : ByteArray))) (fun _ hk => hk.2) (.string (⟨#[]⟩ : ByteArray))) (fun _ hk => hk.2) (.bool false)) (fun _ hk => hk.2) (.bool false)) (fun _ hk => hk.2) (.slice Ao13 y105.length co13)) (fun _ hk => hk.1.1), by repeat (first | (with_reducible first | exact HB.out | apply below_alloc | apply pw_below_drewN | apply below_drew1 | refine below_set ?_ GE102.out | refine below_set ?_ GE103.out | refine below_set ?_ GE104.out) | exact HB.out)⟩
def tree_OneOf.f (l0 : List (S27)) : Option (Int × Int × ByteArray × ByteArray × ByteArray × Bool × Bool × (List (S27))) := (api_Node.f l0).bind fun t109 => (some (2, 0, (⟨#[]⟩ : ByteArray), (⟨#[]⟩ : ByteArray), (⟨#[]⟩ : ByteArray), false, false, t109))
set_option maxHeartbeats 8000000 in
set_option maxRecDepth 100000 in
theorem tree_OneOf.calls (P0_ : Nat → Prop) (A0 : Option Addr) (c0 : Nat) (l0 : List (S27)) (r1 : Int) (r2 : Int) (r3 : ByteArray) (r4 : ByteArray) (r5 : ByteArray) (r6 : Bool) (r7 : Bool) (r8 : List (S27)) (w : World) (hs0 : Kd.V k27 27 w w.heap.size (fun k_ => P0_ k_) (.slice A0 l0.length c0) l0) (h : tree_OneOf.f l0 = some (r1, r2, r3, r4, r5, r6, r7, r8)) :
    Calls Try.prog 7 #[.slice A0 l0.length c0] w fun e w' => ∃ v7_ : Value, e = .returned (.agg #[.int .i64 r1, .int .i64 r2, .string r3, .string r4, .string r5, .bool r6, .bool r7, v7_]) ∧ Kd.N k27 27 w' w.heap.size (fun k_ => (P0_ k_ ∨ w.heap.size ≤ k_)) v7_ r8 ∧ Below w.heap.size w w' := by
  have hu27 := Try.underlying27
  have HO0 := Aside0.mk (show Kd.V k27 27 w w.heap.size (fun k_ => (P0_ k_ ∨ w.heap.size ≤ k_)) (.slice A0 l0.length c0) l0 from Kd.V_mono hs0 (fun k_ hk => .inl hk))
  have HB := Aside0.mk (Below.refl w.heap.size w)
  have H : ((api_Node.f l0).bind fun t109 => (some (2, 0, (⟨#[]⟩ : ByteArray), (⟨#[]⟩ : ByteArray), (⟨#[]⟩ : ByteArray), false, false, t109))) = some (r1, r2, r3, r4, r5, r6, r7, r8) := h
  clear h
  replace H := Option.bind_eq_some_iff.mp H
  obtain ⟨t109, A20, H⟩ := H
  replace H : (some (2, 0, (⟨#[]⟩ : ByteArray), (⟨#[]⟩ : ByteArray), (⟨#[]⟩ : ByteArray), false, false, t109)) = some (r1, r2, r3, r4, r5, r6, r7, r8) := H
  have A2 := Aside0.mk A20
  clear A20
  simp only [Option.some.injEq, Prod.mk.injEq] at H
  obtain ⟨rfl, rfl, rfl, rfl, rfl, rfl, rfl, rfl⟩ := H
  go_enter Try.func7, Try.ntmps7
  go_wp2_with (first | ((with_reducible refine gate_dst (N := 2) rfl ?_); refine box_event ?hg (N := 2) ?hd (cs := #[.int .i64 0, .int .i64 0, .string (⟨#[]⟩ : ByteArray), .string (⟨#[]⟩ : ByteArray), .string (⟨#[]⟩ : ByteArray), .bool false, .bool false, .slice none 0 0]) (t := 27) ?hr ?_; (case hd => rfl); (case hg => rfl); (case hr => first | (go_simp; done) | (go_simp; rfl)); intro gb108 hg w3 hbox hb; have n0_ := Aside0.mk (Kd.V_below (Kd.V_elderB (by (with_reducible repeat (first | apply Kd.V_alloc | apply Kd.V_drewN | apply Kd.V_drew)); exact HO0.out) gb108 (Nat.le_of_eq hg.symm)) hb); have n1_ := Aside0.mk (below_step (by repeat (first | (with_reducible first | exact HB.out | apply below_alloc | apply pw_below_drewN | apply below_drew1) | exact HB.out)) hb); have n2_ := Aside0.mk (hbox); have n3_ := Aside0.mk ((by rw [hg]; exact (below_size (by repeat (first | (with_reducible first | exact HB.out | apply below_alloc | apply pw_below_drewN | apply below_drew1) | exact HB.out))) : w.heap.size ≤ gb108)); have n4_ := Aside0.mk ((by rw [hg]; exact (below_size (by repeat (first | (with_reducible first | exact HB.out | apply below_alloc | apply pw_below_drewN | apply below_drew1) | exact HB.out))) : w.heap.size ≤ gb108)); clear HO0; clear HB; have HO0 := n0_; have HB := n1_; have BK108 := n2_; have GW108 := n3_; have GE108 := n4_; clear n0_ n1_ n2_ n3_ n4_; clear hb hbox hg) | ((with_reducible refine gate_callee (f := 16) rfl ?_); refine goesL_ (some 4) rfl rfl Try.func16 (by kernel_rfl) rfl #[.slice A0 l0.length c0] rfl (by (try simp only [List.map_toArray, List.map_cons, List.map_nil]); first | done | rfl | (simp only [List.length_drop, List.length_take]; rfl)) ?_; (with_reducible refine (api_Node.calls (fun k_ => ((P0_ k_ ∨ w.heap.size ≤ k_) ∧ k_ ≠ gb108)) _ _ l0 t109 _ ?side1 A2.out).mono ?_); (case side1 => exact HO0.out); rintro e w4 ⟨v110, rfl, ho0, hb⟩; refine ⟨_, rfl, ?_⟩; have n0_ := Aside0.mk (Kd.V_elder' (by (with_reducible repeat (first | apply Kd.V_alloc | apply Kd.V_drewN | apply Kd.V_drew)); exact HO0.out) (Kd.N_base ho0) hb); have n1_ := Aside0.mk (Kd.N_lower (Kd.N_mono (ok' := fun k_ => (P0_ k_ ∨ w.heap.size ≤ k_) ∧ k_ ≠ gb108) ho0 (fun k_ hk_ => ⟨Or.elim hk_ (fun hs_ => hs_.1) (fun hn_ => (.inr (Nat.le_trans (below_size (by repeat (first | (with_reducible first | exact HB.out | apply below_alloc | apply pw_below_drewN | apply below_drew1 | refine below_set ?_ GE108.out) | exact HB.out))) hn_))), Or.elim hk_ (fun hs_ => hs_.2) (fun hn_ => (Kd.freshB (g := gb108) (o := .cells #[.int .i64 0, .int .i64 0, .string (⟨#[]⟩ : ByteArray), .string (⟨#[]⟩ : ByteArray), .string (⟨#[]⟩ : ByteArray), .bool false, .bool false, .slice none 0 0] 27 (0, 0)) (by (with_reducible repeat (first | refine blk_drewN ?_ _ | refine blk_drew ?_ | refine blk_alloc ?_ _)); exact BK108.out) k_ hn_))⟩)) (below_size (by repeat (first | (with_reducible first | exact HB.out | apply below_alloc | apply pw_below_drewN | apply below_drew1 | refine below_set ?_ GE108.out) | exact HB.out)))); have n2_ := Aside0.mk (blk_below (g := gb108) (o := .cells #[.int .i64 0, .int .i64 0, .string (⟨#[]⟩ : ByteArray), .string (⟨#[]⟩ : ByteArray), .string (⟨#[]⟩ : ByteArray), .bool false, .bool false, .slice none 0 0] 27 (0, 0)) (by (with_reducible repeat (first | refine blk_drewN ?_ _ | refine blk_drew ?_ | refine blk_alloc ?_ _)); exact BK108.out) hb); have n3_ := Aside0.mk (below_step (by repeat (first | (with_reducible first | exact HB.out | apply below_alloc | apply pw_below_drewN | apply below_drew1 | refine below_set ?_ GE108.out) | exact HB.out)) hb); clear HO0; clear BK108; clear HB; have HO0 := n0_; have HO111 := n1_; have BK108 := n2_; have HB := n3_; clear n0_ n1_ n2_ n3_; (try clear hb); (try clear hb2); (try clear hk); (try clear hi); (try clear ho0); obtain ⟨Ao5, co5, eo5⟩ := Kd.N_slice HO111.out; subst eo5; have hcz6_0 : w4.cell? ⟨gb108, 0, none⟩ = some (.int .i64 0) := (blk_cell BK108.out 0).trans rfl; have hcz6_1 : w4.cell? ⟨gb108, 1, none⟩ = some (.int .i64 0) := (blk_cell BK108.out 1).trans rfl; have hcz6_2 : w4.cell? ⟨gb108, 2, none⟩ = some (.string (⟨#[]⟩ : ByteArray)) := (blk_cell BK108.out 2).trans rfl; have hcz6_3 : w4.cell? ⟨gb108, 3, none⟩ = some (.string (⟨#[]⟩ : ByteArray)) := (blk_cell BK108.out 3).trans rfl; have hcz6_4 : w4.cell? ⟨gb108, 4, none⟩ = some (.string (⟨#[]⟩ : ByteArray)) := (blk_cell BK108.out 4).trans rfl; have hcz6_5 : w4.cell? ⟨gb108, 5, none⟩ = some (.bool false) := (blk_cell BK108.out 5).trans rfl; have hcz6_6 : w4.cell? ⟨gb108, 6, none⟩ = some (.bool false) := (blk_cell BK108.out 6).trans rfl; have hcz6_7 : w4.cell? ⟨gb108, 7, none⟩ = some (.slice none 0 0) := (blk_cell BK108.out 7).trans rfl; have hfz6_0 := blk_frozen BK108.out 0; have hfz6_1 := blk_frozen BK108.out 1; have hfz6_2 := blk_frozen BK108.out 2; have hfz6_3 := blk_frozen BK108.out 3; have hfz6_4 := blk_frozen BK108.out 4; have hfz6_5 := blk_frozen BK108.out 5; have hfz6_6 := blk_frozen BK108.out 6; have hfz6_7 := blk_frozen BK108.out 7))
  refine bodyPost_ret (results_cell_row rfl _ _ gb108 27 #[.int .i64 2, .int .i64 0, .string (⟨#[]⟩ : ByteArray), .string (⟨#[]⟩ : ByteArray), .string (⟨#[]⟩ : ByteArray), .bool false, .bool false, .slice Ao5 t109.length co5] (0, 0) _ rfl (by (with_reducible repeat (first | refine blk_drewN ?_ _ | refine blk_drew ?_ | refine blk_alloc ?_ _)); refine blk_put (cs := #[.int .i64 2, .int .i64 0, .string (⟨#[]⟩ : ByteArray), .string (⟨#[]⟩ : ByteArray), .string (⟨#[]⟩ : ByteArray), .bool false, .bool false, .slice none 0 0]) ?_ 7 _ rfl; (with_reducible repeat (first | refine blk_drewN ?_ _ | refine blk_drew ?_ | refine blk_alloc ?_ _)); refine blk_put (cs := #[.int .i64 2, .int .i64 0, .string (⟨#[]⟩ : ByteArray), .string (⟨#[]⟩ : ByteArray), .string (⟨#[]⟩ : ByteArray), .bool false, .bool false, .slice none 0 0]) ?_ 6 _ rfl; (with_reducible repeat (first | refine blk_drewN ?_ _ | refine blk_drew ?_ | refine blk_alloc ?_ _)); refine blk_put (cs := #[.int .i64 2, .int .i64 0, .string (⟨#[]⟩ : ByteArray), .string (⟨#[]⟩ : ByteArray), .string (⟨#[]⟩ : ByteArray), .bool false, .bool false, .slice none 0 0]) ?_ 5 _ rfl; (with_reducible repeat (first | refine blk_drewN ?_ _ | refine blk_drew ?_ | refine blk_alloc ?_ _)); refine blk_put (cs := #[.int .i64 2, .int .i64 0, .string (⟨#[]⟩ : ByteArray), .string (⟨#[]⟩ : ByteArray), .string (⟨#[]⟩ : ByteArray), .bool false, .bool false, .slice none 0 0]) ?_ 4 _ rfl; (with_reducible repeat (first | refine blk_drewN ?_ _ | refine blk_drew ?_ | refine blk_alloc ?_ _)); refine blk_put (cs := #[.int .i64 2, .int .i64 0, .string (⟨#[]⟩ : ByteArray), .string (⟨#[]⟩ : ByteArray), .string (⟨#[]⟩ : ByteArray), .bool false, .bool false, .slice none 0 0]) ?_ 3 _ rfl; (with_reducible repeat (first | refine blk_drewN ?_ _ | refine blk_drew ?_ | refine blk_alloc ?_ _)); refine blk_put (cs := #[.int .i64 2, .int .i64 0, .string (⟨#[]⟩ : ByteArray), .string (⟨#[]⟩ : ByteArray), .string (⟨#[]⟩ : ByteArray), .bool false, .bool false, .slice none 0 0]) ?_ 2 _ rfl; (with_reducible repeat (first | refine blk_drewN ?_ _ | refine blk_drew ?_ | refine blk_alloc ?_ _)); refine blk_put (cs := #[.int .i64 2, .int .i64 0, .string (⟨#[]⟩ : ByteArray), .string (⟨#[]⟩ : ByteArray), .string (⟨#[]⟩ : ByteArray), .bool false, .bool false, .slice none 0 0]) ?_ 1 _ rfl; (with_reducible repeat (first | refine blk_drewN ?_ _ | refine blk_drew ?_ | refine blk_alloc ?_ _)); refine blk_put (cs := #[.int .i64 0, .int .i64 0, .string (⟨#[]⟩ : ByteArray), .string (⟨#[]⟩ : ByteArray), .string (⟨#[]⟩ : ByteArray), .bool false, .bool false, .slice none 0 0]) ?_ 0 _ rfl; (with_reducible repeat (first | refine blk_drewN ?_ _ | refine blk_drew ?_ | refine blk_alloc ?_ _)); exact BK108.out) Try.underlying27 rfl (by kernel_rfl)) rfl ?_
  exact ⟨_, by first | rfl | (simp [errW_none, errW_some] <;> rfl) | (simp [*, errW_none, errW_some] <;> rfl), by (with_reducible repeat (first | apply Kd.N_alloc | apply Kd.N_drewN | apply Kd.N_drew)); exact Kd.N_mono (Kd.N_far (p := ⟨gb108, 7, none⟩) (Kd.N_far (p := ⟨gb108, 6, none⟩) (Kd.N_far (p := ⟨gb108, 5, none⟩) (Kd.N_far (p := ⟨gb108, 4, none⟩) (Kd.N_far (p := ⟨gb108, 3, none⟩) (Kd.N_far (p := ⟨gb108, 2, none⟩) (Kd.N_far (p := ⟨gb108, 1, none⟩) (Kd.N_far (p := ⟨gb108, 0, none⟩) (Kd.N_mono HO111.out (fun k_ hk => (⟨hk, hk.2⟩ : _ ∧ k_ ≠ gb108))) (fun _ hk => hk.2) (.int .i64 2)) (fun _ hk => hk.2) (.int .i64 0)) (fun _ hk => hk.2) (.string (⟨#[]⟩ : ByteArray))) (fun _ hk => hk.2) (.string (⟨#[]⟩ : ByteArray))) (fun _ hk => hk.2) (.string (⟨#[]⟩ : ByteArray))) (fun _ hk => hk.2) (.bool false)) (fun _ hk => hk.2) (.bool false)) (fun _ hk => hk.2) (.slice Ao5 t109.length co5)) (fun _ hk => hk.1.1), by repeat (first | (with_reducible first | exact HB.out | apply below_alloc | apply pw_below_drewN | apply below_drew1 | refine below_set ?_ GE108.out) | exact HB.out)⟩
def tree_Of.f (a0_0 : Int) (a0_1 : ByteArray) (a0_2 : ByteArray) (a0_3 : ByteArray) (a1 : Bool) (a2 : Bool) : Option (Int × Int × ByteArray × ByteArray × ByteArray × Bool × Bool × (List (S27))) := some (0, a0_0, a0_1, a0_2, a0_3, a1, a2, ([] : List (S27)))
set_option maxHeartbeats 8000000 in
set_option maxRecDepth 100000 in
theorem tree_Of.calls (a0_0 : Int) (a0_1 : ByteArray) (a0_2 : ByteArray) (a0_3 : ByteArray) (a1 : Bool) (a2 : Bool) (r1 : Int) (r2 : Int) (r3 : ByteArray) (r4 : ByteArray) (r5 : ByteArray) (r6 : Bool) (r7 : Bool) (r8 : List (S27)) (w : World) (h : tree_Of.f a0_0 a0_1 a0_2 a0_3 a1 a2 = some (r1, r2, r3, r4, r5, r6, r7, r8)) :
    Calls Try.prog 59 #[.agg #[.int .i64 a0_0, .string a0_1, .string a0_2, .string a0_3], .bool a1, .bool a2] w fun e w' => ∃ v7_ : Value, e = .returned (.agg #[.int .i64 r1, .int .i64 r2, .string r3, .string r4, .string r5, .bool r6, .bool r7, v7_]) ∧ Kd.R k27 27 w' w.heap.size (fun _ => True) v7_ r8 ∧ Below w.heap.size w w' := by
  have hu24 := Try.underlying24
  have hu27 := Try.underlying27
  have HB := Aside0.mk (Below.refl w.heap.size w)
  have H : (some (0, a0_0, a0_1, a0_2, a0_3, a1, a2, ([] : List (S27)))) = some (r1, r2, r3, r4, r5, r6, r7, r8) := h
  clear h
  simp only [Option.some.injEq, Prod.mk.injEq] at H
  obtain ⟨rfl, rfl, rfl, rfl, rfl, rfl, rfl, rfl⟩ := H
  go_enter Try.func59, Try.ntmps59
  go_wp2_with (first | ((with_reducible refine gate_dst (N := 3) rfl ?_); refine box_event ?hg (N := 3) ?hd (cs := #[.int .i64 a0_0, .string a0_1, .string a0_2, .string a0_3]) (t := 24) ?hr ?_; (case hd => rfl); (case hg => rfl); (case hr => first | (go_simp; done) | (go_simp; rfl)); intro gb112 hg w4 hbox hb; have n0_ := Aside0.mk (below_step (by repeat (first | (with_reducible first | exact HB.out | apply below_alloc | apply pw_below_drewN | apply below_drew1) | exact HB.out)) hb); have n1_ := Aside0.mk (hbox); have n2_ := Aside0.mk ((by rw [hg]; exact (below_size (by repeat (first | (with_reducible first | exact HB.out | apply below_alloc | apply pw_below_drewN | apply below_drew1) | exact HB.out))) : w.heap.size ≤ gb112)); have n3_ := Aside0.mk ((by rw [hg]; exact (below_size (by repeat (first | (with_reducible first | exact HB.out | apply below_alloc | apply pw_below_drewN | apply below_drew1) | exact HB.out))) : w.heap.size ≤ gb112)); clear HB; have HB := n0_; have BK112 := n1_; have GW112 := n2_; have GE112 := n3_; clear n0_ n1_ n2_ n3_; clear hb hbox hg) | ((with_reducible refine gate_dst (N := 6) rfl ?_); refine box_event ?hg (N := 6) ?hd (cs := #[.int .i64 0, .int .i64 0, .string (⟨#[]⟩ : ByteArray), .string (⟨#[]⟩ : ByteArray), .string (⟨#[]⟩ : ByteArray), .bool false, .bool false, .slice none 0 0]) (t := 27) ?hr ?_; (case hd => rfl); (case hg => rfl); (case hr => first | (go_simp; done) | (go_simp; rfl)); intro gb113 hg w5 hbox hb; have n0_ := Aside0.mk (blk_below (g := gb112) (o := .cells #[.int .i64 a0_0, .string a0_1, .string a0_2, .string a0_3] 24 (0, 0)) (by (with_reducible repeat (first | refine blk_drewN ?_ _ | refine blk_drew ?_ | refine blk_alloc ?_ _)); exact BK112.out) hb); have n1_ := Aside0.mk (below_step (by repeat (first | (with_reducible first | exact HB.out | apply below_alloc | apply pw_below_drewN | apply below_drew1 | refine below_set ?_ GE112.out) | exact HB.out)) hb); have n2_ := Aside0.mk (hbox); have n3_ := Aside0.mk ((by rw [hg]; exact (below_size (by repeat (first | (with_reducible first | exact HB.out | apply below_alloc | apply pw_below_drewN | apply below_drew1 | refine below_set ?_ GE112.out) | exact HB.out))) : w.heap.size ≤ gb113)); have n4_ := Aside0.mk ((by rw [hg]; exact (below_size (by repeat (first | (with_reducible first | exact HB.out | apply below_alloc | apply pw_below_drewN | apply below_drew1 | refine below_set ?_ GE112.out) | exact HB.out))) : w.heap.size ≤ gb113)); have n5_ := Aside0.mk ((by rw [hg]; exact Nat.ne_of_lt (blk_lt (g := gb112) (o := .cells #[.int .i64 a0_0, .string a0_1, .string a0_2, .string a0_3] 24 (0, 0)) (by (with_reducible repeat (first | refine blk_drewN ?_ _ | refine blk_drew ?_ | refine blk_alloc ?_ _)); exact BK112.out)) : gb112 ≠ gb113)); have n6_ := Aside0.mk ((by rw [hg]; exact Nat.ne_of_gt (blk_lt (g := gb112) (o := .cells #[.int .i64 a0_0, .string a0_1, .string a0_2, .string a0_3] 24 (0, 0)) (by (with_reducible repeat (first | refine blk_drewN ?_ _ | refine blk_drew ?_ | refine blk_alloc ?_ _)); exact BK112.out)) : gb113 ≠ gb112)); clear BK112; clear HB; have BK112 := n0_; have HB := n1_; have BK113 := n2_; have GW113 := n3_; have GE113 := n4_; have NB112_113 := n5_; have NB113_112 := n6_; clear n0_ n1_ n2_ n3_ n4_ n5_ n6_; clear hb hbox hg; have hnb6 := NB112_113.out; have hnc6 := NB113_112.out; have hcz7_0 : w5.cell? ⟨gb112, 0, none⟩ = some (.int .i64 a0_0) := (blk_cell BK112.out 0).trans rfl; have hcz7_1 : w5.cell? ⟨gb112, 1, none⟩ = some (.string a0_1) := (blk_cell BK112.out 1).trans rfl; have hcz7_2 : w5.cell? ⟨gb112, 2, none⟩ = some (.string a0_2) := (blk_cell BK112.out 2).trans rfl; have hcz7_3 : w5.cell? ⟨gb112, 3, none⟩ = some (.string a0_3) := (blk_cell BK112.out 3).trans rfl; have hfz7_0 := blk_frozen BK112.out 0; have hfz7_1 := blk_frozen BK112.out 1; have hfz7_2 := blk_frozen BK112.out 2; have hfz7_3 := blk_frozen BK112.out 3; have hcz8_0 : w5.cell? ⟨gb113, 0, none⟩ = some (.int .i64 0) := (blk_cell BK113.out 0).trans rfl; have hcz8_1 : w5.cell? ⟨gb113, 1, none⟩ = some (.int .i64 0) := (blk_cell BK113.out 1).trans rfl; have hcz8_2 : w5.cell? ⟨gb113, 2, none⟩ = some (.string (⟨#[]⟩ : ByteArray)) := (blk_cell BK113.out 2).trans rfl; have hcz8_3 : w5.cell? ⟨gb113, 3, none⟩ = some (.string (⟨#[]⟩ : ByteArray)) := (blk_cell BK113.out 3).trans rfl; have hcz8_4 : w5.cell? ⟨gb113, 4, none⟩ = some (.string (⟨#[]⟩ : ByteArray)) := (blk_cell BK113.out 4).trans rfl; have hcz8_5 : w5.cell? ⟨gb113, 5, none⟩ = some (.bool false) := (blk_cell BK113.out 5).trans rfl; have hcz8_6 : w5.cell? ⟨gb113, 6, none⟩ = some (.bool false) := (blk_cell BK113.out 6).trans rfl; have hcz8_7 : w5.cell? ⟨gb113, 7, none⟩ = some (.slice none 0 0) := (blk_cell BK113.out 7).trans rfl; have hfz8_0 := blk_frozen BK113.out 0; have hfz8_1 := blk_frozen BK113.out 1; have hfz8_2 := blk_frozen BK113.out 2; have hfz8_3 := blk_frozen BK113.out 3; have hfz8_4 := blk_frozen BK113.out 4; have hfz8_5 := blk_frozen BK113.out 5; have hfz8_6 := blk_frozen BK113.out 6; have hfz8_7 := blk_frozen BK113.out 7))
  refine bodyPost_ret (results_cell_row rfl _ _ gb113 27 #[.int .i64 0, .int .i64 a0_0, .string a0_1, .string a0_2, .string a0_3, .bool a1, .bool a2, .slice none 0 0] (0, 0) _ rfl (by (with_reducible repeat (first | refine blk_drewN ?_ _ | refine blk_drew ?_ | refine blk_alloc ?_ _)); refine blk_put (cs := #[.int .i64 0, .int .i64 a0_0, .string a0_1, .string a0_2, .string a0_3, .bool a1, .bool a2, .slice none 0 0]) ?_ 7 _ rfl; (with_reducible repeat (first | refine blk_drewN ?_ _ | refine blk_drew ?_ | refine blk_alloc ?_ _)); refine blk_put (cs := #[.int .i64 0, .int .i64 a0_0, .string a0_1, .string a0_2, .string a0_3, .bool a1, .bool false, .slice none 0 0]) ?_ 6 _ rfl; (with_reducible repeat (first | refine blk_drewN ?_ _ | refine blk_drew ?_ | refine blk_alloc ?_ _)); refine blk_put (cs := #[.int .i64 0, .int .i64 a0_0, .string a0_1, .string a0_2, .string a0_3, .bool false, .bool false, .slice none 0 0]) ?_ 5 _ rfl; (with_reducible repeat (first | refine blk_drewN ?_ _ | refine blk_drew ?_ | refine blk_alloc ?_ _)); refine blk_put (cs := #[.int .i64 0, .int .i64 a0_0, .string a0_1, .string a0_2, .string (⟨#[]⟩ : ByteArray), .bool false, .bool false, .slice none 0 0]) ?_ 4 _ rfl; (with_reducible repeat (first | refine blk_drewN ?_ _ | refine blk_drew ?_ | refine blk_alloc ?_ _)); refine blk_put (cs := #[.int .i64 0, .int .i64 a0_0, .string a0_1, .string (⟨#[]⟩ : ByteArray), .string (⟨#[]⟩ : ByteArray), .bool false, .bool false, .slice none 0 0]) ?_ 3 _ rfl; (with_reducible repeat (first | refine blk_drewN ?_ _ | refine blk_drew ?_ | refine blk_alloc ?_ _)); refine blk_put (cs := #[.int .i64 0, .int .i64 a0_0, .string (⟨#[]⟩ : ByteArray), .string (⟨#[]⟩ : ByteArray), .string (⟨#[]⟩ : ByteArray), .bool false, .bool false, .slice none 0 0]) ?_ 2 _ rfl; (with_reducible repeat (first | refine blk_drewN ?_ _ | refine blk_drew ?_ | refine blk_alloc ?_ _)); refine blk_put (cs := #[.int .i64 0, .int .i64 0, .string (⟨#[]⟩ : ByteArray), .string (⟨#[]⟩ : ByteArray), .string (⟨#[]⟩ : ByteArray), .bool false, .bool false, .slice none 0 0]) ?_ 1 _ rfl; (with_reducible repeat (first | refine blk_drewN ?_ _ | refine blk_drew ?_ | refine blk_alloc ?_ _)); refine blk_put (cs := #[.int .i64 0, .int .i64 0, .string (⟨#[]⟩ : ByteArray), .string (⟨#[]⟩ : ByteArray), .string (⟨#[]⟩ : ByteArray), .bool false, .bool false, .slice none 0 0]) ?_ 0 _ rfl; (with_reducible repeat (first | refine blk_drewN ?_ _ | refine blk_drew ?_ | refine blk_alloc ?_ _)); exact BK113.out) Try.underlying27 rfl (by kernel_rfl)) rfl ?_
  exact ⟨_, by first | rfl | (simp [errW_none, errW_some] <;> rfl) | (simp [*, errW_none, errW_some] <;> rfl), by first | exact Kd.R_nil _ _ _ _ _ | exact Kd.N_nil _ _ _ _ _ | exact Kd.V_nil _ _ _ _ _ | exact Kd.Q_nil _ _ _ _ _ | exact Kd.S_nil _ _ _ _ _, by repeat (first | (with_reducible first | exact HB.out | apply below_alloc | apply pw_below_drewN | apply below_drew1 | refine below_set ?_ GE112.out | refine below_set ?_ GE113.out) | exact HB.out)⟩
structure Pow (g : Nat) (w w' : World) : Prop where
  os : w'.os = w.os
  tape : w'.tape = w.tape
  output : w'.output = w.output
  size : w.heap.size ≤ w'.heap.size
  block : ∀ k, k < w.heap.size → k ≠ g → w'.heap[k]? = w.heap[k]?
theorem Pow.of_below {g : Nat} {w w' : World} (h : Below w.heap.size w w') : Pow g w w' := ⟨h.os, h.tape, h.output, h.size, fun k hk _ => h.block k hk⟩
theorem Pow.refl (g : Nat) (w : World) : Pow g w w := ⟨rfl, rfl, rfl, Nat.le_refl _, fun _ _ _ => rfl⟩
theorem Pow.trans {g : Nat} {a b c : World} (h : Pow g a b) (k : Pow g b c) : Pow g a c := ⟨k.os.trans h.os, k.tape.trans h.tape, k.output.trans h.output, Nat.le_trans h.size k.size, fun i hi hg => (k.block i (Nat.lt_of_lt_of_le hi h.size) hg).trans (h.block i hi hg)⟩
theorem Pow.below {g : Nat} {a b c : World} (h : Pow g a b) (k : Below b.heap.size b c) : Pow g a c := h.trans (Pow.of_below k)
theorem Pow.alloc {g : Nat} {a b : World} (h : Pow g a b) (o : Obj) : Pow g a (b.alloc o) := h.below (below_alloc (Below.refl _ _) o)
theorem Pow.set {g : Nat} {a b : World} (h : Pow g a b) (hg : g < b.heap.size) (i : Nat) (u : Value) : Pow g a (b.setCell ⟨g, i, none⟩ u) := by
  have hb := (Below.refl 0 b).setCell (p := ⟨g, i, none⟩) (Nat.zero_le _) u
  exact h.trans ⟨hb.os, hb.tape, hb.output, hb.size, fun k _ hk => Below.heap_setCell b ⟨g, i, none⟩ u k hk⟩
theorem Pow.setNew {g : Nat} {a b : World} (h : Pow g a b) {p : Addr} (hp : a.heap.size ≤ p.block) (u : Value) : Pow g a (b.setCell p u) := by
  have hb := (Below.refl p.block b).setCell (p := p) (Nat.le_refl _) u
  exact ⟨hb.os.trans h.os, hb.tape.trans h.tape, hb.output.trans h.output, Nat.le_trans h.size hb.size, fun k hk hg => (hb.block k (Nat.lt_of_lt_of_le hk hp)).trans (h.block k hk hg)⟩
theorem Pow.to_below {g B : Nat} {a b : World} (h : Pow g a b) (hB : B ≤ g) (hs : B ≤ a.heap.size) : Below B a b := ⟨h.os, h.tape, h.output, h.size, fun k hk => h.block k (Nat.lt_of_lt_of_le hk hs) (by omega)⟩
theorem F_pow {α : Type} {d : Kd α} {w w' : World} {g n : Nat} {A : Option Addr} {xs : List α} (h : Kd.F d w (fun k => k < g) A n xs) (hp : Pow g w w') : Kd.F d w' (fun k => k < g) A n xs := Kd.F_step h (fun k hk hlt => hp.block k hlt (Nat.ne_of_lt hk))
def TokOk : List S48 → Prop
  | [] => False
  | [t] => t.f0 = 9 ∧ t.f2.size < 1000000
  | t :: r => t.f2.size < 1000000 ∧ TokOk r
theorem TokOk.tail {t : S48} {r : List S48} (h : TokOk (t :: r)) (hk : t.f0 ≠ 9) : TokOk r := by
  cases r with
  | nil => exact absurd h.1 hk
  | cons u s => exact h.2
theorem TokOk.size {t : S48} {r : List S48} (h : TokOk (t :: r)) : t.f2.size < 1000000 := by
  cases r with
  | nil => exact h.2
  | cons u s => exact h.1
structure PAt (w : World) (g : Nat) (l : List S48) (n d : Int) (A : Option Addr) (c : Nat) : Prop where
  blk : w.heap[g]? = some (.cells #[.slice A l.length c, .int .i64 n, .int .i64 d] 43 (0, 0))
  cap : l.length ≤ c
  row : Kd.F k48 w (fun k => k < g) A l.length l
  ok : TokOk l
  n0 : 0 ≤ n
  n1 : n ≤ 64
  d0 : 0 ≤ d
  d1 : d ≤ 8
theorem PAt.below {w w' : World} {g : Nat} {l : List S48} {n d : Int} {A : Option Addr} {c : Nat} (h : PAt w g l n d A c) (hb : Below w.heap.size w w') : PAt w' g l n d A c :=
  ⟨blk_below h.blk hb, h.cap, Kd.F_below h.row hb, h.ok, h.n0, h.n1, h.d0, h.d1⟩
theorem PAt.lt {w : World} {g : Nat} {l : List S48} {n d : Int} {A : Option Addr} {c : Nat} (h : PAt w g l n d A c) : g < w.heap.size := blk_lt h.blk
theorem PAt.nodes {w : World} {g : Nat} {l : List S48} {n d : Int} {A : Option Addr} {c : Nat} (h : PAt w g l n d A c) (m : Int) (h0 : 0 ≤ m) (h1 : m ≤ 64) : PAt (w.setCell ⟨g, 1, none⟩ (.int .i64 m)) g l m d A c :=
  ⟨blk_put h.blk 1 _ rfl, h.cap, F_pow h.row ((Pow.refl g w).set h.lt 1 _), h.ok, h0, h1, h.d0, h.d1⟩
theorem PAt.deeper {w : World} {g : Nat} {l : List S48} {n d : Int} {A : Option Addr} {c : Nat} (h : PAt w g l n d A c) (m : Int) (h0 : 0 ≤ m) (h1 : m ≤ 8) : PAt (w.setCell ⟨g, 2, none⟩ (.int .i64 m)) g l n m A c :=
  ⟨blk_put h.blk 2 _ rfl, h.cap, F_pow h.row ((Pow.refl g w).set h.lt 2 _), h.ok, h.n0, h.n1, h0, h1⟩
theorem PAt.rest {w : World} {g : Nat} {t : S48} {r : List S48} {n d : Int} {A : Option Addr} {c : Nat} (h : PAt w g (t :: r) n d A c) (hk : t.f0 ≠ 9) : PAt (w.setCell ⟨g, 0, none⟩ (.slice (if c = 1 then A else A.map (·.add (1 * 3))) r.length (c - 1))) g r n d (if c = 1 then A else A.map (·.add (1 * 3))) (c - 1) :=
  ⟨blk_put h.blk 0 _ rfl, by have := h.cap; simp at this; omega, F_pow (Kd.F_cut (m := 1) (c := c) h.row (by simp) h.cap) ((Pow.refl g w).set h.lt 0 _), h.ok.tail hk, h.n0, h.n1, h.d0, h.d1⟩
theorem tokKind (a b : Int) (s : ByteArray) (w : World) : (Instr.field 48 (.agg #[.int .i64 a, .int .i64 b, .string s]) 0).run Try.prog w = .ok (.int .i64 a) w := by kernel_rfl
theorem tokAt (a b : Int) (s : ByteArray) (w : World) : (Instr.field 48 (.agg #[.int .i64 a, .int .i64 b, .string s]) 1).run Try.prog w = .ok (.int .i64 b) w := by kernel_rfl
theorem tokText (a b : Int) (s : ByteArray) (w : World) : (Instr.field 48 (.agg #[.int .i64 a, .int .i64 b, .string s]) 2).run Try.prog w = .ok (.string s) w := by kernel_rfl
attribute [local go_sem] tokKind tokAt tokText
set_option maxRecDepth 100000 in
theorem next_calls {w : World} {g : Nat} {t : S48} {r : List S48} {n d : Int} {A : Option Addr} {c : Nat} (h : PAt w g (t :: r) n d A c) :
    Calls Try.prog 14 #[.pointer (some ⟨g, 0, none⟩)] w fun e w' => e = .returned (.agg #[.int .i64 t.f0, .int .i64 t.f1, .string t.f2]) ∧ Below w.heap.size w w' := by
  have h0 := (blk_cell h.blk 0).trans rfl
  have hlt := blk_lt h.blk
  obtain ⟨ad, eA, x0, x1, x2⟩ := at_T48 (Kd.F_now h.row) 0 (by simp) (by simp)
  cases eA
  have hl : (0 : Int) < ((t :: r).length : Nat) := by simp
  rw [show rd_T48 (t :: r) 0 = t from rfl] at x0 x1 x2
  simp only [show ((0 : Int).toNat * 3) = 0 from rfl, show ad.add 0 = ad from by simp [Addr.add]] at x0 x1 x2
  have hbx := World.block_lt_of_cell? w _ x0
  generalize (t :: r).length = m at *
  clear h
  go_enter Try.func14, Try.ntmps14
  go_wp2
  refine bodyPost_ret (results_single rfl (.cell w.heap.size 48 _ (0, 0) _ rfl (blk_new w _) Try.underlying48 rfl (by kernel_rfl) .nil)) rfl ?_
  exact ⟨rfl, below_alloc (Below.refl _ _) _⟩
set_option maxRecDepth 100000 in
theorem take_calls {w : World} {g : Nat} {t : S48} {r : List S48} {n d : Int} {A : Option Addr} {c : Nat} (h : PAt w g (t :: r) n d A c) (hk : t.f0 ≠ 9) :
    Calls Try.prog 41 #[.pointer (some ⟨g, 0, none⟩)] w fun e w' => e = .returned (.tuple #[]) ∧ ∃ A' c', PAt w' g r n d A' c' ∧ Pow g w w' := by
  have h0 := (blk_cell h.blk 0).trans rfl
  have hf := blk_frozen h.blk 0
  have hlt := blk_lt h.blk
  obtain ⟨i0, hi0, _, hsz, _⟩ := info_parts infoTok
  have hcut := cut_from (P := Try.prog) 35 48 .i64 Try.underlying35 hi0 3 hsz A (t :: r).length c 1 (by omega) (by simp; omega)
  clear hi0 hsz
  rw [show (t :: r).length - (1 : Int).toNat = r.length from by simp, show (1 : Int).toNat = 1 from rfl] at hcut
  have HH := Aside0.mk (h.rest hk)
  have HP := Aside0.mk ((Pow.refl g w).set hlt 0 (.slice (if c = 1 then A else A.map (·.add (1 * 3))) r.length (c - 1)))
  clear h hk
  generalize (if c = 1 then A else A.map (·.add (1 * 3))) = A1 at *
  generalize (t :: r).length = m at *
  go_enter Try.func41, Try.ntmps41
  go_wp2
  refine bodyPost_end (results_list (rs := []) rfl (by simp) .nil) rfl ?_
  exact ⟨rfl, A1, c - 1, HH.out, HP.out⟩
def WAt (w : World) (q : Nat) (at_ e : Int) : Prop := w.heap[q]? = some (.cells #[.int .i64 at_, .int .i64 e] 52 (0, 0))
def pNot (t : S48) (e : Int) : Int × Int := (t.f1, if t.f0 = 9 then 4 else e)
set_option maxRecDepth 100000 in
theorem not_calls {w : World} {g : Nat} {t : S48} {r : List S48} {n d : Int} {A : Option Addr} {c : Nat} (h : PAt w g (t :: r) n d A c) (e : Int) :
    Calls Try.prog 15 #[.pointer (some ⟨g, 0, none⟩), .int .i64 e] w fun e1 w' => ∃ q, e1 = .returned (.pointer (some ⟨q, 0, none⟩)) ∧ WAt w' q (pNot t e).1 (pNot t e).2 ∧ w.heap.size ≤ q ∧ Below w.heap.size w w' := by
  have HH := Aside0.mk h
  clear h
  cases hk : (t.f0 == 9)
  all_goals
    have HK := Aside0.mk hk
    go_enter Try.func15, Try.ntmps15
    go_wp2_with fail
    refine (next_calls HH.out).mono ?_
    rintro e1 w1 ⟨rfl, hb⟩
    have HB1 := Aside0.mk hb
    clear hb
    go_wp2_with fail
    refine (next_calls (HH.out.below HB1.out)).mono ?_
    rintro e1 w2 ⟨rfl, hb⟩
    have HB2 := Aside0.mk (below_step HB1.out hb)
    clear hb
    go_wp2_with fail
    go_ret
    refine ⟨_, rfl, ?_, HB2.out.size, below_alloc HB2.out _⟩
    have h := HK.out
    simp only [WAt, pNot]
  · rw [if_neg (by simpa using h)]; exact blk_new _ _
  · rw [if_pos (by simpa using h)]; exact blk_new _ _
set_option maxRecDepth 100000 in
theorem begin_calls {w : World} {g : Nat} {t : S48} {r : List S48} {n d : Int} {A : Option Addr} {c : Nat} (h : PAt w g (t :: r) n d A c) :
    Calls Try.prog 40 #[.pointer (some ⟨g, 0, none⟩)] w fun e1 w' =>
      (n = 64 ∧ ∃ q, e1 = .returned (.pointer (some ⟨q, 0, none⟩)) ∧ WAt w' q (pNot t 6).1 (pNot t 6).2 ∧ w.heap.size ≤ q ∧ Below w.heap.size w w') ∨
      (n ≠ 64 ∧ e1 = .returned (.pointer none) ∧ PAt w' g (t :: r) (n + 1) d A c ∧ Pow g w w') := by
  have h1 := (blk_cell h.blk 1).trans rfl
  have hf := blk_frozen h.blk 1
  have hlt := blk_lt h.blk
  have hn0 := h.n0
  have hn1 := h.n1
  have HH := Aside0.mk h
  clear h
  by_cases hn : n = 64
  · have hnb : (n == 64) = true := beq_iff_eq.mpr hn
    have HN := Aside0.mk hn
    clear hn
    go_enter Try.func40, Try.ntmps40
    go_wp2_with fail
    refine (not_calls HH.out 6).mono ?_
    rintro e1 w1 ⟨q, rfl, hw, hq, hb⟩
    have HW := Aside0.mk hw
    have HQ := Aside0.mk hq
    have HB := Aside0.mk hb
    clear hw hq hb
    go_wp2_with fail
    go_ret
    exact .inl ⟨HN.out, q, rfl, HW.out, HQ.out, HB.out⟩
  · have hnb : (n == 64) = false := beq_eq_false_iff_ne.mpr hn
    have HN := Aside0.mk hn
    clear hn
    go_enter Try.func40, Try.ntmps40
    go_wp2_with fail
    go_ret
    exact .inr ⟨HN.out, rfl, HH.out.nodes _ (by omega) (by have := HN.out; omega), (Pow.refl g w).set hlt 1 _⟩
end Go.Proofs.Ytchodmjleceooaa.V
