/- The law ParseBack: called with any expression that can be read, of bulk at most 1048576, it returns true, and the expression reads afterwards as before. -/
import Derived.Test.YtchodmjleceooaaGreatRows
import Derived.Test.YtchodmjleceooaaGreatR16
import Derived.WalkKit
import Derived.ProofKit
import Derived.OpenShut
import Derived.ShutString
import Derived.ChangeOld
import Derived.Below
import Derived.SizedLaws
import Derived.JoinedCond
namespace Go.Proofs.YtchodmjleceooaaGreat.parseBackUpto
open Go.ChangeShapes Go.WideShapes Go.ChangeAt Go.RowKit
open Go.ChangeMaps (open_string shut_string)
set_option linter.unusedVariables false
theorem own : ownKnob Tryz.prog.godebug = none := by kernel_rfl
theorem laidOut : laidOutB Tryz.prog = true := by kernel_rfl
theorem hagg {H : Type} (l : List (DataW H)) : Rows.uptoBulkAll l + 1 ≤ Rows.uptoBulk (.agg l) := by simp [Rows.uptoBulk]
theorem hsl {H : Type} (a b : List (DataW H)) : Rows.uptoBulkAll a + Rows.uptoBulkAll b + 1 ≤ Rows.uptoBulk (.slice a b) := by simp only [Rows.uptoBulk]; omega
theorem hcons {H : Type} (d : DataW H) (r : List (DataW H)) : Rows.uptoBulk d + Rows.uptoBulkAll r ≤ Rows.uptoBulkAll (d :: r) := by simp only [Rows.uptoBulkAll]; omega
set_option maxRecDepth 100000 in
theorem lifted (os : Os) (started : os.Started) (H : Type) (enc : TypeId × Value → H) (F : Stop.Interp) :
    ReturnsInHanded {} Tryz.checked os 4 .any ((Rows.OpenSpec.upto Rows.parseBackSpec).pre6 enc Tryz.prog Tryz.f4 Rows.parseBackUptoRow.domain false) (((Rows.OpenSpec.upto Rows.parseBackSpec).at F).post enc Tryz.prog Tryz.f4 false true false false) := by
  refine returnsInHanded_of_cond (C := Tryz.checked) (s := (Rows.OpenSpec.upto Rows.parseBackSpec)) (k := Rows.uptoSmall) rfl own started (by kernel_rfl) Tryz.func4
    (OpenSpec.witness (enc := enc) (C := Tryz.checked) (s := (Rows.OpenSpec.upto Rows.parseBackSpec)) (k := Rows.uptoSmall) rfl false ⟨#[], #[.agg #[.int .i64 0, .int .i64 0, .string ⟨#[]⟩, .string ⟨#[]⟩, .string ⟨#[]⟩, .bool false, .bool false, .slice none 0 0]], []⟩ 8 (by kernel_rfl) (by kernel_rfl) (by kernel_rfl)
      (x := ([.agg [.lit (.int .i64 0), .agg [.lit (.int .i64 0), .lit (.string []), .lit (.string []), .lit (.string [])], .lit (.bool false), .lit (.bool false), .nil]], [], [])) (by kernel_rfl) rfl (by kernel_rfl)) ?_
  intro W base args ds gs before hval0 hW _ hk _
  have hval : ∀ (j : Nat) t v, Tryz.f4.params[j]? = some t → args[j]? = some v → Value.okWide Tryz.prog W .any base t v := hval0
  have hW' := hW
  obtain ⟨p, q, hA0, hV, rfl, hfz, hnd⟩ := hW
  have hA : DataW.TrodAll enc Tryz.prog W 0 (fun _ => true) true Tryz.f4.params.toList args.toList ds p := hA0
  rw [Tryz.params4] at hA hval
  obtain ⟨v0, vs0, d0, ds0, p0, q0, hargs, rfl, rfl, h0, r0⟩ := trodAll_cons hA
  obtain ⟨rfl, rfl, rfl⟩ := trodAll_nil r0
  obtain rfl : args = #[v0] := by cases args; simp_all
  obtain ⟨rfl, rfl⟩ := trodVars_none hV
  obtain ⟨cs0, rfl, hz0⟩ := okWide_struct Tryz.underlying27 (hval 0 27 v0 rfl rfl)
  have k0 := h0
  have lt0 : ∀ x ∈ p0, x.block < W.heap.size := by obtain ⟨m, hm⟩ := k0; exact DataW.trod_lt m _ _ _ hm
  obtain ⟨m0, hm0⟩ := h0
  obtain ⟨x, hK, hbx⟩ := Go.Proofs.YtchodmjleceooaaGreat.R.node_open hagg hsl hcons m0 _ _ hm0
  obtain ⟨A, c, hcs, hcl, hC⟩ := Go.Proofs.YtchodmjleceooaaGreat.R.k27_open hK
  obtain ⟨l0⟩ := cs0
  obtain rfl : l0 = [.int .i64 x.f0, .int .i64 x.f1.f0, .string x.f1.f1, .string x.f1.f2, .string x.f1.f3, .bool x.f2, .bool x.f3, .slice A x.f4.length c] := by simpa [Value.cells] using hcs
  have hb : Go.Proofs.YtchodmjleceooaaGreat.R.nsz x ≤ 1200000 := by
    have h := of_decide_eq_true hk
    simp only [List.append_nil, Rows.uptoBulkAll] at h
    have h2 : Go.Proofs.YtchodmjleceooaaGreat.R.nsz x ≤ Rows.uptoBulk d0 := hbx
    omega
  clear hA0 hval0
  refine (Go.Proofs.YtchodmjleceooaaGreat.R.back_walk x hb A c W hC hcl).mono fun e W' ⟨he, bel⟩ => ?_
  subst he
  exact ⟨_, rfl, _, _, _, [], _, [], hW', trodAll_mk1 (shut_bool Tryz.underlying4 _), (trodAll_cons_mk (Below.trod laidOut (by kernel_rfl) (of_decide_eq_true (by kernel_rfl)) k0 bel lt0) trodAll_mk0), rfl, bel.frame _, fun h => by cases h⟩
theorem over : Rows.parseBackUptoRow.holds Tryz.pinned (Rows.OpenSpec.upto Rows.parseBackSpec) :=
  OpenClaim.holds_of_cond 4 Tryz.f4 rfl rfl rfl rfl rfl rfl rfl ⟨rfl, rfl, rfl, rfl, rfl⟩ rfl rfl rfl rfl rfl (by kernel_rfl) Tryz.func4 (by kernel_rfl)
    (of_decide_eq_true (by kernel_rfl)) (by unfold Func.isWrapper; first | (rw [if_pos (by decide +kernel)]; kernel_rfl) | (rw [if_neg (by decide +kernel)]; exact ⟨rfl, rfl⟩))
    (fun os started H enc _ F => lifted os started H enc F)
theorem proved : Rows.ParseBackUptoSaid := over
#print axioms proved
end Go.Proofs.YtchodmjleceooaaGreat.parseBackUpto
namespace Go.Proofs.YtchodmjleceooaaGreat
/-- The row, under a short name, for the claim. -/
theorem parseBackUpto_holds : Rows.ParseBackUptoSaid := parseBackUpto.proved
end Go.Proofs.YtchodmjleceooaaGreat
