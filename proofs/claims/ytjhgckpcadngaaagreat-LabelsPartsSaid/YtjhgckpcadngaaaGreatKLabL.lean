/- Labels: labels.Join walked. -/
import Derived.Test.YtjhgckpcadngaaaGreatPLAx0
import Derived.Test.YtjhgckpcadngaaaGreatPLAx1
import Derived.Test.YtjhgckpcadngaaaGreatPLAx2
import Derived.Test.YtjhgckpcadngaaaGreatPLAx3
import Derived.Test.YtjhgckpcadngaaaGreatKFlow3
import Derived.Test.YtjhgckpcadngaaaGreatKFlow4
import Derived.Test.YtjhgckpcadngaaaGreatKJoin
import Derived.Test.YtjhgckpcadngaaaGreatKEv
import Derived.Test.YtjhgckpcadngaaaGreatKOpen
import Derived.Lib.SlBytesConst
import Derived.Lib.Bytes
import Derived.Deep.RegionWith
import Derived.Deep.QuietTactic
import Derived.Deep.RegionHeld3
import Derived.BigQuiet
import Derived.Outline
import Derived.Deep.WholeRow
import Derived.Lib.SliceRun
import Derived.Lib.LazyBuf
import Derived.Lib.ConvBytes
import Derived.Laws.CopyOwn
import Derived.Lib.Strings
import Derived.Lib.Slices
import Derived.Lib.Walk
import Derived.Lib.Bytealg
import Derived.Tactics
import Derived.Tactics2
import Derived.Defers
import Derived.Laws.Pointers
import Derived.Laws.LoneSync
import Derived.RegionTactic
import Derived.RegionCalls
import Derived.ChangeAlike
import Derived.Test.YtjhgckpcadngaaaGreatKLabA
import Derived.Test.YtjhgckpcadngaaaGreatKLabB
import Derived.Test.YtjhgckpcadngaaaGreatKLabC
import Derived.Test.YtjhgckpcadngaaaGreatKFrm
import Derived.Test.YtjhgckpcadngaaaGreatKSrt
import Derived.Test.YtjhgckpcadngaaaGreatKSrtN
import Derived.Test.YtjhgckpcadngaaaGreatKLabF
import Derived.Test.YtjhgckpcadngaaaGreatKLabG
import Derived.Test.YtjhgckpcadngaaaGreatKLabH
import Derived.Test.YtjhgckpcadngaaaGreatKLabI
import Derived.Test.YtjhgckpcadngaaaGreatKLabJ
import Derived.Test.YtjhgckpcadngaaaGreatKLabK
import Derived.Test.YtjhgckpcadngaaaGreatKLabE
namespace Go.Proofs.YtjhgckpcadngaaaGreatK
open Go.RowKit Go.Proofs.YtjhgckpcadngaaaGreatW.PrintWords Go.Proofs.YtjhgckpcadngaaaGreatW.PrintLast Go.Proofs.YtjhgckpcadngaaaGreatW.PrintMore
open Go.Proofs.YtjhgckpcadngaaaGreat.PLA Go.Proofs.YtjhgckpcadngaaaGreat Go.Proofs.YtjhgckpcadngaaaGreatSrt
attribute [local go_sem] max2_int min2_int max_two min_two max_three min_three max_four min_four
set_option linter.unusedVariables false
set_option linter.unusedSimpArgs false
/-- All labels of both, or none where they differ. -/
def joinL (a : List S47) : List S47 → List S47 → Option (List S47)
  | all, [] => some all
  | all, x :: r => if (getL a x.f0).toList = [] then joinL a (all ++ [x]) r else if (getL a x.f0).toList = x.f1.toList then joinL a all r else none
/-- What labels.Join of a and b comes to. -/
def JoinedG (w : World) (a b : List S47) (e : Ending) (w' : World) : Prop :=
  Below w.heap.size w w' ∧ match joinL a a b with
    | none => e = .returned (.tuple #[.slice none 0 0, .bool false])
    | some all => ∃ (W1 W2 : World) (v : Value) (n : Int), MadeG W1 all (.returned (.tuple #[v, .int .i64 n])) W2 ∧ Below W2.heap.size W2 w' ∧ e = .returned (.tuple #[v, .bool (decide (n = 0))])
theorem joinL_none_tail : ∀ (a b : List S47) (all : List S47), (joinL a all b = none ∨ ∃ t, joinL a all b = some t ∧ t.length ≤ all.length + b.length)
  | a, [], all => .inr ⟨all, rfl, by simp⟩
  | a, x :: r, all => by
    unfold joinL
    split
    · rcases joinL_none_tail a r (all ++ [x]) with h | ⟨t, h, hl⟩
      · exact .inl h
      · exact .inr ⟨t, h, by simp at hl ⊢; omega⟩
    · split
      · rcases joinL_none_tail a r all with h | ⟨t, h, hl⟩
        · exact .inl h
        · exact .inr ⟨t, h, by simp at hl ⊢; omega⟩
      · exact .inl rfl
set_option maxHeartbeats 2000000 in
set_option maxRecDepth 100000 in
theorem join_calls (A : Option Addr) (c : Nat) (a : List S47) (A2 : Option Addr) (c2 : Nat) (b : List S47) (hl : a.length + b.length ≤ 60) (hsz : ∀ x ∈ a ++ b, x.f0.size < 4611686018427387904 ∧ x.f1.size < 4611686018427387904) (w : World) (hr : Kd.C k47 w A a.length a) (hr2 : Kd.C k47 w A2 b.length b) :
    Calls Tryz.prog 22 #[.slice A a.length c, .slice A2 b.length c2] w (JoinedG w a b) := by
  have HR := Aside0.mk hr; have HR2 := Aside0.mk hr2; have HL := Aside0.mk hl; have HSZ := Aside0.mk hsz
  have HCL := Aside0.mk (cloneG_calls A c a w hr (by omega))
  clear hr hr2 hl hsz
  go_enter Tryz.func22, Tryz.ntmps22
  go_wp2_with fail
  refine (HCL.out).mono ?_
  rintro e w1 ⟨v1, rfl, hv1, hb1⟩
  have HV1 := Aside0.mk hv1; have HB1 := Aside0.mk hb1
  clear hv1 hb1
  go_wp2_with fail
  go_loopw [6, 8, 9, 16, 24, 31] (fun x6 _ _ x16 _ _ wr => ∃ (k : Nat) (v : Value) (all : List S47), k ≤ b.length ∧ x6 = v ∧ x16 = .int .i64 k ∧ Aside0 (Kd.R k47 47 wr w.heap.size (fun _ => True) v all ∧ joinL a all (b.drop k) = joinL a a b ∧ all.length ≤ a.length + k ∧ (∀ x ∈ all, x ∈ a ++ b)) ∧ Aside0 (Below w.heap.size w wr)) (fun _ _ _ x _ _ _ => b.length - (intOf x).toNat)
  case atStart => exact ⟨0, v1, a, Nat.zero_le _, rfl, rfl, ⟨HV1.out, by simp, Nat.le_refl _, fun x hx => List.mem_append_left _ hx⟩, HB1⟩
  case round =>
    obtain ⟨k, v, all, hk, rfl, rfl, HV, HB⟩ := hrel
    by_cases hlt : k < b.length
    · obtain ⟨ad, rfl, hc0, hc1⟩ := lab_get (Kd.C_below HR2.out HB.out) hlt
      have HD : Aside0 (b.drop k = b[k] :: b.drop (k + 1)) := ⟨List.drop_eq_getElem_cons hlt⟩
      have HM : Aside0 (b[k] ∈ a ++ b) := ⟨List.mem_append_right _ (List.getElem_mem hlt)⟩
      obtain ⟨y, hy⟩ : ∃ y, y = b[k] := ⟨_, rfl⟩
      rw [← hy] at hc0 hc1 HD HM
      obtain ⟨x0, x1⟩ := y
      have hki : (k : Int) < (b.length : Int) := by omega
      have HLT := Aside0.mk hlt
      obtain ⟨gv, hgv⟩ : ∃ g, g = getL a x0 := ⟨_, rfl⟩
      have HGV := Aside0.mk hgv
      clear hlt hy
      have HGET : Aside0 (∀ W, Below w.heap.size w W → Calls Tryz.prog 25 #[.slice A a.length c, .string x0] W fun e w' => e = .returned (.string gv) ∧ Below W.heap.size W w') := ⟨fun W hb => by rw [hgv]; exact get_calls A c a x0 W (Kd.C_below HR.out hb)⟩
      clear hgv
      go_upto_region 5 with (fail)
      obtain ⟨W1, hW1⟩ : ∃ W, W = wr.alloc (.cells #[.string x0, .string x1] 47) := ⟨_, rfl⟩
      obtain ⟨bx, hbx⟩ : ∃ b, b = wr.heap.size := ⟨_, rfl⟩
      have hbk : W1.heap[bx]? = some (.cells #[.string x0, .string x1] 47 (0, 0)) := by rw [hW1, hbx]; exact blk_new wr _
      have HB1 : Aside0 (Below w.heap.size w W1) := ⟨by rw [hW1]; exact below_alloc HB.out _⟩
      have HV1 : Aside0 (Kd.R k47 47 W1 w.heap.size (fun _ => True) u6 all) := ⟨by rw [hW1]; exact Kd.R_alloc HV.out.1 _⟩
      rw [← hW1, ← hbx]
      have HBK := Aside0.mk hbk
      have d0 : W1.cell? ⟨bx, 0, none⟩ = some (.string x0) := by rw [blk_cell hbk]; rfl
      have d1 : W1.cell? ⟨bx, 1, none⟩ = some (.string x1) := by rw [blk_cell hbk]; rfl
      clear hW1 hbk hbx
      go_wp2_with fail
      refine (HGET.out W1 HB1.out).mono ?_
      rintro e w2 ⟨rfl, hb2⟩
      have e0 := pw_cell_below hb2 d0
      have e1 := pw_cell_below hb2 d1
      have HB2 := Aside0.mk (below_step HB1.out hb2); have HV2 := Aside0.mk (Kd.R_below HV1.out hb2)
      clear hb2 d0 d1
      have hkb : k ≤ 60 := by have := HL.out; omega
      by_cases hg : gv.toList = []
      · have HJ : Aside0 (joinL a (all ++ [⟨x0, x1⟩]) (b.drop (k + 1)) = joinL a a b) := ⟨by rw [← HV.out.2.1, HD.out, joinL, ← HGV.out, if_pos hg]⟩
        have hall : (all.length + 1) * 32 ≤ 140737488355328 := by have := HV.out.2.2.1; have := HL.out; omega
        go_wp2_with ((with_reducible refine gate_builtin (b := .append) (xs := #[.tmp 27, .tmp 29]) rfl ?_); at_builtin; go_loud (refine Kd.R_append k47 (w0 := w) w.heap.size rfl (.tmp 27) (.tmp 29) 22 47 (.agg #[(.string ⟨#[]⟩), (.string ⟨#[]⟩)]) 32 rfl Tryz.underlying22 info47 rfl (by decide) (by decide) u6 all (⟨x0, x1⟩ : S47) [.string x0, .string x1] (fun _ => True) (fun _ => False) rfl rfl (k47_mkM _ _ _ (⟨x0, x1⟩ : S47)) (fun _ hk => hk.elim) (fun _ _ => trivial) HV2.out HB2.out HB2.out.size hall ?_; intro v3 w3 ho hb hg_ hat; have HO3 := Aside0.mk ho; have HB3 := Aside0.mk hb; clear ho hb hg_ hat))
        go_roundw
        case rel => exact ⟨k + 1, v3, all ++ [⟨x0, x1⟩], by have := HLT.out; omega, rfl, by go_num, ⟨HO3.out, HJ.out, by have := HV.out.2.2.1; simp; omega, fun z hz => by
          rcases List.mem_append.1 hz with h | h
          · exact HV.out.2.2.2 z h
          · rw [List.mem_singleton.1 h]; exact HM.out⟩, HB3⟩
        case measure => (have := HLT.out; simp [intOf]; try omega)
      · have he1 : gv.toList.isEmpty = false := List.isEmpty_eq_false_iff.2 hg
        have he2 : (gv.toList == []) = false := by simpa using hg
        by_cases hq : gv.toList = x1.toList
        · have HJ : Aside0 (joinL a all (b.drop (k + 1)) = joinL a a b) := ⟨by rw [← HV.out.2.1, HD.out, joinL, ← HGV.out, if_neg hg, if_pos hq]⟩
          have he3 : x1.toList.isEmpty = false := by rw [← hq]; exact he1
          have he4 : (x1.toList == []) = false := by rw [← hq]; exact he2
          have hg4 : ¬ x1.toList = [] := by rw [← hq]; exact hg
          go_wp2_with fail
          go_roundw
          case rel => exact ⟨k + 1, u6, all, by have := HLT.out; omega, rfl, by go_num, ⟨HV2.out, HJ.out, by have := HV.out.2.2.1; omega, HV.out.2.2.2⟩, HB2⟩
          case measure => (have := HLT.out; simp [intOf]; try omega)
        · have HJ : Aside0 (joinL a a b = none) := ⟨by rw [← HV.out.2.1, HD.out, joinL, ← HGV.out, if_neg hg, if_neg hq]⟩
          go_wp2_with fail
          go_ret2
          exact ⟨HB2.out, by rw [HJ.out]; rfl⟩
    · obtain rfl : k = b.length := by omega
      have hkk : ¬ ((b.length : Int) < (b.length : Int)) := by omega
      have HJ : Aside0 (joinL a a b = some all) := ⟨by rw [← HV.out.2.1, List.drop_length]; rfl⟩
      obtain ⟨A3, c3, hv3, hc3, hC3⟩ := Kd.R_reads HV.out.1
      subst hv3
      have HMK := Aside0.mk (makeG_calls A3 c3 all wr hC3 (by have := HV.out.2.2.1; have := HL.out; omega) (fun x hx => HSZ.out x (HV.out.2.2.2 x hx)))
      clear hc3 hC3
      go_wp2_with fail
      refine (HMK.out).mono ?_
      rintro e w2 hm
      have HMM := Aside0.mk hm
      obtain ⟨hB2, hm⟩ := hm
      have HB2 := Aside0.mk (below_step HB.out hB2)
      rcases hm with ⟨-, rfl⟩ | ⟨-, S, -, -, ⟨-, rfl⟩ | ⟨-, -, rfl⟩ | ⟨-, -, A4, c4, rfl, -, -⟩⟩
      all_goals clear hB2
      all_goals go_wp2_with fail
      all_goals go_ret2
      all_goals exact ⟨HB2.out, by rw [HJ.out]; exact ⟨_, w2, _, _, HMM.out, Below.refl _ _, rfl⟩⟩
end Go.Proofs.YtjhgckpcadngaaaGreatK
