/- Labels: the library's sorting walked: insertion from a to b, swapRange, rotate, symMerge. -/
import Derived.Test.YtjhgckpcadngaaaGreatPLAx0
import Derived.Test.YtjhgckpcadngaaaGreatPLAx1
import Derived.Test.YtjhgckpcadngaaaGreatPLAx2
import Derived.Test.YtjhgckpcadngaaaGreatPLAx3
import Derived.Test.YtjhgckpcadngaaaGreatKFlow3
import Derived.Test.YtjhgckpcadngaaaGreatKEv
import Derived.Test.YtjhgckpcadngaaaGreatKOpen
import Derived.Lib.SlBytesConst
import Derived.Lib.Bytes
import Derived.Deep.RegionWith
import Derived.Deep.QuietTactic
import Derived.Deep.RegionHeld3
import Derived.BigQuiet
import Derived.Outline
import Derived.Lib.Strings
import Derived.Lib.Slices
import Derived.Lib.Walk
import Derived.Lib.Bytealg
import Derived.Tactics
import Derived.Tactics2
import Derived.Defers
import Derived.Laws.Pointers
import Derived.Laws.LoneSync
import Derived.RegionTactic
import Derived.RegionCalls
import Derived.ChangeAlike
import Derived.Test.YtjhgckpcadngaaaGreatKLabA
import Derived.Test.YtjhgckpcadngaaaGreatKLabB
import Derived.Test.YtjhgckpcadngaaaGreatKLabC
import Derived.Test.YtjhgckpcadngaaaGreatKFrm
import Derived.Test.YtjhgckpcadngaaaGreatKSrt
import Derived.Test.YtjhgckpcadngaaaGreatKSrtN
namespace Go.Proofs.YtjhgckpcadngaaaGreatK
open Go.RowKit Go.Proofs.YtjhgckpcadngaaaGreatW.PrintWords Go.Proofs.YtjhgckpcadngaaaGreatW.PrintLast Go.Proofs.YtjhgckpcadngaaaGreatW.PrintMore
open Go.Proofs.YtjhgckpcadngaaaGreat.PLA Go.Proofs.YtjhgckpcadngaaaGreat Go.Proofs.YtjhgckpcadngaaaGreatSrt
attribute [local go_sem] max2_int min2_int max_two min_two max_three min_three max_four min_four
set_option linter.unusedVariables false
set_option linter.unusedSimpArgs false
set_option maxHeartbeats 2000000 in
set_option maxRecDepth 100000 in
theorem insG_calls (g cap : Nat) (L0 : List S47) (n a b : Nat) (hn : n = L0.length) (hn2 : n ≤ 1000) (hab : a ≤ b) (hbn : b ≤ n) (w : World) (h : RowL w g L0) :
    Calls Tryz.prog 72 #[.slice (some ⟨g, 0, none⟩) n cap, .int .i64 a, .int .i64 b, .func (.func 41) #[] #[]] w fun e w' => e = .returned (.tuple #[]) ∧ Sorted w g a b L0 w' := by
  have H := Aside0.mk h; have HN := Aside0.mk hn
  clear h hn
  go_enter Tryz.func72, Tryz.ntmps72
  go_wp2
  go_loopw [8] (fun i wr => ∃ k : Nat, a + 1 ≤ k ∧ i = .int .i64 k ∧ Aside0 (k ≤ b ∨ k = a + 1) ∧ Aside0 (∃ L, RowL wr g L ∧ Seg a b L0 L ∧ SortR leN a k L) ∧ Aside0 (Frm (fun k => k = g) w wr)) (fun i _ => b - (intOf i).toNat)
  case atStart => exact ⟨a + 1, Nat.le_refl _, by go_num, ⟨.inr rfl⟩, ⟨L0, H.out, Seg.refl _ _ _, SortR.small (Nat.le_refl _) _⟩, ⟨Frm.refl _ _⟩⟩
  case round =>
    obtain ⟨k, hk, rfl, HK, HR, HF⟩ := hrel
    by_cases hlt : k < b
    · have hki : (k : Int) < (b : Int) := by omega
      obtain ⟨L1, hr1, hs1, ho1⟩ := HR.out
      have HR1 := Aside0.mk hr1; have HS1 := Aside0.mk hs1; have HO1 := Aside0.mk ho1
      have hl1 : L1.length = n := by rw [hs1.length, HN.out]
      have HLL := Aside0.mk hl1; have HLT := Aside0.mk hlt
      clear hr1 hs1 ho1 hl1 hlt HR
      go_wp2_with fail
      go_loopw [9] (fun j wq => ∃ (q : Nat), a ≤ q ∧ q ≤ k ∧ j = .int .i64 q ∧ Aside0 (∃ Lq, RowL wq g Lq ∧ Lq.length = n ∧ Seg a b L0 Lq ∧ Ins leN a q k Lq) ∧ Aside0 (Frm (fun k => k = g) w wq)) (fun j _ => (intOf j).toNat)
      case atStart => exact ⟨k, by omega, Nat.le_refl _, rfl, ⟨L1, HR1.out, HLL.out, HS1.out, Ins.start HO1.out⟩, HF⟩
      case round =>
        obtain ⟨q, hqa, hq, rfl, HQ, HFq⟩ := hrel
        obtain ⟨Lq, hrq, hlq, hsq, hiq⟩ := HQ.out
        have HRq := Aside0.mk hrq; have HLq := Aside0.mk hlq; have HSq := Aside0.mk hsq; have HIq := Aside0.mk hiq
        clear hrq hlq hsq hiq HQ
        by_cases hqe : q = a
        · subst hqe
          have hga : decide ((q : Int) < (q : Int)) = false := decide_eq_false (by omega)
          have HFIN : Aside0 (∃ L, RowL wr g L ∧ Seg q b L0 L ∧ SortR leN q (k + 1) L) := ⟨Lq, HRq.out, HSq.out, HIq.out.atLeft⟩
          go_wp2_with fail
          go_quiet (fail)
          go_wp2_with fail
          go_roundw
          case rel => exact ⟨k + 1, by omega, by go_num, ⟨.inl (by have := HLT.out; omega)⟩, ⟨by
            obtain ⟨L, h1, h2, h3⟩ := HFIN.out
            exact ⟨L, h1.below (pw_below_drewN (Below.refl _ _) _), h2, h3⟩⟩, ⟨HFq.out.then_ (Frm.of_below (pw_below_drewN (Below.refl _ _) _)) (fun _ h => .inl h)⟩⟩
          case measure => (have := HLT.out; simp [intOf]; try omega)
        · obtain ⟨q, rfl⟩ : ∃ p, q = p + 1 := ⟨q - 1, by omega⟩
          have hqa2 : a ≤ q := by omega
          have hqn : q + 1 < Lq.length := by have h1 := HLq.out; have h2 := HLT.out; omega
          obtain ⟨x, hx⟩ : ∃ x, x = Lq[q + 1] := ⟨_, rfl⟩
          obtain ⟨y, hy⟩ : ∃ y, y = Lq[q] := ⟨_, rfl⟩
          have hc1 := HRq.out.cell2 hqn
          have hc0 := HRq.out.cell2 (i := q) (by omega)
          rw [← hx] at hc1
          rw [← hy] at hc0
          have HQN := Aside0.mk hqn; have HX := Aside0.mk hx; have HY := Aside0.mk hy
          obtain ⟨cv, hcv⟩ : ∃ v, v = cmpN x y := ⟨_, rfl⟩
          have HCV := Aside0.mk hcv
          obtain ⟨Jnv, hJnv⟩ : ∃ J : World → Prop, J = fun W' => Below wr.heap.size wr W' := ⟨_, rfl⟩
          have HJD : Aside0 (∀ W', Jnv W' → Below wr.heap.size wr W') := ⟨fun W' h => by rw [hJnv] at h; exact h⟩
          have HDJ : Aside0 (∀ W', Below wr.heap.size wr W' → Jnv W') := ⟨fun W' h => by rw [hJnv]; exact h⟩
          have HRF : Aside0 (∀ W : World, Below W.heap.size W W) := ⟨fun W => Below.refl _ _⟩
          have SF : Aside0 (∀ W', Jnv W' → W'.cell? ⟨g, (q + 1) * 2, none⟩ = some (.string x.f0) ∧ W'.cell? ⟨g, (q + 1) * 2 + 1, none⟩ = some (.string x.f1) ∧ W'.cell? ⟨g, q * 2, none⟩ = some (.string y.f0) ∧ W'.cell? ⟨g, q * 2 + 1, none⟩ = some (.string y.f1)) := ⟨fun W' hW => by
            have hb := HJD.out W' hW
            exact ⟨pw_cell_below hb hc1.1, pw_cell_below hb hc1.2.1, pw_cell_below hb hc0.1, pw_cell_below hb hc0.2.1⟩⟩
          have HCMP : Aside0 (∀ W', Jnv W' → Calls Tryz.prog 41 #[.agg #[.string x.f0, .string x.f1], .agg #[.string y.f0, .string y.f1]] W' fun e w' => e = .returned (.int .i64 cv) ∧ Jnv w' ∧ Below W'.heap.size W' w') := ⟨fun W' hW => by
            refine (byname_calls x y W').mono ?_
            rintro e w' ⟨he, hb⟩
            exact ⟨by rw [he, hcv], HDJ.out _ (below_step (HJD.out _ hW) hb), hb⟩⟩
          have HGO : Aside0 (∀ (args : Array Value) (W : World), (callFunc 41 args).run Tryz.prog W = .ok (.enter 41 args) W) := ⟨enters Tryz.func41 (by kernel_rfl) rfl⟩
          have hgt : decide ((a : Int) < ((q : Int) + 1)) = true := decide_eq_true (by omega)
          have hge : (0 : Int) ≤ (q : Int) + 1 := by omega
          have hlt1 : (q : Int) + 1 < (n : Int) := by have := HLT.out; omega
          have hlt0 : (q : Int) < (n : Int) := by omega
          have hew : IntKind.i64.wrap (q : Int) = (q : Int) := IntWalk.i64_in _ (by omega)
          have hg0 : (0 : Int) ≤ (q : Int) := by omega
          clear hJnv hc1 hc0 hx hy hcv
          go_upto_region 4 with (fail)
          refine' wp_region_flow (by kernel_rfl) (by kernel_rfl) Jnv (fun W W' => Below W.heap.size W W') HRF.out (HDJ.out _ (below_drew1 (Below.refl _ _))) _ ?_
          rotate_left
          refine' Flow.val _ 0 (some 18) (Op.move (Operand.tmp 9)) 3 (none) [] _ rfl (by kernel_rfl) (by kernel_rfl) (by kernel_rfl) (by rfl) ?_ ?_ HRF.out
          rotate_left 2
          · (intro W hW hK; go_simp; first | done | with_reducible rfl)
          try simp only [Act.put, List.setIfInBounds_toArray, List.set_cons_zero, List.set_cons_succ]
          refine' Flow.val _ 1 (some 19) (Op.move (Operand.tmp 1)) 3 (none) [] _ rfl (by kernel_rfl) (by kernel_rfl) (by kernel_rfl) (by rfl) ?_ ?_ HRF.out
          rotate_left 2
          · (intro W hW hK; go_simp; first | done | with_reducible rfl)
          try simp only [Act.put, List.setIfInBounds_toArray, List.set_cons_zero, List.set_cons_succ]
          refine' Flow.val _ 2 (some 20) (Op.binOp BinOp.gtr 3 (Operand.tmp 18) (Operand.tmp 19) 3) 4 (none) [] _ rfl (by kernel_rfl) (by kernel_rfl) (by kernel_rfl) (by rfl) ?_ ?_ HRF.out
          rotate_left 2
          · (intro W hW hK; go_simp; first | done | with_reducible rfl)
          try simp only [Act.put, List.setIfInBounds_toArray, List.set_cons_zero, List.set_cons_succ]
          refine' Flow.val _ 3 (some 21) (Op.move (Operand.tmp 20)) 4 (none) [] _ rfl (by kernel_rfl) (by kernel_rfl) (by kernel_rfl) (by rfl) ?_ ?_ HRF.out
          rotate_left 2
          · (intro W hW hK; go_simp; first | done | with_reducible rfl)
          try simp only [Act.put, List.setIfInBounds_toArray, List.set_cons_zero, List.set_cons_succ]
          refine' Flow.val _ 4 (some 22) (Op.move (Operand.tmp 3)) 59 (some (3, true)) [] _ rfl (by kernel_rfl) (by kernel_rfl) (by kernel_rfl) (by rfl) ?_ ?_ HRF.out
          rotate_left 2
          · (intro W hW hK; go_simp; first | done | with_reducible rfl)
          try simp only [Act.put, List.setIfInBounds_toArray, List.set_cons_zero, List.set_cons_succ]
          refine' Flow.val _ 5 (some 23) (Op.move (Operand.tmp 0)) 22 (some (3, true)) [] _ rfl (by kernel_rfl) (by kernel_rfl) (by kernel_rfl) (by rfl) ?_ ?_ HRF.out
          rotate_left 2
          · (intro W hW hK; go_simp; first | done | with_reducible rfl)
          try simp only [Act.put, List.setIfInBounds_toArray, List.set_cons_zero, List.set_cons_succ]
          refine' Flow.val _ 6 (some 24) (Op.move (Operand.tmp 9)) 3 (some (3, true)) [] _ rfl (by kernel_rfl) (by kernel_rfl) (by kernel_rfl) (by rfl) ?_ ?_ HRF.out
          rotate_left 2
          · (intro W hW hK; go_simp; first | done | with_reducible rfl)
          try simp only [Act.put, List.setIfInBounds_toArray, List.set_cons_zero, List.set_cons_succ]
          refine' Flow.val _ 7 (some 25) (Op.indexAddr 22 (Operand.tmp 23) (Operand.tmp 24)) 0 (some (3, true)) [] _ rfl (by kernel_rfl) (by kernel_rfl) (by kernel_rfl) (by rfl) ?_ ?_ HRF.out
          rotate_left 2
          · (intro W hW hK; have hF := SF.out W hW; go_simp; first | done | with_reducible rfl)
          try simp only [Act.put, List.setIfInBounds_toArray, List.set_cons_zero, List.set_cons_succ]
          refine' Flow.val _ 8 (some 26) (Op.load 47 (Operand.tmp 25)) 47 (some (3, true)) [] _ rfl (by kernel_rfl) (by kernel_rfl) (by kernel_rfl) (by rfl) ?_ ?_ HRF.out
          rotate_left 2
          · (intro W hW hK; have hF := SF.out W hW; go_simp; first | done | with_reducible rfl)
          try simp only [Act.put, List.setIfInBounds_toArray, List.set_cons_zero, List.set_cons_succ]
          refine' Flow.val _ 9 (some 27) (Op.move (Operand.tmp 0)) 22 (some (3, true)) [] _ rfl (by kernel_rfl) (by kernel_rfl) (by kernel_rfl) (by rfl) ?_ ?_ HRF.out
          rotate_left 2
          · (intro W hW hK; go_simp; first | done | with_reducible rfl)
          try simp only [Act.put, List.setIfInBounds_toArray, List.set_cons_zero, List.set_cons_succ]
          refine' Flow.val _ 10 (some 28) (Op.move (Operand.tmp 9)) 3 (some (3, true)) [] _ rfl (by kernel_rfl) (by kernel_rfl) (by kernel_rfl) (by rfl) ?_ ?_ HRF.out
          rotate_left 2
          · (intro W hW hK; go_simp; first | done | with_reducible rfl)
          try simp only [Act.put, List.setIfInBounds_toArray, List.set_cons_zero, List.set_cons_succ]
          refine' Flow.val _ 11 (some 29) (Op.binOp BinOp.sub 3 (Operand.tmp 28) (Operand.const (Value.int IntKind.i64 1)) 3) 3 (some (3, true)) [] _ rfl (by kernel_rfl) (by kernel_rfl) (by kernel_rfl) (by rfl) ?_ ?_ HRF.out
          rotate_left 2
          · (intro W hW hK; go_simp; first | done | with_reducible rfl)
          try simp only [Act.put, List.setIfInBounds_toArray, List.set_cons_zero, List.set_cons_succ]
          refine' Flow.val _ 12 (some 30) (Op.indexAddr 22 (Operand.tmp 27) (Operand.tmp 29)) 0 (some (3, true)) [] _ rfl (by kernel_rfl) (by kernel_rfl) (by kernel_rfl) (by rfl) ?_ ?_ HRF.out
          rotate_left 2
          · (intro W hW hK; have hF := SF.out W hW; go_simp; first | done | with_reducible rfl)
          try simp only [Act.put, List.setIfInBounds_toArray, List.set_cons_zero, List.set_cons_succ]
          refine' Flow.val _ 13 (some 31) (Op.load 47 (Operand.tmp 30)) 47 (some (3, true)) [] _ rfl (by kernel_rfl) (by kernel_rfl) (by kernel_rfl) (by rfl) ?_ ?_ HRF.out
          rotate_left 2
          · (intro W hW hK; have hF := SF.out W hW; go_simp; first | done | with_reducible rfl)
          try simp only [Act.put, List.setIfInBounds_toArray, List.set_cons_zero, List.set_cons_succ]
          refine' Flow.call _ 14 (some 32) (Op.call { callee := Callee.value (Operand.tmp 22), args := #[Operand.tmp 26, Operand.tmp 31], argTypes := #[47, 47] }) 3 (some (3, true)) [] _ 41 _ rfl (by kernel_rfl) (by kernel_rfl) (by kernel_rfl) (by rfl) ?_ ?_ ?_
          rotate_left 3
          · (intro W; go_simp; first | done | with_reducible rfl)
          · (intro W hW hK; refine (HCMP.out W hW).mono ?_; intro e w' h; exact h)
          try simp only [Act.put, List.setIfInBounds_toArray, List.set_cons_zero, List.set_cons_succ]
          refine' Flow.val _ 15 (some 33) (Op.binOp BinOp.lss 3 (Operand.tmp 32) (Operand.const (Value.int IntKind.i64 0)) 3) 4 (some (3, true)) [] _ rfl (by kernel_rfl) (by kernel_rfl) (by kernel_rfl) (by rfl) ?_ ?_ HRF.out
          rotate_left 2
          · (intro W hW hK; go_simp; first | done | with_reducible rfl)
          try simp only [Act.put, List.setIfInBounds_toArray, List.set_cons_zero, List.set_cons_succ]
          refine' Flow.val _ 16 (some 34) (Op.pick (Operand.tmp 21) (Operand.tmp 33) (Operand.const (Value.bool false))) 4 (none) [] _ rfl (by kernel_rfl) (by kernel_rfl) (by kernel_rfl) (by rfl) ?_ ?_ HRF.out
          rotate_left 2
          · (intro W hW hK; go_simp; first | done | with_reducible rfl)
          try simp only [Act.put, List.setIfInBounds_toArray, List.set_cons_zero, List.set_cons_succ]
          refine Flow.done _ (by kernel_rfl) ?_
          intro W5 hW hK
          have hb5 := HJD.out _ hW
          have hr5 := HRq.out.below hb5
          have HR5 := Aside0.mk hr5
          have HF5 : Aside0 (Frm (fun k => k = g) w W5) := ⟨HFq.out.then_ (Frm.of_below hb5) (fun _ h => .inl h)⟩
          clear hK hW SF HCMP HGO HJD HDJ HRF hb5
          by_cases hc : cv < 0
          · have dc : decide (cv < 0) = true := decide_eq_true hc
            have HC := Aside0.mk hc
            have hx5 := hr5.cell2 HQN.out
            have hy5 := hr5.cell2 (i := q) (by have := HQN.out; omega)
            rw [← HX.out] at hx5
            rw [← HY.out] at hy5
            obtain ⟨x5, x6, z5, z6⟩ := hx5
            obtain ⟨y5, y6, z7, z8⟩ := hy5
            clear hr5
            go_upto_region 6 with (fail)
            go_region
            have HSW : Aside0 (∃ L, RowL ((((W5.setCell ⟨g, (q + 1) * 2, none⟩ (.string y.f0)).setCell ⟨g, (q + 1) * 2 + 1, none⟩ (.string y.f1)).setCell ⟨g, q * 2, none⟩ (.string x.f0)).setCell ⟨g, q * 2 + 1, none⟩ (.string x.f1)).drew g L ∧ L.length = n ∧ Seg a b L0 L ∧ Ins leN a q k L) := ⟨by
              have hq1 := HQN.out
              have hb2 := HLT.out
              refine ⟨swpAt Lq (q + 1) q, ?_, ?_, ?_, ?_⟩
              · obtain ⟨cur, h1, h2⟩ := HR5.out.swapG HQN.out (by omega) HX.out HY.out
                exact ⟨cur, h1, h2⟩
              · rw [swpAt_length]; exact HLq.out
              · exact HSq.out.trans (Seg_swp (by omega) (by omega) (by omega) (by omega) (by omega) (by omega))
              · exact Ins.step (by omega) HIq.out (by omega) (by rw [← HX.out, ← HY.out]; exact leN_of_lt (by rw [← HCV.out]; exact HC.out))⟩
            have HFS : Aside0 (Frm (fun k => k = g) w ((((W5.setCell ⟨g, (q + 1) * 2, none⟩ (.string y.f0)).setCell ⟨g, (q + 1) * 2 + 1, none⟩ (.string y.f1)).setCell ⟨g, q * 2, none⟩ (.string x.f0)).setCell ⟨g, q * 2 + 1, none⟩ (.string x.f1)).drew) := ⟨Frm.drew (FrmG.swap HF5.out (q + 1) q _ _ _ _)⟩
            clear x5 x6 z5 z6 y5 y6 z7 z8
            go_wp2_with fail
            go_roundw
            case rel => exact ⟨q, by omega, by omega, by go_num, HSW, HFS⟩
            case measure => (simp [intOf]; try omega)
          · have dc : decide (cv < 0) = false := decide_eq_false hc
            have HFIN : Aside0 (∃ L, RowL W5 g L ∧ Seg a b L0 L ∧ SortR leN a (k + 1) L) := ⟨Lq, HR5.out, HSq.out, Ins.stop leN_trans HIq.out HQN.out (by rw [← HX.out, ← HY.out]; exact leN_of_not (by rw [← HCV.out]; exact hc))⟩
            clear hr5
            go_wp2_with fail
            go_roundw
            case rel => exact ⟨k + 1, by omega, by go_num, ⟨.inl (by have := HLT.out; omega)⟩, HFIN, HF5⟩
            case measure => (have := HLT.out; simp [intOf]; try omega)
    · have hkf : ¬ ((k : Int) < (b : Int)) := by omega
      have HE : Aside0 (b ≤ k) := ⟨by omega⟩
      clear hlt
      go_wp2_with fail
      go_end0
      refine ⟨rfl, ?_, HF.out⟩
      obtain ⟨L, h1, h2, h3⟩ := HR.out
      exact ⟨L, h1, h2, h3.mono (Nat.le_refl _) HE.out⟩
set_option maxHeartbeats 2000000 in
set_option maxRecDepth 100000 in
theorem swaprange_calls (g cap : Nat) (L0 : List S47) (n a b m : Nat) (hn : n = L0.length) (hn2 : n ≤ 1000) (hab : a + m ≤ b) (hbn : b + m ≤ n) (w : World) (h : RowL w g L0) :
    Calls Tryz.prog 90 #[.slice (some ⟨g, 0, none⟩) n cap, .int .i64 a, .int .i64 b, .int .i64 m, .func (.func 41) #[] #[]] w fun e w' => e = .returned (.tuple #[]) ∧ (∃ L', RowL w' g L' ∧ Seg a (b + m) L0 L' ∧ SwpOf a b m L0 L') ∧ Frm (fun k => k = g) w w' := by
  have H := Aside0.mk h; have HN := Aside0.mk hn
  clear h hn
  go_enter Tryz.func90, Tryz.ntmps90
  go_wp2
  go_loopw [10] (fun i wr => ∃ k : Nat, k ≤ m ∧ i = .int .i64 k ∧ Aside0 (∃ L, RowL wr g L ∧ Seg a (b + m) L0 L ∧ SwpOf a b k L0 L) ∧ Aside0 (Frm (fun k => k = g) w wr)) (fun i _ => m - (intOf i).toNat)
  case atStart => exact ⟨0, Nat.zero_le _, rfl, ⟨L0, H.out, Seg.refl _ _ _, SwpOf.zero _ _ _⟩, ⟨Frm.refl _ _⟩⟩
  case round =>
    obtain ⟨k, hk, rfl, HR, HF⟩ := hrel
    by_cases hlt : k < m
    · have hki : (k : Int) < (m : Int) := by omega
      obtain ⟨L1, hr1, hs1, ho1⟩ := HR.out
      have hl1 : L1.length = n := by rw [hs1.length, HN.out]
      have HR1 := Aside0.mk hr1; have HS1 := Aside0.mk hs1; have HO1 := Aside0.mk ho1
      have HLL := Aside0.mk hl1; have HLT := Aside0.mk hlt
      have hp : a + k < L1.length := by omega
      have hq : b + k < L1.length := by omega
      have HP := Aside0.mk hp; have HQ := Aside0.mk hq
      obtain ⟨x, hx⟩ : ∃ x, x = L1[a + k] := ⟨_, rfl⟩
      obtain ⟨y, hy⟩ : ∃ y, y = L1[b + k] := ⟨_, rfl⟩
      have hx5 := hr1.cell2 hp
      have hy5 := hr1.cell2 hq
      rw [← hx] at hx5
      rw [← hy] at hy5
      have HX := Aside0.mk hx; have HY := Aside0.mk hy
      obtain ⟨p, hpe⟩ : ∃ p, p = a + k := ⟨_, rfl⟩
      obtain ⟨q, hqe⟩ : ∃ q, q = b + k := ⟨_, rfl⟩
      have ew1 : IntKind.i64.wrap ((a : Int) + (k : Int)) = (p : Int) := by rw [hpe]; push_cast; exact IntWalk.i64_in _ (by omega)
      have ew2 : IntKind.i64.wrap ((b : Int) + (k : Int)) = (q : Int) := by rw [hqe]; push_cast; exact IntWalk.i64_in _ (by omega)
      have g1 : (p : Int) < (n : Int) := by omega
      have g2 : (q : Int) < (n : Int) := by omega
      have g3 : (0 : Int) ≤ (p : Int) := by omega
      have g4 : (0 : Int) ≤ (q : Int) := by omega
      rw [← hpe] at hx5
      rw [← hqe] at hy5
      have HPE := Aside0.mk hpe; have HQE := Aside0.mk hqe
      have n1 : ¬ p = q := by omega
      have n2 : ¬ q = p := by omega
      have n3 : ¬ p * 2 = q * 2 + 1 := by omega
      have n4 : ¬ p * 2 + 1 = q * 2 := by omega
      have n5 : ¬ q * 2 = p * 2 + 1 := by omega
      have n6 : ¬ q * 2 + 1 = p * 2 := by omega
      have n7 : ¬ p * 2 = q * 2 := by omega
      have n8 : ¬ q * 2 = p * 2 := by omega
      obtain ⟨x5, x6, z5, z6⟩ := hx5
      obtain ⟨y5, y6, z7, z8⟩ := hy5
      clear hr1 hs1 ho1 hl1 hlt HR hx hy hpe hqe
      go_upto_region 3 with (fail)
      go_region
      have HSW : Aside0 (∃ L, RowL ((((wr.setCell ⟨g, p * 2, none⟩ (.string y.f0)).setCell ⟨g, p * 2 + 1, none⟩ (.string y.f1)).setCell ⟨g, q * 2, none⟩ (.string x.f0)).setCell ⟨g, q * 2 + 1, none⟩ (.string x.f1)).drew g L ∧ Seg a (b + m) L0 L ∧ SwpOf a b (k + 1) L0 L) := ⟨by
        have e1 := HPE.out
        have e2 := HQE.out
        have e3 := HLT.out
        refine ⟨swpAt L1 p q, ?_, ?_, ?_⟩
        · obtain ⟨cur, h1, h2⟩ := HR1.out.swapG (i := p) (j := q) (by omega) (by omega) (x := x) (y := y) (by rw [HX.out]; congr 1; omega) (by rw [HY.out]; congr 1; omega)
          exact ⟨cur, h1, h2⟩
        · exact HS1.out.trans (Seg_swp (by omega) (by omega) (by omega) (by omega) (by omega) (by omega))
        · rw [e1, e2]; exact SwpOf.step HO1.out (by omega) HP.out HQ.out⟩
      have HFS : Aside0 (Frm (fun k => k = g) w ((((wr.setCell ⟨g, p * 2, none⟩ (.string y.f0)).setCell ⟨g, p * 2 + 1, none⟩ (.string y.f1)).setCell ⟨g, q * 2, none⟩ (.string x.f0)).setCell ⟨g, q * 2 + 1, none⟩ (.string x.f1)).drew) := ⟨Frm.drew (FrmG.swap HF.out p q _ _ _ _)⟩
      clear x5 x6 z5 z6 y5 y6 z7 z8
      go_wp2_with fail
      go_roundw
      case rel => exact ⟨k + 1, by omega, by go_num, HSW, HFS⟩
      case measure => (have := HLT.out; simp [intOf]; try omega)
    · obtain rfl : k = m := by omega
      go_wp2_with fail
      go_end0
      exact ⟨rfl, HR.out, HF.out⟩
set_option maxHeartbeats 2000000 in
set_option maxRecDepth 100000 in
theorem rotate_calls (g cap : Nat) (L0 : List S47) (n a m b : Nat) (hn : n = L0.length) (hn2 : n ≤ 1000) (ham : a < m) (hmb : m < b) (hbn : b ≤ n) (w : World) (h : RowL w g L0) :
    Calls Tryz.prog 81 #[.slice (some ⟨g, 0, none⟩) n cap, .int .i64 a, .int .i64 m, .int .i64 b, .func (.func 41) #[] #[]] w fun e w' => e = .returned (.tuple #[]) ∧ (∃ L', RowL w' g L' ∧ Seg a b L0 L' ∧ RotOf a m b L0 L') ∧ Frm (fun k => k = g) w w' := by
  have H := Aside0.mk h; have HN := Aside0.mk hn
  clear h hn
  have e1 : IntKind.i64.wrap ((m : Int) - (a : Int)) = ((m - a : Nat) : Int) := by rw [Int.ofNat_sub (by omega)]; exact IntWalk.i64_in _ (by omega)
  have e2 : IntKind.i64.wrap ((b : Int) - (m : Int)) = ((b - m : Nat) : Int) := by rw [Int.ofNat_sub (by omega)]; exact IntWalk.i64_in _ (by omega)
  go_enter Tryz.func81, Tryz.ntmps81
  go_wp2_with fail
  go_loopw [10, 11] (fun i j wr => ∃ p q : Nat, 0 < p ∧ 0 < q ∧ p ≤ m - a ∧ q ≤ b - m ∧ i = .int .i64 p ∧ j = .int .i64 q ∧ Aside0 (∃ L, RowL wr g L ∧ Seg a b L0 L ∧ ∀ T, RotOf (m - p) m (m + q) L T → RotOf a m b L0 T) ∧ Aside0 (Frm (fun k => k = g) w wr)) (fun i j _ => (intOf i).toNat + (intOf j).toNat)
  case atStart =>
    refine ⟨m - a, b - m, by omega, by omega, by omega, by omega, ?_, ?_, ⟨L0, H.out, Seg.refl _ _ _, fun T h => ?_⟩, ⟨Frm.refl _ _⟩⟩
    · go_num
    · go_num
    · rwa [show m - (m - a) = a by omega, show m + (b - m) = b by omega] at h
  case round =>
    obtain ⟨p, q, hp, hq, hpm, hqm, rfl, rfl, HR, HF⟩ := hrel
    obtain ⟨L1, hr1, hs1, ho1⟩ := HR.out
    have hl1 : n = L1.length := by rw [hs1.length, HN.out]
    have HR1 := Aside0.mk hr1; have HS1 := Aside0.mk hs1; have HO1 := Aside0.mk ho1; have HL1 := Aside0.mk hl1
    have e3 : IntKind.i64.wrap ((m : Int) - (p : Int)) = ((m - p : Nat) : Int) := by rw [Int.ofNat_sub (by omega)]; exact IntWalk.i64_in _ (by omega)
    clear hr1 hs1 ho1 hl1 HR
    rcases Nat.lt_trichotomy p q with hlt | rfl | hgt
    · have d1 : ¬ ((p : Int) = (q : Int)) := by omega
      have d2 : ¬ ((q : Int) < (p : Int)) := by omega
      have e4 : (m : Int) + (q : Int) - (p : Int) = ((m + q - p : Nat) : Int) := by omega
      have e5 : IntKind.i64.wrap ((q : Int) - (p : Int)) = ((q - p : Nat) : Int) := by rw [Int.ofNat_sub (by omega)]; exact IntWalk.i64_in _ (by omega)
      have HSR := Aside0.mk (swaprange_calls g cap L1 n (m - p) (m + q - p) p HL1.out hn2 (by omega) (by omega) wr HR1.out)
      have HLT := Aside0.mk hlt
      clear hlt
      go_wp2_with fail
      refine (HSR.out).mono ?_
      rintro e w2 ⟨rfl, ⟨L2, hr2, hs2, ho2⟩, hf2⟩
      have HX2 : Aside0 (∃ L, RowL w2 g L ∧ Seg a b L0 L ∧ ∀ T, RotOf (m - p) m (m + (q - p)) L T → RotOf a m b L0 T) := ⟨L2, hr2, HS1.out.trans (hs2.mono (by omega) (by have := HLT.out; omega)), fun T hT => HO1.out T (RotOf.right ho2 hT (by omega) HLT.out)⟩
      have HF2 := Aside0.mk (HF.out.then_ hf2 (fun _ h => .inl h))
      clear hr2 hs2 ho2 hf2
      go_wp2_with fail
      go_roundw
      case rel => exact ⟨p, q - p, hp, by have := HLT.out; omega, hpm, by omega, rfl, by go_num, HX2, HF2⟩
      case measure => (have := HLT.out; simp [intOf]; try omega)
    · have HSR := Aside0.mk (swaprange_calls g cap L1 n (m - p) m p HL1.out hn2 (by omega) (by omega) wr HR1.out)
      go_wp2_with fail
      refine (HSR.out).mono ?_
      rintro e w2 ⟨rfl, ⟨L2, hr2, hs2, ho2⟩, hf2⟩
      have HX2 : Aside0 (∃ L, RowL w2 g L ∧ Seg a b L0 L ∧ RotOf a m b L0 L) := ⟨L2, hr2, HS1.out.trans (hs2.mono (by omega) (by omega)), HO1.out L2 (RotOf.done ho2 (by omega))⟩
      have HF2 := Aside0.mk (HF.out.then_ hf2 (fun _ h => .inl h))
      clear hr2 hs2 ho2 hf2
      go_wp2_with fail
      go_end0
      exact ⟨rfl, HX2.out, HF2.out⟩
    · have d1 : ¬ ((p : Int) = (q : Int)) := by omega
      have d2 : ((q : Int) < (p : Int)) := by omega
      have e5 : IntKind.i64.wrap ((p : Int) - (q : Int)) = ((p - q : Nat) : Int) := by rw [Int.ofNat_sub (by omega)]; exact IntWalk.i64_in _ (by omega)
      have HSR := Aside0.mk (swaprange_calls g cap L1 n (m - p) m q HL1.out hn2 (by omega) (by omega) wr HR1.out)
      have HLT := Aside0.mk hgt
      clear hgt
      go_wp2_with fail
      refine (HSR.out).mono ?_
      rintro e w2 ⟨rfl, ⟨L2, hr2, hs2, ho2⟩, hf2⟩
      have HX2 : Aside0 (∃ L, RowL w2 g L ∧ Seg a b L0 L ∧ ∀ T, RotOf (m - (p - q)) m (m + q) L T → RotOf a m b L0 T) := ⟨L2, hr2, HS1.out.trans (hs2.mono (by omega) (by have := HLT.out; omega)), fun T hT => HO1.out T (RotOf.left ho2 hT (by omega) HLT.out)⟩
      have HF2 := Aside0.mk (HF.out.then_ hf2 (fun _ h => .inl h))
      clear hr2 hs2 ho2 hf2
      go_wp2_with fail
      go_roundw
      case rel => exact ⟨p - q, q, by have := HLT.out; omega, hq, by omega, hqm, by go_num, rfl, HX2, HF2⟩
      case measure => (have := HLT.out; simp [intOf]; try omega)
set_option maxHeartbeats 2000000 in
set_option maxRecDepth 100000 in
theorem symmerge_calls (g cap n : Nat) (hn2 : n ≤ 1000) (d : Nat) : ∀ (a m b : Nat) (L0 : List S47) (w : World), b - a ≤ d → n = L0.length → a < m → m < b → b ≤ n → SortR leN a m L0 → SortR leN m b L0 → RowL w g L0 →
    Calls Tryz.prog 73 #[.slice (some ⟨g, 0, none⟩) n cap, .int .i64 a, .int .i64 m, .int .i64 b, .func (.func 41) #[] #[]] w fun e w' => e = .returned (.tuple #[]) ∧ Sorted w g a b L0 w' := by
  induction d with
  | zero => intro a m b L0 w h1 h2 h3 h4; omega
  | succ d ih =>
  intro a m b L0 w hd hn ham hmb hbn hs1 hs2 h
  have H := Aside0.mk h; have HN := Aside0.mk hn; have HS1 := Aside0.mk hs1; have HS2 := Aside0.mk hs2; have HD := Aside0.mk hd
  have IH := Aside0.mk ih
  clear h hn hs1 hs2 hd ih
  by_cases hone : m - a = 1
  · have e1 : (m : Int) - (a : Int) = 1 := by omega
    have e1' : IntKind.i64.wrap ((m : Int) - (a : Int)) = 1 := by rw [e1]; rfl
    go_enter Tryz.func73, Tryz.ntmps73
    go_wp2_with fail
    go_loopw [10, 11] (fun i j wr => ∃ p q : Nat, m ≤ p ∧ p ≤ q ∧ q ≤ b ∧ i = .int .i64 p ∧ j = .int .i64 q ∧ Aside0 (p = m ∨ ∀ x y, L0[p - 1]? = some x → L0[a]? = some y → leN x y) ∧ Aside0 (q = b ∨ ∀ x y, L0[a]? = some x → L0[q]? = some y → leN x y) ∧ Aside0 (Below w.heap.size w wr)) (fun i j _ => (intOf j).toNat - (intOf i).toNat)
    case atStart => exact ⟨m, b, Nat.le_refl _, by omega, Nat.le_refl _, rfl, rfl, ⟨.inl rfl⟩, ⟨.inl rfl⟩, ⟨Below.refl _ _⟩⟩
    case round =>
      obtain ⟨p, q, hmp, hpq, hqb, rfl, rfl, HP, HQ, HB⟩ := hrel
      by_cases hlt : p < q
      · have hlti : (p : Int) < (q : Int) := by omega
        obtain ⟨c, hc⟩ : ∃ c, c = (p + q) / 2 := ⟨_, rfl⟩
        have hci : ((p : Int) + (q : Int)) / 2 = (c : Int) := by omega
        have hcb : p ≤ c ∧ c < q := by omega

        have hX : c < L0.length := by have := HN.out; omega
        have hY : a < L0.length := by have := HN.out; omega
        obtain ⟨x, hx⟩ : ∃ x, x = L0[c] := ⟨_, rfl⟩
        obtain ⟨y, hy⟩ : ∃ y, y = L0[a] := ⟨_, rfl⟩
        have hx5 := (H.out.below HB.out).cell2 hX
        have hy5 := (H.out.below HB.out).cell2 hY
        rw [← hx] at hx5
        rw [← hy] at hy5
        have HX : Aside0 (∀ u, L0[c]? = some u → u = x) := ⟨fun u hu => by rw [List.getElem?_eq_getElem hX] at hu; rw [hx]; exact (Option.some.inj hu).symm⟩
        have HY : Aside0 (∀ u, L0[a]? = some u → u = y) := ⟨fun u hu => by rw [List.getElem?_eq_getElem hY] at hu; rw [hy]; exact (Option.some.inj hu).symm⟩
        obtain ⟨cv, hcv⟩ : ∃ v, v = cmpN x y := ⟨_, rfl⟩
        have HCV := Aside0.mk hcv
        obtain ⟨Jnv, hJnv⟩ : ∃ J : World → Prop, J = fun W' => Below wr.heap.size wr W' := ⟨_, rfl⟩
        have HJD : Aside0 (∀ W', Jnv W' → Below wr.heap.size wr W') := ⟨fun W' h => by rw [hJnv] at h; exact h⟩
        have HDJ : Aside0 (∀ W', Below wr.heap.size wr W' → Jnv W') := ⟨fun W' h => by rw [hJnv]; exact h⟩
        have HRF : Aside0 (∀ W : World, Below W.heap.size W W) := ⟨fun W => Below.refl _ _⟩
        have SF : Aside0 (∀ W', Jnv W' → W'.cell? ⟨g, c * 2, none⟩ = some (.string x.f0) ∧ W'.cell? ⟨g, c * 2 + 1, none⟩ = some (.string x.f1) ∧ W'.cell? ⟨g, a * 2, none⟩ = some (.string y.f0) ∧ W'.cell? ⟨g, a * 2 + 1, none⟩ = some (.string y.f1)) := ⟨fun W' hW => by
          have hb := HJD.out W' hW
          exact ⟨pw_cell_below hb hx5.1, pw_cell_below hb hx5.2.1, pw_cell_below hb hy5.1, pw_cell_below hb hy5.2.1⟩⟩
        have HCMP : Aside0 (∀ W', Jnv W' → Calls Tryz.prog 41 #[.agg #[.string x.f0, .string x.f1], .agg #[.string y.f0, .string y.f1]] W' fun e w' => e = .returned (.int .i64 cv) ∧ Jnv w' ∧ Below W'.heap.size W' w') := ⟨fun W' hW => by
          refine (byname_calls x y W').mono ?_
          rintro e w' ⟨he, hb⟩
          exact ⟨by rw [he, hcv], HDJ.out _ (below_step (HJD.out _ hW) hb), hb⟩⟩
        have HGO : Aside0 (∀ (args : Array Value) (W : World), (callFunc 41 args).run Tryz.prog W = .ok (.enter 41 args) W) := ⟨enters Tryz.func41 (by kernel_rfl) rfl⟩
        have i1 : (0 : Int) ≤ (c : Int) := by omega
        have i2 : (c : Int) < (n : Int) := by omega
        have i3 : (0 : Int) ≤ (a : Int) := by omega
        have i4 : (a : Int) < (n : Int) := by omega
        have HCB := Aside0.mk hcb; have HC := Aside0.mk hc; have HLT := Aside0.mk hlt
        clear hJnv hx5 hy5 hx hy hcv hcb hc hlt hX hY
        go_upto_region 5 with (fail)
        refine' wp_region_flow (by kernel_rfl) (by kernel_rfl) Jnv (fun W W' => Below W.heap.size W W') HRF.out (HDJ.out _ (below_drew1 (Below.refl _ _))) _ ?_
        rotate_left
        refine' Flow.val _ 0 (some 40) (Op.move (Operand.tmp 4)) 59 (none) [] _ rfl (by kernel_rfl) (by kernel_rfl) (by kernel_rfl) (by rfl) ?_ ?_ HRF.out
        rotate_left 2
        · (intro W hW hK; go_simp; first | done | with_reducible rfl)
        try simp only [Act.put, List.setIfInBounds_toArray, List.set_cons_zero, List.set_cons_succ]
        refine' Flow.val _ 1 (some 41) (Op.move (Operand.tmp 0)) 22 (none) [] _ rfl (by kernel_rfl) (by kernel_rfl) (by kernel_rfl) (by rfl) ?_ ?_ HRF.out
        rotate_left 2
        · (intro W hW hK; go_simp; first | done | with_reducible rfl)
        try simp only [Act.put, List.setIfInBounds_toArray, List.set_cons_zero, List.set_cons_succ]
        refine' Flow.val _ 2 (some 42) (Op.move (Operand.tmp 12)) 3 (none) [] _ rfl (by kernel_rfl) (by kernel_rfl) (by kernel_rfl) (by rfl) ?_ ?_ HRF.out
        rotate_left 2
        · (intro W hW hK; go_simp; first | done | with_reducible rfl)
        try simp only [Act.put, List.setIfInBounds_toArray, List.set_cons_zero, List.set_cons_succ]
        refine' Flow.val _ 3 (some 43) (Op.indexAddr 22 (Operand.tmp 41) (Operand.tmp 42)) 0 (none) [] _ rfl (by kernel_rfl) (by kernel_rfl) (by kernel_rfl) (by rfl) ?_ ?_ HRF.out
        rotate_left 2
        · (intro W hW hK; have hF := SF.out W hW; go_simp; first | done | with_reducible rfl)
        try simp only [Act.put, List.setIfInBounds_toArray, List.set_cons_zero, List.set_cons_succ]
        refine' Flow.val _ 4 (some 44) (Op.load 47 (Operand.tmp 43)) 47 (none) [] _ rfl (by kernel_rfl) (by kernel_rfl) (by kernel_rfl) (by rfl) ?_ ?_ HRF.out
        rotate_left 2
        · (intro W hW hK; have hF := SF.out W hW; go_simp; first | done | with_reducible rfl)
        try simp only [Act.put, List.setIfInBounds_toArray, List.set_cons_zero, List.set_cons_succ]
        refine' Flow.val _ 5 (some 45) (Op.move (Operand.tmp 0)) 22 (none) [] _ rfl (by kernel_rfl) (by kernel_rfl) (by kernel_rfl) (by rfl) ?_ ?_ HRF.out
        rotate_left 2
        · (intro W hW hK; go_simp; first | done | with_reducible rfl)
        try simp only [Act.put, List.setIfInBounds_toArray, List.set_cons_zero, List.set_cons_succ]
        refine' Flow.val _ 6 (some 46) (Op.move (Operand.tmp 1)) 3 (none) [] _ rfl (by kernel_rfl) (by kernel_rfl) (by kernel_rfl) (by rfl) ?_ ?_ HRF.out
        rotate_left 2
        · (intro W hW hK; go_simp; first | done | with_reducible rfl)
        try simp only [Act.put, List.setIfInBounds_toArray, List.set_cons_zero, List.set_cons_succ]
        refine' Flow.val _ 7 (some 47) (Op.indexAddr 22 (Operand.tmp 45) (Operand.tmp 46)) 0 (none) [] _ rfl (by kernel_rfl) (by kernel_rfl) (by kernel_rfl) (by rfl) ?_ ?_ HRF.out
        rotate_left 2
        · (intro W hW hK; have hF := SF.out W hW; go_simp; first | done | with_reducible rfl)
        try simp only [Act.put, List.setIfInBounds_toArray, List.set_cons_zero, List.set_cons_succ]
        refine' Flow.val _ 8 (some 48) (Op.load 47 (Operand.tmp 47)) 47 (none) [] _ rfl (by kernel_rfl) (by kernel_rfl) (by kernel_rfl) (by rfl) ?_ ?_ HRF.out
        rotate_left 2
        · (intro W hW hK; have hF := SF.out W hW; go_simp; first | done | with_reducible rfl)
        try simp only [Act.put, List.setIfInBounds_toArray, List.set_cons_zero, List.set_cons_succ]
        refine' Flow.call _ 9 (some 49) (Op.call { callee := Callee.value (Operand.tmp 40), args := #[Operand.tmp 44, Operand.tmp 48], argTypes := #[47, 47] }) 3 (none) [] _ 41 _ rfl (by kernel_rfl) (by kernel_rfl) (by kernel_rfl) (by rfl) ?_ ?_ ?_
        rotate_left 3
        · (intro W; go_simp; first | done | with_reducible rfl)
        · (intro W hW hK; refine (HCMP.out W hW).mono ?_; intro e w' h; exact h)
        try simp only [Act.put, List.setIfInBounds_toArray, List.set_cons_zero, List.set_cons_succ]
        refine' Flow.val _ 10 (some 50) (Op.binOp BinOp.lss 3 (Operand.tmp 49) (Operand.const (Value.int IntKind.i64 0)) 3) 4 (none) [] _ rfl (by kernel_rfl) (by kernel_rfl) (by kernel_rfl) (by rfl) ?_ ?_ HRF.out
        rotate_left 2
        · (intro W hW hK; go_simp; first | done | with_reducible rfl)
        try simp only [Act.put, List.setIfInBounds_toArray, List.set_cons_zero, List.set_cons_succ]
        refine Flow.done _ (by kernel_rfl) ?_
        intro W5 hW hK
        have HB5 : Aside0 (Below w.heap.size w W5) := ⟨below_step HB.out (HJD.out _ hW)⟩
        clear hK hW SF HCMP HGO HJD HDJ HRF
        by_cases hcl : cv < 0
        · have dc : decide (cv < 0) = true := decide_eq_true hcl
          have hcl2 : ¬ 0 ≤ cv := by omega
          have dc2 : (!decide (cv < 0)) = false := by rw [dc]; rfl
          have HCL := Aside0.mk hcl
          try rw [dc]
          go_wp2_with fail
          go_roundw
          case rel => exact ⟨c + 1, q, by have := HCB.out; omega, by have := HCB.out; omega, by have := HCB.out; omega, by go_num, rfl, ⟨.inr fun u v hu hv => by rw [Nat.add_sub_cancel] at hu; rw [HX.out u hu, HY.out v hv]; exact leN_of_lt (by rw [← HCV.out]; exact HCL.out)⟩, HQ, HB5⟩
          case measure => (have := HLT.out; have := HCB.out; simp [intOf]; try omega)
        · have dc : decide (cv < 0) = false := decide_eq_false hcl
          have hcl2 : 0 ≤ cv := by omega
          have dc2 : (!decide (cv < 0)) = true := by rw [dc]; rfl
          have HCL := Aside0.mk hcl
          try rw [dc]
          go_wp2_with fail
          go_roundw
          case rel => exact ⟨p, c, by have := HCB.out; omega, by have := HCB.out; omega, by have := HCB.out; omega, rfl, by go_num, HP, ⟨.inr fun u v hu hv => by rw [HY.out u hu, HX.out v hv]; exact leN_of_not (by rw [← HCV.out]; exact HCL.out)⟩, HB5⟩
          case measure => (have := HLT.out; have := HCB.out; simp [intOf]; try omega)
      · obtain rfl : q = p := by omega
        have HROW : Aside0 (RowL wr g L0) := ⟨H.out.below HB.out⟩
        have HFW : Aside0 (Frm (fun k => k = g) w wr) := ⟨Frm.of_below HB.out⟩
        obtain ⟨s, hs⟩ : ∃ s, q = s + 1 := ⟨q - 1, by omega⟩
        have hsi : (q : Int) - 1 = (s : Int) := by omega
        have hsi' : IntKind.i64.wrap ((q : Int) - 1) = (s : Int) := by rw [hsi]; exact IntWalk.i64_in _ (by omega)
        have HS := Aside0.mk hs
        have hsn : s + 1 ≤ n := by omega
        have has : a ≤ s := by omega
        clear hlt hs HB
        go_wp2_with fail
        go_loopw [13] (fun i wq => ∃ k : Nat, a ≤ k ∧ k ≤ s ∧ i = .int .i64 k ∧ Aside0 (∃ L, RowL wq g L ∧ Seg a b L0 L ∧ RotOf a (a + 1) (k + 1) L0 L) ∧ Aside0 (Frm (fun k => k = g) w wq)) (fun i _ => s - (intOf i).toNat)
        case atStart => exact ⟨a, Nat.le_refl _, has, rfl, ⟨L0, HROW.out, Seg.refl _ _ _, RotOf.none2 _⟩, HFW⟩
        case round =>
          obtain ⟨k, hak, hks, rfl, HR, HF⟩ := hrel
          by_cases hlt : k < s
          · have hki : (k : Int) < (s : Int) := by omega
            obtain ⟨L1, hr1, hs1, ho1⟩ := HR.out
            have hl1 : L1.length = n := by rw [hs1.length, HN.out]
            have HR1 := Aside0.mk hr1; have HS1' := Aside0.mk hs1; have HO1 := Aside0.mk ho1
            have HLL := Aside0.mk hl1; have HLT := Aside0.mk hlt
            have hp1 : k < L1.length := by omega
            have hp2 : k + 1 < L1.length := by omega
            obtain ⟨x, hx⟩ : ∃ x, x = L1[k] := ⟨_, rfl⟩
            obtain ⟨y, hy⟩ : ∃ y, y = L1[k + 1] := ⟨_, rfl⟩
            have hx5 := hr1.cell2 hp1
            have hy5 := hr1.cell2 hp2
            rw [← hx] at hx5
            rw [← hy] at hy5
            have HX := Aside0.mk hx; have HY := Aside0.mk hy
            have g1 : (k : Int) < (n : Int) := by omega
            have g2 : (k : Int) + 1 < (n : Int) := by omega
            have g3 : (0 : Int) ≤ (k : Int) := by omega
            have g4 : (0 : Int) ≤ (k : Int) + 1 := by omega
            obtain ⟨x5, x6, z5, z6⟩ := hx5
            obtain ⟨y5, y6, z7, z8⟩ := hy5
            clear hr1 hs1 ho1 hl1 hlt HR hx hy
            go_upto_region 11 with (fail)
            go_region
            have HSW : Aside0 (∃ L, RowL ((((wr.setCell ⟨g, k * 2, none⟩ (.string y.f0)).setCell ⟨g, k * 2 + 1, none⟩ (.string y.f1)).setCell ⟨g, (k + 1) * 2, none⟩ (.string x.f0)).setCell ⟨g, (k + 1) * 2 + 1, none⟩ (.string x.f1)).drew g L ∧ Seg a b L0 L ∧ RotOf a (a + 1) (k + 1 + 1) L0 L) := ⟨by
              have e3 := HLT.out; have e4 := HS.out; have e5 := HLL.out
              refine ⟨swpAt L1 k (k + 1), ?_, ?_, ?_⟩
              · obtain ⟨cur, h1, h2⟩ := HR1.out.swapG (i := k) (j := k + 1) (by omega) (by omega) (x := x) (y := y) HX.out HY.out
                exact ⟨cur, h1, h2⟩
              · exact HS1'.out.trans (Seg_swp (by omega) (by omega) (by omega) (by omega) (by omega) (by omega))
              · exact RotOf.stepR HO1.out (by omega) (by omega)⟩
            have HFS : Aside0 (Frm (fun k => k = g) w ((((wr.setCell ⟨g, k * 2, none⟩ (.string y.f0)).setCell ⟨g, k * 2 + 1, none⟩ (.string y.f1)).setCell ⟨g, (k + 1) * 2, none⟩ (.string x.f0)).setCell ⟨g, (k + 1) * 2 + 1, none⟩ (.string x.f1)).drew) := ⟨Frm.drew (FrmG.swap HF.out k (k + 1) _ _ _ _)⟩
            clear x5 x6 z5 z6 y5 y6 z7 z8
            go_wp2_with fail
            go_roundw
            case rel => exact ⟨k + 1, by omega, by have := HLT.out; omega, by go_num, HSW, HFS⟩
            case measure => (have := HLT.out; simp [intOf]; try omega)
          · obtain rfl : k = s := by omega
            go_wp2_with fail
            first | go_end0 | (simp only [Exit.inBlock, Exit.then]; refine bodyPost_ret (results_none rfl _ _ _) rfl ?_) | refine bodyPost_ret (results_none rfl _ _ _) rfl ?_
            refine ⟨rfl, ?_, HF.out⟩
            obtain ⟨L1, hr1, hs1, ho1⟩ := HR.out
            have hs := HS.out
            have hl := HN.out
            obtain rfl : m = a + 1 := by omega
            exact ⟨L1, hr1, hs1, sort_one_left (by omega) HS2.out (i := k + 1) (by omega) (by omega) ho1 leN_trans (by rw [← hs]; exact HP.out) (by rw [← hs]; exact HQ.out)⟩
  · have hone' : ¬ ((m : Int) - (a : Int) = 1) := by omega
    have hone2 : IntKind.i64.wrap ((m : Int) - (a : Int)) = (m : Int) - (a : Int) := IntWalk.i64_in _ (by omega)
    by_cases hone3 : b - m = 1
    · have e1 : (b : Int) - (m : Int) = 1 := by omega
      have e1' : IntKind.i64.wrap ((b : Int) - (m : Int)) = 1 := by rw [e1]; rfl
      go_enter Tryz.func73, Tryz.ntmps73
      go_wp2_with fail
      go_loopw [14, 15] (fun i j wr => ∃ p q : Nat, a ≤ p ∧ p ≤ q ∧ q ≤ m ∧ i = .int .i64 p ∧ j = .int .i64 q ∧ Aside0 (p = a ∨ ∀ x y, L0[p - 1]? = some x → L0[m]? = some y → leN x y) ∧ Aside0 (q = m ∨ ∀ x y, L0[m]? = some x → L0[q]? = some y → leN x y) ∧ Aside0 (Below w.heap.size w wr)) (fun i j _ => (intOf j).toNat - (intOf i).toNat)
      case atStart => exact ⟨a, m, Nat.le_refl _, by omega, Nat.le_refl _, rfl, rfl, ⟨.inl rfl⟩, ⟨.inl rfl⟩, ⟨Below.refl _ _⟩⟩
      case round =>
        obtain ⟨p, q, hmp, hpq, hqb, rfl, rfl, HP, HQ, HB⟩ := hrel
        by_cases hlt : p < q
        · have hlti : (p : Int) < (q : Int) := by omega
          obtain ⟨c, hc⟩ : ∃ c, c = (p + q) / 2 := ⟨_, rfl⟩
          have hci : ((p : Int) + (q : Int)) / 2 = (c : Int) := by omega
          have hcb : p ≤ c ∧ c < q := by omega

          have hX : m < L0.length := by have := HN.out; omega
          have hY : c < L0.length := by have := HN.out; omega
          obtain ⟨x, hx⟩ : ∃ x, x = L0[m] := ⟨_, rfl⟩
          obtain ⟨y, hy⟩ : ∃ y, y = L0[c] := ⟨_, rfl⟩
          have hx5 := (H.out.below HB.out).cell2 hX
          have hy5 := (H.out.below HB.out).cell2 hY
          rw [← hx] at hx5
          rw [← hy] at hy5
          have HX : Aside0 (∀ u, L0[m]? = some u → u = x) := ⟨fun u hu => by rw [List.getElem?_eq_getElem hX] at hu; rw [hx]; exact (Option.some.inj hu).symm⟩
          have HY : Aside0 (∀ u, L0[c]? = some u → u = y) := ⟨fun u hu => by rw [List.getElem?_eq_getElem hY] at hu; rw [hy]; exact (Option.some.inj hu).symm⟩
          obtain ⟨cv, hcv⟩ : ∃ v, v = cmpN x y := ⟨_, rfl⟩
          have HCV := Aside0.mk hcv
          obtain ⟨Jnv, hJnv⟩ : ∃ J : World → Prop, J = fun W' => Below wr.heap.size wr W' := ⟨_, rfl⟩
          have HJD : Aside0 (∀ W', Jnv W' → Below wr.heap.size wr W') := ⟨fun W' h => by rw [hJnv] at h; exact h⟩
          have HDJ : Aside0 (∀ W', Below wr.heap.size wr W' → Jnv W') := ⟨fun W' h => by rw [hJnv]; exact h⟩
          have HRF : Aside0 (∀ W : World, Below W.heap.size W W) := ⟨fun W => Below.refl _ _⟩
          have SF : Aside0 (∀ W', Jnv W' → W'.cell? ⟨g, m * 2, none⟩ = some (.string x.f0) ∧ W'.cell? ⟨g, m * 2 + 1, none⟩ = some (.string x.f1) ∧ W'.cell? ⟨g, c * 2, none⟩ = some (.string y.f0) ∧ W'.cell? ⟨g, c * 2 + 1, none⟩ = some (.string y.f1)) := ⟨fun W' hW => by
            have hb := HJD.out W' hW
            exact ⟨pw_cell_below hb hx5.1, pw_cell_below hb hx5.2.1, pw_cell_below hb hy5.1, pw_cell_below hb hy5.2.1⟩⟩
          have HCMP : Aside0 (∀ W', Jnv W' → Calls Tryz.prog 41 #[.agg #[.string x.f0, .string x.f1], .agg #[.string y.f0, .string y.f1]] W' fun e w' => e = .returned (.int .i64 cv) ∧ Jnv w' ∧ Below W'.heap.size W' w') := ⟨fun W' hW => by
            refine (byname_calls x y W').mono ?_
            rintro e w' ⟨he, hb⟩
            exact ⟨by rw [he, hcv], HDJ.out _ (below_step (HJD.out _ hW) hb), hb⟩⟩
          have HGO : Aside0 (∀ (args : Array Value) (W : World), (callFunc 41 args).run Tryz.prog W = .ok (.enter 41 args) W) := ⟨enters Tryz.func41 (by kernel_rfl) rfl⟩
          have i1 : (0 : Int) ≤ (m : Int) := by omega
          have i2 : (m : Int) < (n : Int) := by omega
          have i3 : (0 : Int) ≤ (c : Int) := by omega
          have i4 : (c : Int) < (n : Int) := by omega
          have HCB := Aside0.mk hcb; have HC := Aside0.mk hc; have HLT := Aside0.mk hlt
          clear hJnv hx5 hy5 hx hy hcv hcb hc hlt hX hY
          go_upto_region 17 with (fail)
          refine' wp_region_flow (by kernel_rfl) (by kernel_rfl) Jnv (fun W W' => Below W.heap.size W W') HRF.out (HDJ.out _ (below_drew1 (Below.refl _ _))) _ ?_
          rotate_left
          refine' Flow.val _ 0 (some 92) (Op.move (Operand.tmp 4)) 59 (none) [] _ rfl (by kernel_rfl) (by kernel_rfl) (by kernel_rfl) (by rfl) ?_ ?_ HRF.out
          rotate_left 2
          · (intro W hW hK; go_simp; first | done | with_reducible rfl)
          try simp only [Act.put, List.setIfInBounds_toArray, List.set_cons_zero, List.set_cons_succ]
          refine' Flow.val _ 1 (some 93) (Op.move (Operand.tmp 0)) 22 (none) [] _ rfl (by kernel_rfl) (by kernel_rfl) (by kernel_rfl) (by rfl) ?_ ?_ HRF.out
          rotate_left 2
          · (intro W hW hK; go_simp; first | done | with_reducible rfl)
          try simp only [Act.put, List.setIfInBounds_toArray, List.set_cons_zero, List.set_cons_succ]
          refine' Flow.val _ 2 (some 94) (Op.move (Operand.tmp 2)) 3 (none) [] _ rfl (by kernel_rfl) (by kernel_rfl) (by kernel_rfl) (by rfl) ?_ ?_ HRF.out
          rotate_left 2
          · (intro W hW hK; go_simp; first | done | with_reducible rfl)
          try simp only [Act.put, List.setIfInBounds_toArray, List.set_cons_zero, List.set_cons_succ]
          refine' Flow.val _ 3 (some 95) (Op.indexAddr 22 (Operand.tmp 93) (Operand.tmp 94)) 0 (none) [] _ rfl (by kernel_rfl) (by kernel_rfl) (by kernel_rfl) (by rfl) ?_ ?_ HRF.out
          rotate_left 2
          · (intro W hW hK; have hF := SF.out W hW; go_simp; first | done | with_reducible rfl)
          try simp only [Act.put, List.setIfInBounds_toArray, List.set_cons_zero, List.set_cons_succ]
          refine' Flow.val _ 4 (some 96) (Op.load 47 (Operand.tmp 95)) 47 (none) [] _ rfl (by kernel_rfl) (by kernel_rfl) (by kernel_rfl) (by rfl) ?_ ?_ HRF.out
          rotate_left 2
          · (intro W hW hK; have hF := SF.out W hW; go_simp; first | done | with_reducible rfl)
          try simp only [Act.put, List.setIfInBounds_toArray, List.set_cons_zero, List.set_cons_succ]
          refine' Flow.val _ 5 (some 97) (Op.move (Operand.tmp 0)) 22 (none) [] _ rfl (by kernel_rfl) (by kernel_rfl) (by kernel_rfl) (by rfl) ?_ ?_ HRF.out
          rotate_left 2
          · (intro W hW hK; go_simp; first | done | with_reducible rfl)
          try simp only [Act.put, List.setIfInBounds_toArray, List.set_cons_zero, List.set_cons_succ]
          refine' Flow.val _ 6 (some 98) (Op.move (Operand.tmp 16)) 3 (none) [] _ rfl (by kernel_rfl) (by kernel_rfl) (by kernel_rfl) (by rfl) ?_ ?_ HRF.out
          rotate_left 2
          · (intro W hW hK; go_simp; first | done | with_reducible rfl)
          try simp only [Act.put, List.setIfInBounds_toArray, List.set_cons_zero, List.set_cons_succ]
          refine' Flow.val _ 7 (some 99) (Op.indexAddr 22 (Operand.tmp 97) (Operand.tmp 98)) 0 (none) [] _ rfl (by kernel_rfl) (by kernel_rfl) (by kernel_rfl) (by rfl) ?_ ?_ HRF.out
          rotate_left 2
          · (intro W hW hK; have hF := SF.out W hW; go_simp; first | done | with_reducible rfl)
          try simp only [Act.put, List.setIfInBounds_toArray, List.set_cons_zero, List.set_cons_succ]
          refine' Flow.val _ 8 (some 100) (Op.load 47 (Operand.tmp 99)) 47 (none) [] _ rfl (by kernel_rfl) (by kernel_rfl) (by kernel_rfl) (by rfl) ?_ ?_ HRF.out
          rotate_left 2
          · (intro W hW hK; have hF := SF.out W hW; go_simp; first | done | with_reducible rfl)
          try simp only [Act.put, List.setIfInBounds_toArray, List.set_cons_zero, List.set_cons_succ]
          refine' Flow.call _ 9 (some 101) (Op.call { callee := Callee.value (Operand.tmp 92), args := #[Operand.tmp 96, Operand.tmp 100], argTypes := #[47, 47] }) 3 (none) [] _ 41 _ rfl (by kernel_rfl) (by kernel_rfl) (by kernel_rfl) (by rfl) ?_ ?_ ?_
          rotate_left 3
          · (intro W; go_simp; first | done | with_reducible rfl)
          · (intro W hW hK; refine (HCMP.out W hW).mono ?_; intro e w' h; exact h)
          try simp only [Act.put, List.setIfInBounds_toArray, List.set_cons_zero, List.set_cons_succ]
          refine' Flow.val _ 10 (some 102) (Op.binOp BinOp.lss 3 (Operand.tmp 101) (Operand.const (Value.int IntKind.i64 0)) 3) 4 (none) [] _ rfl (by kernel_rfl) (by kernel_rfl) (by kernel_rfl) (by rfl) ?_ ?_ HRF.out
          rotate_left 2
          · (intro W hW hK; go_simp; first | done | with_reducible rfl)
          try simp only [Act.put, List.setIfInBounds_toArray, List.set_cons_zero, List.set_cons_succ]
          refine' Flow.val _ 11 (some 103) (Op.unOp UnOp.not 4 (Operand.tmp 102)) 4 (none) [] _ rfl (by kernel_rfl) (by kernel_rfl) (by kernel_rfl) (by rfl) ?_ ?_ HRF.out
          rotate_left 2
          · (intro W hW hK; go_simp; first | done | with_reducible rfl)
          try simp only [Act.put, List.setIfInBounds_toArray, List.set_cons_zero, List.set_cons_succ]
          refine Flow.done _ (by kernel_rfl) ?_
          intro W5 hW hK
          have HB5 : Aside0 (Below w.heap.size w W5) := ⟨below_step HB.out (HJD.out _ hW)⟩
          clear hK hW SF HCMP HGO HJD HDJ HRF
          by_cases hcl : cv < 0
          · have dc : decide (cv < 0) = true := decide_eq_true hcl
            have hcl2 : ¬ 0 ≤ cv := by omega
            have dc2 : (!decide (cv < 0)) = false := by rw [dc]; rfl
            have HCL := Aside0.mk hcl
            try rw [dc]
            go_wp2_with fail
            go_roundw
            case rel => exact ⟨p, c, by have := HCB.out; omega, by have := HCB.out; omega, by have := HCB.out; omega, rfl, by go_num, HP, ⟨.inr fun u v hu hv => by rw [HX.out u hu, HY.out v hv]; exact leN_of_lt (by rw [← HCV.out]; exact HCL.out)⟩, HB5⟩
            case measure => (have := HLT.out; have := HCB.out; simp [intOf]; try omega)
          · have dc : decide (cv < 0) = false := decide_eq_false hcl
            have hcl2 : 0 ≤ cv := by omega
            have dc2 : (!decide (cv < 0)) = true := by rw [dc]; rfl
            have HCL := Aside0.mk hcl
            try rw [dc]
            go_wp2_with fail
            go_roundw
            case rel => exact ⟨c + 1, q, by have := HCB.out; omega, by have := HCB.out; omega, by have := HCB.out; omega, by go_num, rfl, ⟨.inr fun u v hu hv => by rw [Nat.add_sub_cancel] at hu; rw [HY.out u hu, HX.out v hv]; exact leN_of_not (by rw [← HCV.out]; exact HCL.out)⟩, HQ, HB5⟩
            case measure => (have := HLT.out; have := HCB.out; simp [intOf]; try omega)
        · obtain rfl : q = p := by omega
          have HROW : Aside0 (RowL wr g L0) := ⟨H.out.below HB.out⟩
          have HFW : Aside0 (Frm (fun k => k = g) w wr) := ⟨Frm.of_below HB.out⟩
          clear hlt HB
          go_wp2_with fail
          go_loopw [17] (fun i wq => ∃ k : Nat, q ≤ k ∧ k ≤ m ∧ i = .int .i64 k ∧ Aside0 (∃ L, RowL wq g L ∧ Seg a b L0 L ∧ RotOf k m (m + 1) L0 L) ∧ Aside0 (Frm (fun k => k = g) w wq)) (fun i _ => (intOf i).toNat)
          case atStart => exact ⟨m, hqb, Nat.le_refl _, rfl, ⟨L0, HROW.out, Seg.refl _ _ _, RotOf.none1 _⟩, HFW⟩
          case round =>
            obtain ⟨k, hqk, hkm, rfl, HR, HF⟩ := hrel
            by_cases hlt : q < k
            · obtain ⟨k, rfl⟩ : ∃ j, k = j + 1 := ⟨k - 1, by omega⟩
              have hki : (q : Int) < (k : Int) + 1 := by omega
              obtain ⟨L1, hr1, hs1, ho1⟩ := HR.out
              have hl1 : L1.length = n := by rw [hs1.length, HN.out]
              have HR1 := Aside0.mk hr1; have HS1' := Aside0.mk hs1; have HO1 := Aside0.mk ho1
              have HLL := Aside0.mk hl1; have HLT := Aside0.mk hlt
              have hp1 : k < L1.length := by omega
              have hp2 : k + 1 < L1.length := by omega
              obtain ⟨y, hy⟩ : ∃ x, x = L1[k] := ⟨_, rfl⟩
              obtain ⟨x, hx⟩ : ∃ y, y = L1[k + 1] := ⟨_, rfl⟩
              have hy5 := hr1.cell2 hp1
              have hx5 := hr1.cell2 hp2
              rw [← hx] at hx5
              rw [← hy] at hy5
              have HX := Aside0.mk hx; have HY := Aside0.mk hy
              have g1 : (k : Int) < (n : Int) := by omega
              have g2 : (k : Int) + 1 < (n : Int) := by omega
              have g3 : (0 : Int) ≤ (k : Int) := by omega
              have g4 : (0 : Int) ≤ (k : Int) + 1 := by omega
              have hew : IntKind.i64.wrap (k : Int) = (k : Int) := IntWalk.i64_in _ (by omega)
              obtain ⟨x5, x6, z5, z6⟩ := hx5
              obtain ⟨y5, y6, z7, z8⟩ := hy5
              clear hr1 hs1 ho1 hl1 hlt HR hx hy
              go_upto_region 23 with (fail)
              go_region
              have HSW : Aside0 (∃ L, RowL ((((wr.setCell ⟨g, (k + 1) * 2, none⟩ (.string y.f0)).setCell ⟨g, (k + 1) * 2 + 1, none⟩ (.string y.f1)).setCell ⟨g, k * 2, none⟩ (.string x.f0)).setCell ⟨g, k * 2 + 1, none⟩ (.string x.f1)).drew g L ∧ Seg a b L0 L ∧ RotOf k m (m + 1) L0 L) := ⟨by
                have e3 := HLT.out; have e5 := HLL.out
                refine ⟨swpAt L1 (k + 1) k, ?_, ?_, ?_⟩
                · obtain ⟨cur, h1, h2⟩ := HR1.out.swapG (i := k + 1) (j := k) (by omega) (by omega) (x := x) (y := y) HX.out HY.out
                  exact ⟨cur, h1, h2⟩
                · exact HS1'.out.trans (Seg_swp (by omega) (by omega) (by omega) (by omega) (by omega) (by omega))
                · exact RotOf.stepL HO1.out (by omega) (by omega)⟩
              have HFS : Aside0 (Frm (fun k => k = g) w ((((wr.setCell ⟨g, (k + 1) * 2, none⟩ (.string y.f0)).setCell ⟨g, (k + 1) * 2 + 1, none⟩ (.string y.f1)).setCell ⟨g, k * 2, none⟩ (.string x.f0)).setCell ⟨g, k * 2 + 1, none⟩ (.string x.f1)).drew) := ⟨Frm.drew (FrmG.swap HF.out (k + 1) k _ _ _ _)⟩
              clear x5 x6 z5 z6 y5 y6 z7 z8
              go_wp2_with fail
              go_roundw
              case rel => exact ⟨k, by have := HLT.out; omega, by omega, by go_num, HSW, HFS⟩
              case measure => (have := HLT.out; simp [intOf]; try omega)
            · obtain rfl : k = q := by omega
              have hkk : ¬ ((k : Int) < (k : Int)) := by omega
              go_wp2_with fail
              first | go_end0 | (simp only [Exit.inBlock, Exit.then]; refine bodyPost_ret (results_none rfl _ _ _) rfl ?_) | refine bodyPost_ret (results_none rfl _ _ _) rfl ?_
              refine ⟨rfl, ?_, HF.out⟩
              obtain ⟨L1, hr1, hs1, ho1⟩ := HR.out
              have hl := HN.out
              obtain rfl : b = m + 1 := by omega
              exact ⟨L1, hr1, hs1, sort_one_right ham (by omega) HS1.out (by omega) (by omega) ho1 leN_trans HP.out HQ.out⟩
    · have hone3' : ¬ ((b : Int) - (m : Int) = 1) := by omega
      have hone4 : IntKind.i64.wrap ((b : Int) - (m : Int)) = (b : Int) - (m : Int) := IntWalk.i64_in _ (by omega)
      have hob1 : ((m : Int) - (a : Int) == 1) = false := beq_eq_false_iff_ne.2 hone'
      have hob2 : ((b : Int) - (m : Int) == 1) = false := beq_eq_false_iff_ne.2 hone3'
      obtain ⟨mid, hmid⟩ : ∃ c, c = (a + b) / 2 := ⟨_, rfl⟩
      have hmi : ((a : Int) + (b : Int)) / 2 = (mid : Int) := by omega
      have hmb2 : a < mid ∧ mid < b := by omega
      obtain ⟨N1, hN1⟩ : ∃ c, c = mid + m := ⟨_, rfl⟩
      have hni : (mid : Int) + (m : Int) = (N1 : Int) := by omega
      have hni' : IntKind.i64.wrap ((mid : Int) + (m : Int)) = (N1 : Int) := by rw [hni]; exact IntWalk.i64_in _ (by omega)
      obtain ⟨P1, hP1⟩ : ∃ c, c = mid + m - 1 := ⟨_, rfl⟩
      have hpi : (N1 : Int) - 1 = (P1 : Int) := by omega
      have hpi' : IntKind.i64.wrap ((N1 : Int) - 1) = (P1 : Int) := by rw [hpi]; exact IntWalk.i64_in _ (by omega)
      obtain ⟨s0, hs0⟩ : ∃ c, c = if mid < m then mid + m - b else a := ⟨_, rfl⟩
      obtain ⟨r0, hr0⟩ : ∃ c, c = if mid < m then mid else m := ⟨_, rfl⟩
      have hsr : a ≤ s0 ∧ s0 ≤ r0 ∧ r0 ≤ mid ∧ r0 ≤ m ∧ N1 - s0 ≤ b := by subst hs0 hr0; split <;> omega
      have HMID := Aside0.mk hmid; have HN1 := Aside0.mk hN1; have HP1 := Aside0.mk hP1; have HS0 := Aside0.mk hs0; have HR0 := Aside0.mk hr0; have HSR := Aside0.mk hsr; have HMB2 := Aside0.mk hmb2
      have hb1 : mid < n := by omega
      have hb2 : N1 < 2000 := by omega
      have hb3 : P1 < 2000 := by omega
      have hb4 : s0 ≤ n := by omega
      have hb5 : r0 ≤ n := by omega
      clear hs0 hr0 hsr hmid hmb2 hN1 hP1
      go_enter Tryz.func73, Tryz.ntmps73
      go_upto_if 140 with (fail)
      go_cut [20, 21] from 138 (fun s20 s21 wx => s20 = .int .i64 (s0 : Int) ∧ s21 = .int .i64 (r0 : Int) ∧ wx = w)
      case first =>
        by_cases hmm : mid < m
        · have hmmi : (mid : Int) < (m : Int) := by omega
          have dmm : decide ((mid : Int) < (m : Int)) = true := decide_eq_true hmmi
          have hs0 : s0 = mid + m - b := by have := HS0.out; rw [if_pos hmm] at this; exact this
          have hr0 : r0 = mid := by have := HR0.out; rw [if_pos hmm] at this; exact this
          have hsi : (N1 : Int) - (b : Int) = (s0 : Int) := by have := HN1.out; omega
          have hsi' : IntKind.i64.wrap ((N1 : Int) - (b : Int)) = (s0 : Int) := by rw [hsi]; exact IntWalk.i64_in _ (by omega)
          go_wp2_with fail
          all_goals (go_meet; exact ⟨by rw [hs0], by rw [hr0], rfl⟩)
        · have hmmi : ¬ (mid : Int) < (m : Int) := by omega
          have dmm : decide ((mid : Int) < (m : Int)) = false := decide_eq_false hmmi
          have hs0 : s0 = a := by have := HS0.out; rw [if_neg hmm] at this; exact this
          have hr0 : r0 = m := by have := HR0.out; rw [if_neg hmm] at this; exact this
          go_wp2_with fail
          all_goals (go_meet; exact ⟨by rw [hs0], by rw [hr0], rfl⟩)
      case rest =>
      obtain ⟨rfl, rfl, hwx⟩ := hcut
      have hwx := hwx.symm
      subst hwx
      go_wp2_with fail
      go_loopw [20, 21] (fun i j wr => ∃ p q : Nat, s0 ≤ p ∧ p ≤ q ∧ q ≤ r0 ∧ i = .int .i64 p ∧ j = .int .i64 q ∧ Aside0 (p = s0 ∨ ∀ x y, L0[p - 1]? = some x → L0[mid + m - p]? = some y → leN x y) ∧ Aside0 (q = r0 ∨ ∀ x y, L0[mid + m - 1 - q]? = some x → L0[q]? = some y → leN x y) ∧ Aside0 (Below w.heap.size w wr)) (fun i j _ => (intOf j).toNat - (intOf i).toNat)
      case atStart => exact ⟨s0, r0, Nat.le_refl _, HSR.out.2.1, Nat.le_refl _, rfl, rfl, ⟨.inl rfl⟩, ⟨.inl rfl⟩, ⟨Below.refl _ _⟩⟩
      case round =>
        obtain ⟨p, q, hmp, hpq, hqb, rfl, rfl, HP, HQ, HB⟩ := hrel
        by_cases hlt : p < q
        · have hlti : (p : Int) < (q : Int) := by omega
          obtain ⟨c, hc⟩ : ∃ c, c = (p + q) / 2 := ⟨_, rfl⟩
          have hci : ((p : Int) + (q : Int)) / 2 = (c : Int) := by omega
          have hcb : p ≤ c ∧ c < q := by omega
          have hsr := HSR.out; have hmb2 := HMB2.out; have hP1' := HP1.out; have hN1' := HN1.out
          obtain ⟨e, he⟩ : ∃ e, e = P1 - c := ⟨_, rfl⟩
          have hei : (P1 : Int) - (c : Int) = (e : Int) := by omega
          have hei' : IntKind.i64.wrap ((P1 : Int) - (c : Int)) = (e : Int) := by rw [hei]; exact IntWalk.i64_in _ (by omega)
          have HE : Aside0 (e = mid + m - 1 - c) := ⟨by omega⟩
          have heb : e < n := by omega
          have hew : IntKind.i64.wrap (e : Int) = (e : Int) := IntWalk.i64_in _ (by omega)
          have hX : e < L0.length := by have := HN.out; omega
          have hY : c < L0.length := by have := HN.out; omega
          obtain ⟨x, hx⟩ : ∃ x, x = L0[e] := ⟨_, rfl⟩
          obtain ⟨y, hy⟩ : ∃ y, y = L0[c] := ⟨_, rfl⟩
          have hx5 := (H.out.below HB.out).cell2 hX
          have hy5 := (H.out.below HB.out).cell2 hY
          rw [← hx] at hx5
          rw [← hy] at hy5
          have HX : Aside0 (∀ u, L0[e]? = some u → u = x) := ⟨fun u hu => by rw [List.getElem?_eq_getElem hX] at hu; rw [hx]; exact (Option.some.inj hu).symm⟩
          have HY : Aside0 (∀ u, L0[c]? = some u → u = y) := ⟨fun u hu => by rw [List.getElem?_eq_getElem hY] at hu; rw [hy]; exact (Option.some.inj hu).symm⟩
          obtain ⟨cv, hcv⟩ : ∃ v, v = cmpN x y := ⟨_, rfl⟩
          have HCV := Aside0.mk hcv
          obtain ⟨Jnv, hJnv⟩ : ∃ J : World → Prop, J = fun W' => Below wr.heap.size wr W' := ⟨_, rfl⟩
          have HJD : Aside0 (∀ W', Jnv W' → Below wr.heap.size wr W') := ⟨fun W' h => by rw [hJnv] at h; exact h⟩
          have HDJ : Aside0 (∀ W', Below wr.heap.size wr W' → Jnv W') := ⟨fun W' h => by rw [hJnv]; exact h⟩
          have HRF : Aside0 (∀ W : World, Below W.heap.size W W) := ⟨fun W => Below.refl _ _⟩
          have SF : Aside0 (∀ W', Jnv W' → W'.cell? ⟨g, e * 2, none⟩ = some (.string x.f0) ∧ W'.cell? ⟨g, e * 2 + 1, none⟩ = some (.string x.f1) ∧ W'.cell? ⟨g, c * 2, none⟩ = some (.string y.f0) ∧ W'.cell? ⟨g, c * 2 + 1, none⟩ = some (.string y.f1)) := ⟨fun W' hW => by
            have hb := HJD.out W' hW
            exact ⟨pw_cell_below hb hx5.1, pw_cell_below hb hx5.2.1, pw_cell_below hb hy5.1, pw_cell_below hb hy5.2.1⟩⟩
          have HCMP : Aside0 (∀ W', Jnv W' → Calls Tryz.prog 41 #[.agg #[.string x.f0, .string x.f1], .agg #[.string y.f0, .string y.f1]] W' fun e w' => e = .returned (.int .i64 cv) ∧ Jnv w' ∧ Below W'.heap.size W' w') := ⟨fun W' hW => by
            refine (byname_calls x y W').mono ?_
            rintro e w' ⟨he, hb⟩
            exact ⟨by rw [he, hcv], HDJ.out _ (below_step (HJD.out _ hW) hb), hb⟩⟩
          have HGO : Aside0 (∀ (args : Array Value) (W : World), (callFunc 41 args).run Tryz.prog W = .ok (.enter 41 args) W) := ⟨enters Tryz.func41 (by kernel_rfl) rfl⟩
          have i1 : (0 : Int) ≤ (e : Int) := by omega
          have i2 : (e : Int) < (n : Int) := by omega
          have i3 : (0 : Int) ≤ (c : Int) := by omega
          have i4 : (c : Int) < (n : Int) := by omega
          have HCB := Aside0.mk hcb; have HC := Aside0.mk hc; have HLT := Aside0.mk hlt
          clear hsr hmb2 hP1' hN1' he hJnv hx5 hy5 hx hy hcv hcb hc hlt hX hY
          go_upto_region 35 with (fail)
          refine' wp_region_flow (by kernel_rfl) (by kernel_rfl) Jnv (fun W W' => Below W.heap.size W W') HRF.out (HDJ.out _ (below_drew1 (Below.refl _ _))) _ ?_
          rotate_left
          refine' Flow.val _ 0 (some 158) (Op.move (Operand.tmp 4)) 59 (none) [] _ rfl (by kernel_rfl) (by kernel_rfl) (by kernel_rfl) (by rfl) ?_ ?_ HRF.out
          rotate_left 2
          · (intro W hW hK; go_simp; first | done | with_reducible rfl)
          try simp only [Act.put, List.setIfInBounds_toArray, List.set_cons_zero, List.set_cons_succ]
          refine' Flow.val _ 1 (some 159) (Op.move (Operand.tmp 0)) 22 (none) [] _ rfl (by kernel_rfl) (by kernel_rfl) (by kernel_rfl) (by rfl) ?_ ?_ HRF.out
          rotate_left 2
          · (intro W hW hK; go_simp; first | done | with_reducible rfl)
          try simp only [Act.put, List.setIfInBounds_toArray, List.set_cons_zero, List.set_cons_succ]
          refine' Flow.val _ 2 (some 160) (Op.move (Operand.tmp 22)) 3 (none) [] _ rfl (by kernel_rfl) (by kernel_rfl) (by kernel_rfl) (by rfl) ?_ ?_ HRF.out
          rotate_left 2
          · (intro W hW hK; go_simp; first | done | with_reducible rfl)
          try simp only [Act.put, List.setIfInBounds_toArray, List.set_cons_zero, List.set_cons_succ]
          refine' Flow.val _ 3 (some 161) (Op.move (Operand.tmp 23)) 3 (none) [] _ rfl (by kernel_rfl) (by kernel_rfl) (by kernel_rfl) (by rfl) ?_ ?_ HRF.out
          rotate_left 2
          · (intro W hW hK; go_simp; first | done | with_reducible rfl)
          try simp only [Act.put, List.setIfInBounds_toArray, List.set_cons_zero, List.set_cons_succ]
          refine' Flow.val _ 4 (some 162) (Op.binOp BinOp.sub 3 (Operand.tmp 160) (Operand.tmp 161) 3) 3 (none) [] _ rfl (by kernel_rfl) (by kernel_rfl) (by kernel_rfl) (by rfl) ?_ ?_ HRF.out
          rotate_left 2
          · (intro W hW hK; go_simp; first | done | with_reducible rfl)
          try simp only [Act.put, List.setIfInBounds_toArray, List.set_cons_zero, List.set_cons_succ]
          refine' Flow.val _ 5 (some 163) (Op.indexAddr 22 (Operand.tmp 159) (Operand.tmp 162)) 0 (none) [] _ rfl (by kernel_rfl) (by kernel_rfl) (by kernel_rfl) (by rfl) ?_ ?_ HRF.out
          rotate_left 2
          · (intro W hW hK; have hF := SF.out W hW; go_simp; first | done | with_reducible rfl)
          try simp only [Act.put, List.setIfInBounds_toArray, List.set_cons_zero, List.set_cons_succ]
          refine' Flow.val _ 6 (some 164) (Op.load 47 (Operand.tmp 163)) 47 (none) [] _ rfl (by kernel_rfl) (by kernel_rfl) (by kernel_rfl) (by rfl) ?_ ?_ HRF.out
          rotate_left 2
          · (intro W hW hK; have hF := SF.out W hW; go_simp; first | done | with_reducible rfl)
          try simp only [Act.put, List.setIfInBounds_toArray, List.set_cons_zero, List.set_cons_succ]
          refine' Flow.val _ 7 (some 165) (Op.move (Operand.tmp 0)) 22 (none) [] _ rfl (by kernel_rfl) (by kernel_rfl) (by kernel_rfl) (by rfl) ?_ ?_ HRF.out
          rotate_left 2
          · (intro W hW hK; go_simp; first | done | with_reducible rfl)
          try simp only [Act.put, List.setIfInBounds_toArray, List.set_cons_zero, List.set_cons_succ]
          refine' Flow.val _ 8 (some 166) (Op.move (Operand.tmp 23)) 3 (none) [] _ rfl (by kernel_rfl) (by kernel_rfl) (by kernel_rfl) (by rfl) ?_ ?_ HRF.out
          rotate_left 2
          · (intro W hW hK; go_simp; first | done | with_reducible rfl)
          try simp only [Act.put, List.setIfInBounds_toArray, List.set_cons_zero, List.set_cons_succ]
          refine' Flow.val _ 9 (some 167) (Op.indexAddr 22 (Operand.tmp 165) (Operand.tmp 166)) 0 (none) [] _ rfl (by kernel_rfl) (by kernel_rfl) (by kernel_rfl) (by rfl) ?_ ?_ HRF.out
          rotate_left 2
          · (intro W hW hK; have hF := SF.out W hW; go_simp; first | done | with_reducible rfl)
          try simp only [Act.put, List.setIfInBounds_toArray, List.set_cons_zero, List.set_cons_succ]
          refine' Flow.val _ 10 (some 168) (Op.load 47 (Operand.tmp 167)) 47 (none) [] _ rfl (by kernel_rfl) (by kernel_rfl) (by kernel_rfl) (by rfl) ?_ ?_ HRF.out
          rotate_left 2
          · (intro W hW hK; have hF := SF.out W hW; go_simp; first | done | with_reducible rfl)
          try simp only [Act.put, List.setIfInBounds_toArray, List.set_cons_zero, List.set_cons_succ]
          refine' Flow.call _ 11 (some 169) (Op.call { callee := Callee.value (Operand.tmp 158), args := #[Operand.tmp 164, Operand.tmp 168], argTypes := #[47, 47] }) 3 (none) [] _ 41 _ rfl (by kernel_rfl) (by kernel_rfl) (by kernel_rfl) (by rfl) ?_ ?_ ?_
          rotate_left 3
          · (intro W; go_simp; first | done | with_reducible rfl)
          · (intro W hW hK; refine (HCMP.out W hW).mono ?_; intro e w' h; exact h)
          try simp only [Act.put, List.setIfInBounds_toArray, List.set_cons_zero, List.set_cons_succ]
          refine' Flow.val _ 12 (some 170) (Op.binOp BinOp.lss 3 (Operand.tmp 169) (Operand.const (Value.int IntKind.i64 0)) 3) 4 (none) [] _ rfl (by kernel_rfl) (by kernel_rfl) (by kernel_rfl) (by rfl) ?_ ?_ HRF.out
          rotate_left 2
          · (intro W hW hK; go_simp; first | done | with_reducible rfl)
          try simp only [Act.put, List.setIfInBounds_toArray, List.set_cons_zero, List.set_cons_succ]
          refine' Flow.val _ 13 (some 171) (Op.unOp UnOp.not 4 (Operand.tmp 170)) 4 (none) [] _ rfl (by kernel_rfl) (by kernel_rfl) (by kernel_rfl) (by rfl) ?_ ?_ HRF.out
          rotate_left 2
          · (intro W hW hK; go_simp; first | done | with_reducible rfl)
          try simp only [Act.put, List.setIfInBounds_toArray, List.set_cons_zero, List.set_cons_succ]
          refine Flow.done _ (by kernel_rfl) ?_
          intro W5 hW hK
          have HB5 : Aside0 (Below w.heap.size w W5) := ⟨below_step HB.out (HJD.out _ hW)⟩
          clear hK hW SF HCMP HGO HJD HDJ HRF
          by_cases hcl : cv < 0
          · have dc : decide (cv < 0) = true := decide_eq_true hcl
            have hcl2 : ¬ 0 ≤ cv := by omega
            have dc2 : (!decide (cv < 0)) = false := by rw [dc]; rfl
            have HCL := Aside0.mk hcl
            try rw [dc]
            go_wp2_with fail
            go_roundw
            case rel => exact ⟨p, c, by have := HCB.out; omega, by have := HCB.out; omega, by have := HCB.out; omega, rfl, by go_num, HP, ⟨.inr fun u v hu hv => by rw [← HE.out] at hu; rw [HX.out u hu, HY.out v hv]; exact leN_of_lt (by rw [← HCV.out]; exact HCL.out)⟩, HB5⟩
            case measure => (have := HLT.out; have := HCB.out; simp [intOf]; try omega)
          · have dc : decide (cv < 0) = false := decide_eq_false hcl
            have hcl2 : 0 ≤ cv := by omega
            have dc2 : (!decide (cv < 0)) = true := by rw [dc]; rfl
            have HCL := Aside0.mk hcl
            try rw [dc]
            go_wp2_with fail
            go_roundw
            case rel => exact ⟨c + 1, q, by have := HCB.out; omega, by have := HCB.out; omega, by have := HCB.out; omega, by go_num, rfl, ⟨.inr fun u v hu hv => by rw [Nat.add_sub_cancel] at hu; rw [show mid + m - (c + 1) = e by have := HE.out; omega] at hv; rw [HY.out u hu, HX.out v hv]; exact leN_of_not (by rw [← HCV.out]; exact HCL.out)⟩, HQ, HB5⟩
            case measure => (have := HLT.out; have := HCB.out; simp [intOf]; try omega)
        · obtain rfl : q = p := by omega
          have HROW : Aside0 (RowL wr g L0) := ⟨H.out.below HB.out⟩
          have HFW : Aside0 (Frm (fun k => k = g) w wr) := ⟨Frm.of_below HB.out⟩
          have hsr := HSR.out; have hmb2 := HMB2.out; have hN1' := HN1.out
          have HLO := HP; have HHI := HQ
          obtain ⟨en, hen⟩ : ∃ e, e = mid + m - q := ⟨_, rfl⟩
          have heni : (N1 : Int) - (q : Int) = (en : Int) := by omega
          have heni' : IntKind.i64.wrap ((N1 : Int) - (q : Int)) = (en : Int) := by rw [heni]; exact IntWalk.i64_in _ (by omega)
          have hq1 : a ≤ q ∧ q ≤ mid ∧ q ≤ m ∧ m ≤ en ∧ mid ≤ en ∧ en ≤ b := by omega
          have HEN := Aside0.mk hen; have HQ1 := Aside0.mk hq1
          have HS0q : Aside0 (s0 ≤ q) := ⟨hmp⟩
          have HR0q : Aside0 (q ≤ r0) := ⟨hqb⟩
          have hq2 : q ≤ 1000 := by omega
          have hen2 : en ≤ 1000 := by omega
          have hqq : ¬ ((q : Int) < (q : Int)) := by omega
          clear hen hq1 hsr hmb2 hN1' hlt HB HP HQ hmp hqb
          go_upto_region 39 with (fail)
          obtain ⟨ba, hba⟩ : ∃ x, x = decide (q < m ∧ m < en) := ⟨_, rfl⟩
          have HBA := Aside0.mk hba
          clear hba
          go_cut [185] from 178 (fun s wx => s = .bool ba ∧ wx = wr)
          case first =>
            by_cases hA : q < m
            · have hAi : (q : Int) < (m : Int) := by omega
              have dA : decide ((q : Int) < (m : Int)) = true := decide_eq_true hAi
              by_cases hB : m < en
              · have hBi : (m : Int) < (en : Int) := by omega
                have dB : decide ((m : Int) < (en : Int)) = true := decide_eq_true hBi
                go_wp2_with fail
                all_goals (go_meet; exact ⟨by rw [HBA.out, decide_eq_true ⟨hA, hB⟩], rfl⟩)
              · have hBi : ¬ (m : Int) < (en : Int) := by omega
                have dB : decide ((m : Int) < (en : Int)) = false := decide_eq_false hBi
                go_wp2_with fail
                all_goals (go_meet; exact ⟨by rw [HBA.out, decide_eq_false (fun h => hB h.2)], rfl⟩)
            · have hAi : ¬ (q : Int) < (m : Int) := by omega
              have dA : decide ((q : Int) < (m : Int)) = false := decide_eq_false hAi
              go_wp2_with fail
              all_goals (go_meet; exact ⟨by rw [HBA.out, decide_eq_false (fun h => hA h.1)], rfl⟩)
          case rest =>
          obtain ⟨rfl, hwx⟩ := hcut
          have hwx := hwx.symm
          subst hwx
          go_upto_if 185 with (fail)
          go_cut [24] from 178 (fun s24 wx => s24 = .int .i64 (en : Int) ∧ Aside0 ((∃ L1, RowL wx g L1 ∧ Seg a b L0 L1 ∧ RotOf q m en L0 L1) ∧ Frm (fun k => k = g) w wx))
          case first =>
            cases ba with
            | true =>
              have hAB := of_decide_eq_true HBA.out.symm
              have HROT := Aside0.mk (rotate_calls g cap L0 n q m en HN.out hn2 hAB.1 hAB.2 (by have := HQ1.out; omega) wr HROW.out)
              clear hAB
              go_wp2_with fail
              refine (HROT.out).mono ?_
              rintro e w3 ⟨rfl, ⟨L1, hr1, hs1, ho1⟩, hf1⟩
              have HX : Aside0 ((∃ L1, RowL w3 g L1 ∧ Seg a b L0 L1 ∧ RotOf q m en L0 L1) ∧ Frm (fun k => k = g) w w3) := ⟨⟨L1, hr1, hs1.mono (by have := HQ1.out; omega) (by have := HQ1.out; omega), ho1⟩, HFW.out.then_ hf1 (fun _ h => .inl h)⟩
              clear hr1 hs1 ho1 hf1
              go_wp2_with fail
              all_goals (go_meet; exact ⟨rfl, HX⟩)
            | false =>
              have hAB := of_decide_eq_false HBA.out.symm
              have HX : Aside0 ((∃ L1, RowL wr g L1 ∧ Seg a b L0 L1 ∧ RotOf q m en L0 L1) ∧ Frm (fun k => k = g) w wr) := ⟨⟨L0, HROW.out, Seg.refl _ _ _, by
                have hq1 := HQ1.out
                rcases Nat.lt_or_ge q m with h | h
                · obtain rfl : en = m := by
                    rcases Nat.lt_or_ge m en with h' | h'
                    · exact absurd ⟨h, h'⟩ hAB
                    · omega
                  exact RotOf.none2 _
                · obtain rfl : q = m := by omega
                  exact RotOf.none1 _⟩, HFW.out⟩
              clear hAB
              go_wp2_with fail
              all_goals (go_meet; exact ⟨rfl, HX⟩)
          case rest =>
          obtain ⟨rfl, HX1⟩ := hcut
          obtain ⟨w3, hw3⟩ : ∃ W, W = wc := ⟨_, rfl⟩
          rw [← hw3] at HX1 ⊢
          clear hw3
          obtain ⟨⟨L1, hr1, hs1, ho1⟩, hf1⟩ := HX1.out
          have hl1 : n = L1.length := by rw [hs1.length, HN.out]
          have hn := HN.out
          have CUT := cut_sorted ham hmb (by omega) HS1.out HS2.out leN_trans HMID.out HS0.out HR0.out HS0q.out HR0q.out HLO.out HHI.out (by rw [← HEN.out]; exact ho1)
          rw [← HEN.out] at CUT
          have HCUT := Aside0.mk CUT; have HR1 := Aside0.mk hr1; have HG1 := Aside0.mk hs1; have HL1 := Aside0.mk hl1; have HF1 := Aside0.mk hf1
          have hmb2 := HMB2.out
          have hq1 := HQ1.out
          have hd' := HD.out
          clear hr1 hs1 ho1 hf1 hl1 hn CUT HX1 HROW HFW
          -- the first half
          have HCALL : Aside0 (a < q ∧ q < mid → Calls Tryz.prog 73 #[.slice (some ⟨g, 0, none⟩) n cap, .int .i64 a, .int .i64 q, .int .i64 mid, .func (.func 41) #[] #[]] w3 fun e w' => e = .returned (.tuple #[]) ∧ Sorted w3 g a mid L1 w') := ⟨fun h => IH.out a q mid L1 w3 (by omega) HL1.out h.1 h.2 (by omega) HCUT.out.2.2.2.2.2.2.1 HCUT.out.2.2.2.2.2.2.2.1 HR1.out⟩
          clear hmb2 hq1 hd'
          go_upto_region 41 with (fail)
          obtain ⟨ba2, hba2⟩ : ∃ x, x = decide (a < q ∧ q < mid) := ⟨_, rfl⟩
          have HBA2 := Aside0.mk hba2
          clear hba2
          go_cut [199] from 192 (fun s wx => s = .bool ba2 ∧ wx = w3)
          case first =>
            by_cases hA : a < q
            · have hAi : (a : Int) < (q : Int) := by omega
              have dA : decide ((a : Int) < (q : Int)) = true := decide_eq_true hAi
              by_cases hB : q < mid
              · have hBi : (q : Int) < (mid : Int) := by omega
                have dB : decide ((q : Int) < (mid : Int)) = true := decide_eq_true hBi
                go_wp2_with fail
                all_goals (go_meet; exact ⟨by rw [HBA2.out, decide_eq_true ⟨hA, hB⟩], rfl⟩)
              · have hBi : ¬ (q : Int) < (mid : Int) := by omega
                have dB : decide ((q : Int) < (mid : Int)) = false := decide_eq_false hBi
                go_wp2_with fail
                all_goals (go_meet; exact ⟨by rw [HBA2.out, decide_eq_false (fun h => hB h.2)], rfl⟩)
            · have hAi : ¬ (a : Int) < (q : Int) := by omega
              have dA : decide ((a : Int) < (q : Int)) = false := decide_eq_false hAi
              go_wp2_with fail
              all_goals (go_meet; exact ⟨by rw [HBA2.out, decide_eq_false (fun h => hA h.1)], rfl⟩)
          case rest =>
          obtain ⟨rfl, hwx⟩ := hcut
          have hwx := hwx.symm
          subst hwx
          go_upto_if 199 with (fail)
          go_cut [24] from 192 (fun s24 wx => s24 = .int .i64 (en : Int) ∧ Aside0 (Sorted w3 g a mid L1 wx))
          case first =>
            cases ba2 with
            | true =>
              have hAB := of_decide_eq_true HBA2.out.symm
              have HC2 := Aside0.mk (HCALL.out hAB)
              clear hAB
              go_wp2_with fail
              refine (HC2.out).mono ?_
              rintro e w4 ⟨rfl, hw4⟩
              have HX := Aside0.mk hw4
              clear hw4
              go_wp2_with fail
              all_goals (go_meet; exact ⟨rfl, HX⟩)
            | false =>
              have hAB := of_decide_eq_false HBA2.out.symm
              have HX : Aside0 (Sorted w3 g a mid L1 w3) := ⟨⟨L1, HR1.out, Seg.refl _ _ _, by
                have hq1 := HQ1.out; have hc := HCUT.out
                rcases Nat.lt_or_ge a q with h | h
                · obtain rfl : q = mid := by
                    rcases Nat.lt_or_ge q mid with h' | h'
                    · exact absurd ⟨h, h'⟩ hAB
                    · omega
                  exact hc.2.2.2.2.2.2.1
                · obtain rfl : q = a := by omega
                  exact hc.2.2.2.2.2.2.2.1⟩, Frm.refl _ _⟩
              clear hAB
              go_wp2_with fail
              all_goals (go_meet; exact ⟨rfl, HX⟩)
          case rest =>
          obtain ⟨rfl, HX2⟩ := hcut
          obtain ⟨w4, hw4⟩ : ∃ W, W = wc := ⟨_, rfl⟩
          rw [← hw4] at HX2 ⊢
          clear hw4
          obtain ⟨⟨L2, hr2, hs2, ho2⟩, hf2⟩ := HX2.out
          have hl2 : n = L2.length := by rw [hs2.length, HL1.out]
          have HR2 := Aside0.mk hr2; have HG2 := Aside0.mk hs2; have HL2 := Aside0.mk hl2; have HO2 := Aside0.mk ho2; have HF2 := Aside0.mk (HF1.out.then_ hf2 (fun _ h => .inl h))
          have HSB : Aside0 (SortR leN mid en L2 ∧ SortR leN en b L2) := ⟨by
            have hc := HCUT.out
            exact ⟨hc.2.2.2.2.2.2.2.2.1.congr fun k hk _ => hs2.high hk, hc.2.2.2.2.2.2.2.2.2.1.congr fun k hk _ => hs2.high (by have := HQ1.out; omega)⟩⟩
          have HFIN : Aside0 (∀ W, Sorted w4 g mid b L2 W → Sorted w g a b L0 W) := ⟨fun W hW => by
            obtain ⟨⟨L3, k1, k2, k3⟩, k4⟩ := hW
            have hmb2 := HMB2.out
            refine ⟨⟨L3, k1, (HG1.out.trans (HG2.out.mono (Nat.le_refl _) (by omega))).trans (k2.mono (by omega) (Nat.le_refl _)), ?_⟩, HF2.out.then_ k4 (fun _ h => .inl h)⟩
            exact halves (by omega) (by omega) HCUT.out.2.2.2.2.2.2.2.2.2.2 HG2.out HO2.out k2 k3⟩
          have hmb2 := HMB2.out
          have hq1 := HQ1.out
          have hd' := HD.out
          have HCALL2 : Aside0 (mid < en ∧ en < b → Calls Tryz.prog 73 #[.slice (some ⟨g, 0, none⟩) n cap, .int .i64 mid, .int .i64 en, .int .i64 b, .func (.func 41) #[] #[]] w4 fun e w' => e = .returned (.tuple #[]) ∧ Sorted w4 g mid b L2 w') := ⟨fun h => IH.out mid en b L2 w4 (by omega) HL2.out h.1 h.2 (by omega) HSB.out.1 HSB.out.2 HR2.out⟩
          clear hmb2 hq1 hd' hr2 hs2 ho2 hf2 hl2 HX2
          go_upto_region 43 with (fail)
          obtain ⟨ba3, hba3⟩ : ∃ x, x = decide (mid < en ∧ en < b) := ⟨_, rfl⟩
          have HBA3 := Aside0.mk hba3
          clear hba3
          go_cut [213] from 206 (fun s wx => s = .bool ba3 ∧ wx = w4)
          case first =>
            by_cases hA : mid < en
            · have hAi : (mid : Int) < (en : Int) := by omega
              have dA : decide ((mid : Int) < (en : Int)) = true := decide_eq_true hAi
              by_cases hB : en < b
              · have hBi : (en : Int) < (b : Int) := by omega
                have dB : decide ((en : Int) < (b : Int)) = true := decide_eq_true hBi
                go_wp2_with fail
                all_goals (go_meet; exact ⟨by rw [HBA3.out, decide_eq_true ⟨hA, hB⟩], rfl⟩)
              · have hBi : ¬ (en : Int) < (b : Int) := by omega
                have dB : decide ((en : Int) < (b : Int)) = false := decide_eq_false hBi
                go_wp2_with fail
                all_goals (go_meet; exact ⟨by rw [HBA3.out, decide_eq_false (fun h => hB h.2)], rfl⟩)
            · have hAi : ¬ (mid : Int) < (en : Int) := by omega
              have dA : decide ((mid : Int) < (en : Int)) = false := decide_eq_false hAi
              go_wp2_with fail
              all_goals (go_meet; exact ⟨by rw [HBA3.out, decide_eq_false (fun h => hA h.1)], rfl⟩)
          case rest =>
          obtain ⟨rfl, hwx⟩ := hcut
          have hwx := hwx.symm
          subst hwx
          cases ba3 with
          | true =>
            have hAB := of_decide_eq_true HBA3.out.symm
            have HC2 := Aside0.mk (HCALL2.out hAB)
            clear hAB
            go_wp2_with fail
            refine (HC2.out).mono ?_
            rintro e w5 ⟨rfl, hw5⟩
            have HX := Aside0.mk hw5
            clear hw5
            go_wp2_with fail
            go_end0
            exact ⟨rfl, HFIN.out _ HX.out⟩
          | false =>
            have hAB := of_decide_eq_false HBA3.out.symm
            have HX : Aside0 (Sorted w4 g mid b L2 w4) := ⟨⟨L2, HR2.out, Seg.refl _ _ _, by
              have hq1 := HQ1.out; have hc := HSB.out
              rcases Nat.lt_or_ge mid en with h | h
              · obtain rfl : en = b := by
                  rcases Nat.lt_or_ge en b with h' | h'
                  · exact absurd ⟨h, h'⟩ hAB
                  · omega
                exact hc.1
              · obtain rfl : en = mid := by omega
                exact hc.2⟩, Frm.refl _ _⟩
            clear hAB
            go_wp2_with fail
            go_end0
            exact ⟨rfl, HFIN.out _ HX.out⟩
end Go.Proofs.YtjhgckpcadngaaaGreatK
