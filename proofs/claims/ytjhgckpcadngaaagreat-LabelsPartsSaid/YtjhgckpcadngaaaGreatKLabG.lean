/- Labels: slices.SortStableFunc of at most 60 labels. -/
import Derived.Test.YtjhgckpcadngaaaGreatPLAx0
import Derived.Test.YtjhgckpcadngaaaGreatPLAx1
import Derived.Test.YtjhgckpcadngaaaGreatPLAx2
import Derived.Test.YtjhgckpcadngaaaGreatPLAx3
import Derived.Test.YtjhgckpcadngaaaGreatKFlow3
import Derived.Test.YtjhgckpcadngaaaGreatKEv
import Derived.Test.YtjhgckpcadngaaaGreatKOpen
import Derived.Lib.SlBytesConst
import Derived.Lib.Bytes
import Derived.Deep.RegionWith
import Derived.Deep.QuietTactic
import Derived.Deep.RegionHeld3
import Derived.BigQuiet
import Derived.Outline
import Derived.Lib.Strings
import Derived.Lib.Slices
import Derived.Lib.Walk
import Derived.Lib.Bytealg
import Derived.Tactics
import Derived.Tactics2
import Derived.Defers
import Derived.Laws.Pointers
import Derived.Laws.LoneSync
import Derived.RegionTactic
import Derived.RegionCalls
import Derived.ChangeAlike
import Derived.Test.YtjhgckpcadngaaaGreatKLabA
import Derived.Test.YtjhgckpcadngaaaGreatKLabB
import Derived.Test.YtjhgckpcadngaaaGreatKLabC
import Derived.Test.YtjhgckpcadngaaaGreatKFrm
import Derived.Test.YtjhgckpcadngaaaGreatKSrt
import Derived.Test.YtjhgckpcadngaaaGreatKSrtN
import Derived.Test.YtjhgckpcadngaaaGreatKLabF
namespace Go.Proofs.YtjhgckpcadngaaaGreatK
open Go.RowKit Go.Proofs.YtjhgckpcadngaaaGreatW.PrintWords Go.Proofs.YtjhgckpcadngaaaGreatW.PrintLast Go.Proofs.YtjhgckpcadngaaaGreatW.PrintMore
open Go.Proofs.YtjhgckpcadngaaaGreat.PLA Go.Proofs.YtjhgckpcadngaaaGreat Go.Proofs.YtjhgckpcadngaaaGreatSrt
attribute [local go_sem] max2_int min2_int max_two min_two max_three min_three max_four min_four
set_option linter.unusedVariables false
set_option linter.unusedSimpArgs false
set_option maxHeartbeats 2000000 in
set_option maxRecDepth 100000 in
theorem stableG_calls (g cap : Nat) (L0 : List S47) (n : Nat) (hn : n = L0.length) (hn2 : n ≤ 60) (w : World) (h : RowL w g L0) :
    Calls Tryz.prog 61 #[.slice (some ⟨g, 0, none⟩) n cap, .int .i64 n, .func (.func 41) #[] #[]] w fun e w' => e = .returned (.tuple #[]) ∧ Sorted w g 0 n L0 w' := by
  have H := Aside0.mk h; have HN := Aside0.mk hn
  clear h hn
  go_enter Tryz.func61, Tryz.ntmps61
  go_wp2_with fail
  go_loopw [7, 8] (fun x y wr => ∃ a b k : Nat, a ≤ n ∧ b = a + 20 ∧ x = .int .i64 a ∧ y = .int .i64 b ∧ Aside0 (a = 20 * k) ∧ Aside0 (∃ L, RowL wr g L ∧ Seg 0 n L0 L ∧ ∀ j, j < k → SortR leN (20 * j) (20 * j + 20) L) ∧ Aside0 (Frm (fun k => k = g) w wr)) (fun x _ _ => n - (intOf x).toNat)
  case atStart => exact ⟨0, 20, 0, Nat.zero_le _, rfl, rfl, rfl, ⟨rfl⟩, ⟨L0, H.out, Seg.refl _ _ _, fun j hj => by omega⟩, ⟨Frm.refl _ _⟩⟩
  case round =>
    obtain ⟨a, b, k, han, hb, rfl, rfl, HK, HR, HF⟩ := hrel
    obtain ⟨L1, hr1, hs1, ho1⟩ := HR.out
    have hl1 : n = L1.length := by rw [hs1.length, HN.out]
    have HR1 := Aside0.mk hr1; have HS1 := Aside0.mk hs1; have HO1 := Aside0.mk ho1; have HL1 := Aside0.mk hl1
    have HB := Aside0.mk hb
    have hbb : b ≤ 80 := by omega
    clear hr1 hs1 ho1 hl1 HR
    by_cases hlt : b ≤ n
    · have hlti : (b : Int) ≤ (n : Int) := by omega
      have HINS := Aside0.mk (insG_calls g cap L1 n a b HL1.out (by omega) (by omega) hlt wr HR1.out)
      clear hb
      go_wp2_with fail
      refine (HINS.out).mono ?_
      rintro e w2 ⟨rfl, ⟨L2, hr2, hs2, ho2⟩, hf2⟩
      have HX : Aside0 (∃ L, RowL w2 g L ∧ Seg 0 n L0 L ∧ ∀ j, j < k + 1 → SortR leN (20 * j) (20 * j + 20) L) := ⟨L2, hr2, HS1.out.trans (hs2.mono (Nat.zero_le _) hlt), fun j hj => by
        have hk := HK.out; have hb := HB.out
        rcases Nat.lt_or_ge j k with h | h
        · exact (HO1.out j h).congr fun q _ hq => hs2.low (by omega)
        · obtain rfl : j = k := by omega
          exact ho2.mono (by omega) (by omega)⟩
      have HF2 := Aside0.mk (HF.out.then_ hf2 (fun _ h => .inl h))
      clear hr2 hs2 ho2 hf2
      go_wp2_with fail
      go_roundw
      case rel => exact ⟨b, b + 20, k + 1, hlt, rfl, rfl, by go_num, ⟨by have := HK.out; have := HB.out; omega⟩, HX, HF2⟩
      case measure => (have := HB.out; simp [intOf]; try omega)
    · have hlti : ¬ (b : Int) ≤ (n : Int) := by omega
      have HINS := Aside0.mk (insG_calls g cap L1 n a n HL1.out (by omega) han (Nat.le_refl _) wr HR1.out)
      have HLT := Aside0.mk hlt
      clear hb hlt
      go_wp2_with fail
      refine (HINS.out).mono ?_
      rintro e w2 ⟨rfl, ⟨L2, hr2, hs2, ho2⟩, hf2⟩
      have HX : Aside0 (∃ L, RowL w2 g L ∧ Seg 0 n L0 L ∧ ∀ j, SortR leN (20 * j) (min (20 * j + 20) n) L) := ⟨L2, hr2, HS1.out.trans (hs2.mono (Nat.zero_le _) (Nat.le_refl _)), fun j => by
        have hk := HK.out; have hb := HB.out; have hlt := HLT.out
        rcases Nat.lt_or_ge j k with h | h
        · exact ((HO1.out j h).congr fun q _ hq => hs2.low (by omega)).mono (Nat.le_refl _) (by omega)
        · exact ho2.mono (by omega) (by omega)⟩
      have HF2 := Aside0.mk (HF.out.then_ hf2 (fun _ h => .inl h))
      clear hr2 hs2 ho2 hf2 HR1 HS1 HO1 HL1 HINS hlti
      clear HF HB HLT HK
      go_wp2_with fail
      go_loopw [6, 7, 8, 9] (fun x6 x7 x8 x9 wr => ∃ c : Nat, (c = 20 ∨ c = 40 ∨ c = 80) ∧ x6 = .int .i64 c ∧ Aside0 (∃ L, RowL wr g L ∧ Seg 0 n L0 L ∧ ∀ j, SortR leN (c * j) (min (c * j + c) n) L) ∧ Aside0 (Frm (fun k => k = g) w wr)) (fun x _ _ _ _ => 100 - (intOf x).toNat)
      case atStart => exact ⟨20, .inl rfl, rfl, HX, HF2⟩
      case round =>
        obtain ⟨c, hc, rfl, HR, HF⟩ := hrel
        by_cases hcn : c < n
        · obtain ⟨L1, hr1, hs1, ho1⟩ := HR.out
          have hl1 : n = L1.length := by rw [hs1.length, HN.out]
          have HR1 := Aside0.mk hr1; have HS1 := Aside0.mk hs1; have HO1 := Aside0.mk ho1; have HL1 := Aside0.mk hl1
          clear hr1 hs1 ho1 hl1 HR HX HF2
          rcases hc with rfl | rfl | rfl
          · have hci : (20 : Int) < (n : Int) := by omega
            rw [show ((20 : Nat) : Int) = 20 from rfl]
            go_wp2_with fail
            go_loopw [7, 8] (fun x y wr => ∃ a b k : Nat, a ≤ n ∧ b = a + 40 ∧ x = .int .i64 a ∧ y = .int .i64 b ∧ Aside0 (a = 40 * k) ∧ Aside0 (∃ L, RowL wr g L ∧ Seg 0 n L0 L ∧ (∀ j, j < k → SortR leN (40 * j) (40 * j + 40) L) ∧ ∀ j, 2 * k ≤ j → SortR leN (20 * j) (min (20 * j + 20) n) L) ∧ Aside0 (Frm (fun k => k = g) w wr)) (fun x _ _ => n - (intOf x).toNat)
            case atStart => exact ⟨0, 40, 0, Nat.zero_le _, rfl, rfl, rfl, ⟨rfl⟩, ⟨L1, HR1.out, HS1.out, fun j hj => by omega, fun j _ => HO1.out j⟩, HF⟩
            case round =>
              obtain ⟨a, b, k, han, hb, rfl, rfl, HK, HR, HF⟩ := hrel
              clear HR1 HS1 HO1 HL1
              obtain ⟨L1, hr1, hs1, ho1, ho2⟩ := HR.out
              have hl1 : n = L1.length := by rw [hs1.length, HN.out]
              have HR1 := Aside0.mk hr1; have HS1 := Aside0.mk hs1; have HO1 := Aside0.mk ho1; have HO2 := Aside0.mk ho2; have HL1 := Aside0.mk hl1
              have HB := Aside0.mk hb
              have hbb : b ≤ 100 := by omega
              clear hr1 hs1 ho1 hl1 HR
              by_cases hlt : b ≤ n
              · have hlti : (b : Int) ≤ (n : Int) := by omega
                obtain ⟨m, hmm⟩ : ∃ m, m = a + 20 := ⟨_, rfl⟩
                have e1 : (a : Int) + 20 = (m : Int) := by omega
                have HSM := Aside0.mk (symmerge_calls g cap n (by omega) n a m b L1 wr (by omega) HL1.out (by omega) (by omega) hlt ((HO2.out (2 * k) (Nat.le_refl _)).mono (by have := HK.out; omega) (by have := HK.out; omega)) ((HO2.out (2 * k + 1) (by omega)).mono (by have := HK.out; omega) (by have := HK.out; omega)) HR1.out)
                have HMM := Aside0.mk hmm
                clear hb ho2 hmm
                go_wp2_with fail
                refine (HSM.out).mono ?_
                rintro e w2 ⟨rfl, ⟨L2, hr2, hs2, ho2⟩, hf2⟩
                have HX : Aside0 (∃ L, RowL w2 g L ∧ Seg 0 n L0 L ∧ (∀ j, j < k + 1 → SortR leN (40 * j) (40 * j + 40) L) ∧ ∀ j, 2 * (k + 1) ≤ j → SortR leN (20 * j) (min (20 * j + 20) n) L) := ⟨L2, hr2, HS1.out.trans (hs2.mono (Nat.zero_le _) hlt), fun j hj => by
                  have hk := HK.out; have hb := HB.out
                  rcases Nat.lt_or_ge j k with h | h
                  · exact (HO1.out j h).congr fun q _ hq => hs2.low (by omega)
                  · obtain rfl : j = k := by omega
                    exact ho2.mono (by omega) (by omega), fun j hj => by
                  have hk := HK.out; have hb := HB.out
                  exact (HO2.out j (by omega)).congr fun q hq _ => hs2.high (by omega)⟩
                have HF2 := Aside0.mk (HF.out.then_ hf2 (fun _ h => .inl h))
                clear hr2 hs2 ho2 hf2
                go_wp2_with fail
                go_roundw
                case rel => exact ⟨b, b + 40, k + 1, hlt, rfl, rfl, by go_num, ⟨by have := HK.out; have := HB.out; omega⟩, HX, HF2⟩
                case measure => (have := HB.out; simp [intOf]; try omega)
              · have hlti : ¬ (b : Int) ≤ (n : Int) := by omega
                by_cases hm : a + 20 < n
                · obtain ⟨m, hmm⟩ : ∃ m, m = a + 20 := ⟨_, rfl⟩
                  have hmi : (m : Int) < (n : Int) := by omega
                  have e1 : (a : Int) + 20 = (m : Int) := by omega
                  have HSM := Aside0.mk (symmerge_calls g cap n (by omega) n a m n L1 wr (by omega) HL1.out (by omega) (by omega) (Nat.le_refl _) ((HO2.out (2 * k) (Nat.le_refl _)).mono (by have := HK.out; omega) (by have := HK.out; omega)) ((HO2.out (2 * k + 1) (by omega)).mono (by have := HK.out; omega) (by have := HK.out; omega)) HR1.out)
                  have HLT := Aside0.mk hlt
                  have HMM := Aside0.mk hmm
                  clear hb ho2 hlt hmm hm
                  go_wp2_with fail
                  refine (HSM.out).mono ?_
                  rintro e w2 ⟨rfl, ⟨L2, hr2, hs2, ho2⟩, hf2⟩
                  have HX : Aside0 (∃ L, RowL w2 g L ∧ Seg 0 n L0 L ∧ ∀ j, SortR leN (40 * j) (min (40 * j + 40) n) L) := ⟨L2, hr2, HS1.out.trans (hs2.mono (Nat.zero_le _) (Nat.le_refl _)), fun j => by
                    have hk := HK.out; have hb := HB.out; have hlt := HLT.out
                    rcases Nat.lt_or_ge j k with h | h
                    · exact ((HO1.out j h).congr fun q _ hq => hs2.low (by omega)).mono (Nat.le_refl _) (by omega)
                    · exact ho2.mono (by omega) (by omega)⟩
                  have HF2 := Aside0.mk (HF.out.then_ hf2 (fun _ h => .inl h))
                  clear hr2 hs2 ho2 hf2
                  go_wp2_with fail
                  go_roundw
                  case rel => exact ⟨40, .inr (.inl rfl), rfl, HX, HF2⟩
                  case measure => simp [intOf]
                · have hmi : ¬ (a : Int) + 20 < (n : Int) := by omega
                  have HX : Aside0 (∃ L, RowL wr g L ∧ Seg 0 n L0 L ∧ ∀ j, SortR leN (40 * j) (min (40 * j + 40) n) L) := ⟨L1, HR1.out, HS1.out, fun j => by
                    have hk := HK.out; have hb := HB.out
                    rcases Nat.lt_or_ge j k with h | h
                    · exact (HO1.out j h).mono (Nat.le_refl _) (by omega)
                    · exact (HO2.out (2 * j) (by omega)).mono (by omega) (by omega)⟩
                  clear hb ho2 hlt
                  go_wp2_with fail
                  go_roundw
                  case rel => exact ⟨40, .inr (.inl rfl), rfl, HX, HF⟩
                  case measure => simp [intOf]
          · have hci : (40 : Int) < (n : Int) := by omega
            rw [show ((40 : Nat) : Int) = 40 from rfl]
            have hci2 : ¬ (80 : Int) ≤ (n : Int) := by omega
            go_wp2_with fail
            go_loopw [7, 8] (fun x y wq => x = .int .i64 0 ∧ y = .int .i64 80 ∧ Aside0 (wq = wr)) (fun _ _ _ => 0)
            case atStart => exact ⟨rfl, rfl, ⟨rfl⟩⟩
            case round =>
              obtain ⟨rfl, rfl, HW⟩ := hrel
              have hw := HW.out
              subst hw
              have HSM := Aside0.mk (symmerge_calls g cap n (by omega) n 0 40 n L1 wr (by omega) HL1.out (by omega) (by omega) (Nat.le_refl _) ((HO1.out 0).mono (by omega) (by omega)) ((HO1.out 1).mono (by omega) (by omega)) HR1.out)
              go_wp2_with fail
              refine (HSM.out).mono ?_
              rintro e w2 ⟨rfl, ⟨L2, hr2, hs2, ho2⟩, hf2⟩
              have HX : Aside0 (∃ L, RowL w2 g L ∧ Seg 0 n L0 L ∧ ∀ j, SortR leN (80 * j) (min (80 * j + 80) n) L) := ⟨L2, hr2, HS1.out.trans hs2, fun j => ho2.mono (by omega) (by omega)⟩
              have HF2 := Aside0.mk (HF.out.then_ hf2 (fun _ h => .inl h))
              clear hr2 hs2 ho2 hf2
              go_wp2_with fail
              go_roundw
              case rel => exact ⟨80, .inr (.inr rfl), rfl, HX, HF2⟩
              case measure => simp [intOf]
          · omega
        · have hci : ¬ (c : Int) < (n : Int) := by omega
          have HCN := Aside0.mk hcn
          clear hc hcn
          go_wp2_with fail
          go_end0
          obtain ⟨L1, hr1, hs1, ho1⟩ := HR.out
          refine ⟨rfl, ⟨L1, hr1, hs1, (ho1 0).mono (by omega) (by have := HCN.out; omega)⟩, HF.out⟩
set_option maxHeartbeats 1000000 in
set_option maxRecDepth 100000 in
theorem sortstableG_calls (g cap : Nat) (L0 : List S47) (n : Nat) (hn : n = L0.length) (hn2 : n ≤ 60) (w : World) (h : RowL w g L0) :
    Calls Tryz.prog 40 #[.slice (some ⟨g, 0, none⟩) n cap, .func (.func 41) #[] #[]] w fun e w' => e = .returned (.tuple #[]) ∧ Sorted w g 0 n L0 w' := by
  have HI := Aside0.mk (stableG_calls g cap L0 n hn hn2 w h)
  clear h hn
  go_enter Tryz.func40, Tryz.ntmps40
  go_wp2_with fail
  refine (HI.out).mono ?_
  rintro e w2 ⟨rfl, hs⟩
  have HS := Aside0.mk hs
  clear hs
  go_wp2_with fail
  go_end0
  exact ⟨rfl, HS.out⟩
end Go.Proofs.YtjhgckpcadngaaaGreatK
