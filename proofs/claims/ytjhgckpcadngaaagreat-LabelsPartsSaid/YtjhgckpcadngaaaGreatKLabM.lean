/- Labels: live() of the law walked: it holds. -/
import Derived.Test.YtjhgckpcadngaaaGreatPLAx0
import Derived.Test.YtjhgckpcadngaaaGreatPLAx1
import Derived.Test.YtjhgckpcadngaaaGreatPLAx2
import Derived.Test.YtjhgckpcadngaaaGreatPLAx3
import Derived.Test.YtjhgckpcadngaaaGreatKFlow3
import Derived.Test.YtjhgckpcadngaaaGreatKFlow4
import Derived.Test.YtjhgckpcadngaaaGreatKJoin
import Derived.Test.YtjhgckpcadngaaaGreatKEv
import Derived.Test.YtjhgckpcadngaaaGreatKOpen
import Derived.Lib.SlBytesConst
import Derived.Lib.Bytes
import Derived.Deep.RegionWith
import Derived.Deep.QuietTactic
import Derived.Deep.RegionHeld3
import Derived.BigQuiet
import Derived.Outline
import Derived.Deep.WholeRow
import Derived.Lib.SliceRun
import Derived.Lib.LazyBuf
import Derived.Lib.ConvBytes
import Derived.Laws.CopyOwn
import Derived.Lib.Strings
import Derived.Lib.Slices
import Derived.Lib.Walk
import Derived.Lib.Bytealg
import Derived.Tactics
import Derived.Tactics2
import Derived.Defers
import Derived.Laws.Pointers
import Derived.Laws.LoneSync
import Derived.RegionTactic
import Derived.RegionCalls
import Derived.ChangeAlike
import Derived.Test.YtjhgckpcadngaaaGreatKLabA
import Derived.Test.YtjhgckpcadngaaaGreatKLabB
import Derived.Test.YtjhgckpcadngaaaGreatKLabC
import Derived.Test.YtjhgckpcadngaaaGreatKFrm
import Derived.Test.YtjhgckpcadngaaaGreatKSrt
import Derived.Test.YtjhgckpcadngaaaGreatKSrtN
import Derived.Test.YtjhgckpcadngaaaGreatKLabF
import Derived.Test.YtjhgckpcadngaaaGreatKLabG
import Derived.Test.YtjhgckpcadngaaaGreatKLabH
import Derived.Test.YtjhgckpcadngaaaGreatKLabI
import Derived.Test.YtjhgckpcadngaaaGreatKLabJ
import Derived.Test.YtjhgckpcadngaaaGreatKLabK
import Derived.Test.YtjhgckpcadngaaaGreatKLabL
import Derived.Test.YtjhgckpcadngaaaGreatPLAx6
import Derived.Test.YtjhgckpcadngaaaGreatKLabE
namespace Go.Proofs.YtjhgckpcadngaaaGreatK
open Go.RowKit Go.Proofs.YtjhgckpcadngaaaGreatW.PrintWords Go.Proofs.YtjhgckpcadngaaaGreatW.PrintLast Go.Proofs.YtjhgckpcadngaaaGreatW.PrintMore
open Go.Proofs.YtjhgckpcadngaaaGreat.PLA Go.Proofs.YtjhgckpcadngaaaGreat Go.Proofs.YtjhgckpcadngaaaGreatSrt
attribute [local go_sem] max2_int min2_int max_two min_two max_three min_three max_four min_four
set_option linter.unusedVariables false
set_option linter.unusedSimpArgs false
def lA : S47 := ⟨⟨#[97]⟩, ⟨#[120, 34]⟩⟩
def lB : S47 := ⟨⟨#[98]⟩, ⟨#[49]⟩⟩
theorem perm_two {α : Type} {S : List α} {a b : α} (h : S.Perm [a, b]) : S = [a, b] ∨ S = [b, a] := by
  have hl := h.length_eq
  match S, hl with
  | [x, y], _ =>
    have hx : x ∈ [a, b] := h.mem_iff.1 List.mem_cons_self
    simp only [List.mem_cons, List.not_mem_nil, or_false] at hx
    rcases hx with rfl | rfl
    · have h2 := (List.perm_cons x).1 h
      have := List.perm_singleton.1 h2
      left; rw [this]
    · have h2 := (List.perm_cons x).1 (h.trans (List.Perm.swap x a []))
      have := List.perm_singleton.1 h2
      right; rw [this]
theorem made_two {w w' : World} {l : List S47} {e : Ending} (hl : l = [lA, lB] ∨ l = [lB, lA]) (h : MadeG w l e w') : ∃ ad c, e = .returned (.tuple #[.slice (some ad) 2 c, .int .i64 0]) ∧ 2 ≤ c ∧ Kd.C k47 w' (some ad) 2 [lA, lB] ∧ Below w.heap.size w w' := by
  obtain ⟨hB, h⟩ := h
  have hg : l.any badL = false := by rcases hl with rfl | rfl <;> decide +kernel
  rw [hg] at h
  have hS : ∀ S : List S47, S.Perm l → SortR leN 0 S.length S → S = [lA, lB] := fun S hp hs => by
    have h2 : S = [lA, lB] ∨ S = [lB, lA] := by
      rcases hl with rfl | rfl
      · exact perm_two hp
      · exact (perm_two hp).symm
    rcases h2 with h2 | h2
    · exact h2
    · exfalso
      subst h2
      have := hs 0 1 lB lA (by omega) (by omega) (by decide) rfl rfl
      exact absurd this (by unfold leN cmpN; decide +kernel)
  have hd : ¬ dupL [lA, lB] := fun ⟨j, h1, h2, h3⟩ => by
    have hj : j = 1 := by simp at h2; omega
    subst hj
    exact absurd h3 (by decide +kernel)
  rcases h with ⟨h, -⟩ | ⟨-, S, hp, hs, h⟩
  · exact absurd h (by decide)
  · have e1 := hS S hp hs
    subst e1
    rcases h with ⟨h1, -⟩ | ⟨-, h1, -⟩ | ⟨-, -, A, c, he, hc, hC⟩
    · exact absurd h1 hd
    · simp at h1
    · obtain ⟨ad, rfl, -⟩ := hC.2.2 (by decide)
      exact ⟨ad, c, he, hc, hC, hB⟩
theorem c_first {w : World} {ad : Addr} {x y : S47} (h : Kd.C k47 w (some ad) 2 [x, y]) : Kd.C k47 w (some ad) 1 [x] := by
  obtain ⟨ad', hA, hr⟩ := h.2.2 (by decide)
  obtain rfl : ad = ad' := Option.some.inj hA
  refine ⟨rfl, by decide, fun _ => ⟨ad, rfl, fun j p hj => hr j p ?_⟩⟩
  have hjl := (List.getElem?_eq_some_iff.1 hj).1
  have hj0 : j = 0 := by simp at hjl; omega
  subst hj0
  simpa using hj
theorem row_two (w : World) (x y : S47) : Kd.C k47 (w.alloc (.cells #[.string x.f0, .string x.f1, .string y.f0, .string y.f1] 47)) (some ⟨w.heap.size, 0, none⟩) 2 [x, y] := by
  have h : RowL (w.alloc (.cells #[.string x.f0, .string x.f1, .string y.f0, .string y.f1] 47)) w.heap.size [x, y] := ⟨_, blk_new w _, fun i hi => by
    have : i = 0 ∨ i = 1 := by simp at hi; omega
    rcases this with rfl | rfl <;> exact ⟨rfl, rfl⟩⟩
  exact h.toC (by simp)
theorem row_one (w : World) (x : S47) : Kd.C k47 (w.alloc (.cells #[.string x.f0, .string x.f1] 47)) (some ⟨w.heap.size, 0, none⟩) 1 [x] := by
  have h : RowL (w.alloc (.cells #[.string x.f0, .string x.f1] 47)) w.heap.size [x] := ⟨_, blk_new w _, fun i hi => by
    have : i = 0 := by simp at hi; omega
    subst this; exact ⟨rfl, rfl⟩⟩
  exact h.toC (by simp)
theorem mrow_one (w : World) (x : S35) : Kd.C k35 (w.alloc (.cells #[.string x.f0, .string x.f1, .string x.f2] 35)) (some ⟨w.heap.size, 0, none⟩) 1 [x] := by
  refine ⟨rfl, by decide, fun _ => ⟨_, rfl, fun j p hj => ?_⟩⟩
  have hjl := (List.getElem?_eq_some_iff.1 hj).1
  have hj0 : j = 0 := by simp at hjl; omega
  subst hj0
  obtain rfl : x = p := by simpa using hj
  refine ⟨_, rfl, k35_mk _ _, fun i u hu => ?_⟩
  rw [add_plain, blk_cell (blk_new w _)]
  simp only [Nat.zero_mul, Nat.zero_add]
  rw [← hu]
  match i with
  | 0 => rfl
  | 1 => rfl
  | 2 => rfl
  | i + 3 => simp
theorem key_two : keyS [lA, lB] = ⟨#[123, 97, 61, 34, 120, 92, 34, 34, 44, 98, 61, 34, 49, 34, 125]⟩ := by decide +kernel
theorem join_same : joinL [lA] [lA] [lA, lB] = some [lA, lB] := by
  have h1 : ¬ (getL [lA] lA.f0).toList = [] := by decide +kernel
  have h2 : (getL [lA] lA.f0).toList = lA.f1.toList := by decide +kernel
  have h3 : (getL [lA] lB.f0).toList = [] := by decide +kernel
  rw [joinL, if_neg h1, if_pos h2, joinL, if_pos h3, joinL]; rfl
theorem join_differ : joinL [⟨⟨#[97]⟩, ⟨#[49]⟩⟩] [⟨⟨#[97]⟩, ⟨#[49]⟩⟩] [⟨⟨#[97]⟩, ⟨#[50]⟩⟩] = none := by decide +kernel
set_option maxHeartbeats 4000000 in
set_option maxRecDepth 100000 in
/-- live() holds. -/
theorem live_calls (w : World) : Calls Tryz.prog 11 #[] w fun e w' => e = .returned (.bool true) ∧ Below w.heap.size w w' := by
  have hu25 := Tryz.underlying25
  go_enter Tryz.func11, Tryz.ntmps11
  go_wp2_with fail
  refine (makeG_calls (some ⟨w.heap.size, 0, none⟩) 2 [lB, lA] _ (row_two w lB lA) (by decide) (by decide)).mono ?_
  rintro e w1 hm
  obtain ⟨ad1, c1, rfl, hc1, hC1, hb1⟩ := made_two (.inr rfl) hm
  have HB1 : Aside0 (Below w.heap.size w w1) := ⟨below_step (below_alloc (Below.refl _ _) _) hb1⟩
  have HC1 := Aside0.mk hC1; have HL1 := Aside0.mk hc1
  have hc1' : (1 : Int) ≤ (c1 : Int) := by omega
  have hc1'' : 1 ≤ c1 := by omega
  clear hm hb1 hC1
  go_wp2_with fail
  refine (join_calls (some ad1) c1 [lA] (some ad1) c1 [lA, lB] (by decide) (by decide) w1 (c_first HC1.out) HC1.out).mono ?_
  rintro e w2 ⟨hb2, hj⟩
  rw [join_same] at hj
  obtain ⟨U1, U2, v2, n2, hm2, hu2, rfl⟩ := hj
  obtain ⟨ad2, c2, he2, hc2, hC2, -⟩ := made_two (.inl rfl) hm2
  simp only [Ending.returned.injEq, Value.tuple.injEq, Array.mk.injEq, List.cons.injEq, and_true] at he2
  obtain ⟨rfl, hn2⟩ := he2
  obtain rfl : n2 = 0 := by simpa using hn2
  have HC2 : Aside0 (Kd.C k47 w2 (some ad2) 2 [lA, lB]) := ⟨Kd.C_below hC2 hu2⟩
  have HC12 : Aside0 (Kd.C k47 w2 (some ad1) 2 [lA, lB]) := ⟨Kd.C_below HC1.out hb2⟩
  have HB2 := Aside0.mk (below_step HB1.out hb2); have HL2 := Aside0.mk hc2
  clear hm2 hu2 hC2 hn2 hb2
  go_wp2_with fail
  have hrow2 : Kd.C k47 ((w2.alloc (.cells #[.string ⟨#[97]⟩, .string ⟨#[49]⟩] 47)).alloc (.cells #[.string ⟨#[97]⟩, .string ⟨#[50]⟩] 47)) (some ⟨w2.heap.size + 1, 0, none⟩) 1 [⟨⟨#[97]⟩, ⟨#[50]⟩⟩] := by
    have h := row_one (w2.alloc (.cells #[.string ⟨#[97]⟩, .string ⟨#[49]⟩] 47)) ⟨⟨#[97]⟩, ⟨#[50]⟩⟩
    rw [show (w2.alloc (.cells #[.string ⟨#[97]⟩, .string ⟨#[49]⟩] 47)).heap.size = w2.heap.size + 1 by simp] at h
    exact h
  refine (join_calls (some ⟨w2.heap.size, 0, none⟩) 1 [⟨⟨#[97]⟩, ⟨#[49]⟩⟩] (some ⟨w2.heap.size + 1, 0, none⟩) 1 [⟨⟨#[97]⟩, ⟨#[50]⟩⟩] (by decide) (by decide) _ (Kd.C_alloc (row_one w2 ⟨⟨#[97]⟩, ⟨#[49]⟩⟩) _) hrow2).mono ?_
  rintro e w3 ⟨hb3, hj⟩
  rw [join_differ] at hj
  have hj : e = .returned (.tuple #[.slice none 0 0, .bool false]) := hj
  subst hj
  have HB3 := Aside0.mk (below_step (below_alloc (below_alloc HB2.out _) _) hb3)
  have HC13 : Aside0 (Kd.C k47 w3 (some ad1) 2 [lA, lB] ∧ Kd.C k47 w3 (some ad2) 2 [lA, lB]) := ⟨Kd.C_below (Kd.C_alloc (Kd.C_alloc HC12.out _) _) hb3, Kd.C_below (Kd.C_alloc (Kd.C_alloc HC2.out _) _) hb3⟩
  clear hb3 hrow2
  go_wp2_with fail
  refine (klaxonlaw09_num.calls 0 0 w3 rfl).mono ?_
  rintro e w4 ⟨rfl, ⟨nd, rfl⟩⟩
  obtain ⟨w4, hw4⟩ : ∃ W, W = w3.drewN nd := ⟨_, rfl⟩
  rw [← hw4]
  have HB4 : Aside0 (Below w.heap.size w w4) := ⟨by rw [hw4]; exact pw_below_drewN HB3.out _⟩
  have HC4 : Aside0 (Kd.C k47 w4 (some ad1) 2 [lA, lB] ∧ Kd.C k47 w4 (some ad2) 2 [lA, lB]) := ⟨by rw [hw4]; exact ⟨Kd.C_drewN HC13.out.1 _, Kd.C_drewN HC13.out.2 _⟩⟩
  clear hw4
  go_wp2_with fail
  refine (key_calls (some ad1) c1 [lA, lB] (by decide) (by decide) w4 HC4.out.1).mono ?_
  rintro e w5 ⟨rfl, hb5⟩
  rw [key_two]
  have HB5 := Aside0.mk (below_step HB4.out hb5)
  have HC5 : Aside0 (Kd.C k47 w5 (some ad1) 2 [lA, lB] ∧ Kd.C k47 w5 (some ad2) 2 [lA, lB]) := ⟨Kd.C_below HC4.out.1 hb5, Kd.C_below HC4.out.2 hb5⟩
  clear hb5
  go_wp2_with fail
  refine (klaxonref09_Same.calls 10 (some ad2) c2 [lA, lB] (some ad1) c1 [lA, lB] true w5 HC5.out.2 HL2.out HC5.out.1 HL1.out (by decide +kernel)).mono ?_
  rintro e w6 ⟨rfl, ⟨nd, rfl⟩⟩
  obtain ⟨w6, hw6⟩ : ∃ W, W = w5.drewN nd := ⟨_, rfl⟩
  rw [← hw6]
  have HB6 : Aside0 (Below w.heap.size w w6) := ⟨by rw [hw6]; exact pw_below_drewN HB5.out _⟩
  have HC6 : Aside0 (Kd.C k47 w6 (some ad1) 2 [lA, lB]) := ⟨by rw [hw6]; exact Kd.C_drewN HC5.out.1 _⟩
  clear hw6
  go_wp2_with fail
  have hmt : matchL [lA, lB] [⟨⟨#[97]⟩, ⟨#[94, 61]⟩, ⟨#[120]⟩⟩] = true := by decide +kernel
  refine (match_calls (some ad1) c1 [lA, lB] (some ⟨w6.heap.size, 0, none⟩) 1 [⟨⟨#[97]⟩, ⟨#[94, 61]⟩, ⟨#[120]⟩⟩] _ (Kd.C_alloc HC6.out _) (mrow_one w6 ⟨⟨#[97]⟩, ⟨#[94, 61]⟩, ⟨#[120]⟩⟩)).mono ?_
  rintro e w7 ⟨rfl, hb7⟩
  rw [hmt]
  have HB7 := Aside0.mk (below_step (below_alloc HB6.out _) hb7)
  clear hb7
  go_wp2_with fail
  refine (labels_Check.calls 100 (some ⟨w7.heap.size, 0, none⟩) 1 [⟨⟨#[97]⟩, ⟨#[]⟩, ⟨#[]⟩⟩] 90 _ (mrow_one w7 ⟨⟨#[97]⟩, ⟨#[]⟩, ⟨#[]⟩⟩) (by decide) (by decide +kernel)).mono ?_
  rintro e w8 ⟨rfl, hb8⟩
  have HB8 := Aside0.mk (below_step (below_alloc HB7.out _) hb8)
  clear hb8
  go_wp2_with fail
  refine (klaxonlaw09_num.calls 90 90 w8 rfl).mono ?_
  rintro e w9 ⟨rfl, ⟨nd, rfl⟩⟩
  go_wp2_with fail
  go_ret
  exact ⟨rfl, pw_below_drewN HB8.out _⟩
end Go.Proofs.YtjhgckpcadngaaaGreatK
