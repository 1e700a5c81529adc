-- Written by a program of this session (wip/myprint.py), which drives the kit's print; read and checked by Lean alone.
import Derived.Test.YtmcnipjfigbkeaaPStatex0
import Derived.Test.YtmcnipjfigbkeaaPStatex3
import Derived.Test.YtmcnipjfigbkeaaPStatex4
import Derived.Test.YtmcnipjfigbkeaaPStatex5
namespace Go.Proofs.Ytmcnipjfigbkeaa.PState
open Go.RowKit Go.Proofs.YtmcnipjfigbkeaaW.PrintWords Go.Proofs.YtmcnipjfigbkeaaW.PrintLast Go.Proofs.YtmcnipjfigbkeaaW.PrintMore
attribute [local go_sem] max2_int min2_int max_two min_two max_three min_three max_four min_four   -- for this text's walks alone
set_option linter.unusedVariables false
set_option linter.unusedSimpArgs false

/-! ### klaxonlaw17_StateQuiet: function 6 -/
mutual
def klaxonlaw17_StateQuiet.j0 : Nat → Int → Int → List Int → Int → Bool → Option (Bool)
  | 0, _, _, _, _, _ => none
  | k + 1, x0, x1, x2, x3, x33 => if x33 = true then ((klaxonlaw17_live.f k).bind fun t257 => (some t257)) else ((state_New.f x1).bind fun bt259 => ((klaxonref08_Num.f 1).bind fun bt266 => ((state_Step.f bt259.1 bt259.2.1 bt259.2.2.1 bt259.2.2.2.1 bt259.2.2.2.2.1 bt259.2.2.2.2.2.1 bt259.2.2.2.2.2.2 0 x0 1 1 2 bt266.1 bt266.2 x1).bind fun bt268 => (if bt268.1 = 3 then (klaxonlaw17_StateQuiet.l0 k x0 x1 x2 x3 (-1) 0 0 x0 1 1 bt268.1 bt268.2.1 bt268.2.2.1 bt268.2.2.2.1 bt268.2.2.2.2.1 bt268.2.2.2.2.2.1 bt268.2.2.2.2.2.2) else (some false)))))
def klaxonlaw17_StateQuiet.l0 : Nat → Int → Int → List Int → Int → Int → Int → Int → Int → Int → Int → Int → Int → Int → Int → Int → Int → Int → Option (Bool)
  | 0, _, _, _, _, _, _, _, _, _, _, _, _, _, _, _, _, _ => none
  | k + 1, x0, x1, x2, x3, x11, x12, x259000, x259001, x259002, x259003, x276000, x276001, x276002, x276003, x276004, x276005, x276006 => if x12 < (x2.length : Int) then (if 0 ≤ x12 then (if (rd x2 x12) < 0 then (klaxonlaw17_StateQuiet.j2 k x0 x1 x2 x3 x11 x12 true x259000 x259001 x259002 x259003 x276000 x276001 x276002 x276003 x276004 x276005 x276006) else (klaxonlaw17_StateQuiet.j2 k x0 x1 x2 x3 x11 x12 (decide ((rd x2 x12) > 1000000)) x259000 x259001 x259002 x259003 x276000 x276001 x276002 x276003 x276004 x276005 x276006)) else (none)) else ((klaxonlaw17_live.f k).bind fun t276 => (some t276))
def klaxonlaw17_StateQuiet.j2 : Nat → Int → Int → List Int → Int → Int → Int → Bool → Int → Int → Int → Int → Int → Int → Int → Int → Int → Int → Int → Option (Bool)
  | 0, _, _, _, _, _, _, _, _, _, _, _, _, _, _, _, _, _, _ => none
  | k + 1, x0, x1, x2, x3, x11, x12, x63, x259000, x259001, x259002, x259003, x276000, x276001, x276002, x276003, x276004, x276005, x276006 => if x63 = true then ((klaxonlaw17_live.f k).bind fun t279 => (some t279)) else (if 0 ≤ x12 then (if x12 < (x2.length : Int) then (if x12 = x3 then ((klaxonref08_Num.f 1).bind fun bt281 => ((state_Step.f x276000 x276001 x276002 x276003 x276004 x276005 x276006 x259000 x259001 x259002 x259003 2 bt281.1 bt281.2 (wrap64 (x1 + (rd x2 x12)))).bind fun bt283 => (if bt283.1 = 3 then (klaxonlaw17_StateQuiet.j3 k x0 (wrap64 (x1 + (rd x2 x12))) x2 x3 (-1) x12 (bt283.2.2.2.1 != (-1)) x259000 x259001 x259002 x259003 bt283.1 bt283.2.1 bt283.2.2.1 bt283.2.2.2.1 bt283.2.2.2.2.1 bt283.2.2.2.2.2.1 bt283.2.2.2.2.2.2) else (klaxonlaw17_StateQuiet.j3 k x0 (wrap64 (x1 + (rd x2 x12))) x2 x3 (-1) x12 true x259000 x259001 x259002 x259003 bt283.1 bt283.2.1 bt283.2.2.1 bt283.2.2.2.1 bt283.2.2.2.2.1 bt283.2.2.2.2.2.1 bt283.2.2.2.2.2.2)))) else ((klaxonref08_Num.f 0).bind fun bt290 => ((state_Step.f x276000 x276001 x276002 x276003 x276004 x276005 x276006 x259000 x259001 x259002 x259003 1 bt290.1 bt290.2 (wrap64 (x1 + (rd x2 x12)))).bind fun bt292 => (if x276000 = 1 then (if bt292.1 = 1 then ((klaxonlaw17_live.f k).bind fun t299 => (some t299)) else (some false)) else (if x11 < 0 then (klaxonlaw17_StateQuiet.j4 k x0 (wrap64 (x1 + (rd x2 x12))) x2 x3 (wrap64 (x1 + (rd x2 x12))) x12 x259000 x259001 x259002 x259003 bt292.1 bt292.2.1 bt292.2.2.1 bt292.2.2.2.1 bt292.2.2.2.2.1 bt292.2.2.2.2.2.1 bt292.2.2.2.2.2.2) else (klaxonlaw17_StateQuiet.j4 k x0 (wrap64 (x1 + (rd x2 x12))) x2 x3 x11 x12 x259000 x259001 x259002 x259003 bt292.1 bt292.2.1 bt292.2.2.1 bt292.2.2.2.1 bt292.2.2.2.2.1 bt292.2.2.2.2.2.1 bt292.2.2.2.2.2.2)))))) else (none)) else (none))
def klaxonlaw17_StateQuiet.j3 : Nat → Int → Int → List Int → Int → Int → Int → Bool → Int → Int → Int → Int → Int → Int → Int → Int → Int → Int → Int → Option (Bool)
  | 0, _, _, _, _, _, _, _, _, _, _, _, _, _, _, _, _, _, _ => none
  | k + 1, x0, x1, x2, x3, x11, x12, x86, x259000, x259001, x259002, x259003, x276000, x276001, x276002, x276003, x276004, x276005, x276006 => if x86 = true then (some false) else (klaxonlaw17_StateQuiet.l0 k x0 x1 x2 x3 x11 (wrap64 (x12 + 1)) x259000 x259001 x259002 x259003 x276000 x276001 x276002 x276003 x276004 x276005 x276006)
def klaxonlaw17_StateQuiet.j4 : Nat → Int → Int → List Int → Int → Int → Int → Int → Int → Int → Int → Int → Int → Int → Int → Int → Int → Int → Option (Bool)
  | 0, _, _, _, _, _, _, _, _, _, _, _, _, _, _, _, _, _ => none
  | k + 1, x0, x1, x2, x3, x11, x12, x259000, x259001, x259002, x259003, x276000, x276001, x276002, x276003, x276004, x276005, x276006 => if x0 = 0 then (klaxonlaw17_StateQuiet.j5 k x0 x1 x2 x3 x11 x12 3 true x259000 x259001 x259002 x259003 x276000 x276001 x276002 x276003 x276004 x276005 x276006) else (klaxonlaw17_StateQuiet.j5 k x0 x1 x2 x3 x11 x12 3 (decide ((wrap64 (x1 - x11)) ≥ x0)) x259000 x259001 x259002 x259003 x276000 x276001 x276002 x276003 x276004 x276005 x276006)
def klaxonlaw17_StateQuiet.j5 : Nat → Int → Int → List Int → Int → Int → Int → Int → Bool → Int → Int → Int → Int → Int → Int → Int → Int → Int → Int → Int → Option (Bool)
  | 0, _, _, _, _, _, _, _, _, _, _, _, _, _, _, _, _, _, _, _ => none
  | k + 1, x0, x1, x2, x3, x11, x12, x14, x113, x259000, x259001, x259002, x259003, x276000, x276001, x276002, x276003, x276004, x276005, x276006 => if x113 = true then (klaxonlaw17_StateQuiet.j6 k x0 x1 x2 x3 x11 x12 1 x259000 x259001 x259002 x259003 x276000 x276001 x276002 x276003 x276004 x276005 x276006) else (klaxonlaw17_StateQuiet.j6 k x0 x1 x2 x3 x11 x12 x14 x259000 x259001 x259002 x259003 x276000 x276001 x276002 x276003 x276004 x276005 x276006)
def klaxonlaw17_StateQuiet.j6 : Nat → Int → Int → List Int → Int → Int → Int → Int → Int → Int → Int → Int → Int → Int → Int → Int → Int → Int → Int → Option (Bool)
  | 0, _, _, _, _, _, _, _, _, _, _, _, _, _, _, _, _, _, _ => none
  | k + 1, x0, x1, x2, x3, x11, x12, x14, x259000, x259001, x259002, x259003, x276000, x276001, x276002, x276003, x276004, x276005, x276006 => if x276000 = x14 then (klaxonlaw17_StateQuiet.l0 k x0 x1 x2 x3 x11 (wrap64 (x12 + 1)) x259000 x259001 x259002 x259003 x276000 x276001 x276002 x276003 x276004 x276005 x276006) else (some false)
end
def klaxonlaw17_StateQuiet.f (k : Nat) (a0 : Int) (a1 : Int) (l2 : List Int) (a3 : Int) : Option (Bool) := if a0 < 0 then (klaxonlaw17_StateQuiet.j0 k a0 a1 l2 a3 true) else (if a0 > 1000000 then (klaxonlaw17_StateQuiet.j0 k a0 a1 l2 a3 true) else (if a1 < 0 then (klaxonlaw17_StateQuiet.j0 k a0 a1 l2 a3 true) else (if a1 > 549755813888 then (klaxonlaw17_StateQuiet.j0 k a0 a1 l2 a3 true) else (klaxonlaw17_StateQuiet.j0 k a0 a1 l2 a3 (decide ((l2.length : Int) > 100))))))
theorem klaxonlaw17_StateQuiet.mono_l : ∀ k, (∀ y0 y1 y2 y3 y4, LeO (klaxonlaw17_StateQuiet.j0 k y0 y1 y2 y3 y4) (klaxonlaw17_StateQuiet.j0 (k + 1) y0 y1 y2 y3 y4)) ∧ (∀ y0 y1 y2 y3 y4 y5 y6 y7 y8 y9 y10 y11 y12 y13 y14 y15 y16, LeO (klaxonlaw17_StateQuiet.l0 k y0 y1 y2 y3 y4 y5 y6 y7 y8 y9 y10 y11 y12 y13 y14 y15 y16) (klaxonlaw17_StateQuiet.l0 (k + 1) y0 y1 y2 y3 y4 y5 y6 y7 y8 y9 y10 y11 y12 y13 y14 y15 y16)) ∧ (∀ y0 y1 y2 y3 y4 y5 y6 y7 y8 y9 y10 y11 y12 y13 y14 y15 y16 y17, LeO (klaxonlaw17_StateQuiet.j2 k y0 y1 y2 y3 y4 y5 y6 y7 y8 y9 y10 y11 y12 y13 y14 y15 y16 y17) (klaxonlaw17_StateQuiet.j2 (k + 1) y0 y1 y2 y3 y4 y5 y6 y7 y8 y9 y10 y11 y12 y13 y14 y15 y16 y17)) ∧ (∀ y0 y1 y2 y3 y4 y5 y6 y7 y8 y9 y10 y11 y12 y13 y14 y15 y16 y17, LeO (klaxonlaw17_StateQuiet.j3 k y0 y1 y2 y3 y4 y5 y6 y7 y8 y9 y10 y11 y12 y13 y14 y15 y16 y17) (klaxonlaw17_StateQuiet.j3 (k + 1) y0 y1 y2 y3 y4 y5 y6 y7 y8 y9 y10 y11 y12 y13 y14 y15 y16 y17)) ∧ (∀ y0 y1 y2 y3 y4 y5 y6 y7 y8 y9 y10 y11 y12 y13 y14 y15 y16, LeO (klaxonlaw17_StateQuiet.j4 k y0 y1 y2 y3 y4 y5 y6 y7 y8 y9 y10 y11 y12 y13 y14 y15 y16) (klaxonlaw17_StateQuiet.j4 (k + 1) y0 y1 y2 y3 y4 y5 y6 y7 y8 y9 y10 y11 y12 y13 y14 y15 y16)) ∧ (∀ y0 y1 y2 y3 y4 y5 y6 y7 y8 y9 y10 y11 y12 y13 y14 y15 y16 y17 y18, LeO (klaxonlaw17_StateQuiet.j5 k y0 y1 y2 y3 y4 y5 y6 y7 y8 y9 y10 y11 y12 y13 y14 y15 y16 y17 y18) (klaxonlaw17_StateQuiet.j5 (k + 1) y0 y1 y2 y3 y4 y5 y6 y7 y8 y9 y10 y11 y12 y13 y14 y15 y16 y17 y18)) ∧ (∀ y0 y1 y2 y3 y4 y5 y6 y7 y8 y9 y10 y11 y12 y13 y14 y15 y16 y17, LeO (klaxonlaw17_StateQuiet.j6 k y0 y1 y2 y3 y4 y5 y6 y7 y8 y9 y10 y11 y12 y13 y14 y15 y16 y17) (klaxonlaw17_StateQuiet.j6 (k + 1) y0 y1 y2 y3 y4 y5 y6 y7 y8 y9 y10 y11 y12 y13 y14 y15 y16 y17))
  | 0 => ⟨fun _ _ _ _ _ r h => by simp [klaxonlaw17_StateQuiet.j0] at h, fun _ _ _ _ _ _ _ _ _ _ _ _ _ _ _ _ _ r h => by simp [klaxonlaw17_StateQuiet.l0] at h, fun _ _ _ _ _ _ _ _ _ _ _ _ _ _ _ _ _ _ r h => by simp [klaxonlaw17_StateQuiet.j2] at h, fun _ _ _ _ _ _ _ _ _ _ _ _ _ _ _ _ _ _ r h => by simp [klaxonlaw17_StateQuiet.j3] at h, fun _ _ _ _ _ _ _ _ _ _ _ _ _ _ _ _ _ r h => by simp [klaxonlaw17_StateQuiet.j4] at h, fun _ _ _ _ _ _ _ _ _ _ _ _ _ _ _ _ _ _ _ r h => by simp [klaxonlaw17_StateQuiet.j5] at h, fun _ _ _ _ _ _ _ _ _ _ _ _ _ _ _ _ _ _ r h => by simp [klaxonlaw17_StateQuiet.j6] at h⟩
  | k + 1 => by
    obtain ⟨ih0, ih1, ih2, ih3, ih4, ih5, ih6⟩ := klaxonlaw17_StateQuiet.mono_l k
    refine ⟨?_, ?_, ?_, ?_, ?_, ?_, ?_⟩
    · intro y0 y1 y2 y3 y4
      unfold klaxonlaw17_StateQuiet.j0
      repeat' first
      | (with_reducible exact ih0 _ _ _ _ _)
      | (with_reducible exact ih1 _ _ _ _ _ _ _ _ _ _ _ _ _ _ _ _ _)
      | (with_reducible exact ih2 _ _ _ _ _ _ _ _ _ _ _ _ _ _ _ _ _ _)
      | (with_reducible exact ih3 _ _ _ _ _ _ _ _ _ _ _ _ _ _ _ _ _ _)
      | (with_reducible exact ih4 _ _ _ _ _ _ _ _ _ _ _ _ _ _ _ _ _)
      | (with_reducible exact ih5 _ _ _ _ _ _ _ _ _ _ _ _ _ _ _ _ _ _ _)
      | (with_reducible exact ih6 _ _ _ _ _ _ _ _ _ _ _ _ _ _ _ _ _ _)
      | (with_reducible exact klaxonlaw17_live.mono _)
      | (with_reducible exact LeO.refl _)
      | (with_reducible exact LeO.none _)
      | (with_reducible refine LeO.ite ?_ ?_)
      | (with_reducible refine LeO.bind ?_ (fun _ => ?_))
      | exact ih0 _ _ _ _ _
      | exact ih1 _ _ _ _ _ _ _ _ _ _ _ _ _ _ _ _ _
      | exact ih2 _ _ _ _ _ _ _ _ _ _ _ _ _ _ _ _ _ _
      | exact ih3 _ _ _ _ _ _ _ _ _ _ _ _ _ _ _ _ _ _
      | exact ih4 _ _ _ _ _ _ _ _ _ _ _ _ _ _ _ _ _
      | exact ih5 _ _ _ _ _ _ _ _ _ _ _ _ _ _ _ _ _ _ _
      | exact ih6 _ _ _ _ _ _ _ _ _ _ _ _ _ _ _ _ _ _
      | exact klaxonlaw17_live.mono _
      | exact LeO.none _
      | refine LeO.ite ?_ ?_
      | refine LeO.bind ?_ (fun _ => ?_)
    · intro y0 y1 y2 y3 y4 y5 y6 y7 y8 y9 y10 y11 y12 y13 y14 y15 y16
      unfold klaxonlaw17_StateQuiet.l0
      repeat' first
      | (with_reducible exact ih0 _ _ _ _ _)
      | (with_reducible exact ih1 _ _ _ _ _ _ _ _ _ _ _ _ _ _ _ _ _)
      | (with_reducible exact ih2 _ _ _ _ _ _ _ _ _ _ _ _ _ _ _ _ _ _)
      | (with_reducible exact ih3 _ _ _ _ _ _ _ _ _ _ _ _ _ _ _ _ _ _)
      | (with_reducible exact ih4 _ _ _ _ _ _ _ _ _ _ _ _ _ _ _ _ _)
      | (with_reducible exact ih5 _ _ _ _ _ _ _ _ _ _ _ _ _ _ _ _ _ _ _)
      | (with_reducible exact ih6 _ _ _ _ _ _ _ _ _ _ _ _ _ _ _ _ _ _)
      | (with_reducible exact klaxonlaw17_live.mono _)
      | (with_reducible exact LeO.refl _)
      | (with_reducible exact LeO.none _)
      | (with_reducible refine LeO.ite ?_ ?_)
      | (with_reducible refine LeO.bind ?_ (fun _ => ?_))
      | exact ih0 _ _ _ _ _
      | exact ih1 _ _ _ _ _ _ _ _ _ _ _ _ _ _ _ _ _
      | exact ih2 _ _ _ _ _ _ _ _ _ _ _ _ _ _ _ _ _ _
      | exact ih3 _ _ _ _ _ _ _ _ _ _ _ _ _ _ _ _ _ _
      | exact ih4 _ _ _ _ _ _ _ _ _ _ _ _ _ _ _ _ _
      | exact ih5 _ _ _ _ _ _ _ _ _ _ _ _ _ _ _ _ _ _ _
      | exact ih6 _ _ _ _ _ _ _ _ _ _ _ _ _ _ _ _ _ _
      | exact klaxonlaw17_live.mono _
      | exact LeO.none _
      | refine LeO.ite ?_ ?_
      | refine LeO.bind ?_ (fun _ => ?_)
    · intro y0 y1 y2 y3 y4 y5 y6 y7 y8 y9 y10 y11 y12 y13 y14 y15 y16 y17
      unfold klaxonlaw17_StateQuiet.j2
      repeat' first
      | (with_reducible exact ih0 _ _ _ _ _)
      | (with_reducible exact ih1 _ _ _ _ _ _ _ _ _ _ _ _ _ _ _ _ _)
      | (with_reducible exact ih2 _ _ _ _ _ _ _ _ _ _ _ _ _ _ _ _ _ _)
      | (with_reducible exact ih3 _ _ _ _ _ _ _ _ _ _ _ _ _ _ _ _ _ _)
      | (with_reducible exact ih4 _ _ _ _ _ _ _ _ _ _ _ _ _ _ _ _ _)
      | (with_reducible exact ih5 _ _ _ _ _ _ _ _ _ _ _ _ _ _ _ _ _ _ _)
      | (with_reducible exact ih6 _ _ _ _ _ _ _ _ _ _ _ _ _ _ _ _ _ _)
      | (with_reducible exact klaxonlaw17_live.mono _)
      | (with_reducible exact LeO.refl _)
      | (with_reducible exact LeO.none _)
      | (with_reducible refine LeO.ite ?_ ?_)
      | (with_reducible refine LeO.bind ?_ (fun _ => ?_))
      | exact ih0 _ _ _ _ _
      | exact ih1 _ _ _ _ _ _ _ _ _ _ _ _ _ _ _ _ _
      | exact ih2 _ _ _ _ _ _ _ _ _ _ _ _ _ _ _ _ _ _
      | exact ih3 _ _ _ _ _ _ _ _ _ _ _ _ _ _ _ _ _ _
      | exact ih4 _ _ _ _ _ _ _ _ _ _ _ _ _ _ _ _ _
      | exact ih5 _ _ _ _ _ _ _ _ _ _ _ _ _ _ _ _ _ _ _
      | exact ih6 _ _ _ _ _ _ _ _ _ _ _ _ _ _ _ _ _ _
      | exact klaxonlaw17_live.mono _
      | exact LeO.none _
      | refine LeO.ite ?_ ?_
      | refine LeO.bind ?_ (fun _ => ?_)
    · intro y0 y1 y2 y3 y4 y5 y6 y7 y8 y9 y10 y11 y12 y13 y14 y15 y16 y17
      unfold klaxonlaw17_StateQuiet.j3
      repeat' first
      | (with_reducible exact ih0 _ _ _ _ _)
      | (with_reducible exact ih1 _ _ _ _ _ _ _ _ _ _ _ _ _ _ _ _ _)
      | (with_reducible exact ih2 _ _ _ _ _ _ _ _ _ _ _ _ _ _ _ _ _ _)
      | (with_reducible exact ih3 _ _ _ _ _ _ _ _ _ _ _ _ _ _ _ _ _ _)
      | (with_reducible exact ih4 _ _ _ _ _ _ _ _ _ _ _ _ _ _ _ _ _)
      | (with_reducible exact ih5 _ _ _ _ _ _ _ _ _ _ _ _ _ _ _ _ _ _ _)
      | (with_reducible exact ih6 _ _ _ _ _ _ _ _ _ _ _ _ _ _ _ _ _ _)
      | (with_reducible exact klaxonlaw17_live.mono _)
      | (with_reducible exact LeO.refl _)
      | (with_reducible exact LeO.none _)
      | (with_reducible refine LeO.ite ?_ ?_)
      | (with_reducible refine LeO.bind ?_ (fun _ => ?_))
      | exact ih0 _ _ _ _ _
      | exact ih1 _ _ _ _ _ _ _ _ _ _ _ _ _ _ _ _ _
      | exact ih2 _ _ _ _ _ _ _ _ _ _ _ _ _ _ _ _ _ _
      | exact ih3 _ _ _ _ _ _ _ _ _ _ _ _ _ _ _ _ _ _
      | exact ih4 _ _ _ _ _ _ _ _ _ _ _ _ _ _ _ _ _
      | exact ih5 _ _ _ _ _ _ _ _ _ _ _ _ _ _ _ _ _ _ _
      | exact ih6 _ _ _ _ _ _ _ _ _ _ _ _ _ _ _ _ _ _
      | exact klaxonlaw17_live.mono _
      | exact LeO.none _
      | refine LeO.ite ?_ ?_
      | refine LeO.bind ?_ (fun _ => ?_)
    · intro y0 y1 y2 y3 y4 y5 y6 y7 y8 y9 y10 y11 y12 y13 y14 y15 y16
      unfold klaxonlaw17_StateQuiet.j4
      repeat' first
      | (with_reducible exact ih0 _ _ _ _ _)
      | (with_reducible exact ih1 _ _ _ _ _ _ _ _ _ _ _ _ _ _ _ _ _)
      | (with_reducible exact ih2 _ _ _ _ _ _ _ _ _ _ _ _ _ _ _ _ _ _)
      | (with_reducible exact ih3 _ _ _ _ _ _ _ _ _ _ _ _ _ _ _ _ _ _)
      | (with_reducible exact ih4 _ _ _ _ _ _ _ _ _ _ _ _ _ _ _ _ _)
      | (with_reducible exact ih5 _ _ _ _ _ _ _ _ _ _ _ _ _ _ _ _ _ _ _)
      | (with_reducible exact ih6 _ _ _ _ _ _ _ _ _ _ _ _ _ _ _ _ _ _)
      | (with_reducible exact klaxonlaw17_live.mono _)
      | (with_reducible exact LeO.refl _)
      | (with_reducible exact LeO.none _)
      | (with_reducible refine LeO.ite ?_ ?_)
      | (with_reducible refine LeO.bind ?_ (fun _ => ?_))
      | exact ih0 _ _ _ _ _
      | exact ih1 _ _ _ _ _ _ _ _ _ _ _ _ _ _ _ _ _
      | exact ih2 _ _ _ _ _ _ _ _ _ _ _ _ _ _ _ _ _ _
      | exact ih3 _ _ _ _ _ _ _ _ _ _ _ _ _ _ _ _ _ _
      | exact ih4 _ _ _ _ _ _ _ _ _ _ _ _ _ _ _ _ _
      | exact ih5 _ _ _ _ _ _ _ _ _ _ _ _ _ _ _ _ _ _ _
      | exact ih6 _ _ _ _ _ _ _ _ _ _ _ _ _ _ _ _ _ _
      | exact klaxonlaw17_live.mono _
      | exact LeO.none _
      | refine LeO.ite ?_ ?_
      | refine LeO.bind ?_ (fun _ => ?_)
    · intro y0 y1 y2 y3 y4 y5 y6 y7 y8 y9 y10 y11 y12 y13 y14 y15 y16 y17 y18
      unfold klaxonlaw17_StateQuiet.j5
      repeat' first
      | (with_reducible exact ih0 _ _ _ _ _)
      | (with_reducible exact ih1 _ _ _ _ _ _ _ _ _ _ _ _ _ _ _ _ _)
      | (with_reducible exact ih2 _ _ _ _ _ _ _ _ _ _ _ _ _ _ _ _ _ _)
      | (with_reducible exact ih3 _ _ _ _ _ _ _ _ _ _ _ _ _ _ _ _ _ _)
      | (with_reducible exact ih4 _ _ _ _ _ _ _ _ _ _ _ _ _ _ _ _ _)
      | (with_reducible exact ih5 _ _ _ _ _ _ _ _ _ _ _ _ _ _ _ _ _ _ _)
      | (with_reducible exact ih6 _ _ _ _ _ _ _ _ _ _ _ _ _ _ _ _ _ _)
      | (with_reducible exact klaxonlaw17_live.mono _)
      | (with_reducible exact LeO.refl _)
      | (with_reducible exact LeO.none _)
      | (with_reducible refine LeO.ite ?_ ?_)
      | (with_reducible refine LeO.bind ?_ (fun _ => ?_))
      | exact ih0 _ _ _ _ _
      | exact ih1 _ _ _ _ _ _ _ _ _ _ _ _ _ _ _ _ _
      | exact ih2 _ _ _ _ _ _ _ _ _ _ _ _ _ _ _ _ _ _
      | exact ih3 _ _ _ _ _ _ _ _ _ _ _ _ _ _ _ _ _ _
      | exact ih4 _ _ _ _ _ _ _ _ _ _ _ _ _ _ _ _ _
      | exact ih5 _ _ _ _ _ _ _ _ _ _ _ _ _ _ _ _ _ _ _
      | exact ih6 _ _ _ _ _ _ _ _ _ _ _ _ _ _ _ _ _ _
      | exact klaxonlaw17_live.mono _
      | exact LeO.none _
      | refine LeO.ite ?_ ?_
      | refine LeO.bind ?_ (fun _ => ?_)
    · intro y0 y1 y2 y3 y4 y5 y6 y7 y8 y9 y10 y11 y12 y13 y14 y15 y16 y17
      unfold klaxonlaw17_StateQuiet.j6
      repeat' first
      | (with_reducible exact ih0 _ _ _ _ _)
      | (with_reducible exact ih1 _ _ _ _ _ _ _ _ _ _ _ _ _ _ _ _ _)
      | (with_reducible exact ih2 _ _ _ _ _ _ _ _ _ _ _ _ _ _ _ _ _ _)
      | (with_reducible exact ih3 _ _ _ _ _ _ _ _ _ _ _ _ _ _ _ _ _ _)
      | (with_reducible exact ih4 _ _ _ _ _ _ _ _ _ _ _ _ _ _ _ _ _)
      | (with_reducible exact ih5 _ _ _ _ _ _ _ _ _ _ _ _ _ _ _ _ _ _ _)
      | (with_reducible exact ih6 _ _ _ _ _ _ _ _ _ _ _ _ _ _ _ _ _ _)
      | (with_reducible exact klaxonlaw17_live.mono _)
      | (with_reducible exact LeO.refl _)
      | (with_reducible exact LeO.none _)
      | (with_reducible refine LeO.ite ?_ ?_)
      | (with_reducible refine LeO.bind ?_ (fun _ => ?_))
      | exact ih0 _ _ _ _ _
      | exact ih1 _ _ _ _ _ _ _ _ _ _ _ _ _ _ _ _ _
      | exact ih2 _ _ _ _ _ _ _ _ _ _ _ _ _ _ _ _ _ _
      | exact ih3 _ _ _ _ _ _ _ _ _ _ _ _ _ _ _ _ _ _
      | exact ih4 _ _ _ _ _ _ _ _ _ _ _ _ _ _ _ _ _
      | exact ih5 _ _ _ _ _ _ _ _ _ _ _ _ _ _ _ _ _ _ _
      | exact ih6 _ _ _ _ _ _ _ _ _ _ _ _ _ _ _ _ _ _
      | exact klaxonlaw17_live.mono _
      | exact LeO.none _
      | refine LeO.ite ?_ ?_
      | refine LeO.bind ?_ (fun _ => ?_)
theorem klaxonlaw17_StateQuiet.mono : ∀ a0 a1 a2 a3 k, LeO (klaxonlaw17_StateQuiet.f k a0 a1 a2 a3) (klaxonlaw17_StateQuiet.f (k + 1) a0 a1 a2 a3) := by
  intro a0 a1 a2 a3 k
  obtain ⟨ih0, ih1, ih2, ih3, ih4, ih5, ih6⟩ := klaxonlaw17_StateQuiet.mono_l k
  unfold klaxonlaw17_StateQuiet.f
  repeat' first
      | (with_reducible exact ih0 _ _ _ _ _)
      | (with_reducible exact ih1 _ _ _ _ _ _ _ _ _ _ _ _ _ _ _ _ _)
      | (with_reducible exact ih2 _ _ _ _ _ _ _ _ _ _ _ _ _ _ _ _ _ _)
      | (with_reducible exact ih3 _ _ _ _ _ _ _ _ _ _ _ _ _ _ _ _ _ _)
      | (with_reducible exact ih4 _ _ _ _ _ _ _ _ _ _ _ _ _ _ _ _ _)
      | (with_reducible exact ih5 _ _ _ _ _ _ _ _ _ _ _ _ _ _ _ _ _ _ _)
      | (with_reducible exact ih6 _ _ _ _ _ _ _ _ _ _ _ _ _ _ _ _ _ _)
      | (with_reducible exact klaxonlaw17_live.mono _)
      | (with_reducible exact LeO.refl _)
      | (with_reducible exact LeO.none _)
      | (with_reducible refine LeO.ite ?_ ?_)
      | (with_reducible refine LeO.bind ?_ (fun _ => ?_))
      | exact ih0 _ _ _ _ _
      | exact ih1 _ _ _ _ _ _ _ _ _ _ _ _ _ _ _ _ _
      | exact ih2 _ _ _ _ _ _ _ _ _ _ _ _ _ _ _ _ _ _
      | exact ih3 _ _ _ _ _ _ _ _ _ _ _ _ _ _ _ _ _ _
      | exact ih4 _ _ _ _ _ _ _ _ _ _ _ _ _ _ _ _ _
      | exact ih5 _ _ _ _ _ _ _ _ _ _ _ _ _ _ _ _ _ _ _
      | exact ih6 _ _ _ _ _ _ _ _ _ _ _ _ _ _ _ _ _ _
      | exact klaxonlaw17_live.mono _
      | exact LeO.none _
      | refine LeO.ite ?_ ?_
      | refine LeO.bind ?_ (fun _ => ?_)
def klaxonlaw17_StateQuiet.T4 : Bool × List (List Nat × List Nat) := (true, [([], []), ([0], [0]), ([], []), ([1], []), ([], []), ([1, 2, 3, 4, 3], [1, 2, 3, 4]), ([], []), ([6, 5, 5, 0, 1, 2, 3, 4, 5, 6], [5, 6])])
def klaxonlaw17_StateQuiet.B4 : List Nat := [0, 1, 0, 3, 0, 31, 0, 127]
theorem klaxonlaw17_StateQuiet.tab4 : rtab .any (opsOf Try.f6 4) = klaxonlaw17_StateQuiet.T4 := by kernel_rfl
theorem klaxonlaw17_StateQuiet.bits4 : waitsOk klaxonlaw17_StateQuiet.T4.2 klaxonlaw17_StateQuiet.B4 = true := by kernel_rfl
set_option maxHeartbeats 8000000 in
set_option maxRecDepth 100000 in
theorem klaxonlaw17_StateQuiet.calls (k : Nat) (a0 : Int) (a1 : Int) (A2 : Option Addr) (c2 : Nat) (l2 : List Int) (a3 : Int) (w : World) (hr2 : Kd.C (Kd.int .i64) w A2 l2.length l2) (hc2 : l2.length ≤ c2) (h : klaxonlaw17_StateQuiet.f k a0 a1 l2 a3 = some true) :
    Calls Try.prog 6 #[.int .i64 a0, .int .i64 a1, .slice A2 l2.length c2, .int .i64 a3] w fun e w' => e = .returned (.bool true) ∧ Below w.heap.size w w' := by
  have hu27 := Try.underlying27
  have hu25 := Try.underlying25
  have HR2 := Aside0.mk hr2
  have HC2 := Aside0.mk hc2
  clear hr2 hc2
  have HB := Aside0.mk (Below.refl w.heap.size w)
  have H : (if a0 < 0 then (klaxonlaw17_StateQuiet.j0 k a0 a1 l2 a3 true) else (if a0 > 1000000 then (klaxonlaw17_StateQuiet.j0 k a0 a1 l2 a3 true) else (if a1 < 0 then (klaxonlaw17_StateQuiet.j0 k a0 a1 l2 a3 true) else (if a1 > 549755813888 then (klaxonlaw17_StateQuiet.j0 k a0 a1 l2 a3 true) else (klaxonlaw17_StateQuiet.j0 k a0 a1 l2 a3 (decide ((l2.length : Int) > 100))))))) = some true := h
  clear h
  have HC5 := Aside0.mk H
  clear H
  go_enter Try.func6, Try.ntmps6
  go_upto_region 1 with (fail)
  go_cut [33] (fun v33 wc => ∃ (kq : Nat) (x33_4 : Bool), v33 = .bool x33_4 ∧ Aside0 (klaxonlaw17_StateQuiet.j0 kq a0 a1 l2 a3 x33_4 = some true) ∧ Aside0 (kq ≤ k) ∧ Aside0 (Below w.heap.size w wc))
  case first =>
    have H := HC5.out
    clear HC5
    by_cases c6 : a0 < 0
    · rw [if_pos c6] at H
      have c6b0 : decide (a0 < 0) = true := decide_eq_true c6
      clear c6
      (first | rw [c6b0] | (simp only [i64_w, i32_w]; rw [c6b0]) | skip)
      have H' := Aside0.mk H
      clear H
      go_wp2
      go_meet
      case rel => exact ⟨_, (true), (by first | rfl | (simp; done) | (simp [*]; done)), H', ⟨by first | omega | exact Nat.le_refl _⟩, ⟨by repeat (first | (with_reducible first | exact HB.out | apply below_alloc | apply pw_below_drewN | apply below_drew1) | exact HB.out)⟩⟩
    · rw [if_neg c6] at H
      have c6b0 : decide (a0 < 0) = false := decide_eq_false c6
      clear c6
      (first | rw [c6b0] | (simp only [i64_w, i32_w]; rw [c6b0]) | skip)
      by_cases c7 : a0 > 1000000
      · rw [if_pos c7] at H
        have c7b0 : decide (1000000 < a0) = true := decide_eq_true c7
        clear c7
        have H' := Aside0.mk H
        clear H
        go_wp2
        go_meet
        case rel => exact ⟨_, (true), (by first | rfl | (simp; done) | (simp [*]; done)), H', ⟨by first | omega | exact Nat.le_refl _⟩, ⟨by repeat (first | (with_reducible first | exact HB.out | apply below_alloc | apply pw_below_drewN | apply below_drew1) | exact HB.out)⟩⟩
      · rw [if_neg c7] at H
        have c7b0 : decide (1000000 < a0) = false := decide_eq_false c7
        clear c7
        by_cases c8 : a1 < 0
        · rw [if_pos c8] at H
          have c8b0 : decide (a1 < 0) = true := decide_eq_true c8
          clear c8
          have H' := Aside0.mk H
          clear H
          go_wp2
          go_meet
          case rel => exact ⟨_, (true), (by first | rfl | (simp; done) | (simp [*]; done)), H', ⟨by first | omega | exact Nat.le_refl _⟩, ⟨by repeat (first | (with_reducible first | exact HB.out | apply below_alloc | apply pw_below_drewN | apply below_drew1) | exact HB.out)⟩⟩
        · rw [if_neg c8] at H
          have c8b0 : decide (a1 < 0) = false := decide_eq_false c8
          clear c8
          by_cases c9 : a1 > 549755813888
          · rw [if_pos c9] at H
            have c9b0 : decide (549755813888 < a1) = true := decide_eq_true c9
            clear c9
            have H' := Aside0.mk H
            clear H
            go_wp2
            go_meet
            case rel => exact ⟨_, (true), (by first | rfl | (simp; done) | (simp [*]; done)), H', ⟨by first | omega | exact Nat.le_refl _⟩, ⟨by repeat (first | (with_reducible first | exact HB.out | apply below_alloc | apply pw_below_drewN | apply below_drew1) | exact HB.out)⟩⟩
          · rw [if_neg c9] at H
            have c9b0 : decide (549755813888 < a1) = false := decide_eq_false c9
            clear c9
            have H' := Aside0.mk H
            clear H
            go_wp2
            go_meet
            case rel => exact ⟨_, (decide ((l2.length : Int) > 100)), (by first | rfl | (simp; done) | (simp [*]; done)), H', ⟨by first | omega | exact Nat.le_refl _⟩, ⟨by repeat (first | (with_reducible first | exact HB.out | apply below_alloc | apply pw_below_drewN | apply below_drew1) | exact HB.out)⟩⟩
  case rest =>
    clear HC5
    try clear c2
    try clear p2
    try clear c6
    try clear c6b0
    try clear c7
    try clear c7b0
    try clear c8
    try clear c8b0
    try clear c9
    try clear c9b0
    obtain ⟨kq, x33_4, rfl, HA, HJ4, HB⟩ := hcut
    cases kq with
    | zero => exact absurd HA.out (by simp [klaxonlaw17_StateQuiet.j0])
    | succ kj4 =>
      have H := HA.out
      clear HA
      simp only [klaxonlaw17_StateQuiet.j0] at H
      by_cases c10 : x33_4 = true
      · subst c10
        have H1 : ((klaxonlaw17_live.f kj4).bind fun t257 => (some t257)) = some true := by rw [if_pos rfl] at H; exact H
        clear H
        have H := H1
        clear H1
        replace H := Option.bind_eq_some_iff.mp H
        obtain ⟨t257, A110, H⟩ := H
        replace H : (some t257) = some true := H
        have A11 := Aside0.mk A110
        clear A110
        have H9_ := Option.some.inj H
        clear H
        go_wp2_with (first | ((with_reducible refine gate_callee (f := 15) rfl ?_); refine goesL_ (some 34) rfl rfl Try.func15 (by kernel_rfl) rfl #[] rfl (by (try simp only [List.map_toArray, List.map_cons, List.map_nil]); first | done | rfl | (simp only [List.length_drop, List.length_take]; rfl)) ?_; (with_reducible refine (klaxonlaw17_live.calls kj4  t257 _ A11.out).mono ?_); rintro e w12 ⟨rfl, hb⟩; refine ⟨_, rfl, ?_⟩; have n0_ := Aside0.mk (below_step (by repeat (first | (with_reducible first | exact HB.out | apply below_alloc | apply pw_below_drewN | apply below_drew1) | exact HB.out)) hb); clear HB; have HB := n0_; clear n0_; (try clear hb); (try clear hb2); (try clear hk); (try clear hi)))
        go_ret
        exact ⟨by first | rfl | (simp [errW_none, errW_some] <;> rfl) | (simp [*, errW_none, errW_some] <;> rfl), by repeat (first | (with_reducible first | exact HB.out | apply below_alloc | apply pw_below_drewN | apply below_drew1) | exact HB.out)⟩
      · replace c10 := Bool.eq_false_iff.mpr c10
        subst c10
        have H1 : ((state_New.f a1).bind fun bt259 => ((klaxonref08_Num.f 1).bind fun bt266 => ((state_Step.f bt259.1 bt259.2.1 bt259.2.2.1 bt259.2.2.2.1 bt259.2.2.2.2.1 bt259.2.2.2.2.2.1 bt259.2.2.2.2.2.2 0 a0 1 1 2 bt266.1 bt266.2 a1).bind fun bt268 => (if bt268.1 = 3 then (klaxonlaw17_StateQuiet.l0 kj4 a0 a1 l2 a3 (-1) 0 0 a0 1 1 bt268.1 bt268.2.1 bt268.2.2.1 bt268.2.2.2.1 bt268.2.2.2.2.1 bt268.2.2.2.2.2.1 bt268.2.2.2.2.2.2) else (some false))))) = some true := by rw [if_neg (show ¬ (false = true) by decide)] at H; exact H
        clear H
        have H := H1
        clear H1
        replace H := Option.bind_eq_some_iff.mp H
        obtain ⟨⟨t259, t260, t261, t262, t263, t264, t265⟩, A130, H⟩ := H
        replace H : ((klaxonref08_Num.f 1).bind fun bt266 => ((state_Step.f t259 t260 t261 t262 t263 t264 t265 0 a0 1 1 2 bt266.1 bt266.2 a1).bind fun bt268 => (if bt268.1 = 3 then (klaxonlaw17_StateQuiet.l0 kj4 a0 a1 l2 a3 (-1) 0 0 a0 1 1 bt268.1 bt268.2.1 bt268.2.2.1 bt268.2.2.2.1 bt268.2.2.2.2.1 bt268.2.2.2.2.2.1 bt268.2.2.2.2.2.2) else (some false)))) = some true := H
        have A13 := Aside0.mk A130
        clear A130
        replace H := Option.bind_eq_some_iff.mp H
        obtain ⟨⟨t266, t267⟩, A140, H⟩ := H
        replace H : ((state_Step.f t259 t260 t261 t262 t263 t264 t265 0 a0 1 1 2 t266 t267 a1).bind fun bt268 => (if bt268.1 = 3 then (klaxonlaw17_StateQuiet.l0 kj4 a0 a1 l2 a3 (-1) 0 0 a0 1 1 bt268.1 bt268.2.1 bt268.2.2.1 bt268.2.2.2.1 bt268.2.2.2.2.1 bt268.2.2.2.2.2.1 bt268.2.2.2.2.2.2) else (some false))) = some true := H
        have A14 := Aside0.mk A140
        clear A140
        replace H := Option.bind_eq_some_iff.mp H
        obtain ⟨⟨t268, t269, t270, t271, t272, t273, t274⟩, A150, H⟩ := H
        replace H : (if t268 = 3 then (klaxonlaw17_StateQuiet.l0 kj4 a0 a1 l2 a3 (-1) 0 0 a0 1 1 t268 t269 t270 t271 t272 t273 t274) else (some false)) = some true := H
        have A15 := Aside0.mk A150
        clear A150
        by_cases c16 : t268 = 3
        · rw [if_pos c16] at H
          have c16b0 : (t268 == 3) = true := beq_iff_eq.mpr c16
          have c16b1 : (t268 != 3) = false := bne_eq_false_iff_eq.mpr c16
          clear c16
          have H' := Aside0.mk H
          clear H
          try go_wp2_with (first | ((with_reducible refine gate_dst (N := 9) rfl ?_); (try (refine gate_guard (by rfl) ?_; dsimp only)); refine box_event ?hg (N := 9) ?hd (cs := #[.int .i64 0, .int .i64 0, .int .i64 0, .int .i64 0]) (t := 27) ?hr ?_; (case hd => rfl); (case hg => rfl); (case hr => first | (go_simp; done) | (go_simp; rfl)); intro gb258 hg w17 hbox hb; have n0_ := Aside0.mk (below_step (by repeat (first | (with_reducible first | exact HB.out | apply below_alloc | apply pw_below_drewN | apply below_drew1) | exact HB.out)) hb); have n1_ := Aside0.mk (hbox); have n2_ := Aside0.mk ((by rw [hg]; exact (below_size (by repeat (first | (with_reducible first | exact HB.out | apply below_alloc | apply pw_below_drewN | apply below_drew1) | exact HB.out))) : w.heap.size ≤ gb258)); have n3_ := Aside0.mk ((by rw [hg]; exact (below_size (by repeat (first | (with_reducible first | exact HB.out | apply below_alloc | apply pw_below_drewN | apply below_drew1) | exact HB.out))) : w.heap.size ≤ gb258)); clear HB; have HB := n0_; have BK258 := n1_; have GW258 := n2_; have GE258 := n3_; clear n0_ n1_ n2_ n3_; clear hb hbox hg; have hcz18_0 : w17.cell? ⟨gb258, 0, none⟩ = some (.int .i64 0) := (blk_cell BK258.out 0).trans rfl; have hcz18_1 : w17.cell? ⟨gb258, 1, none⟩ = some (.int .i64 0) := (blk_cell BK258.out 1).trans rfl; have hcz18_2 : w17.cell? ⟨gb258, 2, none⟩ = some (.int .i64 0) := (blk_cell BK258.out 2).trans rfl; have hcz18_3 : w17.cell? ⟨gb258, 3, none⟩ = some (.int .i64 0) := (blk_cell BK258.out 3).trans rfl; have hfz18_0 := blk_frozen BK258.out 0; have hfz18_1 := blk_frozen BK258.out 1; have hfz18_2 := blk_frozen BK258.out 2; have hfz18_3 := blk_frozen BK258.out 3))
          have n0_ : Aside0 (((((w17.setCell ⟨gb258, 0, none⟩ (.int .i64 0)).setCell ⟨gb258, 1, none⟩ (.int .i64 a0)).setCell ⟨gb258, 2, none⟩ (.int .i64 1)).setCell ⟨gb258, 3, none⟩ (.int .i64 1)).heap[gb258]? = some (.cells #[.int .i64 0, .int .i64 a0, .int .i64 1, .int .i64 1] 27 (0, 0))) := ⟨by (with_reducible repeat (first | refine blk_drewN ?_ _ | refine blk_drew ?_ | refine blk_alloc ?_ _)); refine blk_put (cs := #[.int .i64 0, .int .i64 a0, .int .i64 1, .int .i64 0]) ?_ 3 _ rfl; (with_reducible repeat (first | refine blk_drewN ?_ _ | refine blk_drew ?_ | refine blk_alloc ?_ _)); refine blk_put (cs := #[.int .i64 0, .int .i64 a0, .int .i64 0, .int .i64 0]) ?_ 2 _ rfl; (with_reducible repeat (first | refine blk_drewN ?_ _ | refine blk_drew ?_ | refine blk_alloc ?_ _)); refine blk_put (cs := #[.int .i64 0, .int .i64 0, .int .i64 0, .int .i64 0]) ?_ 1 _ rfl; (with_reducible repeat (first | refine blk_drewN ?_ _ | refine blk_drew ?_ | refine blk_alloc ?_ _)); refine blk_put (cs := #[.int .i64 0, .int .i64 0, .int .i64 0, .int .i64 0]) ?_ 0 _ rfl; (with_reducible repeat (first | refine blk_drewN ?_ _ | refine blk_drew ?_ | refine blk_alloc ?_ _)); exact BK258.out⟩
          have n1_ : Aside0 (Below w.heap.size w ((((w17.setCell ⟨gb258, 0, none⟩ (.int .i64 0)).setCell ⟨gb258, 1, none⟩ (.int .i64 a0)).setCell ⟨gb258, 2, none⟩ (.int .i64 1)).setCell ⟨gb258, 3, none⟩ (.int .i64 1))) := ⟨by repeat (first | (with_reducible first | exact HB.out | apply below_alloc | apply pw_below_drewN | apply below_drew1 | refine below_set ?_ GE258.out) | exact HB.out)⟩
          (try clear BK258)
          (try clear HB)
          generalize ((((w17.setCell ⟨gb258, 0, none⟩ (.int .i64 0)).setCell ⟨gb258, 1, none⟩ (.int .i64 a0)).setCell ⟨gb258, 2, none⟩ (.int .i64 1)).setCell ⟨gb258, 3, none⟩ (.int .i64 1)) = w19 at n0_ n1_ ⊢
          have BK258 := n0_
          have HB := n1_
          clear n0_ n1_
          have n0_ := Aside0.mk (blk_drew BK258.out)
          have n1_ := Aside0.mk (below_drew1 HB.out)
          clear BK258
          clear HB
          have BK258 := n0_
          have HB := n1_
          clear n0_ n1_
          refine start_ (n := 8) (S := fun w' => w'.cell? ⟨gb258, 0, none⟩ = some (.int .i64 0) ∧ w'.cell? ⟨gb258, 1, none⟩ = some (.int .i64 a0) ∧ w'.cell? ⟨gb258, 2, none⟩ = some (.int .i64 1) ∧ w'.cell? ⟨gb258, 3, none⟩ = some (.int .i64 1)) (ds := []) #[false, false, false, false, false, false, false, false] (by kernel_rfl) rfl rfl ⟨(blk_cell BK258.out 0).trans rfl, (blk_cell BK258.out 1).trans rfl, (blk_cell BK258.out 2).trans rfl, (blk_cell BK258.out 3).trans rfl⟩ (fun hHeld => ?_); refine with_tabW klaxonlaw17_StateQuiet.tab4 klaxonlaw17_StateQuiet.bits4 (fun HT_ HW_ => ?_)
          generalize w19.drew = w20 at BK258 HB hHeld ⊢
          refine pure_ (i := 0) (N := some 37) (v := ?_) (a' := ?_) #[true, false, false, false, false, false, false, false] rfl rfl (any_of HT_.out (by kernel_rfl)) (fun _ _ _ h => h) (Or.inl ⟨by rfl, ?_⟩) ?_ ?_
          rotate_left
          · intro w'
            go_simp
            with_reducible rfl
          rotate_left
          · simp only [Act.put, List.setIfInBounds_toArray, List.set_cons_zero, List.set_cons_succ, i64_w, i32_w]
            rfl
          refine pure_ (i := 4) (N := some 41) (v := ?_) (a' := ?_) #[true, false, false, false, true, false, false, false] rfl rfl (any_of HT_.out (by kernel_rfl)) (fun _ _ _ h => h) (Or.inl ⟨by rfl, ?_⟩) ?_ ?_
          rotate_left
          · intro w'
            go_simp
            with_reducible rfl
          rotate_left
          · simp only [Act.put, List.setIfInBounds_toArray, List.set_cons_zero, List.set_cons_succ, i64_w, i32_w]
            rfl
          refine take_ (i := 2) (N := some 39) (v := ?_) (a' := ?_) #[true, false, true, false, true, false, false, false] rfl rfl (take_ofW HT_.out HW_.out (by kernel_rfl)) (fun _ _ _ h => h) (Or.inl ⟨by rfl, ?_⟩) hHeld ?_ ?_
          rotate_left
          · rintro w' ⟨s0, s1, s2, s3⟩
            go_simp
            with_reducible rfl
          rotate_left
          · simp only [Act.put, List.setIfInBounds_toArray, List.set_cons_zero, List.set_cons_succ, i64_w, i32_w]
            rfl
          refine join_ (σ := Nat) 1 #[true, true, true, true, true, true, true, false] (fun s_ => [(38, .agg #[.int .i64 t259, .int .i64 t260, .int .i64 t261, .int .i64 t262, .int .i64 t263, .int .i64 t264, .int .i64 t265]), (40, .agg #[.int .i64 t266, .int .i64 t267]), (42, .agg #[.int .i64 t268, .int .i64 t269, .int .i64 t270, .int .i64 t271, .int .i64 t272, .int .i64 t273, .int .i64 t274]), (10, .pointer (some ⟨s_, 0, none⟩))]) (fun s_ w' => (w'.cell? ⟨gb258, 0, none⟩ = some (.int .i64 0) ∧ w'.cell? ⟨gb258, 1, none⟩ = some (.int .i64 a0) ∧ w'.cell? ⟨gb258, 2, none⟩ = some (.int .i64 1) ∧ w'.cell? ⟨gb258, 3, none⟩ = some (.int .i64 1)) ∧ (w'.heap[gb258]? = some (.cells #[.int .i64 0, .int .i64 a0, .int .i64 1, .int .i64 1] 27 (0, 0))) ∧ (w'.heap[s_]? = some (.cells #[.int .i64 0, .int .i64 0, .int .i64 0, .int .i64 0, .int .i64 0, .int .i64 0, .int .i64 0] 25 (0, 0))) ∧ (w.heap.size ≤ s_) ∧ (w.heap.size ≤ s_) ∧ (gb258 ≠ s_) ∧ (s_ ≠ gb258) ∧ (Below w.heap.size w w')) ?_ ?_
          rotate_left
          · intro hCont
            refine two_ (i := 1) (j := 6) (Ni := some 38) (Nj := some 10) #[true, true, true, false, true, false, false, false] #[true, false, true, false, true, false, true, false] rfl rfl rfl rfl (two_of HT_.out (by kernel_rfl)) (by decide) (by decide) (fun K hK => ?_) (fun K hK => ?_)
            · skip
              refine goes_ Try.func19 (by kernel_rfl) rfl #[.int .i64 a1] (by rfl) rfl rfl (by (try simp only [List.map_toArray, List.map_cons, List.map_nil]); first | done | rfl | (simp only [List.length_drop, List.length_take]; rfl)) ?_
              with_reducible refine (state_New.calls a1 t259 t260 t261 t262 t263 t264 t265 _ A13.out).mono ?_
              rintro e w21 ⟨rfl, hb⟩
              refine ⟨_, rfl, ?_⟩
              have n0_ := Aside0.mk (blk_below (g := gb258) (o := .cells #[.int .i64 0, .int .i64 a0, .int .i64 1, .int .i64 1] 27 (0, 0)) (by (with_reducible repeat (first | refine blk_drewN ?_ _ | refine blk_drew ?_ | refine blk_alloc ?_ _)); exact BK258.out) hb)
              have n1_ := Aside0.mk (below_step (by repeat (first | (with_reducible first | exact HB.out | apply below_alloc | apply pw_below_drewN | apply below_drew1 | refine below_set ?_ GE258.out) | exact HB.out)) hb)
              clear BK258
              clear HB
              have BK258 := n0_
              have HB := n1_
              clear n0_ n1_
              (try clear hb)
              (try clear hb2)
              (try clear hk)
              (try clear hi)
              refine hK.out _ _ ⟨(blk_cell BK258.out 0).trans rfl, (blk_cell BK258.out 1).trans rfl, (blk_cell BK258.out 2).trans rfl, (blk_cell BK258.out 3).trans rfl⟩ (fun hHeld => ?_)
              clear hK K
              refine norm_ (a' := ?_) ?_ ?_
              rotate_left
              · show Act.put _ (some 38) _ = _
                simp only [Act.put, List.setIfInBounds_toArray, List.set_cons_zero, List.set_cons_succ, i64_w, i32_w]
                rfl
              refine two_ (i := 3) (j := 6) (Ni := some 40) (Nj := some 10) #[true, true, true, true, true, false, false, false] #[true, true, true, false, true, false, true, false] rfl rfl rfl rfl (two_of HT_.out (by kernel_rfl)) (by decide) (by decide) (fun K hK => ?_) (fun K hK => ?_)
              · skip
                refine goes_ Try.func26 (by kernel_rfl) rfl #[.int .i64 1] (by rfl) rfl rfl (by (try simp only [List.map_toArray, List.map_cons, List.map_nil]); first | done | rfl | (simp only [List.length_drop, List.length_take]; rfl)) ?_
                with_reducible refine (klaxonref08_Num.calls 1 t266 t267 _ A14.out).mono ?_
                rintro e w22 ⟨rfl, hb⟩
                refine ⟨_, rfl, ?_⟩
                have n0_ := Aside0.mk (blk_below (g := gb258) (o := .cells #[.int .i64 0, .int .i64 a0, .int .i64 1, .int .i64 1] 27 (0, 0)) (by (with_reducible repeat (first | refine blk_drewN ?_ _ | refine blk_drew ?_ | refine blk_alloc ?_ _)); exact BK258.out) hb)
                have n1_ := Aside0.mk (below_step (by repeat (first | (with_reducible first | exact HB.out | apply below_alloc | apply pw_below_drewN | apply below_drew1 | refine below_set ?_ GE258.out) | exact HB.out)) hb)
                clear BK258
                clear HB
                have BK258 := n0_
                have HB := n1_
                clear n0_ n1_
                (try clear hb)
                (try clear hb2)
                (try clear hk)
                (try clear hi)
                refine hK.out _ _ ⟨(blk_cell BK258.out 0).trans rfl, (blk_cell BK258.out 1).trans rfl, (blk_cell BK258.out 2).trans rfl, (blk_cell BK258.out 3).trans rfl⟩ (fun hHeld => ?_)
                clear hK K
                refine norm_ (a' := ?_) ?_ ?_
                rotate_left
                · show Act.put _ (some 40) _ = _
                  simp only [Act.put, List.setIfInBounds_toArray, List.set_cons_zero, List.set_cons_succ, i64_w, i32_w]
                  rfl
                refine two_ (i := 5) (j := 6) (Ni := some 42) (Nj := some 10) #[true, true, true, true, true, true, false, false] #[true, true, true, true, true, false, true, false] rfl rfl rfl rfl (two_of HT_.out (by kernel_rfl)) (by decide) (by decide) (fun K hK => ?_) (fun K hK => ?_)
                · skip
                  refine goes_ Try.func23 (by kernel_rfl) rfl #[.agg #[.int .i64 t259, .int .i64 t260, .int .i64 t261, .int .i64 t262, .int .i64 t263, .int .i64 t264, .int .i64 t265], .agg #[.int .i64 0, .int .i64 a0, .int .i64 1, .int .i64 1], .int .i64 2, .agg #[.int .i64 t266, .int .i64 t267], .int .i64 a1] (by rfl) rfl rfl (by (try simp only [List.map_toArray, List.map_cons, List.map_nil]); first | done | rfl | (simp only [List.length_drop, List.length_take]; rfl)) ?_
                  with_reducible refine (state_Step.calls t259 t260 t261 t262 t263 t264 t265 0 a0 1 1 2 t266 t267 a1 t268 t269 t270 t271 t272 t273 t274 _ A15.out).mono ?_
                  rintro e w23 ⟨rfl, hb⟩
                  refine ⟨_, rfl, ?_⟩
                  have n0_ := Aside0.mk (blk_below (g := gb258) (o := .cells #[.int .i64 0, .int .i64 a0, .int .i64 1, .int .i64 1] 27 (0, 0)) (by (with_reducible repeat (first | refine blk_drewN ?_ _ | refine blk_drew ?_ | refine blk_alloc ?_ _)); exact BK258.out) hb)
                  have n1_ := Aside0.mk (below_step (by repeat (first | (with_reducible first | exact HB.out | apply below_alloc | apply pw_below_drewN | apply below_drew1 | refine below_set ?_ GE258.out) | exact HB.out)) hb)
                  clear BK258
                  clear HB
                  have BK258 := n0_
                  have HB := n1_
                  clear n0_ n1_
                  (try clear hb)
                  (try clear hb2)
                  (try clear hk)
                  (try clear hi)
                  refine hK.out _ _ ⟨(blk_cell BK258.out 0).trans rfl, (blk_cell BK258.out 1).trans rfl, (blk_cell BK258.out 2).trans rfl, (blk_cell BK258.out 3).trans rfl⟩ (fun hHeld => ?_)
                  clear hK K
                  refine norm_ (a' := ?_) ?_ ?_
                  rotate_left
                  · show Act.put _ (some 42) _ = _
                    simp only [Act.put, List.setIfInBounds_toArray, List.set_cons_zero, List.set_cons_succ, i64_w, i32_w]
                    rfl
                  refine one_ (i := 6) (N := some 10) #[true, true, true, true, true, true, true, false] rfl rfl (one_of HT_.out (by kernel_rfl)) (by decide) (fun K hK => ?_)
                  refine box_step ?hg (N := 10) ?hd (cs := #[.int .i64 0, .int .i64 0, .int .i64 0, .int .i64 0, .int .i64 0, .int .i64 0, .int .i64 0]) (t := 25) ?hr ?_; (case hd => rfl); (case hg => rfl); (case hr => first | (go_simp; done) | (go_simp; rfl))
                  intro gb275 hg w24 hbox hb
                  have n0_ := Aside0.mk (blk_below (g := gb258) (o := .cells #[.int .i64 0, .int .i64 a0, .int .i64 1, .int .i64 1] 27 (0, 0)) (by (with_reducible repeat (first | refine blk_drewN ?_ _ | refine blk_drew ?_ | refine blk_alloc ?_ _)); exact BK258.out) hb)
                  have n1_ := Aside0.mk (below_step (by repeat (first | (with_reducible first | exact HB.out | apply below_alloc | apply pw_below_drewN | apply below_drew1 | refine below_set ?_ GE258.out) | exact HB.out)) hb)
                  have n2_ := Aside0.mk (hbox)
                  have n3_ := Aside0.mk ((by rw [hg]; exact (below_size (by repeat (first | (with_reducible first | exact HB.out | apply below_alloc | apply pw_below_drewN | apply below_drew1 | refine below_set ?_ GE258.out) | exact HB.out))) : w.heap.size ≤ gb275))
                  have n4_ := Aside0.mk ((by rw [hg]; exact (below_size (by repeat (first | (with_reducible first | exact HB.out | apply below_alloc | apply pw_below_drewN | apply below_drew1 | refine below_set ?_ GE258.out) | exact HB.out))) : w.heap.size ≤ gb275))
                  have n5_ := Aside0.mk ((by rw [hg]; exact Nat.ne_of_lt (blk_lt (g := gb258) (o := .cells #[.int .i64 0, .int .i64 a0, .int .i64 1, .int .i64 1] 27 (0, 0)) (by (with_reducible repeat (first | refine blk_drewN ?_ _ | refine blk_drew ?_ | refine blk_alloc ?_ _)); exact BK258.out)) : gb258 ≠ gb275))
                  have n6_ := Aside0.mk ((by rw [hg]; exact Nat.ne_of_gt (blk_lt (g := gb258) (o := .cells #[.int .i64 0, .int .i64 a0, .int .i64 1, .int .i64 1] 27 (0, 0)) (by (with_reducible repeat (first | refine blk_drewN ?_ _ | refine blk_drew ?_ | refine blk_alloc ?_ _)); exact BK258.out)) : gb275 ≠ gb258))
                  clear BK258
                  clear HB
                  have BK258 := n0_
                  have HB := n1_
                  have BK275 := n2_
                  have GW275 := n3_
                  have GE275 := n4_
                  have NB258_275 := n5_
                  have NB275_258 := n6_
                  clear n0_ n1_ n2_ n3_ n4_ n5_ n6_
                  clear hb hbox hg
                  refine hK.out _ _ ⟨(blk_cell BK258.out 0).trans rfl, (blk_cell BK258.out 1).trans rfl, (blk_cell BK258.out 2).trans rfl, (blk_cell BK258.out 3).trans rfl⟩ (fun hHeld => ?_)
                  clear hK K
                  refine norm_ (a' := ?_) ?_ ?_
                  rotate_left
                  · show Act.put _ (some 10) _ = _
                    simp only [Act.put, List.setIfInBounds_toArray, List.set_cons_zero, List.set_cons_succ, i64_w, i32_w]
                    rfl
                  exact norm_ (by simp only [putAll, Act.put, List.setIfInBounds_toArray, List.set_cons_zero, List.set_cons_succ]) (hCont (gb275) _ ⟨hHeld, (by (with_reducible repeat (first | refine blk_drewN ?_ _ | refine blk_drew ?_ | refine blk_alloc ?_ _)); exact BK258.out), (by (with_reducible repeat (first | refine blk_drewN ?_ _ | refine blk_drew ?_ | refine blk_alloc ?_ _)); exact BK275.out), GW275.out, GE275.out, NB258_275.out, NB275_258.out, (by repeat (first | (with_reducible first | exact HB.out | apply below_alloc | apply pw_below_drewN | apply below_drew1 | refine below_set ?_ GE258.out | refine below_set ?_ GE275.out) | exact HB.out))⟩)
                · skip
                  refine box_step ?hg (N := 10) ?hd (cs := #[.int .i64 0, .int .i64 0, .int .i64 0, .int .i64 0, .int .i64 0, .int .i64 0, .int .i64 0]) (t := 25) ?hr ?_; (case hd => rfl); (case hg => rfl); (case hr => first | (go_simp; done) | (go_simp; rfl))
                  intro gb275 hg w23 hbox hb
                  have n0_ := Aside0.mk (blk_below (g := gb258) (o := .cells #[.int .i64 0, .int .i64 a0, .int .i64 1, .int .i64 1] 27 (0, 0)) (by (with_reducible repeat (first | refine blk_drewN ?_ _ | refine blk_drew ?_ | refine blk_alloc ?_ _)); exact BK258.out) hb)
                  have n1_ := Aside0.mk (below_step (by repeat (first | (with_reducible first | exact HB.out | apply below_alloc | apply pw_below_drewN | apply below_drew1 | refine below_set ?_ GE258.out) | exact HB.out)) hb)
                  have n2_ := Aside0.mk (hbox)
                  have n3_ := Aside0.mk ((by rw [hg]; exact (below_size (by repeat (first | (with_reducible first | exact HB.out | apply below_alloc | apply pw_below_drewN | apply below_drew1 | refine below_set ?_ GE258.out) | exact HB.out))) : w.heap.size ≤ gb275))
                  have n4_ := Aside0.mk ((by rw [hg]; exact (below_size (by repeat (first | (with_reducible first | exact HB.out | apply below_alloc | apply pw_below_drewN | apply below_drew1 | refine below_set ?_ GE258.out) | exact HB.out))) : w.heap.size ≤ gb275))
                  have n5_ := Aside0.mk ((by rw [hg]; exact Nat.ne_of_lt (blk_lt (g := gb258) (o := .cells #[.int .i64 0, .int .i64 a0, .int .i64 1, .int .i64 1] 27 (0, 0)) (by (with_reducible repeat (first | refine blk_drewN ?_ _ | refine blk_drew ?_ | refine blk_alloc ?_ _)); exact BK258.out)) : gb258 ≠ gb275))
                  have n6_ := Aside0.mk ((by rw [hg]; exact Nat.ne_of_gt (blk_lt (g := gb258) (o := .cells #[.int .i64 0, .int .i64 a0, .int .i64 1, .int .i64 1] 27 (0, 0)) (by (with_reducible repeat (first | refine blk_drewN ?_ _ | refine blk_drew ?_ | refine blk_alloc ?_ _)); exact BK258.out)) : gb275 ≠ gb258))
                  clear BK258
                  clear HB
                  have BK258 := n0_
                  have HB := n1_
                  have BK275 := n2_
                  have GW275 := n3_
                  have GE275 := n4_
                  have NB258_275 := n5_
                  have NB275_258 := n6_
                  clear n0_ n1_ n2_ n3_ n4_ n5_ n6_
                  clear hb hbox hg
                  refine hK.out _ _ ⟨(blk_cell BK258.out 0).trans rfl, (blk_cell BK258.out 1).trans rfl, (blk_cell BK258.out 2).trans rfl, (blk_cell BK258.out 3).trans rfl⟩ (fun hHeld => ?_)
                  clear hK K
                  refine norm_ (a' := ?_) ?_ ?_
                  rotate_left
                  · show Act.put _ (some 10) _ = _
                    simp only [Act.put, List.setIfInBounds_toArray, List.set_cons_zero, List.set_cons_succ, i64_w, i32_w]
                    rfl
                  refine one_ (i := 5) (N := some 42) #[true, true, true, true, true, true, true, false] rfl rfl (one_of HT_.out (by kernel_rfl)) (by decide) (fun K hK => ?_)
                  refine goes_ Try.func23 (by kernel_rfl) rfl #[.agg #[.int .i64 t259, .int .i64 t260, .int .i64 t261, .int .i64 t262, .int .i64 t263, .int .i64 t264, .int .i64 t265], .agg #[.int .i64 0, .int .i64 a0, .int .i64 1, .int .i64 1], .int .i64 2, .agg #[.int .i64 t266, .int .i64 t267], .int .i64 a1] (by rfl) rfl rfl (by (try simp only [List.map_toArray, List.map_cons, List.map_nil]); first | done | rfl | (simp only [List.length_drop, List.length_take]; rfl)) ?_
                  with_reducible refine (state_Step.calls t259 t260 t261 t262 t263 t264 t265 0 a0 1 1 2 t266 t267 a1 t268 t269 t270 t271 t272 t273 t274 _ A15.out).mono ?_
                  rintro e w24 ⟨rfl, hb⟩
                  refine ⟨_, rfl, ?_⟩
                  have n0_ := Aside0.mk (blk_below (g := gb258) (o := .cells #[.int .i64 0, .int .i64 a0, .int .i64 1, .int .i64 1] 27 (0, 0)) (by (with_reducible repeat (first | refine blk_drewN ?_ _ | refine blk_drew ?_ | refine blk_alloc ?_ _)); exact BK258.out) hb)
                  have n1_ := Aside0.mk (blk_below (g := gb275) (o := .cells #[.int .i64 0, .int .i64 0, .int .i64 0, .int .i64 0, .int .i64 0, .int .i64 0, .int .i64 0] 25 (0, 0)) (by (with_reducible repeat (first | refine blk_drewN ?_ _ | refine blk_drew ?_ | refine blk_alloc ?_ _)); exact BK275.out) hb)
                  have n2_ := Aside0.mk (below_step (by repeat (first | (with_reducible first | exact HB.out | apply below_alloc | apply pw_below_drewN | apply below_drew1 | refine below_set ?_ GE258.out | refine below_set ?_ GE275.out) | exact HB.out)) hb)
                  clear BK258
                  clear BK275
                  clear HB
                  have BK258 := n0_
                  have BK275 := n1_
                  have HB := n2_
                  clear n0_ n1_ n2_
                  (try clear hb)
                  (try clear hb2)
                  (try clear hk)
                  (try clear hi)
                  refine hK.out _ _ ⟨(blk_cell BK258.out 0).trans rfl, (blk_cell BK258.out 1).trans rfl, (blk_cell BK258.out 2).trans rfl, (blk_cell BK258.out 3).trans rfl⟩ (fun hHeld => ?_)
                  clear hK K
                  refine norm_ (a' := ?_) ?_ ?_
                  rotate_left
                  · show Act.put _ (some 42) _ = _
                    simp only [Act.put, List.setIfInBounds_toArray, List.set_cons_zero, List.set_cons_succ, i64_w, i32_w]
                    rfl
                  exact norm_ (by simp only [putAll, Act.put, List.setIfInBounds_toArray, List.set_cons_zero, List.set_cons_succ]) (hCont (gb275) _ ⟨hHeld, (by (with_reducible repeat (first | refine blk_drewN ?_ _ | refine blk_drew ?_ | refine blk_alloc ?_ _)); exact BK258.out), (by (with_reducible repeat (first | refine blk_drewN ?_ _ | refine blk_drew ?_ | refine blk_alloc ?_ _)); exact BK275.out), GW275.out, GE275.out, NB258_275.out, NB275_258.out, (by repeat (first | (with_reducible first | exact HB.out | apply below_alloc | apply pw_below_drewN | apply below_drew1 | refine below_set ?_ GE258.out | refine below_set ?_ GE275.out) | exact HB.out))⟩)
              · skip
                refine box_step ?hg (N := 10) ?hd (cs := #[.int .i64 0, .int .i64 0, .int .i64 0, .int .i64 0, .int .i64 0, .int .i64 0, .int .i64 0]) (t := 25) ?hr ?_; (case hd => rfl); (case hg => rfl); (case hr => first | (go_simp; done) | (go_simp; rfl))
                intro gb275 hg w22 hbox hb
                have n0_ := Aside0.mk (blk_below (g := gb258) (o := .cells #[.int .i64 0, .int .i64 a0, .int .i64 1, .int .i64 1] 27 (0, 0)) (by (with_reducible repeat (first | refine blk_drewN ?_ _ | refine blk_drew ?_ | refine blk_alloc ?_ _)); exact BK258.out) hb)
                have n1_ := Aside0.mk (below_step (by repeat (first | (with_reducible first | exact HB.out | apply below_alloc | apply pw_below_drewN | apply below_drew1 | refine below_set ?_ GE258.out) | exact HB.out)) hb)
                have n2_ := Aside0.mk (hbox)
                have n3_ := Aside0.mk ((by rw [hg]; exact (below_size (by repeat (first | (with_reducible first | exact HB.out | apply below_alloc | apply pw_below_drewN | apply below_drew1 | refine below_set ?_ GE258.out) | exact HB.out))) : w.heap.size ≤ gb275))
                have n4_ := Aside0.mk ((by rw [hg]; exact (below_size (by repeat (first | (with_reducible first | exact HB.out | apply below_alloc | apply pw_below_drewN | apply below_drew1 | refine below_set ?_ GE258.out) | exact HB.out))) : w.heap.size ≤ gb275))
                have n5_ := Aside0.mk ((by rw [hg]; exact Nat.ne_of_lt (blk_lt (g := gb258) (o := .cells #[.int .i64 0, .int .i64 a0, .int .i64 1, .int .i64 1] 27 (0, 0)) (by (with_reducible repeat (first | refine blk_drewN ?_ _ | refine blk_drew ?_ | refine blk_alloc ?_ _)); exact BK258.out)) : gb258 ≠ gb275))
                have n6_ := Aside0.mk ((by rw [hg]; exact Nat.ne_of_gt (blk_lt (g := gb258) (o := .cells #[.int .i64 0, .int .i64 a0, .int .i64 1, .int .i64 1] 27 (0, 0)) (by (with_reducible repeat (first | refine blk_drewN ?_ _ | refine blk_drew ?_ | refine blk_alloc ?_ _)); exact BK258.out)) : gb275 ≠ gb258))
                clear BK258
                clear HB
                have BK258 := n0_
                have HB := n1_
                have BK275 := n2_
                have GW275 := n3_
                have GE275 := n4_
                have NB258_275 := n5_
                have NB275_258 := n6_
                clear n0_ n1_ n2_ n3_ n4_ n5_ n6_
                clear hb hbox hg
                refine hK.out _ _ ⟨(blk_cell BK258.out 0).trans rfl, (blk_cell BK258.out 1).trans rfl, (blk_cell BK258.out 2).trans rfl, (blk_cell BK258.out 3).trans rfl⟩ (fun hHeld => ?_)
                clear hK K
                refine norm_ (a' := ?_) ?_ ?_
                rotate_left
                · show Act.put _ (some 10) _ = _
                  simp only [Act.put, List.setIfInBounds_toArray, List.set_cons_zero, List.set_cons_succ, i64_w, i32_w]
                  rfl
                refine one_ (i := 3) (N := some 40) #[true, true, true, true, true, false, true, false] rfl rfl (one_of HT_.out (by kernel_rfl)) (by decide) (fun K hK => ?_)
                refine goes_ Try.func26 (by kernel_rfl) rfl #[.int .i64 1] (by rfl) rfl rfl (by (try simp only [List.map_toArray, List.map_cons, List.map_nil]); first | done | rfl | (simp only [List.length_drop, List.length_take]; rfl)) ?_
                with_reducible refine (klaxonref08_Num.calls 1 t266 t267 _ A14.out).mono ?_
                rintro e w23 ⟨rfl, hb⟩
                refine ⟨_, rfl, ?_⟩
                have n0_ := Aside0.mk (blk_below (g := gb258) (o := .cells #[.int .i64 0, .int .i64 a0, .int .i64 1, .int .i64 1] 27 (0, 0)) (by (with_reducible repeat (first | refine blk_drewN ?_ _ | refine blk_drew ?_ | refine blk_alloc ?_ _)); exact BK258.out) hb)
                have n1_ := Aside0.mk (blk_below (g := gb275) (o := .cells #[.int .i64 0, .int .i64 0, .int .i64 0, .int .i64 0, .int .i64 0, .int .i64 0, .int .i64 0] 25 (0, 0)) (by (with_reducible repeat (first | refine blk_drewN ?_ _ | refine blk_drew ?_ | refine blk_alloc ?_ _)); exact BK275.out) hb)
                have n2_ := Aside0.mk (below_step (by repeat (first | (with_reducible first | exact HB.out | apply below_alloc | apply pw_below_drewN | apply below_drew1 | refine below_set ?_ GE258.out | refine below_set ?_ GE275.out) | exact HB.out)) hb)
                clear BK258
                clear BK275
                clear HB
                have BK258 := n0_
                have BK275 := n1_
                have HB := n2_
                clear n0_ n1_ n2_
                (try clear hb)
                (try clear hb2)
                (try clear hk)
                (try clear hi)
                refine hK.out _ _ ⟨(blk_cell BK258.out 0).trans rfl, (blk_cell BK258.out 1).trans rfl, (blk_cell BK258.out 2).trans rfl, (blk_cell BK258.out 3).trans rfl⟩ (fun hHeld => ?_)
                clear hK K
                refine norm_ (a' := ?_) ?_ ?_
                rotate_left
                · show Act.put _ (some 40) _ = _
                  simp only [Act.put, List.setIfInBounds_toArray, List.set_cons_zero, List.set_cons_succ, i64_w, i32_w]
                  rfl
                refine one_ (i := 5) (N := some 42) #[true, true, true, true, true, true, true, false] rfl rfl (one_of HT_.out (by kernel_rfl)) (by decide) (fun K hK => ?_)
                refine goes_ Try.func23 (by kernel_rfl) rfl #[.agg #[.int .i64 t259, .int .i64 t260, .int .i64 t261, .int .i64 t262, .int .i64 t263, .int .i64 t264, .int .i64 t265], .agg #[.int .i64 0, .int .i64 a0, .int .i64 1, .int .i64 1], .int .i64 2, .agg #[.int .i64 t266, .int .i64 t267], .int .i64 a1] (by rfl) rfl rfl (by (try simp only [List.map_toArray, List.map_cons, List.map_nil]); first | done | rfl | (simp only [List.length_drop, List.length_take]; rfl)) ?_
                with_reducible refine (state_Step.calls t259 t260 t261 t262 t263 t264 t265 0 a0 1 1 2 t266 t267 a1 t268 t269 t270 t271 t272 t273 t274 _ A15.out).mono ?_
                rintro e w24 ⟨rfl, hb⟩
                refine ⟨_, rfl, ?_⟩
                have n0_ := Aside0.mk (blk_below (g := gb258) (o := .cells #[.int .i64 0, .int .i64 a0, .int .i64 1, .int .i64 1] 27 (0, 0)) (by (with_reducible repeat (first | refine blk_drewN ?_ _ | refine blk_drew ?_ | refine blk_alloc ?_ _)); exact BK258.out) hb)
                have n1_ := Aside0.mk (blk_below (g := gb275) (o := .cells #[.int .i64 0, .int .i64 0, .int .i64 0, .int .i64 0, .int .i64 0, .int .i64 0, .int .i64 0] 25 (0, 0)) (by (with_reducible repeat (first | refine blk_drewN ?_ _ | refine blk_drew ?_ | refine blk_alloc ?_ _)); exact BK275.out) hb)
                have n2_ := Aside0.mk (below_step (by repeat (first | (with_reducible first | exact HB.out | apply below_alloc | apply pw_below_drewN | apply below_drew1 | refine below_set ?_ GE258.out | refine below_set ?_ GE275.out) | exact HB.out)) hb)
                clear BK258
                clear BK275
                clear HB
                have BK258 := n0_
                have BK275 := n1_
                have HB := n2_
                clear n0_ n1_ n2_
                (try clear hb)
                (try clear hb2)
                (try clear hk)
                (try clear hi)
                refine hK.out _ _ ⟨(blk_cell BK258.out 0).trans rfl, (blk_cell BK258.out 1).trans rfl, (blk_cell BK258.out 2).trans rfl, (blk_cell BK258.out 3).trans rfl⟩ (fun hHeld => ?_)
                clear hK K
                refine norm_ (a' := ?_) ?_ ?_
                rotate_left
                · show Act.put _ (some 42) _ = _
                  simp only [Act.put, List.setIfInBounds_toArray, List.set_cons_zero, List.set_cons_succ, i64_w, i32_w]
                  rfl
                exact norm_ (by simp only [putAll, Act.put, List.setIfInBounds_toArray, List.set_cons_zero, List.set_cons_succ]) (hCont (gb275) _ ⟨hHeld, (by (with_reducible repeat (first | refine blk_drewN ?_ _ | refine blk_drew ?_ | refine blk_alloc ?_ _)); exact BK258.out), (by (with_reducible repeat (first | refine blk_drewN ?_ _ | refine blk_drew ?_ | refine blk_alloc ?_ _)); exact BK275.out), GW275.out, GE275.out, NB258_275.out, NB275_258.out, (by repeat (first | (with_reducible first | exact HB.out | apply below_alloc | apply pw_below_drewN | apply below_drew1 | refine below_set ?_ GE258.out | refine below_set ?_ GE275.out) | exact HB.out))⟩)
            · skip
              refine box_step ?hg (N := 10) ?hd (cs := #[.int .i64 0, .int .i64 0, .int .i64 0, .int .i64 0, .int .i64 0, .int .i64 0, .int .i64 0]) (t := 25) ?hr ?_; (case hd => rfl); (case hg => rfl); (case hr => first | (go_simp; done) | (go_simp; rfl))
              intro gb275 hg w21 hbox hb
              have n0_ := Aside0.mk (blk_below (g := gb258) (o := .cells #[.int .i64 0, .int .i64 a0, .int .i64 1, .int .i64 1] 27 (0, 0)) (by (with_reducible repeat (first | refine blk_drewN ?_ _ | refine blk_drew ?_ | refine blk_alloc ?_ _)); exact BK258.out) hb)
              have n1_ := Aside0.mk (below_step (by repeat (first | (with_reducible first | exact HB.out | apply below_alloc | apply pw_below_drewN | apply below_drew1 | refine below_set ?_ GE258.out) | exact HB.out)) hb)
              have n2_ := Aside0.mk (hbox)
              have n3_ := Aside0.mk ((by rw [hg]; exact (below_size (by repeat (first | (with_reducible first | exact HB.out | apply below_alloc | apply pw_below_drewN | apply below_drew1 | refine below_set ?_ GE258.out) | exact HB.out))) : w.heap.size ≤ gb275))
              have n4_ := Aside0.mk ((by rw [hg]; exact (below_size (by repeat (first | (with_reducible first | exact HB.out | apply below_alloc | apply pw_below_drewN | apply below_drew1 | refine below_set ?_ GE258.out) | exact HB.out))) : w.heap.size ≤ gb275))
              have n5_ := Aside0.mk ((by rw [hg]; exact Nat.ne_of_lt (blk_lt (g := gb258) (o := .cells #[.int .i64 0, .int .i64 a0, .int .i64 1, .int .i64 1] 27 (0, 0)) (by (with_reducible repeat (first | refine blk_drewN ?_ _ | refine blk_drew ?_ | refine blk_alloc ?_ _)); exact BK258.out)) : gb258 ≠ gb275))
              have n6_ := Aside0.mk ((by rw [hg]; exact Nat.ne_of_gt (blk_lt (g := gb258) (o := .cells #[.int .i64 0, .int .i64 a0, .int .i64 1, .int .i64 1] 27 (0, 0)) (by (with_reducible repeat (first | refine blk_drewN ?_ _ | refine blk_drew ?_ | refine blk_alloc ?_ _)); exact BK258.out)) : gb275 ≠ gb258))
              clear BK258
              clear HB
              have BK258 := n0_
              have HB := n1_
              have BK275 := n2_
              have GW275 := n3_
              have GE275 := n4_
              have NB258_275 := n5_
              have NB275_258 := n6_
              clear n0_ n1_ n2_ n3_ n4_ n5_ n6_
              clear hb hbox hg
              refine hK.out _ _ ⟨(blk_cell BK258.out 0).trans rfl, (blk_cell BK258.out 1).trans rfl, (blk_cell BK258.out 2).trans rfl, (blk_cell BK258.out 3).trans rfl⟩ (fun hHeld => ?_)
              clear hK K
              refine norm_ (a' := ?_) ?_ ?_
              rotate_left
              · show Act.put _ (some 10) _ = _
                simp only [Act.put, List.setIfInBounds_toArray, List.set_cons_zero, List.set_cons_succ, i64_w, i32_w]
                rfl
              refine one_ (i := 1) (N := some 38) #[true, true, true, false, true, false, true, false] rfl rfl (one_of HT_.out (by kernel_rfl)) (by decide) (fun K hK => ?_)
              refine goes_ Try.func19 (by kernel_rfl) rfl #[.int .i64 a1] (by rfl) rfl rfl (by (try simp only [List.map_toArray, List.map_cons, List.map_nil]); first | done | rfl | (simp only [List.length_drop, List.length_take]; rfl)) ?_
              with_reducible refine (state_New.calls a1 t259 t260 t261 t262 t263 t264 t265 _ A13.out).mono ?_
              rintro e w22 ⟨rfl, hb⟩
              refine ⟨_, rfl, ?_⟩
              have n0_ := Aside0.mk (blk_below (g := gb258) (o := .cells #[.int .i64 0, .int .i64 a0, .int .i64 1, .int .i64 1] 27 (0, 0)) (by (with_reducible repeat (first | refine blk_drewN ?_ _ | refine blk_drew ?_ | refine blk_alloc ?_ _)); exact BK258.out) hb)
              have n1_ := Aside0.mk (blk_below (g := gb275) (o := .cells #[.int .i64 0, .int .i64 0, .int .i64 0, .int .i64 0, .int .i64 0, .int .i64 0, .int .i64 0] 25 (0, 0)) (by (with_reducible repeat (first | refine blk_drewN ?_ _ | refine blk_drew ?_ | refine blk_alloc ?_ _)); exact BK275.out) hb)
              have n2_ := Aside0.mk (below_step (by repeat (first | (with_reducible first | exact HB.out | apply below_alloc | apply pw_below_drewN | apply below_drew1 | refine below_set ?_ GE258.out | refine below_set ?_ GE275.out) | exact HB.out)) hb)
              clear BK258
              clear BK275
              clear HB
              have BK258 := n0_
              have BK275 := n1_
              have HB := n2_
              clear n0_ n1_ n2_
              (try clear hb)
              (try clear hb2)
              (try clear hk)
              (try clear hi)
              refine hK.out _ _ ⟨(blk_cell BK258.out 0).trans rfl, (blk_cell BK258.out 1).trans rfl, (blk_cell BK258.out 2).trans rfl, (blk_cell BK258.out 3).trans rfl⟩ (fun hHeld => ?_)
              clear hK K
              refine norm_ (a' := ?_) ?_ ?_
              rotate_left
              · show Act.put _ (some 38) _ = _
                simp only [Act.put, List.setIfInBounds_toArray, List.set_cons_zero, List.set_cons_succ, i64_w, i32_w]
                rfl
              refine one_ (i := 3) (N := some 40) #[true, true, true, true, true, false, true, false] rfl rfl (one_of HT_.out (by kernel_rfl)) (by decide) (fun K hK => ?_)
              refine goes_ Try.func26 (by kernel_rfl) rfl #[.int .i64 1] (by rfl) rfl rfl (by (try simp only [List.map_toArray, List.map_cons, List.map_nil]); first | done | rfl | (simp only [List.length_drop, List.length_take]; rfl)) ?_
              with_reducible refine (klaxonref08_Num.calls 1 t266 t267 _ A14.out).mono ?_
              rintro e w23 ⟨rfl, hb⟩
              refine ⟨_, rfl, ?_⟩
              have n0_ := Aside0.mk (blk_below (g := gb258) (o := .cells #[.int .i64 0, .int .i64 a0, .int .i64 1, .int .i64 1] 27 (0, 0)) (by (with_reducible repeat (first | refine blk_drewN ?_ _ | refine blk_drew ?_ | refine blk_alloc ?_ _)); exact BK258.out) hb)
              have n1_ := Aside0.mk (blk_below (g := gb275) (o := .cells #[.int .i64 0, .int .i64 0, .int .i64 0, .int .i64 0, .int .i64 0, .int .i64 0, .int .i64 0] 25 (0, 0)) (by (with_reducible repeat (first | refine blk_drewN ?_ _ | refine blk_drew ?_ | refine blk_alloc ?_ _)); exact BK275.out) hb)
              have n2_ := Aside0.mk (below_step (by repeat (first | (with_reducible first | exact HB.out | apply below_alloc | apply pw_below_drewN | apply below_drew1 | refine below_set ?_ GE258.out | refine below_set ?_ GE275.out) | exact HB.out)) hb)
              clear BK258
              clear BK275
              clear HB
              have BK258 := n0_
              have BK275 := n1_
              have HB := n2_
              clear n0_ n1_ n2_
              (try clear hb)
              (try clear hb2)
              (try clear hk)
              (try clear hi)
              refine hK.out _ _ ⟨(blk_cell BK258.out 0).trans rfl, (blk_cell BK258.out 1).trans rfl, (blk_cell BK258.out 2).trans rfl, (blk_cell BK258.out 3).trans rfl⟩ (fun hHeld => ?_)
              clear hK K
              refine norm_ (a' := ?_) ?_ ?_
              rotate_left
              · show Act.put _ (some 40) _ = _
                simp only [Act.put, List.setIfInBounds_toArray, List.set_cons_zero, List.set_cons_succ, i64_w, i32_w]
                rfl
              refine one_ (i := 5) (N := some 42) #[true, true, true, true, true, true, true, false] rfl rfl (one_of HT_.out (by kernel_rfl)) (by decide) (fun K hK => ?_)
              refine goes_ Try.func23 (by kernel_rfl) rfl #[.agg #[.int .i64 t259, .int .i64 t260, .int .i64 t261, .int .i64 t262, .int .i64 t263, .int .i64 t264, .int .i64 t265], .agg #[.int .i64 0, .int .i64 a0, .int .i64 1, .int .i64 1], .int .i64 2, .agg #[.int .i64 t266, .int .i64 t267], .int .i64 a1] (by rfl) rfl rfl (by (try simp only [List.map_toArray, List.map_cons, List.map_nil]); first | done | rfl | (simp only [List.length_drop, List.length_take]; rfl)) ?_
              with_reducible refine (state_Step.calls t259 t260 t261 t262 t263 t264 t265 0 a0 1 1 2 t266 t267 a1 t268 t269 t270 t271 t272 t273 t274 _ A15.out).mono ?_
              rintro e w24 ⟨rfl, hb⟩
              refine ⟨_, rfl, ?_⟩
              have n0_ := Aside0.mk (blk_below (g := gb258) (o := .cells #[.int .i64 0, .int .i64 a0, .int .i64 1, .int .i64 1] 27 (0, 0)) (by (with_reducible repeat (first | refine blk_drewN ?_ _ | refine blk_drew ?_ | refine blk_alloc ?_ _)); exact BK258.out) hb)
              have n1_ := Aside0.mk (blk_below (g := gb275) (o := .cells #[.int .i64 0, .int .i64 0, .int .i64 0, .int .i64 0, .int .i64 0, .int .i64 0, .int .i64 0] 25 (0, 0)) (by (with_reducible repeat (first | refine blk_drewN ?_ _ | refine blk_drew ?_ | refine blk_alloc ?_ _)); exact BK275.out) hb)
              have n2_ := Aside0.mk (below_step (by repeat (first | (with_reducible first | exact HB.out | apply below_alloc | apply pw_below_drewN | apply below_drew1 | refine below_set ?_ GE258.out | refine below_set ?_ GE275.out) | exact HB.out)) hb)
              clear BK258
              clear BK275
              clear HB
              have BK258 := n0_
              have BK275 := n1_
              have HB := n2_
              clear n0_ n1_ n2_
              (try clear hb)
              (try clear hb2)
              (try clear hk)
              (try clear hi)
              refine hK.out _ _ ⟨(blk_cell BK258.out 0).trans rfl, (blk_cell BK258.out 1).trans rfl, (blk_cell BK258.out 2).trans rfl, (blk_cell BK258.out 3).trans rfl⟩ (fun hHeld => ?_)
              clear hK K
              refine norm_ (a' := ?_) ?_ ?_
              rotate_left
              · show Act.put _ (some 42) _ = _
                simp only [Act.put, List.setIfInBounds_toArray, List.set_cons_zero, List.set_cons_succ, i64_w, i32_w]
                rfl
              exact norm_ (by simp only [putAll, Act.put, List.setIfInBounds_toArray, List.set_cons_zero, List.set_cons_succ]) (hCont (gb275) _ ⟨hHeld, (by (with_reducible repeat (first | refine blk_drewN ?_ _ | refine blk_drew ?_ | refine blk_alloc ?_ _)); exact BK258.out), (by (with_reducible repeat (first | refine blk_drewN ?_ _ | refine blk_drew ?_ | refine blk_alloc ?_ _)); exact BK275.out), GW275.out, GE275.out, NB258_275.out, NB275_258.out, (by repeat (first | (with_reducible first | exact HB.out | apply below_alloc | apply pw_below_drewN | apply below_drew1 | refine below_set ?_ GE258.out | refine below_set ?_ GE275.out) | exact HB.out))⟩)
          rintro gb275 w25 ⟨hS_, h0_, h1_, h2_, h3_, h4_, h5_, h6_⟩
          have n0_ : Aside0 (w25.heap[gb258]? = some (.cells #[.int .i64 0, .int .i64 a0, .int .i64 1, .int .i64 1] 27 (0, 0))) := ⟨h0_⟩
          have n1_ : Aside0 (w25.heap[gb275]? = some (.cells #[.int .i64 0, .int .i64 0, .int .i64 0, .int .i64 0, .int .i64 0, .int .i64 0, .int .i64 0] 25 (0, 0))) := ⟨h1_⟩
          have n2_ : Aside0 (w.heap.size ≤ gb275) := ⟨h2_⟩
          have n3_ : Aside0 (w.heap.size ≤ gb275) := ⟨h3_⟩
          have n4_ : Aside0 (gb258 ≠ gb275) := ⟨h4_⟩
          have n5_ : Aside0 (gb275 ≠ gb258) := ⟨h5_⟩
          have n6_ : Aside0 (Below w.heap.size w w25) := ⟨h6_⟩
          clear BK258
          clear HB
          clear h0_ h1_ h2_ h3_ h4_ h5_ h6_
          have BK258 := n0_
          have BK275 := n1_
          have GW275 := n2_
          have GE275 := n3_
          have NB258_275 := n4_
          have NB275_258 := n5_
          have HB := n6_
          clear n0_ n1_ n2_ n3_ n4_ n5_ n6_
          have hHeld : w25.cell? ⟨gb258, 0, none⟩ = some (.int .i64 0) ∧ w25.cell? ⟨gb258, 1, none⟩ = some (.int .i64 a0) ∧ w25.cell? ⟨gb258, 2, none⟩ = some (.int .i64 1) ∧ w25.cell? ⟨gb258, 3, none⟩ = some (.int .i64 1) := hS_
          refine norm_ (a' := ?_) ?_ ?_
          rotate_left
          · simp only [putAll, Act.put, List.setIfInBounds_toArray, List.set_cons_zero, List.set_cons_succ]
            rfl
          refine one_ (i := 7) (N := none) #[true, true, true, true, true, true, true, true] rfl rfl (one_of HT_.out (by kernel_rfl)) (by decide) (fun K hK => ?_)
          have hs26 : w25.cell? ⟨gb275, 0, none⟩ = some (.int .i64 0) := (blk_cell BK275.out 0).trans rfl
          have hfs26 := blk_frozen BK275.out 0
          have hns26_0 := NB258_275.out
          have hms26_0 := NB275_258.out
          have hs27 : w25.cell? ⟨gb275, 1, none⟩ = some (.int .i64 0) := (blk_cell BK275.out 1).trans rfl
          have hfs27 := blk_frozen BK275.out 1
          have hns27_0 := NB258_275.out
          have hms27_0 := NB275_258.out
          have hs28 : w25.cell? ⟨gb275, 2, none⟩ = some (.int .i64 0) := (blk_cell BK275.out 2).trans rfl
          have hfs28 := blk_frozen BK275.out 2
          have hns28_0 := NB258_275.out
          have hms28_0 := NB275_258.out
          have hs29 : w25.cell? ⟨gb275, 3, none⟩ = some (.int .i64 0) := (blk_cell BK275.out 3).trans rfl
          have hfs29 := blk_frozen BK275.out 3
          have hns29_0 := NB258_275.out
          have hms29_0 := NB275_258.out
          have hs30 : w25.cell? ⟨gb275, 4, none⟩ = some (.int .i64 0) := (blk_cell BK275.out 4).trans rfl
          have hfs30 := blk_frozen BK275.out 4
          have hns30_0 := NB258_275.out
          have hms30_0 := NB275_258.out
          have hs31 : w25.cell? ⟨gb275, 5, none⟩ = some (.int .i64 0) := (blk_cell BK275.out 5).trans rfl
          have hfs31 := blk_frozen BK275.out 5
          have hns31_0 := NB258_275.out
          have hms31_0 := NB275_258.out
          have hs32 : w25.cell? ⟨gb275, 6, none⟩ = some (.int .i64 0) := (blk_cell BK275.out 6).trans rfl
          have hfs32 := blk_frozen BK275.out 6
          have hns32_0 := NB258_275.out
          have hms32_0 := NB275_258.out
          refine skip_ (w1 := ?_) (by rfl) rfl ?_ ?_
          rotate_left
          · go_simp
            rfl
          refine hK.out _ _ ⟨((cell_far (p := ⟨gb275, _, none⟩) NB258_275.out _).trans (((cell_far (p := ⟨gb275, _, none⟩) NB258_275.out _).trans (((cell_far (p := ⟨gb275, _, none⟩) NB258_275.out _).trans (((cell_far (p := ⟨gb275, _, none⟩) NB258_275.out _).trans (((cell_far (p := ⟨gb275, _, none⟩) NB258_275.out _).trans (((cell_far (p := ⟨gb275, _, none⟩) NB258_275.out _).trans (((cell_far (p := ⟨gb275, _, none⟩) NB258_275.out _).trans (hHeld.1)))))))))))))), ((cell_far (p := ⟨gb275, _, none⟩) NB258_275.out _).trans (((cell_far (p := ⟨gb275, _, none⟩) NB258_275.out _).trans (((cell_far (p := ⟨gb275, _, none⟩) NB258_275.out _).trans (((cell_far (p := ⟨gb275, _, none⟩) NB258_275.out _).trans (((cell_far (p := ⟨gb275, _, none⟩) NB258_275.out _).trans (((cell_far (p := ⟨gb275, _, none⟩) NB258_275.out _).trans (((cell_far (p := ⟨gb275, _, none⟩) NB258_275.out _).trans (hHeld.2.1)))))))))))))), ((cell_far (p := ⟨gb275, _, none⟩) NB258_275.out _).trans (((cell_far (p := ⟨gb275, _, none⟩) NB258_275.out _).trans (((cell_far (p := ⟨gb275, _, none⟩) NB258_275.out _).trans (((cell_far (p := ⟨gb275, _, none⟩) NB258_275.out _).trans (((cell_far (p := ⟨gb275, _, none⟩) NB258_275.out _).trans (((cell_far (p := ⟨gb275, _, none⟩) NB258_275.out _).trans (((cell_far (p := ⟨gb275, _, none⟩) NB258_275.out _).trans (hHeld.2.2.1)))))))))))))), ((cell_far (p := ⟨gb275, _, none⟩) NB258_275.out _).trans (((cell_far (p := ⟨gb275, _, none⟩) NB258_275.out _).trans (((cell_far (p := ⟨gb275, _, none⟩) NB258_275.out _).trans (((cell_far (p := ⟨gb275, _, none⟩) NB258_275.out _).trans (((cell_far (p := ⟨gb275, _, none⟩) NB258_275.out _).trans (((cell_far (p := ⟨gb275, _, none⟩) NB258_275.out _).trans (((cell_far (p := ⟨gb275, _, none⟩) NB258_275.out _).trans (hHeld.2.2.2))))))))))))))⟩ (fun hHeld => ?_)
          clear hK K
          refine done_ (done_of HT_.out (by kernel_rfl)) ?_
          have hnb33 := NB275_258.out
          have hnc33 := NB258_275.out
          have hcz34_0 : w25.cell? ⟨gb275, 0, none⟩ = some (.int .i64 0) := (blk_cell BK275.out 0).trans rfl
          have hcz34_1 : w25.cell? ⟨gb275, 1, none⟩ = some (.int .i64 0) := (blk_cell BK275.out 1).trans rfl
          have hcz34_2 : w25.cell? ⟨gb275, 2, none⟩ = some (.int .i64 0) := (blk_cell BK275.out 2).trans rfl
          have hcz34_3 : w25.cell? ⟨gb275, 3, none⟩ = some (.int .i64 0) := (blk_cell BK275.out 3).trans rfl
          have hcz34_4 : w25.cell? ⟨gb275, 4, none⟩ = some (.int .i64 0) := (blk_cell BK275.out 4).trans rfl
          have hcz34_5 : w25.cell? ⟨gb275, 5, none⟩ = some (.int .i64 0) := (blk_cell BK275.out 5).trans rfl
          have hcz34_6 : w25.cell? ⟨gb275, 6, none⟩ = some (.int .i64 0) := (blk_cell BK275.out 6).trans rfl
          have hfz34_0 := blk_frozen BK275.out 0
          have hfz34_1 := blk_frozen BK275.out 1
          have hfz34_2 := blk_frozen BK275.out 2
          have hfz34_3 := blk_frozen BK275.out 3
          have hfz34_4 := blk_frozen BK275.out 4
          have hfz34_5 := blk_frozen BK275.out 5
          have hfz34_6 := blk_frozen BK275.out 6
          try go_wp2
          go_loopg [1, 11, 12] kj4 (fun kq v1 v11 v12 w' => ∃ (x1_2 : Int) (x11_2 : Int) (x12_2 : Int) (x276000_2 : Int) (x276001_2 : Int) (x276002_2 : Int) (x276003_2 : Int) (x276004_2 : Int) (x276005_2 : Int) (x276006_2 : Int), v1 = .int .i64 x1_2 ∧ v11 = .int .i64 x11_2 ∧ v12 = .int .i64 x12_2 ∧ Aside0 (klaxonlaw17_StateQuiet.l0 kq a0 x1_2 l2 a3 x11_2 x12_2 0 a0 1 1 x276000_2 x276001_2 x276002_2 x276003_2 x276004_2 x276005_2 x276006_2 = some true) ∧ Aside0 (kq ≤ kj4) ∧ Aside0 (w'.heap[gb258]? = some (.cells #[.int .i64 0, .int .i64 a0, .int .i64 1, .int .i64 1] 27 (0, 0))) ∧ Aside0 (w'.heap[gb275]? = some (.cells #[.int .i64 x276000_2, .int .i64 x276001_2, .int .i64 x276002_2, .int .i64 x276003_2, .int .i64 x276004_2, .int .i64 x276005_2, .int .i64 x276006_2] 25 (0, 0))) ∧ Aside0 (Below w.heap.size w w'))
          case atStart => exact ⟨(a1), ((-1)), (0), (t268), (t269), (t270), (t271), (t272), (t273), (t274), (by first | rfl | (simp; done) | (simp [*]; done)), (by first | rfl | (simp; done) | (simp [*]; done)), (by first | rfl | (simp; done) | (simp [*]; done)), H', ⟨Nat.le_refl _⟩, ⟨by (with_reducible repeat (first | refine blk_drewN ?_ _ | refine blk_drew ?_ | refine blk_alloc ?_ _)); refine blk_far ?_ NB258_275.out _; (with_reducible repeat (first | refine blk_drewN ?_ _ | refine blk_drew ?_ | refine blk_alloc ?_ _)); refine blk_far ?_ NB258_275.out _; (with_reducible repeat (first | refine blk_drewN ?_ _ | refine blk_drew ?_ | refine blk_alloc ?_ _)); refine blk_far ?_ NB258_275.out _; (with_reducible repeat (first | refine blk_drewN ?_ _ | refine blk_drew ?_ | refine blk_alloc ?_ _)); refine blk_far ?_ NB258_275.out _; (with_reducible repeat (first | refine blk_drewN ?_ _ | refine blk_drew ?_ | refine blk_alloc ?_ _)); refine blk_far ?_ NB258_275.out _; (with_reducible repeat (first | refine blk_drewN ?_ _ | refine blk_drew ?_ | refine blk_alloc ?_ _)); refine blk_far ?_ NB258_275.out _; (with_reducible repeat (first | refine blk_drewN ?_ _ | refine blk_drew ?_ | refine blk_alloc ?_ _)); refine blk_far ?_ NB258_275.out _; (with_reducible repeat (first | refine blk_drewN ?_ _ | refine blk_drew ?_ | refine blk_alloc ?_ _)); exact BK258.out⟩, ⟨by (with_reducible repeat (first | refine blk_drewN ?_ _ | refine blk_drew ?_ | refine blk_alloc ?_ _)); refine blk_put (cs := #[.int .i64 t268, .int .i64 t269, .int .i64 t270, .int .i64 t271, .int .i64 t272, .int .i64 t273, .int .i64 0]) ?_ 6 _ rfl; (with_reducible repeat (first | refine blk_drewN ?_ _ | refine blk_drew ?_ | refine blk_alloc ?_ _)); refine blk_put (cs := #[.int .i64 t268, .int .i64 t269, .int .i64 t270, .int .i64 t271, .int .i64 t272, .int .i64 0, .int .i64 0]) ?_ 5 _ rfl; (with_reducible repeat (first | refine blk_drewN ?_ _ | refine blk_drew ?_ | refine blk_alloc ?_ _)); refine blk_put (cs := #[.int .i64 t268, .int .i64 t269, .int .i64 t270, .int .i64 t271, .int .i64 0, .int .i64 0, .int .i64 0]) ?_ 4 _ rfl; (with_reducible repeat (first | refine blk_drewN ?_ _ | refine blk_drew ?_ | refine blk_alloc ?_ _)); refine blk_put (cs := #[.int .i64 t268, .int .i64 t269, .int .i64 t270, .int .i64 0, .int .i64 0, .int .i64 0, .int .i64 0]) ?_ 3 _ rfl; (with_reducible repeat (first | refine blk_drewN ?_ _ | refine blk_drew ?_ | refine blk_alloc ?_ _)); refine blk_put (cs := #[.int .i64 t268, .int .i64 t269, .int .i64 0, .int .i64 0, .int .i64 0, .int .i64 0, .int .i64 0]) ?_ 2 _ rfl; (with_reducible repeat (first | refine blk_drewN ?_ _ | refine blk_drew ?_ | refine blk_alloc ?_ _)); refine blk_put (cs := #[.int .i64 t268, .int .i64 0, .int .i64 0, .int .i64 0, .int .i64 0, .int .i64 0, .int .i64 0]) ?_ 1 _ rfl; (with_reducible repeat (first | refine blk_drewN ?_ _ | refine blk_drew ?_ | refine blk_alloc ?_ _)); refine blk_put (cs := #[.int .i64 0, .int .i64 0, .int .i64 0, .int .i64 0, .int .i64 0, .int .i64 0, .int .i64 0]) ?_ 0 _ rfl; (with_reducible repeat (first | refine blk_drewN ?_ _ | refine blk_drew ?_ | refine blk_alloc ?_ _)); exact BK275.out⟩, ⟨by repeat (first | (with_reducible first | exact HB.out | apply below_alloc | apply pw_below_drewN | apply below_drew1 | refine below_set ?_ GE258.out | refine below_set ?_ GE275.out) | exact HB.out)⟩⟩
          case round =>
            clear H'
            try clear c1
            try clear c2
            try clear p2
            try clear c3
            try clear c6
            try clear c6b0
            try clear c7
            try clear c7b0
            try clear c8
            try clear c8b0
            try clear c9
            try clear c9b0
            try clear c10
            try clear c15
            try clear c16
            try clear c16b0
            try clear c16b1
            try clear c19
            try clear c23
            try clear c26
            try clear c33
            try clear hcz18_0
            try clear hcz18_1
            try clear hcz18_2
            try clear hcz18_3
            try clear hcz34_0
            try clear hcz34_1
            try clear hcz34_2
            try clear hcz34_3
            try clear hcz34_4
            try clear hcz34_5
            try clear hcz34_6
            try clear hfz18_0
            try clear hfz18_1
            try clear hfz18_2
            try clear hfz18_3
            try clear hfz34_0
            try clear hfz34_1
            try clear hfz34_2
            try clear hfz34_3
            try clear hfz34_4
            try clear hfz34_5
            try clear hfz34_6
            try clear p2
            obtain ⟨x1_2, x11_2, x12_2, x276000_2, x276001_2, x276002_2, x276003_2, x276004_2, x276005_2, x276006_2, rfl, rfl, rfl, HA, HK2, BK258, BK275, HB⟩ := hrel
            cases gk with
            | zero => exact absurd HA.out (by simp [klaxonlaw17_StateQuiet.l0])
            | succ k2 =>
              have H := HA.out
              clear HA
              simp only [klaxonlaw17_StateQuiet.l0] at H
              by_cases c35 : x12_2 < (l2.length : Int)
              · rw [if_pos c35] at H
                have c35b0 : decide (x12_2 < (l2.length : Int)) = true := decide_eq_true c35
                clear c35
                have HC36 := Aside0.mk H
                clear H
                go_upto_region 11 with (fail)
                go_cut [63] (fun v63 wc => ∃ (kq : Nat) (x63_35 : Bool), v63 = .bool x63_35 ∧ Aside0 (klaxonlaw17_StateQuiet.j2 kq a0 x1_2 l2 a3 x11_2 x12_2 x63_35 0 a0 1 1 x276000_2 x276001_2 x276002_2 x276003_2 x276004_2 x276005_2 x276006_2 = some true) ∧ Aside0 (kq ≤ k2) ∧ Aside0 (wc.heap[gb258]? = some (.cells #[.int .i64 0, .int .i64 a0, .int .i64 1, .int .i64 1] 27 (0, 0))) ∧ Aside0 (wc.heap[gb275]? = some (.cells #[.int .i64 x276000_2, .int .i64 x276001_2, .int .i64 x276002_2, .int .i64 x276003_2, .int .i64 x276004_2, .int .i64 x276005_2, .int .i64 x276006_2] 25 (0, 0))) ∧ Aside0 (Below w.heap.size w wc))
                case first =>
                  have H := HC36.out
                  clear HC36
                  by_cases c37 : 0 ≤ x12_2
                  · rw [if_pos c37] at H
                    have c37b0 : decide (0 ≤ x12_2) = true := decide_eq_true c37
                    clear c37
                    (first | rw [c37b0] | (simp only [i64_w, i32_w]; rw [c37b0]) | skip)
                    by_cases c38 : (rd l2 x12_2) < 0
                    · rw [if_pos c38] at H
                      have c38b0 : decide ((rd l2 x12_2) < 0) = true := decide_eq_true c38
                      clear c38
                      have H' := Aside0.mk H
                      clear H
                      have p277 : 0 ≤ (x12_2 : Int) := of_decide_eq_true (by first | (with_reducible assumption) | assumption)
                      have q277 : x12_2 < (l2.length : Int) := of_decide_eq_true (by first | (with_reducible assumption) | assumption)
                      obtain ⟨ad277, e277, hx277_0⟩ := Kd.at_int HR2.out x12_2 p277 q277
                      cases e277
                      replace hx277_0 := (HB.out.cell (World.block_lt_of_cell? w _ hx277_0)).trans hx277_0
                      replace p277 := eq_true p277
                      replace q277 := eq_true q277
                      go_wp2
                      go_meet
                      case rel => exact ⟨_, (true), (by first | rfl | (simp; done) | (simp [*]; done)), H', ⟨by have := HJ4.out; have := HK2.out; first | omega | exact Nat.le_refl _⟩, ⟨by (with_reducible repeat (first | refine blk_drewN ?_ _ | refine blk_drew ?_ | refine blk_alloc ?_ _)); exact BK258.out⟩, ⟨by (with_reducible repeat (first | refine blk_drewN ?_ _ | refine blk_drew ?_ | refine blk_alloc ?_ _)); exact BK275.out⟩, ⟨by repeat (first | (with_reducible first | exact HB.out | apply below_alloc | apply pw_below_drewN | apply below_drew1 | refine below_set ?_ GE258.out | refine below_set ?_ GE275.out) | exact HB.out)⟩⟩
                    · rw [if_neg c38] at H
                      have c38b0 : decide ((rd l2 x12_2) < 0) = false := decide_eq_false c38
                      clear c38
                      have H' := Aside0.mk H
                      clear H
                      have p277 : 0 ≤ (x12_2 : Int) := of_decide_eq_true (by first | (with_reducible assumption) | assumption)
                      have q277 : x12_2 < (l2.length : Int) := of_decide_eq_true (by first | (with_reducible assumption) | assumption)
                      obtain ⟨ad277, e277, hx277_0⟩ := Kd.at_int HR2.out x12_2 p277 q277
                      cases e277
                      replace hx277_0 := (HB.out.cell (World.block_lt_of_cell? w _ hx277_0)).trans hx277_0
                      replace p277 := eq_true p277
                      replace q277 := eq_true q277
                      have p278 : 0 ≤ (x12_2 : Int) := of_decide_eq_true (by first | (with_reducible assumption) | assumption)
                      have q278 : x12_2 < (l2.length : Int) := of_decide_eq_true (by first | (with_reducible assumption) | assumption)
                      obtain ⟨ad278, e278, hx278_0⟩ := Kd.at_int HR2.out x12_2 p278 q278
                      obtain rfl : ad277 = ad278 := (by injection e278)
                      replace hx278_0 := (HB.out.cell (World.block_lt_of_cell? w _ hx278_0)).trans hx278_0
                      replace p278 := eq_true p278
                      replace q278 := eq_true q278
                      go_wp2
                      go_meet
                      case rel => exact ⟨_, (decide ((rd l2 x12_2) > 1000000)), (by first | rfl | (simp; done) | (simp [*]; done)), H', ⟨by have := HJ4.out; have := HK2.out; first | omega | exact Nat.le_refl _⟩, ⟨by (with_reducible repeat (first | refine blk_drewN ?_ _ | refine blk_drew ?_ | refine blk_alloc ?_ _)); exact BK258.out⟩, ⟨by (with_reducible repeat (first | refine blk_drewN ?_ _ | refine blk_drew ?_ | refine blk_alloc ?_ _)); exact BK275.out⟩, ⟨by repeat (first | (with_reducible first | exact HB.out | apply below_alloc | apply pw_below_drewN | apply below_drew1 | refine below_set ?_ GE258.out | refine below_set ?_ GE275.out) | exact HB.out)⟩⟩
                  · rw [if_neg c37] at H
                    exact absurd H (by simp)
                case rest =>
                  clear HC36
                  try clear c1
                  try clear c2
                  try clear p2
                  try clear q2
                  try clear hx2
                  try clear c3
                  try clear c6
                  try clear c6b0
                  try clear c7
                  try clear c7b0
                  try clear c8
                  try clear c8b0
                  try clear c9
                  try clear c9b0
                  try clear c10
                  try clear c15
                  try clear c16
                  try clear c16b0
                  try clear c16b1
                  try clear c19
                  try clear c23
                  try clear c26
                  try clear p27
                  try clear q27
                  try clear hx27
                  try clear c33
                  try clear c35
                  try clear c35b0
                  try clear c37
                  try clear c37b0
                  try clear c38
                  try clear c38b0
                  try clear hcz18_0
                  try clear hcz18_1
                  try clear hcz18_2
                  try clear hcz18_3
                  try clear hcz34_0
                  try clear hcz34_1
                  try clear hcz34_2
                  try clear hcz34_3
                  try clear hcz34_4
                  try clear hcz34_5
                  try clear hcz34_6
                  try clear hfz18_0
                  try clear hfz18_1
                  try clear hfz18_2
                  try clear hfz18_3
                  try clear hfz34_0
                  try clear hfz34_1
                  try clear hfz34_2
                  try clear hfz34_3
                  try clear hfz34_4
                  try clear hfz34_5
                  try clear hfz34_6
                  try clear hx277_0
                  try clear hx278_0
                  try clear p2
                  try clear p277
                  try clear p278
                  try clear q277
                  try clear q278
                  obtain ⟨kq, x63_35, rfl, HA, HJ35, BK258, BK275, HB⟩ := hcut
                  cases kq with
                  | zero => exact absurd HA.out (by simp [klaxonlaw17_StateQuiet.j2])
                  | succ kj35 =>
                    have H := HA.out
                    clear HA
                    simp only [klaxonlaw17_StateQuiet.j2] at H
                    by_cases c39 : x63_35 = true
                    · subst c39
                      have H1 : ((klaxonlaw17_live.f kj35).bind fun t279 => (some t279)) = some true := by rw [if_pos rfl] at H; exact H
                      clear H
                      have H := H1
                      clear H1
                      replace H := Option.bind_eq_some_iff.mp H
                      obtain ⟨t279, A400, H⟩ := H
                      replace H : (some t279) = some true := H
                      have A40 := Aside0.mk A400
                      clear A400
                      have H9_ := Option.some.inj H
                      clear H
                      go_wp2_with (first | ((with_reducible refine gate_callee (f := 15) rfl ?_); refine goesL_ (some 64) rfl rfl Try.func15 (by kernel_rfl) rfl #[] rfl (by (try simp only [List.map_toArray, List.map_cons, List.map_nil]); first | done | rfl | (simp only [List.length_drop, List.length_take]; rfl)) ?_; (with_reducible refine (klaxonlaw17_live.calls kj35  t279 _ A40.out).mono ?_); rintro e w41 ⟨rfl, hb⟩; refine ⟨_, rfl, ?_⟩; have n0_ := Aside0.mk (blk_below (g := gb258) (o := .cells #[.int .i64 0, .int .i64 a0, .int .i64 1, .int .i64 1] 27 (0, 0)) (by (with_reducible repeat (first | refine blk_drewN ?_ _ | refine blk_drew ?_ | refine blk_alloc ?_ _)); exact BK258.out) hb); have n1_ := Aside0.mk (blk_below (g := gb275) (o := .cells #[.int .i64 x276000_2, .int .i64 x276001_2, .int .i64 x276002_2, .int .i64 x276003_2, .int .i64 x276004_2, .int .i64 x276005_2, .int .i64 x276006_2] 25 (0, 0)) (by (with_reducible repeat (first | refine blk_drewN ?_ _ | refine blk_drew ?_ | refine blk_alloc ?_ _)); exact BK275.out) hb); have n2_ := Aside0.mk (below_step (by repeat (first | (with_reducible first | exact HB.out | apply below_alloc | apply pw_below_drewN | apply below_drew1 | refine below_set ?_ GE258.out | refine below_set ?_ GE275.out) | exact HB.out)) hb); clear BK258; clear BK275; clear HB; have BK258 := n0_; have BK275 := n1_; have HB := n2_; clear n0_ n1_ n2_; (try clear hb); (try clear hb2); (try clear hk); (try clear hi)))
                      go_ret
                      exact ⟨by first | rfl | (simp [errW_none, errW_some] <;> rfl) | (simp [*, errW_none, errW_some] <;> rfl), by repeat (first | (with_reducible first | exact HB.out | apply below_alloc | apply pw_below_drewN | apply below_drew1 | refine below_set ?_ GE258.out | refine below_set ?_ GE275.out) | exact HB.out)⟩
                    · replace c39 := Bool.eq_false_iff.mpr c39
                      subst c39
                      have H1 : (if 0 ≤ x12_2 then (if x12_2 < (l2.length : Int) then (if x12_2 = a3 then ((klaxonref08_Num.f 1).bind fun bt281 => ((state_Step.f x276000_2 x276001_2 x276002_2 x276003_2 x276004_2 x276005_2 x276006_2 0 a0 1 1 2 bt281.1 bt281.2 (wrap64 (x1_2 + (rd l2 x12_2)))).bind fun bt283 => (if bt283.1 = 3 then (klaxonlaw17_StateQuiet.j3 kj35 a0 (wrap64 (x1_2 + (rd l2 x12_2))) l2 a3 (-1) x12_2 (bt283.2.2.2.1 != (-1)) 0 a0 1 1 bt283.1 bt283.2.1 bt283.2.2.1 bt283.2.2.2.1 bt283.2.2.2.2.1 bt283.2.2.2.2.2.1 bt283.2.2.2.2.2.2) else (klaxonlaw17_StateQuiet.j3 kj35 a0 (wrap64 (x1_2 + (rd l2 x12_2))) l2 a3 (-1) x12_2 true 0 a0 1 1 bt283.1 bt283.2.1 bt283.2.2.1 bt283.2.2.2.1 bt283.2.2.2.2.1 bt283.2.2.2.2.2.1 bt283.2.2.2.2.2.2)))) else ((klaxonref08_Num.f 0).bind fun bt290 => ((state_Step.f x276000_2 x276001_2 x276002_2 x276003_2 x276004_2 x276005_2 x276006_2 0 a0 1 1 1 bt290.1 bt290.2 (wrap64 (x1_2 + (rd l2 x12_2)))).bind fun bt292 => (if x276000_2 = 1 then (if bt292.1 = 1 then ((klaxonlaw17_live.f kj35).bind fun t299 => (some t299)) else (some false)) else (if x11_2 < 0 then (klaxonlaw17_StateQuiet.j4 kj35 a0 (wrap64 (x1_2 + (rd l2 x12_2))) l2 a3 (wrap64 (x1_2 + (rd l2 x12_2))) x12_2 0 a0 1 1 bt292.1 bt292.2.1 bt292.2.2.1 bt292.2.2.2.1 bt292.2.2.2.2.1 bt292.2.2.2.2.2.1 bt292.2.2.2.2.2.2) else (klaxonlaw17_StateQuiet.j4 kj35 a0 (wrap64 (x1_2 + (rd l2 x12_2))) l2 a3 x11_2 x12_2 0 a0 1 1 bt292.1 bt292.2.1 bt292.2.2.1 bt292.2.2.2.1 bt292.2.2.2.2.1 bt292.2.2.2.2.2.1 bt292.2.2.2.2.2.2)))))) else (none)) else (none)) = some true := by rw [if_neg (show ¬ (false = true) by decide)] at H; exact H
                      clear H
                      have H := H1
                      clear H1
                      by_cases c42 : 0 ≤ x12_2
                      · rw [if_pos c42] at H
                        have c42b0 : decide (0 ≤ x12_2) = true := decide_eq_true c42
                        clear c42
                        by_cases c43 : x12_2 < (l2.length : Int)
                        · rw [if_pos c43] at H
                          have c43b0 : decide (x12_2 < (l2.length : Int)) = true := decide_eq_true c43
                          clear c43
                          by_cases c44 : x12_2 = a3
                          · rw [if_pos c44] at H
                            have c44b0 : (x12_2 == a3) = true := beq_iff_eq.mpr c44
                            have c44b1 : (x12_2 != a3) = false := bne_eq_false_iff_eq.mpr c44
                            clear c44
                            replace H := Option.bind_eq_some_iff.mp H
                            obtain ⟨⟨t281, t282⟩, A450, H⟩ := H
                            replace H : ((state_Step.f x276000_2 x276001_2 x276002_2 x276003_2 x276004_2 x276005_2 x276006_2 0 a0 1 1 2 t281 t282 (wrap64 (x1_2 + (rd l2 x12_2)))).bind fun bt283 => (if bt283.1 = 3 then (klaxonlaw17_StateQuiet.j3 kj35 a0 (wrap64 (x1_2 + (rd l2 x12_2))) l2 a3 (-1) x12_2 (bt283.2.2.2.1 != (-1)) 0 a0 1 1 bt283.1 bt283.2.1 bt283.2.2.1 bt283.2.2.2.1 bt283.2.2.2.2.1 bt283.2.2.2.2.2.1 bt283.2.2.2.2.2.2) else (klaxonlaw17_StateQuiet.j3 kj35 a0 (wrap64 (x1_2 + (rd l2 x12_2))) l2 a3 (-1) x12_2 true 0 a0 1 1 bt283.1 bt283.2.1 bt283.2.2.1 bt283.2.2.2.1 bt283.2.2.2.2.1 bt283.2.2.2.2.2.1 bt283.2.2.2.2.2.2))) = some true := H
                            have A45 := Aside0.mk A450
                            clear A450
                            replace H := Option.bind_eq_some_iff.mp H
                            obtain ⟨⟨t283, t284, t285, t286, t287, t288, t289⟩, A460, H⟩ := H
                            replace H : (if t283 = 3 then (klaxonlaw17_StateQuiet.j3 kj35 a0 (wrap64 (x1_2 + (rd l2 x12_2))) l2 a3 (-1) x12_2 (t286 != (-1)) 0 a0 1 1 t283 t284 t285 t286 t287 t288 t289) else (klaxonlaw17_StateQuiet.j3 kj35 a0 (wrap64 (x1_2 + (rd l2 x12_2))) l2 a3 (-1) x12_2 true 0 a0 1 1 t283 t284 t285 t286 t287 t288 t289)) = some true := H
                            have A46 := Aside0.mk A460
                            clear A460
                            have HC47 := Aside0.mk H
                            clear H
                            have p280 : 0 ≤ (x12_2 : Int) := of_decide_eq_true (by first | (with_reducible assumption) | assumption)
                            have q280 : x12_2 < (l2.length : Int) := of_decide_eq_true (by first | (with_reducible assumption) | assumption)
                            obtain ⟨ad280, e280, hx280_0⟩ := Kd.at_int HR2.out x12_2 p280 q280
                            cases e280
                            replace hx280_0 := (HB.out.cell (World.block_lt_of_cell? w _ hx280_0)).trans hx280_0
                            replace p280 := eq_true p280
                            replace q280 := eq_true q280
                            try go_wp2
                            have n0_ := Aside0.mk (blk_drew BK258.out)
                            have n1_ := Aside0.mk (blk_drew BK275.out)
                            have n2_ := Aside0.mk (below_drew1 HB.out)
                            clear BK258
                            clear BK275
                            clear HB
                            have BK258 := n0_
                            have BK275 := n1_
                            have HB := n2_
                            clear n0_ n1_ n2_
                            refine start_ (n := 6) (S := fun w' => w'.cell? ⟨gb275, 0, none⟩ = some (.int .i64 x276000_2) ∧ w'.cell? ⟨gb275, 1, none⟩ = some (.int .i64 x276001_2) ∧ w'.cell? ⟨gb275, 2, none⟩ = some (.int .i64 x276002_2) ∧ w'.cell? ⟨gb275, 3, none⟩ = some (.int .i64 x276003_2) ∧ w'.cell? ⟨gb275, 4, none⟩ = some (.int .i64 x276004_2) ∧ w'.cell? ⟨gb275, 5, none⟩ = some (.int .i64 x276005_2) ∧ w'.cell? ⟨gb275, 6, none⟩ = some (.int .i64 x276006_2) ∧ w'.cell? ⟨gb258, 0, none⟩ = some (.int .i64 0) ∧ w'.cell? ⟨gb258, 1, none⟩ = some (.int .i64 a0) ∧ w'.cell? ⟨gb258, 2, none⟩ = some (.int .i64 1) ∧ w'.cell? ⟨gb258, 3, none⟩ = some (.int .i64 1)) (ds := [5]) #[false, false, false, false, false, false] (by kernel_rfl) rfl rfl ⟨(blk_cell BK275.out 0).trans rfl, (blk_cell BK275.out 1).trans rfl, (blk_cell BK275.out 2).trans rfl, (blk_cell BK275.out 3).trans rfl, (blk_cell BK275.out 4).trans rfl, (blk_cell BK275.out 5).trans rfl, (blk_cell BK275.out 6).trans rfl, (blk_cell BK258.out 0).trans rfl, (blk_cell BK258.out 1).trans rfl, (blk_cell BK258.out 2).trans rfl, (blk_cell BK258.out 3).trans rfl⟩ (fun hHeld => ?_)
                            generalize wc.drew = w48 at BK258 BK275 HB hHeld ⊢
                            refine pure_ (i := 3) (N := some 77) (v := ?_) (a' := ?_) #[false, false, false, true, false, false] rfl rfl (by kernel_rfl) (fun _ _ _ h => h) (Or.inl ⟨by rfl, ?_⟩) ?_ ?_
                            rotate_left
                            · intro w'
                              go_simp
                              with_reducible rfl
                            rotate_left
                            · simp only [Act.put, List.setIfInBounds_toArray, List.set_cons_zero, List.set_cons_succ, i64_w, i32_w]
                              rfl
                            refine take_ (i := 0) (N := some 74) (v := ?_) (a' := ?_) #[true, false, false, true, false, false] rfl rfl (by kernel_rfl) (fun _ _ _ h => h) (Or.inl ⟨by rfl, ?_⟩) hHeld ?_ ?_
                            rotate_left
                            · rintro w' ⟨s0, s1, s2, s3, s4, s5, s6, s7, s8, s9, s10⟩
                              go_simp
                              with_reducible rfl
                            rotate_left
                            · simp only [Act.put, List.setIfInBounds_toArray, List.set_cons_zero, List.set_cons_succ, i64_w, i32_w]
                              rfl
                            refine take_ (i := 1) (N := some 75) (v := ?_) (a' := ?_) #[true, true, false, true, false, false] rfl rfl (by kernel_rfl) (fun _ _ _ h => h) (Or.inl ⟨by rfl, ?_⟩) hHeld ?_ ?_
                            rotate_left
                            · rintro w' ⟨s0, s1, s2, s3, s4, s5, s6, s7, s8, s9, s10⟩
                              go_simp
                              with_reducible rfl
                            rotate_left
                            · simp only [Act.put, List.setIfInBounds_toArray, List.set_cons_zero, List.set_cons_succ, i64_w, i32_w]
                              rfl
                            refine one_ (i := 2) (N := some 76) #[true, true, true, true, false, false] rfl rfl (by kernel_rfl) (by decide) (fun K hK => ?_)
                            refine goes_ Try.func26 (by kernel_rfl) rfl #[.int .i64 1] (by rfl) rfl rfl (by (try simp only [List.map_toArray, List.map_cons, List.map_nil]); first | done | rfl | (simp only [List.length_drop, List.length_take]; rfl)) ?_
                            with_reducible refine (klaxonref08_Num.calls 1 t281 t282 _ A45.out).mono ?_
                            rintro e w49 ⟨rfl, hb⟩
                            refine ⟨_, rfl, ?_⟩
                            have n0_ := Aside0.mk (blk_below (g := gb258) (o := .cells #[.int .i64 0, .int .i64 a0, .int .i64 1, .int .i64 1] 27 (0, 0)) (by (with_reducible repeat (first | refine blk_drewN ?_ _ | refine blk_drew ?_ | refine blk_alloc ?_ _)); exact BK258.out) hb)
                            have n1_ := Aside0.mk (blk_below (g := gb275) (o := .cells #[.int .i64 x276000_2, .int .i64 x276001_2, .int .i64 x276002_2, .int .i64 x276003_2, .int .i64 x276004_2, .int .i64 x276005_2, .int .i64 x276006_2] 25 (0, 0)) (by (with_reducible repeat (first | refine blk_drewN ?_ _ | refine blk_drew ?_ | refine blk_alloc ?_ _)); exact BK275.out) hb)
                            have n2_ := Aside0.mk (below_step (by repeat (first | (with_reducible first | exact HB.out | apply below_alloc | apply pw_below_drewN | apply below_drew1 | refine below_set ?_ GE258.out | refine below_set ?_ GE275.out) | exact HB.out)) hb)
                            clear BK258
                            clear BK275
                            clear HB
                            have BK258 := n0_
                            have BK275 := n1_
                            have HB := n2_
                            clear n0_ n1_ n2_
                            (try clear hb)
                            (try clear hb2)
                            (try clear hk)
                            (try clear hi)
                            refine hK.out _ _ ⟨(blk_cell BK275.out 0).trans rfl, (blk_cell BK275.out 1).trans rfl, (blk_cell BK275.out 2).trans rfl, (blk_cell BK275.out 3).trans rfl, (blk_cell BK275.out 4).trans rfl, (blk_cell BK275.out 5).trans rfl, (blk_cell BK275.out 6).trans rfl, (blk_cell BK258.out 0).trans rfl, (blk_cell BK258.out 1).trans rfl, (blk_cell BK258.out 2).trans rfl, (blk_cell BK258.out 3).trans rfl⟩ (fun hHeld => ?_)
                            clear hK K
                            refine norm_ (a' := ?_) ?_ ?_
                            rotate_left
                            · show Act.put _ (some 76) _ = _
                              simp only [Act.put, List.setIfInBounds_toArray, List.set_cons_zero, List.set_cons_succ, i64_w, i32_w]
                              rfl
                            refine one_ (i := 4) (N := some 78) #[true, true, true, true, true, false] rfl rfl (by kernel_rfl) (by decide) (fun K hK => ?_)
                            refine goes_ Try.func23 (by kernel_rfl) rfl #[.agg #[.int .i64 x276000_2, .int .i64 x276001_2, .int .i64 x276002_2, .int .i64 x276003_2, .int .i64 x276004_2, .int .i64 x276005_2, .int .i64 x276006_2], .agg #[.int .i64 0, .int .i64 a0, .int .i64 1, .int .i64 1], .int .i64 2, .agg #[.int .i64 t281, .int .i64 t282], .int .i64 (wrap64 (x1_2 + (rd l2 x12_2)))] (by rfl) rfl rfl (by (try simp only [List.map_toArray, List.map_cons, List.map_nil]); first | done | rfl | (simp only [List.length_drop, List.length_take]; rfl)) ?_
                            with_reducible refine (state_Step.calls x276000_2 x276001_2 x276002_2 x276003_2 x276004_2 x276005_2 x276006_2 0 a0 1 1 2 t281 t282 (wrap64 (x1_2 + (rd l2 x12_2))) t283 t284 t285 t286 t287 t288 t289 _ A46.out).mono ?_
                            rintro e w50 ⟨rfl, hb⟩
                            refine ⟨_, rfl, ?_⟩
                            have n0_ := Aside0.mk (blk_below (g := gb258) (o := .cells #[.int .i64 0, .int .i64 a0, .int .i64 1, .int .i64 1] 27 (0, 0)) (by (with_reducible repeat (first | refine blk_drewN ?_ _ | refine blk_drew ?_ | refine blk_alloc ?_ _)); exact BK258.out) hb)
                            have n1_ := Aside0.mk (blk_below (g := gb275) (o := .cells #[.int .i64 x276000_2, .int .i64 x276001_2, .int .i64 x276002_2, .int .i64 x276003_2, .int .i64 x276004_2, .int .i64 x276005_2, .int .i64 x276006_2] 25 (0, 0)) (by (with_reducible repeat (first | refine blk_drewN ?_ _ | refine blk_drew ?_ | refine blk_alloc ?_ _)); exact BK275.out) hb)
                            have n2_ := Aside0.mk (below_step (by repeat (first | (with_reducible first | exact HB.out | apply below_alloc | apply pw_below_drewN | apply below_drew1 | refine below_set ?_ GE258.out | refine below_set ?_ GE275.out) | exact HB.out)) hb)
                            clear BK258
                            clear BK275
                            clear HB
                            have BK258 := n0_
                            have BK275 := n1_
                            have HB := n2_
                            clear n0_ n1_ n2_
                            (try clear hb)
                            (try clear hb2)
                            (try clear hk)
                            (try clear hi)
                            refine hK.out _ _ ⟨(blk_cell BK275.out 0).trans rfl, (blk_cell BK275.out 1).trans rfl, (blk_cell BK275.out 2).trans rfl, (blk_cell BK275.out 3).trans rfl, (blk_cell BK275.out 4).trans rfl, (blk_cell BK275.out 5).trans rfl, (blk_cell BK275.out 6).trans rfl, (blk_cell BK258.out 0).trans rfl, (blk_cell BK258.out 1).trans rfl, (blk_cell BK258.out 2).trans rfl, (blk_cell BK258.out 3).trans rfl⟩ (fun hHeld => ?_)
                            clear hK K
                            refine norm_ (a' := ?_) ?_ ?_
                            rotate_left
                            · show Act.put _ (some 78) _ = _
                              simp only [Act.put, List.setIfInBounds_toArray, List.set_cons_zero, List.set_cons_succ, i64_w, i32_w]
                              rfl
                            refine last_ (i := 5) (N := none) #[true, true, true, true, true, true] rfl rfl (by kernel_rfl) (by decide) (fun K hK => ?_)
                            have hs51 : w50.cell? ⟨gb275, 0, none⟩ = some (.int .i64 x276000_2) := (blk_cell BK275.out 0).trans rfl
                            have hfs51 := blk_frozen BK275.out 0
                            have hns51_0 := NB258_275.out
                            have hms51_0 := NB275_258.out
                            have hs52 : w50.cell? ⟨gb275, 1, none⟩ = some (.int .i64 x276001_2) := (blk_cell BK275.out 1).trans rfl
                            have hfs52 := blk_frozen BK275.out 1
                            have hns52_0 := NB258_275.out
                            have hms52_0 := NB275_258.out
                            have hs53 : w50.cell? ⟨gb275, 2, none⟩ = some (.int .i64 x276002_2) := (blk_cell BK275.out 2).trans rfl
                            have hfs53 := blk_frozen BK275.out 2
                            have hns53_0 := NB258_275.out
                            have hms53_0 := NB275_258.out
                            have hs54 : w50.cell? ⟨gb275, 3, none⟩ = some (.int .i64 x276003_2) := (blk_cell BK275.out 3).trans rfl
                            have hfs54 := blk_frozen BK275.out 3
                            have hns54_0 := NB258_275.out
                            have hms54_0 := NB275_258.out
                            have hs55 : w50.cell? ⟨gb275, 4, none⟩ = some (.int .i64 x276004_2) := (blk_cell BK275.out 4).trans rfl
                            have hfs55 := blk_frozen BK275.out 4
                            have hns55_0 := NB258_275.out
                            have hms55_0 := NB275_258.out
                            have hs56 : w50.cell? ⟨gb275, 5, none⟩ = some (.int .i64 x276005_2) := (blk_cell BK275.out 5).trans rfl
                            have hfs56 := blk_frozen BK275.out 5
                            have hns56_0 := NB258_275.out
                            have hms56_0 := NB275_258.out
                            have hs57 : w50.cell? ⟨gb275, 6, none⟩ = some (.int .i64 x276006_2) := (blk_cell BK275.out 6).trans rfl
                            have hfs57 := blk_frozen BK275.out 6
                            have hns57_0 := NB258_275.out
                            have hms57_0 := NB275_258.out
                            refine skip_ (w1 := ?_) (by rfl) rfl ?_ ?_
                            rotate_left
                            · go_simp
                              rfl
                            refine hK.out _ _ ?_
                            clear hK K
                            refine done_ (by kernel_rfl) ?_
                            go_upto_region 17 with (fail)
                            go_cut [86] (fun v86 wc => ∃ (kq : Nat) (x86_46 : Bool), v86 = .bool x86_46 ∧ Aside0 (klaxonlaw17_StateQuiet.j3 kq a0 (wrap64 (x1_2 + (rd l2 x12_2))) l2 a3 (-1) x12_2 x86_46 0 a0 1 1 t283 t284 t285 t286 t287 t288 t289 = some true) ∧ Aside0 (kq ≤ kj35) ∧ Aside0 (wc.heap[gb258]? = some (.cells #[.int .i64 0, .int .i64 a0, .int .i64 1, .int .i64 1] 27 (0, 0))) ∧ Aside0 (wc.heap[gb275]? = some (.cells #[.int .i64 t283, .int .i64 t284, .int .i64 t285, .int .i64 t286, .int .i64 t287, .int .i64 t288, .int .i64 t289] 25 (0, 0))) ∧ Aside0 (Below w.heap.size w wc))
                            case first =>
                              have H := HC47.out
                              clear HC47
                              by_cases c58 : t283 = 3
                              · rw [if_pos c58] at H
                                have c58b0 : (t283 == 3) = true := beq_iff_eq.mpr c58
                                have c58b1 : (t283 != 3) = false := bne_eq_false_iff_eq.mpr c58
                                clear c58
                                (first | rw [c58b0] | (simp only [i64_w, i32_w]; rw [c58b0]) | skip)
                                have H' := Aside0.mk H
                                clear H
                                have hnb59 := NB275_258.out
                                have hnc59 := NB258_275.out
                                have hcz60_0 : w50.cell? ⟨gb275, 0, none⟩ = some (.int .i64 x276000_2) := (blk_cell BK275.out 0).trans rfl
                                have hcz60_1 : w50.cell? ⟨gb275, 1, none⟩ = some (.int .i64 x276001_2) := (blk_cell BK275.out 1).trans rfl
                                have hcz60_2 : w50.cell? ⟨gb275, 2, none⟩ = some (.int .i64 x276002_2) := (blk_cell BK275.out 2).trans rfl
                                have hcz60_3 : w50.cell? ⟨gb275, 3, none⟩ = some (.int .i64 x276003_2) := (blk_cell BK275.out 3).trans rfl
                                have hcz60_4 : w50.cell? ⟨gb275, 4, none⟩ = some (.int .i64 x276004_2) := (blk_cell BK275.out 4).trans rfl
                                have hcz60_5 : w50.cell? ⟨gb275, 5, none⟩ = some (.int .i64 x276005_2) := (blk_cell BK275.out 5).trans rfl
                                have hcz60_6 : w50.cell? ⟨gb275, 6, none⟩ = some (.int .i64 x276006_2) := (blk_cell BK275.out 6).trans rfl
                                have hfz60_0 := blk_frozen BK275.out 0
                                have hfz60_1 := blk_frozen BK275.out 1
                                have hfz60_2 := blk_frozen BK275.out 2
                                have hfz60_3 := blk_frozen BK275.out 3
                                have hfz60_4 := blk_frozen BK275.out 4
                                have hfz60_5 := blk_frozen BK275.out 5
                                have hfz60_6 := blk_frozen BK275.out 6
                                go_wp2
                                go_meet
                                case rel => exact ⟨_, ((t286 != (-1))), (by first | rfl | (simp; done) | (simp [*]; done)), H', ⟨by have := HJ4.out; have := HK2.out; have := HJ35.out; first | omega | exact Nat.le_refl _⟩, ⟨by (with_reducible repeat (first | refine blk_drewN ?_ _ | refine blk_drew ?_ | refine blk_alloc ?_ _)); refine blk_far ?_ NB258_275.out _; (with_reducible repeat (first | refine blk_drewN ?_ _ | refine blk_drew ?_ | refine blk_alloc ?_ _)); refine blk_far ?_ NB258_275.out _; (with_reducible repeat (first | refine blk_drewN ?_ _ | refine blk_drew ?_ | refine blk_alloc ?_ _)); refine blk_far ?_ NB258_275.out _; (with_reducible repeat (first | refine blk_drewN ?_ _ | refine blk_drew ?_ | refine blk_alloc ?_ _)); refine blk_far ?_ NB258_275.out _; (with_reducible repeat (first | refine blk_drewN ?_ _ | refine blk_drew ?_ | refine blk_alloc ?_ _)); refine blk_far ?_ NB258_275.out _; (with_reducible repeat (first | refine blk_drewN ?_ _ | refine blk_drew ?_ | refine blk_alloc ?_ _)); refine blk_far ?_ NB258_275.out _; (with_reducible repeat (first | refine blk_drewN ?_ _ | refine blk_drew ?_ | refine blk_alloc ?_ _)); refine blk_far ?_ NB258_275.out _; (with_reducible repeat (first | refine blk_drewN ?_ _ | refine blk_drew ?_ | refine blk_alloc ?_ _)); exact BK258.out⟩, ⟨by (with_reducible repeat (first | refine blk_drewN ?_ _ | refine blk_drew ?_ | refine blk_alloc ?_ _)); refine blk_put (cs := #[.int .i64 t283, .int .i64 t284, .int .i64 t285, .int .i64 t286, .int .i64 t287, .int .i64 t288, .int .i64 x276006_2]) ?_ 6 _ rfl; (with_reducible repeat (first | refine blk_drewN ?_ _ | refine blk_drew ?_ | refine blk_alloc ?_ _)); refine blk_put (cs := #[.int .i64 t283, .int .i64 t284, .int .i64 t285, .int .i64 t286, .int .i64 t287, .int .i64 x276005_2, .int .i64 x276006_2]) ?_ 5 _ rfl; (with_reducible repeat (first | refine blk_drewN ?_ _ | refine blk_drew ?_ | refine blk_alloc ?_ _)); refine blk_put (cs := #[.int .i64 t283, .int .i64 t284, .int .i64 t285, .int .i64 t286, .int .i64 x276004_2, .int .i64 x276005_2, .int .i64 x276006_2]) ?_ 4 _ rfl; (with_reducible repeat (first | refine blk_drewN ?_ _ | refine blk_drew ?_ | refine blk_alloc ?_ _)); refine blk_put (cs := #[.int .i64 t283, .int .i64 t284, .int .i64 t285, .int .i64 x276003_2, .int .i64 x276004_2, .int .i64 x276005_2, .int .i64 x276006_2]) ?_ 3 _ rfl; (with_reducible repeat (first | refine blk_drewN ?_ _ | refine blk_drew ?_ | refine blk_alloc ?_ _)); refine blk_put (cs := #[.int .i64 t283, .int .i64 t284, .int .i64 x276002_2, .int .i64 x276003_2, .int .i64 x276004_2, .int .i64 x276005_2, .int .i64 x276006_2]) ?_ 2 _ rfl; (with_reducible repeat (first | refine blk_drewN ?_ _ | refine blk_drew ?_ | refine blk_alloc ?_ _)); refine blk_put (cs := #[.int .i64 t283, .int .i64 x276001_2, .int .i64 x276002_2, .int .i64 x276003_2, .int .i64 x276004_2, .int .i64 x276005_2, .int .i64 x276006_2]) ?_ 1 _ rfl; (with_reducible repeat (first | refine blk_drewN ?_ _ | refine blk_drew ?_ | refine blk_alloc ?_ _)); refine blk_put (cs := #[.int .i64 x276000_2, .int .i64 x276001_2, .int .i64 x276002_2, .int .i64 x276003_2, .int .i64 x276004_2, .int .i64 x276005_2, .int .i64 x276006_2]) ?_ 0 _ rfl; (with_reducible repeat (first | refine blk_drewN ?_ _ | refine blk_drew ?_ | refine blk_alloc ?_ _)); exact BK275.out⟩, ⟨by repeat (first | (with_reducible first | exact HB.out | apply below_alloc | apply pw_below_drewN | apply below_drew1 | refine below_set ?_ GE258.out | refine below_set ?_ GE275.out) | exact HB.out)⟩⟩
                              · rw [if_neg c58] at H
                                have c58b0 : (t283 == 3) = false := beq_eq_false_iff_ne.mpr c58
                                have c58b1 : (t283 != 3) = true := bne_iff_ne.mpr c58
                                (first | rw [c58b0] | (simp only [i64_w, i32_w]; rw [c58b0]) | skip)
                                have H' := Aside0.mk H
                                clear H
                                have hnb61 := NB275_258.out
                                have hnc61 := NB258_275.out
                                have hcz62_0 : w50.cell? ⟨gb275, 0, none⟩ = some (.int .i64 x276000_2) := (blk_cell BK275.out 0).trans rfl
                                have hcz62_1 : w50.cell? ⟨gb275, 1, none⟩ = some (.int .i64 x276001_2) := (blk_cell BK275.out 1).trans rfl
                                have hcz62_2 : w50.cell? ⟨gb275, 2, none⟩ = some (.int .i64 x276002_2) := (blk_cell BK275.out 2).trans rfl
                                have hcz62_3 : w50.cell? ⟨gb275, 3, none⟩ = some (.int .i64 x276003_2) := (blk_cell BK275.out 3).trans rfl
                                have hcz62_4 : w50.cell? ⟨gb275, 4, none⟩ = some (.int .i64 x276004_2) := (blk_cell BK275.out 4).trans rfl
                                have hcz62_5 : w50.cell? ⟨gb275, 5, none⟩ = some (.int .i64 x276005_2) := (blk_cell BK275.out 5).trans rfl
                                have hcz62_6 : w50.cell? ⟨gb275, 6, none⟩ = some (.int .i64 x276006_2) := (blk_cell BK275.out 6).trans rfl
                                have hfz62_0 := blk_frozen BK275.out 0
                                have hfz62_1 := blk_frozen BK275.out 1
                                have hfz62_2 := blk_frozen BK275.out 2
                                have hfz62_3 := blk_frozen BK275.out 3
                                have hfz62_4 := blk_frozen BK275.out 4
                                have hfz62_5 := blk_frozen BK275.out 5
                                have hfz62_6 := blk_frozen BK275.out 6
                                go_wp2
                                go_meet
                                case rel => exact ⟨_, (true), (by first | rfl | (simp; done) | (simp [*]; done)), H', ⟨by have := HJ4.out; have := HK2.out; have := HJ35.out; first | omega | exact Nat.le_refl _⟩, ⟨by (with_reducible repeat (first | refine blk_drewN ?_ _ | refine blk_drew ?_ | refine blk_alloc ?_ _)); refine blk_far ?_ NB258_275.out _; (with_reducible repeat (first | refine blk_drewN ?_ _ | refine blk_drew ?_ | refine blk_alloc ?_ _)); refine blk_far ?_ NB258_275.out _; (with_reducible repeat (first | refine blk_drewN ?_ _ | refine blk_drew ?_ | refine blk_alloc ?_ _)); refine blk_far ?_ NB258_275.out _; (with_reducible repeat (first | refine blk_drewN ?_ _ | refine blk_drew ?_ | refine blk_alloc ?_ _)); refine blk_far ?_ NB258_275.out _; (with_reducible repeat (first | refine blk_drewN ?_ _ | refine blk_drew ?_ | refine blk_alloc ?_ _)); refine blk_far ?_ NB258_275.out _; (with_reducible repeat (first | refine blk_drewN ?_ _ | refine blk_drew ?_ | refine blk_alloc ?_ _)); refine blk_far ?_ NB258_275.out _; (with_reducible repeat (first | refine blk_drewN ?_ _ | refine blk_drew ?_ | refine blk_alloc ?_ _)); refine blk_far ?_ NB258_275.out _; (with_reducible repeat (first | refine blk_drewN ?_ _ | refine blk_drew ?_ | refine blk_alloc ?_ _)); exact BK258.out⟩, ⟨by (with_reducible repeat (first | refine blk_drewN ?_ _ | refine blk_drew ?_ | refine blk_alloc ?_ _)); refine blk_put (cs := #[.int .i64 t283, .int .i64 t284, .int .i64 t285, .int .i64 t286, .int .i64 t287, .int .i64 t288, .int .i64 x276006_2]) ?_ 6 _ rfl; (with_reducible repeat (first | refine blk_drewN ?_ _ | refine blk_drew ?_ | refine blk_alloc ?_ _)); refine blk_put (cs := #[.int .i64 t283, .int .i64 t284, .int .i64 t285, .int .i64 t286, .int .i64 t287, .int .i64 x276005_2, .int .i64 x276006_2]) ?_ 5 _ rfl; (with_reducible repeat (first | refine blk_drewN ?_ _ | refine blk_drew ?_ | refine blk_alloc ?_ _)); refine blk_put (cs := #[.int .i64 t283, .int .i64 t284, .int .i64 t285, .int .i64 t286, .int .i64 x276004_2, .int .i64 x276005_2, .int .i64 x276006_2]) ?_ 4 _ rfl; (with_reducible repeat (first | refine blk_drewN ?_ _ | refine blk_drew ?_ | refine blk_alloc ?_ _)); refine blk_put (cs := #[.int .i64 t283, .int .i64 t284, .int .i64 t285, .int .i64 x276003_2, .int .i64 x276004_2, .int .i64 x276005_2, .int .i64 x276006_2]) ?_ 3 _ rfl; (with_reducible repeat (first | refine blk_drewN ?_ _ | refine blk_drew ?_ | refine blk_alloc ?_ _)); refine blk_put (cs := #[.int .i64 t283, .int .i64 t284, .int .i64 x276002_2, .int .i64 x276003_2, .int .i64 x276004_2, .int .i64 x276005_2, .int .i64 x276006_2]) ?_ 2 _ rfl; (with_reducible repeat (first | refine blk_drewN ?_ _ | refine blk_drew ?_ | refine blk_alloc ?_ _)); refine blk_put (cs := #[.int .i64 t283, .int .i64 x276001_2, .int .i64 x276002_2, .int .i64 x276003_2, .int .i64 x276004_2, .int .i64 x276005_2, .int .i64 x276006_2]) ?_ 1 _ rfl; (with_reducible repeat (first | refine blk_drewN ?_ _ | refine blk_drew ?_ | refine blk_alloc ?_ _)); refine blk_put (cs := #[.int .i64 x276000_2, .int .i64 x276001_2, .int .i64 x276002_2, .int .i64 x276003_2, .int .i64 x276004_2, .int .i64 x276005_2, .int .i64 x276006_2]) ?_ 0 _ rfl; (with_reducible repeat (first | refine blk_drewN ?_ _ | refine blk_drew ?_ | refine blk_alloc ?_ _)); exact BK275.out⟩, ⟨by repeat (first | (with_reducible first | exact HB.out | apply below_alloc | apply pw_below_drewN | apply below_drew1 | refine below_set ?_ GE258.out | refine below_set ?_ GE275.out) | exact HB.out)⟩⟩
                            case rest =>
                              clear HC47
                              try clear c1
                              try clear c2
                              try clear p2
                              try clear q2
                              try clear hx2
                              try clear c3
                              try clear c4
                              try clear c5
                              try clear c6
                              try clear c6b0
                              try clear p6
                              try clear c7
                              try clear c7b0
                              try clear c8
                              try clear c8b0
                              try clear c9
                              try clear c9b0
                              try clear c10
                              try clear c15
                              try clear c16
                              try clear c16b0
                              try clear c16b1
                              try clear c19
                              try clear c23
                              try clear c26
                              try clear p27
                              try clear q27
                              try clear hx27
                              try clear p28
                              try clear q28
                              try clear hx28
                              try clear c33
                              try clear c35
                              try clear c35b0
                              try clear c37
                              try clear c37b0
                              try clear c38
                              try clear c38b0
                              try clear c39
                              try clear c42
                              try clear c42b0
                              try clear c43
                              try clear c43b0
                              try clear c44
                              try clear c44b0
                              try clear c44b1
                              try clear c58
                              try clear c58b0
                              try clear c58b1
                              try clear c59
                              try clear c61
                              try clear hcz18_0
                              try clear hcz18_1
                              try clear hcz18_2
                              try clear hcz18_3
                              try clear hcz34_0
                              try clear hcz34_1
                              try clear hcz34_2
                              try clear hcz34_3
                              try clear hcz34_4
                              try clear hcz34_5
                              try clear hcz34_6
                              try clear hcz60_0
                              try clear hcz60_1
                              try clear hcz60_2
                              try clear hcz60_3
                              try clear hcz60_4
                              try clear hcz60_5
                              try clear hcz60_6
                              try clear hcz62_0
                              try clear hcz62_1
                              try clear hcz62_2
                              try clear hcz62_3
                              try clear hcz62_4
                              try clear hcz62_5
                              try clear hcz62_6
                              try clear hfz18_0
                              try clear hfz18_1
                              try clear hfz18_2
                              try clear hfz18_3
                              try clear hfz34_0
                              try clear hfz34_1
                              try clear hfz34_2
                              try clear hfz34_3
                              try clear hfz34_4
                              try clear hfz34_5
                              try clear hfz34_6
                              try clear hfz60_0
                              try clear hfz60_1
                              try clear hfz60_2
                              try clear hfz60_3
                              try clear hfz60_4
                              try clear hfz60_5
                              try clear hfz60_6
                              try clear hfz62_0
                              try clear hfz62_1
                              try clear hfz62_2
                              try clear hfz62_3
                              try clear hfz62_4
                              try clear hfz62_5
                              try clear hfz62_6
                              try clear hx277_0
                              try clear hx278_0
                              try clear hx280_0
                              try clear p2
                              try clear p27
                              try clear p277
                              try clear p278
                              try clear p280
                              try clear q2
                              try clear q27
                              try clear q277
                              try clear q278
                              try clear q280
                              obtain ⟨kq, x86_46, rfl, HA, HJ46, BK258, BK275, HB⟩ := hcut
                              cases kq with
                              | zero => exact absurd HA.out (by simp [klaxonlaw17_StateQuiet.j3])
                              | succ kj46 =>
                                have H := HA.out
                                clear HA
                                simp only [klaxonlaw17_StateQuiet.j3] at H
                                by_cases c63 : x86_46 = true
                                · subst c63
                                  have H1 : (some false) = some true := by rw [if_pos rfl] at H; exact H
                                  clear H
                                  have H := H1
                                  clear H1
                                  exact absurd H (by simp)
                                · replace c63 := Bool.eq_false_iff.mpr c63
                                  subst c63
                                  have H1 : (klaxonlaw17_StateQuiet.l0 kj46 a0 (wrap64 (x1_2 + (rd l2 x12_2))) l2 a3 (-1) (wrap64 (x12_2 + 1)) 0 a0 1 1 t283 t284 t285 t286 t287 t288 t289) = some true := by rw [if_neg (show ¬ (false = true) by decide)] at H; exact H
                                  clear H
                                  have H := H1
                                  clear H1
                                  have H' := Aside0.mk H
                                  clear H
                                  go_wp2
                                  go_roundg kj46
                                  case measure => have := HJ4.out; have := HK2.out; have := HJ35.out; have := HJ46.out; omega
                                  case rel => exact ⟨((wrap64 (x1_2 + (rd l2 x12_2)))), ((-1)), (wrap64 (x12_2 + 1)), (t283), (t284), (t285), (t286), (t287), (t288), (t289), (by first | rfl | (simp; done) | (simp [*]; done)), (by first | rfl | (simp; done) | (simp [*]; done)), (by first | rfl | (simp; done) | (simp [*]; done)), H', ⟨by have := HJ4.out; have := HK2.out; have := HJ35.out; have := HJ46.out; omega⟩, ⟨by (with_reducible repeat (first | refine blk_drewN ?_ _ | refine blk_drew ?_ | refine blk_alloc ?_ _)); exact BK258.out⟩, ⟨by (with_reducible repeat (first | refine blk_drewN ?_ _ | refine blk_drew ?_ | refine blk_alloc ?_ _)); exact BK275.out⟩, ⟨by repeat (first | (with_reducible first | exact HB.out | apply below_alloc | apply pw_below_drewN | apply below_drew1 | refine below_set ?_ GE258.out | refine below_set ?_ GE275.out) | exact HB.out)⟩⟩
                          · rw [if_neg c44] at H
                            have c44b0 : (x12_2 == a3) = false := beq_eq_false_iff_ne.mpr c44
                            have c44b1 : (x12_2 != a3) = true := bne_iff_ne.mpr c44
                            replace H := Option.bind_eq_some_iff.mp H
                            obtain ⟨⟨t290, t291⟩, A640, H⟩ := H
                            replace H : ((state_Step.f x276000_2 x276001_2 x276002_2 x276003_2 x276004_2 x276005_2 x276006_2 0 a0 1 1 1 t290 t291 (wrap64 (x1_2 + (rd l2 x12_2)))).bind fun bt292 => (if x276000_2 = 1 then (if bt292.1 = 1 then ((klaxonlaw17_live.f kj35).bind fun t299 => (some t299)) else (some false)) else (if x11_2 < 0 then (klaxonlaw17_StateQuiet.j4 kj35 a0 (wrap64 (x1_2 + (rd l2 x12_2))) l2 a3 (wrap64 (x1_2 + (rd l2 x12_2))) x12_2 0 a0 1 1 bt292.1 bt292.2.1 bt292.2.2.1 bt292.2.2.2.1 bt292.2.2.2.2.1 bt292.2.2.2.2.2.1 bt292.2.2.2.2.2.2) else (klaxonlaw17_StateQuiet.j4 kj35 a0 (wrap64 (x1_2 + (rd l2 x12_2))) l2 a3 x11_2 x12_2 0 a0 1 1 bt292.1 bt292.2.1 bt292.2.2.1 bt292.2.2.2.1 bt292.2.2.2.2.1 bt292.2.2.2.2.2.1 bt292.2.2.2.2.2.2)))) = some true := H
                            have A64 := Aside0.mk A640
                            clear A640
                            replace H := Option.bind_eq_some_iff.mp H
                            obtain ⟨⟨t292, t293, t294, t295, t296, t297, t298⟩, A650, H⟩ := H
                            replace H : (if x276000_2 = 1 then (if t292 = 1 then ((klaxonlaw17_live.f kj35).bind fun t299 => (some t299)) else (some false)) else (if x11_2 < 0 then (klaxonlaw17_StateQuiet.j4 kj35 a0 (wrap64 (x1_2 + (rd l2 x12_2))) l2 a3 (wrap64 (x1_2 + (rd l2 x12_2))) x12_2 0 a0 1 1 t292 t293 t294 t295 t296 t297 t298) else (klaxonlaw17_StateQuiet.j4 kj35 a0 (wrap64 (x1_2 + (rd l2 x12_2))) l2 a3 x11_2 x12_2 0 a0 1 1 t292 t293 t294 t295 t296 t297 t298))) = some true := H
                            have A65 := Aside0.mk A650
                            clear A650
                            by_cases c66 : x276000_2 = 1
                            · rw [if_pos c66] at H
                              have c66b0 : (x276000_2 == 1) = true := beq_iff_eq.mpr c66
                              have c66b1 : (x276000_2 != 1) = false := bne_eq_false_iff_eq.mpr c66
                              clear c66
                              by_cases c67 : t292 = 1
                              · rw [if_pos c67] at H
                                have c67b0 : (t292 == 1) = true := beq_iff_eq.mpr c67
                                have c67b1 : (t292 != 1) = false := bne_eq_false_iff_eq.mpr c67
                                clear c67
                                replace H := Option.bind_eq_some_iff.mp H
                                obtain ⟨t299, A680, H⟩ := H
                                replace H : (some t299) = some true := H
                                have A68 := Aside0.mk A680
                                clear A680
                                have H9_ := Option.some.inj H
                                clear H
                                have p280 : 0 ≤ (x12_2 : Int) := of_decide_eq_true (by first | (with_reducible assumption) | assumption)
                                have q280 : x12_2 < (l2.length : Int) := of_decide_eq_true (by first | (with_reducible assumption) | assumption)
                                obtain ⟨ad280, e280, hx280_0⟩ := Kd.at_int HR2.out x12_2 p280 q280
                                cases e280
                                replace hx280_0 := (HB.out.cell (World.block_lt_of_cell? w _ hx280_0)).trans hx280_0
                                replace p280 := eq_true p280
                                replace q280 := eq_true q280
                                have hnb69 := NB275_258.out
                                have hnc69 := NB258_275.out
                                have hcz70_0 : wc.cell? ⟨gb275, 0, none⟩ = some (.int .i64 x276000_2) := (blk_cell BK275.out 0).trans rfl
                                have hcz70_1 : wc.cell? ⟨gb275, 1, none⟩ = some (.int .i64 x276001_2) := (blk_cell BK275.out 1).trans rfl
                                have hcz70_2 : wc.cell? ⟨gb275, 2, none⟩ = some (.int .i64 x276002_2) := (blk_cell BK275.out 2).trans rfl
                                have hcz70_3 : wc.cell? ⟨gb275, 3, none⟩ = some (.int .i64 x276003_2) := (blk_cell BK275.out 3).trans rfl
                                have hcz70_4 : wc.cell? ⟨gb275, 4, none⟩ = some (.int .i64 x276004_2) := (blk_cell BK275.out 4).trans rfl
                                have hcz70_5 : wc.cell? ⟨gb275, 5, none⟩ = some (.int .i64 x276005_2) := (blk_cell BK275.out 5).trans rfl
                                have hcz70_6 : wc.cell? ⟨gb275, 6, none⟩ = some (.int .i64 x276006_2) := (blk_cell BK275.out 6).trans rfl
                                have hfz70_0 := blk_frozen BK275.out 0
                                have hfz70_1 := blk_frozen BK275.out 1
                                have hfz70_2 := blk_frozen BK275.out 2
                                have hfz70_3 := blk_frozen BK275.out 3
                                have hfz70_4 := blk_frozen BK275.out 4
                                have hfz70_5 := blk_frozen BK275.out 5
                                have hfz70_6 := blk_frozen BK275.out 6
                                try go_wp2
                                have n0_ := Aside0.mk (blk_drew BK258.out)
                                have n1_ := Aside0.mk (blk_drew BK275.out)
                                have n2_ := Aside0.mk (below_drew1 HB.out)
                                clear BK258
                                clear BK275
                                clear HB
                                have BK258 := n0_
                                have BK275 := n1_
                                have HB := n2_
                                clear n0_ n1_ n2_
                                refine start_ (n := 6) (S := fun w' => w'.cell? ⟨gb275, 0, none⟩ = some (.int .i64 x276000_2) ∧ w'.cell? ⟨gb275, 1, none⟩ = some (.int .i64 x276001_2) ∧ w'.cell? ⟨gb275, 2, none⟩ = some (.int .i64 x276002_2) ∧ w'.cell? ⟨gb275, 3, none⟩ = some (.int .i64 x276003_2) ∧ w'.cell? ⟨gb275, 4, none⟩ = some (.int .i64 x276004_2) ∧ w'.cell? ⟨gb275, 5, none⟩ = some (.int .i64 x276005_2) ∧ w'.cell? ⟨gb275, 6, none⟩ = some (.int .i64 x276006_2) ∧ w'.cell? ⟨gb258, 0, none⟩ = some (.int .i64 0) ∧ w'.cell? ⟨gb258, 1, none⟩ = some (.int .i64 a0) ∧ w'.cell? ⟨gb258, 2, none⟩ = some (.int .i64 1) ∧ w'.cell? ⟨gb258, 3, none⟩ = some (.int .i64 1)) (ds := [5]) #[false, false, false, false, false, false] (by kernel_rfl) rfl rfl ⟨(blk_cell BK275.out 0).trans rfl, (blk_cell BK275.out 1).trans rfl, (blk_cell BK275.out 2).trans rfl, (blk_cell BK275.out 3).trans rfl, (blk_cell BK275.out 4).trans rfl, (blk_cell BK275.out 5).trans rfl, (blk_cell BK275.out 6).trans rfl, (blk_cell BK258.out 0).trans rfl, (blk_cell BK258.out 1).trans rfl, (blk_cell BK258.out 2).trans rfl, (blk_cell BK258.out 3).trans rfl⟩ (fun hHeld => ?_)
                                generalize wc.drew = w71 at BK258 BK275 HB hHeld ⊢
                                refine pure_ (i := 3) (N := some 92) (v := ?_) (a' := ?_) #[false, false, false, true, false, false] rfl rfl (by kernel_rfl) (fun _ _ _ h => h) (Or.inl ⟨by rfl, ?_⟩) ?_ ?_
                                rotate_left
                                · intro w'
                                  go_simp
                                  with_reducible rfl
                                rotate_left
                                · simp only [Act.put, List.setIfInBounds_toArray, List.set_cons_zero, List.set_cons_succ, i64_w, i32_w]
                                  rfl
                                refine take_ (i := 0) (N := some 89) (v := ?_) (a' := ?_) #[true, false, false, true, false, false] rfl rfl (by kernel_rfl) (fun _ _ _ h => h) (Or.inl ⟨by rfl, ?_⟩) hHeld ?_ ?_
                                rotate_left
                                · rintro w' ⟨s0, s1, s2, s3, s4, s5, s6, s7, s8, s9, s10⟩
                                  go_simp
                                  with_reducible rfl
                                rotate_left
                                · simp only [Act.put, List.setIfInBounds_toArray, List.set_cons_zero, List.set_cons_succ, i64_w, i32_w]
                                  rfl
                                refine take_ (i := 1) (N := some 90) (v := ?_) (a' := ?_) #[true, true, false, true, false, false] rfl rfl (by kernel_rfl) (fun _ _ _ h => h) (Or.inl ⟨by rfl, ?_⟩) hHeld ?_ ?_
                                rotate_left
                                · rintro w' ⟨s0, s1, s2, s3, s4, s5, s6, s7, s8, s9, s10⟩
                                  go_simp
                                  with_reducible rfl
                                rotate_left
                                · simp only [Act.put, List.setIfInBounds_toArray, List.set_cons_zero, List.set_cons_succ, i64_w, i32_w]
                                  rfl
                                refine one_ (i := 2) (N := some 91) #[true, true, true, true, false, false] rfl rfl (by kernel_rfl) (by decide) (fun K hK => ?_)
                                refine goes_ Try.func26 (by kernel_rfl) rfl #[.int .i64 0] (by rfl) rfl rfl (by (try simp only [List.map_toArray, List.map_cons, List.map_nil]); first | done | rfl | (simp only [List.length_drop, List.length_take]; rfl)) ?_
                                with_reducible refine (klaxonref08_Num.calls 0 t290 t291 _ A64.out).mono ?_
                                rintro e w72 ⟨rfl, hb⟩
                                refine ⟨_, rfl, ?_⟩
                                have n0_ := Aside0.mk (blk_below (g := gb258) (o := .cells #[.int .i64 0, .int .i64 a0, .int .i64 1, .int .i64 1] 27 (0, 0)) (by (with_reducible repeat (first | refine blk_drewN ?_ _ | refine blk_drew ?_ | refine blk_alloc ?_ _)); exact BK258.out) hb)
                                have n1_ := Aside0.mk (blk_below (g := gb275) (o := .cells #[.int .i64 x276000_2, .int .i64 x276001_2, .int .i64 x276002_2, .int .i64 x276003_2, .int .i64 x276004_2, .int .i64 x276005_2, .int .i64 x276006_2] 25 (0, 0)) (by (with_reducible repeat (first | refine blk_drewN ?_ _ | refine blk_drew ?_ | refine blk_alloc ?_ _)); exact BK275.out) hb)
                                have n2_ := Aside0.mk (below_step (by repeat (first | (with_reducible first | exact HB.out | apply below_alloc | apply pw_below_drewN | apply below_drew1 | refine below_set ?_ GE258.out | refine below_set ?_ GE275.out) | exact HB.out)) hb)
                                clear BK258
                                clear BK275
                                clear HB
                                have BK258 := n0_
                                have BK275 := n1_
                                have HB := n2_
                                clear n0_ n1_ n2_
                                (try clear hb)
                                (try clear hb2)
                                (try clear hk)
                                (try clear hi)
                                refine hK.out _ _ ⟨(blk_cell BK275.out 0).trans rfl, (blk_cell BK275.out 1).trans rfl, (blk_cell BK275.out 2).trans rfl, (blk_cell BK275.out 3).trans rfl, (blk_cell BK275.out 4).trans rfl, (blk_cell BK275.out 5).trans rfl, (blk_cell BK275.out 6).trans rfl, (blk_cell BK258.out 0).trans rfl, (blk_cell BK258.out 1).trans rfl, (blk_cell BK258.out 2).trans rfl, (blk_cell BK258.out 3).trans rfl⟩ (fun hHeld => ?_)
                                clear hK K
                                refine norm_ (a' := ?_) ?_ ?_
                                rotate_left
                                · show Act.put _ (some 91) _ = _
                                  simp only [Act.put, List.setIfInBounds_toArray, List.set_cons_zero, List.set_cons_succ, i64_w, i32_w]
                                  rfl
                                refine one_ (i := 4) (N := some 93) #[true, true, true, true, true, false] rfl rfl (by kernel_rfl) (by decide) (fun K hK => ?_)
                                refine goes_ Try.func23 (by kernel_rfl) rfl #[.agg #[.int .i64 x276000_2, .int .i64 x276001_2, .int .i64 x276002_2, .int .i64 x276003_2, .int .i64 x276004_2, .int .i64 x276005_2, .int .i64 x276006_2], .agg #[.int .i64 0, .int .i64 a0, .int .i64 1, .int .i64 1], .int .i64 1, .agg #[.int .i64 t290, .int .i64 t291], .int .i64 (wrap64 (x1_2 + (rd l2 x12_2)))] (by rfl) rfl rfl (by (try simp only [List.map_toArray, List.map_cons, List.map_nil]); first | done | rfl | (simp only [List.length_drop, List.length_take]; rfl)) ?_
                                with_reducible refine (state_Step.calls x276000_2 x276001_2 x276002_2 x276003_2 x276004_2 x276005_2 x276006_2 0 a0 1 1 1 t290 t291 (wrap64 (x1_2 + (rd l2 x12_2))) t292 t293 t294 t295 t296 t297 t298 _ A65.out).mono ?_
                                rintro e w73 ⟨rfl, hb⟩
                                refine ⟨_, rfl, ?_⟩
                                have n0_ := Aside0.mk (blk_below (g := gb258) (o := .cells #[.int .i64 0, .int .i64 a0, .int .i64 1, .int .i64 1] 27 (0, 0)) (by (with_reducible repeat (first | refine blk_drewN ?_ _ | refine blk_drew ?_ | refine blk_alloc ?_ _)); exact BK258.out) hb)
                                have n1_ := Aside0.mk (blk_below (g := gb275) (o := .cells #[.int .i64 x276000_2, .int .i64 x276001_2, .int .i64 x276002_2, .int .i64 x276003_2, .int .i64 x276004_2, .int .i64 x276005_2, .int .i64 x276006_2] 25 (0, 0)) (by (with_reducible repeat (first | refine blk_drewN ?_ _ | refine blk_drew ?_ | refine blk_alloc ?_ _)); exact BK275.out) hb)
                                have n2_ := Aside0.mk (below_step (by repeat (first | (with_reducible first | exact HB.out | apply below_alloc | apply pw_below_drewN | apply below_drew1 | refine below_set ?_ GE258.out | refine below_set ?_ GE275.out) | exact HB.out)) hb)
                                clear BK258
                                clear BK275
                                clear HB
                                have BK258 := n0_
                                have BK275 := n1_
                                have HB := n2_
                                clear n0_ n1_ n2_
                                (try clear hb)
                                (try clear hb2)
                                (try clear hk)
                                (try clear hi)
                                refine hK.out _ _ ⟨(blk_cell BK275.out 0).trans rfl, (blk_cell BK275.out 1).trans rfl, (blk_cell BK275.out 2).trans rfl, (blk_cell BK275.out 3).trans rfl, (blk_cell BK275.out 4).trans rfl, (blk_cell BK275.out 5).trans rfl, (blk_cell BK275.out 6).trans rfl, (blk_cell BK258.out 0).trans rfl, (blk_cell BK258.out 1).trans rfl, (blk_cell BK258.out 2).trans rfl, (blk_cell BK258.out 3).trans rfl⟩ (fun hHeld => ?_)
                                clear hK K
                                refine norm_ (a' := ?_) ?_ ?_
                                rotate_left
                                · show Act.put _ (some 93) _ = _
                                  simp only [Act.put, List.setIfInBounds_toArray, List.set_cons_zero, List.set_cons_succ, i64_w, i32_w]
                                  rfl
                                refine last_ (i := 5) (N := none) #[true, true, true, true, true, true] rfl rfl (by kernel_rfl) (by decide) (fun K hK => ?_)
                                have hs74 : w73.cell? ⟨gb275, 0, none⟩ = some (.int .i64 x276000_2) := (blk_cell BK275.out 0).trans rfl
                                have hfs74 := blk_frozen BK275.out 0
                                have hns74_0 := NB258_275.out
                                have hms74_0 := NB275_258.out
                                have hs75 : w73.cell? ⟨gb275, 1, none⟩ = some (.int .i64 x276001_2) := (blk_cell BK275.out 1).trans rfl
                                have hfs75 := blk_frozen BK275.out 1
                                have hns75_0 := NB258_275.out
                                have hms75_0 := NB275_258.out
                                have hs76 : w73.cell? ⟨gb275, 2, none⟩ = some (.int .i64 x276002_2) := (blk_cell BK275.out 2).trans rfl
                                have hfs76 := blk_frozen BK275.out 2
                                have hns76_0 := NB258_275.out
                                have hms76_0 := NB275_258.out
                                have hs77 : w73.cell? ⟨gb275, 3, none⟩ = some (.int .i64 x276003_2) := (blk_cell BK275.out 3).trans rfl
                                have hfs77 := blk_frozen BK275.out 3
                                have hns77_0 := NB258_275.out
                                have hms77_0 := NB275_258.out
                                have hs78 : w73.cell? ⟨gb275, 4, none⟩ = some (.int .i64 x276004_2) := (blk_cell BK275.out 4).trans rfl
                                have hfs78 := blk_frozen BK275.out 4
                                have hns78_0 := NB258_275.out
                                have hms78_0 := NB275_258.out
                                have hs79 : w73.cell? ⟨gb275, 5, none⟩ = some (.int .i64 x276005_2) := (blk_cell BK275.out 5).trans rfl
                                have hfs79 := blk_frozen BK275.out 5
                                have hns79_0 := NB258_275.out
                                have hms79_0 := NB275_258.out
                                have hs80 : w73.cell? ⟨gb275, 6, none⟩ = some (.int .i64 x276006_2) := (blk_cell BK275.out 6).trans rfl
                                have hfs80 := blk_frozen BK275.out 6
                                have hns80_0 := NB258_275.out
                                have hms80_0 := NB275_258.out
                                refine skip_ (w1 := ?_) (by rfl) rfl ?_ ?_
                                rotate_left
                                · go_simp
                                  rfl
                                refine hK.out _ _ ?_
                                clear hK K
                                refine done_ (by kernel_rfl) ?_
                                have hcz81_0 : w73.cell? ⟨gb275, 0, none⟩ = some (.int .i64 x276000_2) := (blk_cell BK275.out 0).trans rfl
                                have hcz81_1 : w73.cell? ⟨gb275, 1, none⟩ = some (.int .i64 x276001_2) := (blk_cell BK275.out 1).trans rfl
                                have hcz81_2 : w73.cell? ⟨gb275, 2, none⟩ = some (.int .i64 x276002_2) := (blk_cell BK275.out 2).trans rfl
                                have hcz81_3 : w73.cell? ⟨gb275, 3, none⟩ = some (.int .i64 x276003_2) := (blk_cell BK275.out 3).trans rfl
                                have hcz81_4 : w73.cell? ⟨gb275, 4, none⟩ = some (.int .i64 x276004_2) := (blk_cell BK275.out 4).trans rfl
                                have hcz81_5 : w73.cell? ⟨gb275, 5, none⟩ = some (.int .i64 x276005_2) := (blk_cell BK275.out 5).trans rfl
                                have hcz81_6 : w73.cell? ⟨gb275, 6, none⟩ = some (.int .i64 x276006_2) := (blk_cell BK275.out 6).trans rfl
                                have hfz81_0 := blk_frozen BK275.out 0
                                have hfz81_1 := blk_frozen BK275.out 1
                                have hfz81_2 := blk_frozen BK275.out 2
                                have hfz81_3 := blk_frozen BK275.out 3
                                have hfz81_4 := blk_frozen BK275.out 4
                                have hfz81_5 := blk_frozen BK275.out 5
                                have hfz81_6 := blk_frozen BK275.out 6
                                try go_wp2_with (first | (go_at_call 15; (with_reducible refine (klaxonlaw17_live.calls kj35  t299 _ A68.out).mono ?_); rintro e w82 ⟨rfl, hb⟩; have n0_ := Aside0.mk (blk_below (g := gb258) (o := .cells #[.int .i64 0, .int .i64 a0, .int .i64 1, .int .i64 1] 27 (0, 0)) (by (with_reducible repeat (first | refine blk_drewN ?_ _ | refine blk_drew ?_ | refine blk_alloc ?_ _)); refine blk_far ?_ NB258_275.out _; (with_reducible repeat (first | refine blk_drewN ?_ _ | refine blk_drew ?_ | refine blk_alloc ?_ _)); refine blk_far ?_ NB258_275.out _; (with_reducible repeat (first | refine blk_drewN ?_ _ | refine blk_drew ?_ | refine blk_alloc ?_ _)); refine blk_far ?_ NB258_275.out _; (with_reducible repeat (first | refine blk_drewN ?_ _ | refine blk_drew ?_ | refine blk_alloc ?_ _)); refine blk_far ?_ NB258_275.out _; (with_reducible repeat (first | refine blk_drewN ?_ _ | refine blk_drew ?_ | refine blk_alloc ?_ _)); refine blk_far ?_ NB258_275.out _; (with_reducible repeat (first | refine blk_drewN ?_ _ | refine blk_drew ?_ | refine blk_alloc ?_ _)); refine blk_far ?_ NB258_275.out _; (with_reducible repeat (first | refine blk_drewN ?_ _ | refine blk_drew ?_ | refine blk_alloc ?_ _)); refine blk_far ?_ NB258_275.out _; (with_reducible repeat (first | refine blk_drewN ?_ _ | refine blk_drew ?_ | refine blk_alloc ?_ _)); exact BK258.out) hb); have n1_ := Aside0.mk (blk_below (g := gb275) (o := .cells #[.int .i64 t292, .int .i64 t293, .int .i64 t294, .int .i64 t295, .int .i64 t296, .int .i64 t297, .int .i64 t298] 25 (0, 0)) (by (with_reducible repeat (first | refine blk_drewN ?_ _ | refine blk_drew ?_ | refine blk_alloc ?_ _)); refine blk_put (cs := #[.int .i64 t292, .int .i64 t293, .int .i64 t294, .int .i64 t295, .int .i64 t296, .int .i64 t297, .int .i64 x276006_2]) ?_ 6 _ rfl; (with_reducible repeat (first | refine blk_drewN ?_ _ | refine blk_drew ?_ | refine blk_alloc ?_ _)); refine blk_put (cs := #[.int .i64 t292, .int .i64 t293, .int .i64 t294, .int .i64 t295, .int .i64 t296, .int .i64 x276005_2, .int .i64 x276006_2]) ?_ 5 _ rfl; (with_reducible repeat (first | refine blk_drewN ?_ _ | refine blk_drew ?_ | refine blk_alloc ?_ _)); refine blk_put (cs := #[.int .i64 t292, .int .i64 t293, .int .i64 t294, .int .i64 t295, .int .i64 x276004_2, .int .i64 x276005_2, .int .i64 x276006_2]) ?_ 4 _ rfl; (with_reducible repeat (first | refine blk_drewN ?_ _ | refine blk_drew ?_ | refine blk_alloc ?_ _)); refine blk_put (cs := #[.int .i64 t292, .int .i64 t293, .int .i64 t294, .int .i64 x276003_2, .int .i64 x276004_2, .int .i64 x276005_2, .int .i64 x276006_2]) ?_ 3 _ rfl; (with_reducible repeat (first | refine blk_drewN ?_ _ | refine blk_drew ?_ | refine blk_alloc ?_ _)); refine blk_put (cs := #[.int .i64 t292, .int .i64 t293, .int .i64 x276002_2, .int .i64 x276003_2, .int .i64 x276004_2, .int .i64 x276005_2, .int .i64 x276006_2]) ?_ 2 _ rfl; (with_reducible repeat (first | refine blk_drewN ?_ _ | refine blk_drew ?_ | refine blk_alloc ?_ _)); refine blk_put (cs := #[.int .i64 t292, .int .i64 x276001_2, .int .i64 x276002_2, .int .i64 x276003_2, .int .i64 x276004_2, .int .i64 x276005_2, .int .i64 x276006_2]) ?_ 1 _ rfl; (with_reducible repeat (first | refine blk_drewN ?_ _ | refine blk_drew ?_ | refine blk_alloc ?_ _)); refine blk_put (cs := #[.int .i64 x276000_2, .int .i64 x276001_2, .int .i64 x276002_2, .int .i64 x276003_2, .int .i64 x276004_2, .int .i64 x276005_2, .int .i64 x276006_2]) ?_ 0 _ rfl; (with_reducible repeat (first | refine blk_drewN ?_ _ | refine blk_drew ?_ | refine blk_alloc ?_ _)); exact BK275.out) hb); have n2_ := Aside0.mk (below_step (by repeat (first | (with_reducible first | exact HB.out | apply below_alloc | apply pw_below_drewN | apply below_drew1 | refine below_set ?_ GE258.out | refine below_set ?_ GE275.out) | exact HB.out)) hb); clear BK258; clear BK275; clear HB; have BK258 := n0_; have BK275 := n1_; have HB := n2_; clear n0_ n1_ n2_; (try clear hb); (try clear hb2); (try clear hk); (try clear hi)))
                                go_ret
                                exact ⟨by first | rfl | (simp [errW_none, errW_some] <;> rfl) | (simp [*, errW_none, errW_some] <;> rfl), by repeat (first | (with_reducible first | exact HB.out | apply below_alloc | apply pw_below_drewN | apply below_drew1 | refine below_set ?_ GE258.out | refine below_set ?_ GE275.out) | exact HB.out)⟩
                              · rw [if_neg c67] at H
                                have c67b0 : (t292 == 1) = false := beq_eq_false_iff_ne.mpr c67
                                have c67b1 : (t292 != 1) = true := bne_iff_ne.mpr c67
                                exact absurd H (by simp)
                            · rw [if_neg c66] at H
                              have c66b0 : (x276000_2 == 1) = false := beq_eq_false_iff_ne.mpr c66
                              have c66b1 : (x276000_2 != 1) = true := bne_iff_ne.mpr c66
                              have HC83 := Aside0.mk H
                              clear H
                              have p280 : 0 ≤ (x12_2 : Int) := of_decide_eq_true (by first | (with_reducible assumption) | assumption)
                              have q280 : x12_2 < (l2.length : Int) := of_decide_eq_true (by first | (with_reducible assumption) | assumption)
                              obtain ⟨ad280, e280, hx280_0⟩ := Kd.at_int HR2.out x12_2 p280 q280
                              cases e280
                              replace hx280_0 := (HB.out.cell (World.block_lt_of_cell? w _ hx280_0)).trans hx280_0
                              replace p280 := eq_true p280
                              replace q280 := eq_true q280
                              have hnb84 := NB275_258.out
                              have hnc84 := NB258_275.out
                              have hcz85_0 : wc.cell? ⟨gb275, 0, none⟩ = some (.int .i64 x276000_2) := (blk_cell BK275.out 0).trans rfl
                              have hcz85_1 : wc.cell? ⟨gb275, 1, none⟩ = some (.int .i64 x276001_2) := (blk_cell BK275.out 1).trans rfl
                              have hcz85_2 : wc.cell? ⟨gb275, 2, none⟩ = some (.int .i64 x276002_2) := (blk_cell BK275.out 2).trans rfl
                              have hcz85_3 : wc.cell? ⟨gb275, 3, none⟩ = some (.int .i64 x276003_2) := (blk_cell BK275.out 3).trans rfl
                              have hcz85_4 : wc.cell? ⟨gb275, 4, none⟩ = some (.int .i64 x276004_2) := (blk_cell BK275.out 4).trans rfl
                              have hcz85_5 : wc.cell? ⟨gb275, 5, none⟩ = some (.int .i64 x276005_2) := (blk_cell BK275.out 5).trans rfl
                              have hcz85_6 : wc.cell? ⟨gb275, 6, none⟩ = some (.int .i64 x276006_2) := (blk_cell BK275.out 6).trans rfl
                              have hfz85_0 := blk_frozen BK275.out 0
                              have hfz85_1 := blk_frozen BK275.out 1
                              have hfz85_2 := blk_frozen BK275.out 2
                              have hfz85_3 := blk_frozen BK275.out 3
                              have hfz85_4 := blk_frozen BK275.out 4
                              have hfz85_5 := blk_frozen BK275.out 5
                              have hfz85_6 := blk_frozen BK275.out 6
                              try go_wp2
                              have n0_ := Aside0.mk (blk_drew BK258.out)
                              have n1_ := Aside0.mk (blk_drew BK275.out)
                              have n2_ := Aside0.mk (below_drew1 HB.out)
                              clear BK258
                              clear BK275
                              clear HB
                              have BK258 := n0_
                              have BK275 := n1_
                              have HB := n2_
                              clear n0_ n1_ n2_
                              refine start_ (n := 6) (S := fun w' => w'.cell? ⟨gb275, 0, none⟩ = some (.int .i64 x276000_2) ∧ w'.cell? ⟨gb275, 1, none⟩ = some (.int .i64 x276001_2) ∧ w'.cell? ⟨gb275, 2, none⟩ = some (.int .i64 x276002_2) ∧ w'.cell? ⟨gb275, 3, none⟩ = some (.int .i64 x276003_2) ∧ w'.cell? ⟨gb275, 4, none⟩ = some (.int .i64 x276004_2) ∧ w'.cell? ⟨gb275, 5, none⟩ = some (.int .i64 x276005_2) ∧ w'.cell? ⟨gb275, 6, none⟩ = some (.int .i64 x276006_2) ∧ w'.cell? ⟨gb258, 0, none⟩ = some (.int .i64 0) ∧ w'.cell? ⟨gb258, 1, none⟩ = some (.int .i64 a0) ∧ w'.cell? ⟨gb258, 2, none⟩ = some (.int .i64 1) ∧ w'.cell? ⟨gb258, 3, none⟩ = some (.int .i64 1)) (ds := [5]) #[false, false, false, false, false, false] (by kernel_rfl) rfl rfl ⟨(blk_cell BK275.out 0).trans rfl, (blk_cell BK275.out 1).trans rfl, (blk_cell BK275.out 2).trans rfl, (blk_cell BK275.out 3).trans rfl, (blk_cell BK275.out 4).trans rfl, (blk_cell BK275.out 5).trans rfl, (blk_cell BK275.out 6).trans rfl, (blk_cell BK258.out 0).trans rfl, (blk_cell BK258.out 1).trans rfl, (blk_cell BK258.out 2).trans rfl, (blk_cell BK258.out 3).trans rfl⟩ (fun hHeld => ?_)
                              generalize wc.drew = w86 at BK258 BK275 HB hHeld ⊢
                              refine pure_ (i := 3) (N := some 92) (v := ?_) (a' := ?_) #[false, false, false, true, false, false] rfl rfl (by kernel_rfl) (fun _ _ _ h => h) (Or.inl ⟨by rfl, ?_⟩) ?_ ?_
                              rotate_left
                              · intro w'
                                go_simp
                                with_reducible rfl
                              rotate_left
                              · simp only [Act.put, List.setIfInBounds_toArray, List.set_cons_zero, List.set_cons_succ, i64_w, i32_w]
                                rfl
                              refine take_ (i := 0) (N := some 89) (v := ?_) (a' := ?_) #[true, false, false, true, false, false] rfl rfl (by kernel_rfl) (fun _ _ _ h => h) (Or.inl ⟨by rfl, ?_⟩) hHeld ?_ ?_
                              rotate_left
                              · rintro w' ⟨s0, s1, s2, s3, s4, s5, s6, s7, s8, s9, s10⟩
                                go_simp
                                with_reducible rfl
                              rotate_left
                              · simp only [Act.put, List.setIfInBounds_toArray, List.set_cons_zero, List.set_cons_succ, i64_w, i32_w]
                                rfl
                              refine take_ (i := 1) (N := some 90) (v := ?_) (a' := ?_) #[true, true, false, true, false, false] rfl rfl (by kernel_rfl) (fun _ _ _ h => h) (Or.inl ⟨by rfl, ?_⟩) hHeld ?_ ?_
                              rotate_left
                              · rintro w' ⟨s0, s1, s2, s3, s4, s5, s6, s7, s8, s9, s10⟩
                                go_simp
                                with_reducible rfl
                              rotate_left
                              · simp only [Act.put, List.setIfInBounds_toArray, List.set_cons_zero, List.set_cons_succ, i64_w, i32_w]
                                rfl
                              refine one_ (i := 2) (N := some 91) #[true, true, true, true, false, false] rfl rfl (by kernel_rfl) (by decide) (fun K hK => ?_)
                              refine goes_ Try.func26 (by kernel_rfl) rfl #[.int .i64 0] (by rfl) rfl rfl (by (try simp only [List.map_toArray, List.map_cons, List.map_nil]); first | done | rfl | (simp only [List.length_drop, List.length_take]; rfl)) ?_
                              with_reducible refine (klaxonref08_Num.calls 0 t290 t291 _ A64.out).mono ?_
                              rintro e w87 ⟨rfl, hb⟩
                              refine ⟨_, rfl, ?_⟩
                              have n0_ := Aside0.mk (blk_below (g := gb258) (o := .cells #[.int .i64 0, .int .i64 a0, .int .i64 1, .int .i64 1] 27 (0, 0)) (by (with_reducible repeat (first | refine blk_drewN ?_ _ | refine blk_drew ?_ | refine blk_alloc ?_ _)); exact BK258.out) hb)
                              have n1_ := Aside0.mk (blk_below (g := gb275) (o := .cells #[.int .i64 x276000_2, .int .i64 x276001_2, .int .i64 x276002_2, .int .i64 x276003_2, .int .i64 x276004_2, .int .i64 x276005_2, .int .i64 x276006_2] 25 (0, 0)) (by (with_reducible repeat (first | refine blk_drewN ?_ _ | refine blk_drew ?_ | refine blk_alloc ?_ _)); exact BK275.out) hb)
                              have n2_ := Aside0.mk (below_step (by repeat (first | (with_reducible first | exact HB.out | apply below_alloc | apply pw_below_drewN | apply below_drew1 | refine below_set ?_ GE258.out | refine below_set ?_ GE275.out) | exact HB.out)) hb)
                              clear BK258
                              clear BK275
                              clear HB
                              have BK258 := n0_
                              have BK275 := n1_
                              have HB := n2_
                              clear n0_ n1_ n2_
                              (try clear hb)
                              (try clear hb2)
                              (try clear hk)
                              (try clear hi)
                              refine hK.out _ _ ⟨(blk_cell BK275.out 0).trans rfl, (blk_cell BK275.out 1).trans rfl, (blk_cell BK275.out 2).trans rfl, (blk_cell BK275.out 3).trans rfl, (blk_cell BK275.out 4).trans rfl, (blk_cell BK275.out 5).trans rfl, (blk_cell BK275.out 6).trans rfl, (blk_cell BK258.out 0).trans rfl, (blk_cell BK258.out 1).trans rfl, (blk_cell BK258.out 2).trans rfl, (blk_cell BK258.out 3).trans rfl⟩ (fun hHeld => ?_)
                              clear hK K
                              refine norm_ (a' := ?_) ?_ ?_
                              rotate_left
                              · show Act.put _ (some 91) _ = _
                                simp only [Act.put, List.setIfInBounds_toArray, List.set_cons_zero, List.set_cons_succ, i64_w, i32_w]
                                rfl
                              refine one_ (i := 4) (N := some 93) #[true, true, true, true, true, false] rfl rfl (by kernel_rfl) (by decide) (fun K hK => ?_)
                              refine goes_ Try.func23 (by kernel_rfl) rfl #[.agg #[.int .i64 x276000_2, .int .i64 x276001_2, .int .i64 x276002_2, .int .i64 x276003_2, .int .i64 x276004_2, .int .i64 x276005_2, .int .i64 x276006_2], .agg #[.int .i64 0, .int .i64 a0, .int .i64 1, .int .i64 1], .int .i64 1, .agg #[.int .i64 t290, .int .i64 t291], .int .i64 (wrap64 (x1_2 + (rd l2 x12_2)))] (by rfl) rfl rfl (by (try simp only [List.map_toArray, List.map_cons, List.map_nil]); first | done | rfl | (simp only [List.length_drop, List.length_take]; rfl)) ?_
                              with_reducible refine (state_Step.calls x276000_2 x276001_2 x276002_2 x276003_2 x276004_2 x276005_2 x276006_2 0 a0 1 1 1 t290 t291 (wrap64 (x1_2 + (rd l2 x12_2))) t292 t293 t294 t295 t296 t297 t298 _ A65.out).mono ?_
                              rintro e w88 ⟨rfl, hb⟩
                              refine ⟨_, rfl, ?_⟩
                              have n0_ := Aside0.mk (blk_below (g := gb258) (o := .cells #[.int .i64 0, .int .i64 a0, .int .i64 1, .int .i64 1] 27 (0, 0)) (by (with_reducible repeat (first | refine blk_drewN ?_ _ | refine blk_drew ?_ | refine blk_alloc ?_ _)); exact BK258.out) hb)
                              have n1_ := Aside0.mk (blk_below (g := gb275) (o := .cells #[.int .i64 x276000_2, .int .i64 x276001_2, .int .i64 x276002_2, .int .i64 x276003_2, .int .i64 x276004_2, .int .i64 x276005_2, .int .i64 x276006_2] 25 (0, 0)) (by (with_reducible repeat (first | refine blk_drewN ?_ _ | refine blk_drew ?_ | refine blk_alloc ?_ _)); exact BK275.out) hb)
                              have n2_ := Aside0.mk (below_step (by repeat (first | (with_reducible first | exact HB.out | apply below_alloc | apply pw_below_drewN | apply below_drew1 | refine below_set ?_ GE258.out | refine below_set ?_ GE275.out) | exact HB.out)) hb)
                              clear BK258
                              clear BK275
                              clear HB
                              have BK258 := n0_
                              have BK275 := n1_
                              have HB := n2_
                              clear n0_ n1_ n2_
                              (try clear hb)
                              (try clear hb2)
                              (try clear hk)
                              (try clear hi)
                              refine hK.out _ _ ⟨(blk_cell BK275.out 0).trans rfl, (blk_cell BK275.out 1).trans rfl, (blk_cell BK275.out 2).trans rfl, (blk_cell BK275.out 3).trans rfl, (blk_cell BK275.out 4).trans rfl, (blk_cell BK275.out 5).trans rfl, (blk_cell BK275.out 6).trans rfl, (blk_cell BK258.out 0).trans rfl, (blk_cell BK258.out 1).trans rfl, (blk_cell BK258.out 2).trans rfl, (blk_cell BK258.out 3).trans rfl⟩ (fun hHeld => ?_)
                              clear hK K
                              refine norm_ (a' := ?_) ?_ ?_
                              rotate_left
                              · show Act.put _ (some 93) _ = _
                                simp only [Act.put, List.setIfInBounds_toArray, List.set_cons_zero, List.set_cons_succ, i64_w, i32_w]
                                rfl
                              refine last_ (i := 5) (N := none) #[true, true, true, true, true, true] rfl rfl (by kernel_rfl) (by decide) (fun K hK => ?_)
                              have hs89 : w88.cell? ⟨gb275, 0, none⟩ = some (.int .i64 x276000_2) := (blk_cell BK275.out 0).trans rfl
                              have hfs89 := blk_frozen BK275.out 0
                              have hns89_0 := NB258_275.out
                              have hms89_0 := NB275_258.out
                              have hs90 : w88.cell? ⟨gb275, 1, none⟩ = some (.int .i64 x276001_2) := (blk_cell BK275.out 1).trans rfl
                              have hfs90 := blk_frozen BK275.out 1
                              have hns90_0 := NB258_275.out
                              have hms90_0 := NB275_258.out
                              have hs91 : w88.cell? ⟨gb275, 2, none⟩ = some (.int .i64 x276002_2) := (blk_cell BK275.out 2).trans rfl
                              have hfs91 := blk_frozen BK275.out 2
                              have hns91_0 := NB258_275.out
                              have hms91_0 := NB275_258.out
                              have hs92 : w88.cell? ⟨gb275, 3, none⟩ = some (.int .i64 x276003_2) := (blk_cell BK275.out 3).trans rfl
                              have hfs92 := blk_frozen BK275.out 3
                              have hns92_0 := NB258_275.out
                              have hms92_0 := NB275_258.out
                              have hs93 : w88.cell? ⟨gb275, 4, none⟩ = some (.int .i64 x276004_2) := (blk_cell BK275.out 4).trans rfl
                              have hfs93 := blk_frozen BK275.out 4
                              have hns93_0 := NB258_275.out
                              have hms93_0 := NB275_258.out
                              have hs94 : w88.cell? ⟨gb275, 5, none⟩ = some (.int .i64 x276005_2) := (blk_cell BK275.out 5).trans rfl
                              have hfs94 := blk_frozen BK275.out 5
                              have hns94_0 := NB258_275.out
                              have hms94_0 := NB275_258.out
                              have hs95 : w88.cell? ⟨gb275, 6, none⟩ = some (.int .i64 x276006_2) := (blk_cell BK275.out 6).trans rfl
                              have hfs95 := blk_frozen BK275.out 6
                              have hns95_0 := NB258_275.out
                              have hms95_0 := NB275_258.out
                              refine skip_ (w1 := ?_) (by rfl) rfl ?_ ?_
                              rotate_left
                              · go_simp
                                rfl
                              refine hK.out _ _ ?_
                              clear hK K
                              refine done_ (by kernel_rfl) ?_
                              go_upto_if 103 with (fail)
                              go_cut [11] (fun v11 wc => ∃ (kq : Nat) (x11_82 : Int), v11 = .int .i64 x11_82 ∧ Aside0 (klaxonlaw17_StateQuiet.j4 kq a0 (wrap64 (x1_2 + (rd l2 x12_2))) l2 a3 x11_82 x12_2 0 a0 1 1 t292 t293 t294 t295 t296 t297 t298 = some true) ∧ Aside0 (kq ≤ kj35) ∧ Aside0 (wc.heap[gb258]? = some (.cells #[.int .i64 0, .int .i64 a0, .int .i64 1, .int .i64 1] 27 (0, 0))) ∧ Aside0 (wc.heap[gb275]? = some (.cells #[.int .i64 t292, .int .i64 t293, .int .i64 t294, .int .i64 t295, .int .i64 t296, .int .i64 t297, .int .i64 t298] 25 (0, 0))) ∧ Aside0 (Below w.heap.size w wc))
                              case first =>
                                have H := HC83.out
                                clear HC83
                                by_cases c96 : x11_2 < 0
                                · rw [if_pos c96] at H
                                  have c96b0 : decide (x11_2 < 0) = true := decide_eq_true c96
                                  clear c96
                                  (first | rw [c96b0] | (simp only [i64_w, i32_w]; rw [c96b0]) | skip)
                                  have H' := Aside0.mk H
                                  clear H
                                  go_wp2
                                  go_meet
                                  case rel => exact ⟨_, (wrap64 (x1_2 + (rd l2 x12_2))), (by first | rfl | (simp; done) | (simp [*]; done)), H', ⟨by have := HJ4.out; have := HK2.out; have := HJ35.out; first | omega | exact Nat.le_refl _⟩, ⟨by (with_reducible repeat (first | refine blk_drewN ?_ _ | refine blk_drew ?_ | refine blk_alloc ?_ _)); refine blk_far ?_ NB258_275.out _; (with_reducible repeat (first | refine blk_drewN ?_ _ | refine blk_drew ?_ | refine blk_alloc ?_ _)); refine blk_far ?_ NB258_275.out _; (with_reducible repeat (first | refine blk_drewN ?_ _ | refine blk_drew ?_ | refine blk_alloc ?_ _)); refine blk_far ?_ NB258_275.out _; (with_reducible repeat (first | refine blk_drewN ?_ _ | refine blk_drew ?_ | refine blk_alloc ?_ _)); refine blk_far ?_ NB258_275.out _; (with_reducible repeat (first | refine blk_drewN ?_ _ | refine blk_drew ?_ | refine blk_alloc ?_ _)); refine blk_far ?_ NB258_275.out _; (with_reducible repeat (first | refine blk_drewN ?_ _ | refine blk_drew ?_ | refine blk_alloc ?_ _)); refine blk_far ?_ NB258_275.out _; (with_reducible repeat (first | refine blk_drewN ?_ _ | refine blk_drew ?_ | refine blk_alloc ?_ _)); refine blk_far ?_ NB258_275.out _; (with_reducible repeat (first | refine blk_drewN ?_ _ | refine blk_drew ?_ | refine blk_alloc ?_ _)); exact BK258.out⟩, ⟨by (with_reducible repeat (first | refine blk_drewN ?_ _ | refine blk_drew ?_ | refine blk_alloc ?_ _)); refine blk_put (cs := #[.int .i64 t292, .int .i64 t293, .int .i64 t294, .int .i64 t295, .int .i64 t296, .int .i64 t297, .int .i64 x276006_2]) ?_ 6 _ rfl; (with_reducible repeat (first | refine blk_drewN ?_ _ | refine blk_drew ?_ | refine blk_alloc ?_ _)); refine blk_put (cs := #[.int .i64 t292, .int .i64 t293, .int .i64 t294, .int .i64 t295, .int .i64 t296, .int .i64 x276005_2, .int .i64 x276006_2]) ?_ 5 _ rfl; (with_reducible repeat (first | refine blk_drewN ?_ _ | refine blk_drew ?_ | refine blk_alloc ?_ _)); refine blk_put (cs := #[.int .i64 t292, .int .i64 t293, .int .i64 t294, .int .i64 t295, .int .i64 x276004_2, .int .i64 x276005_2, .int .i64 x276006_2]) ?_ 4 _ rfl; (with_reducible repeat (first | refine blk_drewN ?_ _ | refine blk_drew ?_ | refine blk_alloc ?_ _)); refine blk_put (cs := #[.int .i64 t292, .int .i64 t293, .int .i64 t294, .int .i64 x276003_2, .int .i64 x276004_2, .int .i64 x276005_2, .int .i64 x276006_2]) ?_ 3 _ rfl; (with_reducible repeat (first | refine blk_drewN ?_ _ | refine blk_drew ?_ | refine blk_alloc ?_ _)); refine blk_put (cs := #[.int .i64 t292, .int .i64 t293, .int .i64 x276002_2, .int .i64 x276003_2, .int .i64 x276004_2, .int .i64 x276005_2, .int .i64 x276006_2]) ?_ 2 _ rfl; (with_reducible repeat (first | refine blk_drewN ?_ _ | refine blk_drew ?_ | refine blk_alloc ?_ _)); refine blk_put (cs := #[.int .i64 t292, .int .i64 x276001_2, .int .i64 x276002_2, .int .i64 x276003_2, .int .i64 x276004_2, .int .i64 x276005_2, .int .i64 x276006_2]) ?_ 1 _ rfl; (with_reducible repeat (first | refine blk_drewN ?_ _ | refine blk_drew ?_ | refine blk_alloc ?_ _)); refine blk_put (cs := #[.int .i64 x276000_2, .int .i64 x276001_2, .int .i64 x276002_2, .int .i64 x276003_2, .int .i64 x276004_2, .int .i64 x276005_2, .int .i64 x276006_2]) ?_ 0 _ rfl; (with_reducible repeat (first | refine blk_drewN ?_ _ | refine blk_drew ?_ | refine blk_alloc ?_ _)); exact BK275.out⟩, ⟨by repeat (first | (with_reducible first | exact HB.out | apply below_alloc | apply pw_below_drewN | apply below_drew1 | refine below_set ?_ GE258.out | refine below_set ?_ GE275.out) | exact HB.out)⟩⟩
                                · rw [if_neg c96] at H
                                  have c96b0 : decide (x11_2 < 0) = false := decide_eq_false c96
                                  clear c96
                                  (first | rw [c96b0] | (simp only [i64_w, i32_w]; rw [c96b0]) | skip)
                                  have H' := Aside0.mk H
                                  clear H
                                  go_wp2
                                  go_meet
                                  case rel => exact ⟨_, (x11_2), (by first | rfl | (simp; done) | (simp [*]; done)), H', ⟨by have := HJ4.out; have := HK2.out; have := HJ35.out; first | omega | exact Nat.le_refl _⟩, ⟨by (with_reducible repeat (first | refine blk_drewN ?_ _ | refine blk_drew ?_ | refine blk_alloc ?_ _)); refine blk_far ?_ NB258_275.out _; (with_reducible repeat (first | refine blk_drewN ?_ _ | refine blk_drew ?_ | refine blk_alloc ?_ _)); refine blk_far ?_ NB258_275.out _; (with_reducible repeat (first | refine blk_drewN ?_ _ | refine blk_drew ?_ | refine blk_alloc ?_ _)); refine blk_far ?_ NB258_275.out _; (with_reducible repeat (first | refine blk_drewN ?_ _ | refine blk_drew ?_ | refine blk_alloc ?_ _)); refine blk_far ?_ NB258_275.out _; (with_reducible repeat (first | refine blk_drewN ?_ _ | refine blk_drew ?_ | refine blk_alloc ?_ _)); refine blk_far ?_ NB258_275.out _; (with_reducible repeat (first | refine blk_drewN ?_ _ | refine blk_drew ?_ | refine blk_alloc ?_ _)); refine blk_far ?_ NB258_275.out _; (with_reducible repeat (first | refine blk_drewN ?_ _ | refine blk_drew ?_ | refine blk_alloc ?_ _)); refine blk_far ?_ NB258_275.out _; (with_reducible repeat (first | refine blk_drewN ?_ _ | refine blk_drew ?_ | refine blk_alloc ?_ _)); exact BK258.out⟩, ⟨by (with_reducible repeat (first | refine blk_drewN ?_ _ | refine blk_drew ?_ | refine blk_alloc ?_ _)); refine blk_put (cs := #[.int .i64 t292, .int .i64 t293, .int .i64 t294, .int .i64 t295, .int .i64 t296, .int .i64 t297, .int .i64 x276006_2]) ?_ 6 _ rfl; (with_reducible repeat (first | refine blk_drewN ?_ _ | refine blk_drew ?_ | refine blk_alloc ?_ _)); refine blk_put (cs := #[.int .i64 t292, .int .i64 t293, .int .i64 t294, .int .i64 t295, .int .i64 t296, .int .i64 x276005_2, .int .i64 x276006_2]) ?_ 5 _ rfl; (with_reducible repeat (first | refine blk_drewN ?_ _ | refine blk_drew ?_ | refine blk_alloc ?_ _)); refine blk_put (cs := #[.int .i64 t292, .int .i64 t293, .int .i64 t294, .int .i64 t295, .int .i64 x276004_2, .int .i64 x276005_2, .int .i64 x276006_2]) ?_ 4 _ rfl; (with_reducible repeat (first | refine blk_drewN ?_ _ | refine blk_drew ?_ | refine blk_alloc ?_ _)); refine blk_put (cs := #[.int .i64 t292, .int .i64 t293, .int .i64 t294, .int .i64 x276003_2, .int .i64 x276004_2, .int .i64 x276005_2, .int .i64 x276006_2]) ?_ 3 _ rfl; (with_reducible repeat (first | refine blk_drewN ?_ _ | refine blk_drew ?_ | refine blk_alloc ?_ _)); refine blk_put (cs := #[.int .i64 t292, .int .i64 t293, .int .i64 x276002_2, .int .i64 x276003_2, .int .i64 x276004_2, .int .i64 x276005_2, .int .i64 x276006_2]) ?_ 2 _ rfl; (with_reducible repeat (first | refine blk_drewN ?_ _ | refine blk_drew ?_ | refine blk_alloc ?_ _)); refine blk_put (cs := #[.int .i64 t292, .int .i64 x276001_2, .int .i64 x276002_2, .int .i64 x276003_2, .int .i64 x276004_2, .int .i64 x276005_2, .int .i64 x276006_2]) ?_ 1 _ rfl; (with_reducible repeat (first | refine blk_drewN ?_ _ | refine blk_drew ?_ | refine blk_alloc ?_ _)); refine blk_put (cs := #[.int .i64 x276000_2, .int .i64 x276001_2, .int .i64 x276002_2, .int .i64 x276003_2, .int .i64 x276004_2, .int .i64 x276005_2, .int .i64 x276006_2]) ?_ 0 _ rfl; (with_reducible repeat (first | refine blk_drewN ?_ _ | refine blk_drew ?_ | refine blk_alloc ?_ _)); exact BK275.out⟩, ⟨by repeat (first | (with_reducible first | exact HB.out | apply below_alloc | apply pw_below_drewN | apply below_drew1 | refine below_set ?_ GE258.out | refine below_set ?_ GE275.out) | exact HB.out)⟩⟩
                              case rest =>
                                clear HC83
                                try clear c1
                                try clear c2
                                try clear p2
                                try clear q2
                                try clear hx2
                                try clear c3
                                try clear c4
                                try clear c5
                                try clear c6
                                try clear c6b0
                                try clear p6
                                try clear c7
                                try clear c7b0
                                try clear c8
                                try clear c8b0
                                try clear c9
                                try clear c9b0
                                try clear c10
                                try clear c15
                                try clear c16
                                try clear c16b0
                                try clear c16b1
                                try clear c19
                                try clear c23
                                try clear c26
                                try clear p27
                                try clear q27
                                try clear hx27
                                try clear p28
                                try clear q28
                                try clear hx28
                                try clear c33
                                try clear c35
                                try clear c35b0
                                try clear c37
                                try clear c37b0
                                try clear c38
                                try clear c38b0
                                try clear c39
                                try clear c42
                                try clear c42b0
                                try clear c43
                                try clear c43b0
                                try clear c44
                                try clear c44b0
                                try clear c44b1
                                try clear c58
                                try clear c58b0
                                try clear c58b1
                                try clear c59
                                try clear c61
                                try clear c63
                                try clear p64
                                try clear c66
                                try clear c66b0
                                try clear c66b1
                                try clear c67
                                try clear c67b0
                                try clear c67b1
                                try clear c69
                                try clear c84
                                try clear c96
                                try clear c96b0
                                try clear hcz18_0
                                try clear hcz18_1
                                try clear hcz18_2
                                try clear hcz18_3
                                try clear hcz34_0
                                try clear hcz34_1
                                try clear hcz34_2
                                try clear hcz34_3
                                try clear hcz34_4
                                try clear hcz34_5
                                try clear hcz34_6
                                try clear hcz60_0
                                try clear hcz60_1
                                try clear hcz60_2
                                try clear hcz60_3
                                try clear hcz60_4
                                try clear hcz60_5
                                try clear hcz60_6
                                try clear hcz62_0
                                try clear hcz62_1
                                try clear hcz62_2
                                try clear hcz62_3
                                try clear hcz62_4
                                try clear hcz62_5
                                try clear hcz62_6
                                try clear hcz70_0
                                try clear hcz70_1
                                try clear hcz70_2
                                try clear hcz70_3
                                try clear hcz70_4
                                try clear hcz70_5
                                try clear hcz70_6
                                try clear hcz81_0
                                try clear hcz81_1
                                try clear hcz81_2
                                try clear hcz81_3
                                try clear hcz81_4
                                try clear hcz81_5
                                try clear hcz81_6
                                try clear hcz85_0
                                try clear hcz85_1
                                try clear hcz85_2
                                try clear hcz85_3
                                try clear hcz85_4
                                try clear hcz85_5
                                try clear hcz85_6
                                try clear hfz18_0
                                try clear hfz18_1
                                try clear hfz18_2
                                try clear hfz18_3
                                try clear hfz34_0
                                try clear hfz34_1
                                try clear hfz34_2
                                try clear hfz34_3
                                try clear hfz34_4
                                try clear hfz34_5
                                try clear hfz34_6
                                try clear hfz60_0
                                try clear hfz60_1
                                try clear hfz60_2
                                try clear hfz60_3
                                try clear hfz60_4
                                try clear hfz60_5
                                try clear hfz60_6
                                try clear hfz62_0
                                try clear hfz62_1
                                try clear hfz62_2
                                try clear hfz62_3
                                try clear hfz62_4
                                try clear hfz62_5
                                try clear hfz62_6
                                try clear hfz70_0
                                try clear hfz70_1
                                try clear hfz70_2
                                try clear hfz70_3
                                try clear hfz70_4
                                try clear hfz70_5
                                try clear hfz70_6
                                try clear hfz81_0
                                try clear hfz81_1
                                try clear hfz81_2
                                try clear hfz81_3
                                try clear hfz81_4
                                try clear hfz81_5
                                try clear hfz81_6
                                try clear hfz85_0
                                try clear hfz85_1
                                try clear hfz85_2
                                try clear hfz85_3
                                try clear hfz85_4
                                try clear hfz85_5
                                try clear hfz85_6
                                try clear hx277_0
                                try clear hx278_0
                                try clear hx280_0
                                try clear p2
                                try clear p27
                                try clear p277
                                try clear p278
                                try clear p28
                                try clear p280
                                try clear p6
                                try clear q2
                                try clear q27
                                try clear q277
                                try clear q278
                                try clear q28
                                try clear q280
                                obtain ⟨kq, x11_82, rfl, HA, HJ82, BK258, BK275, HB⟩ := hcut
                                cases kq with
                                | zero => exact absurd HA.out (by simp [klaxonlaw17_StateQuiet.j4])
                                | succ kj82 =>
                                  have H := HA.out
                                  clear HA
                                  simp only [klaxonlaw17_StateQuiet.j4] at H
                                  have HC97 := Aside0.mk H
                                  clear H
                                  go_upto_region 26 with (fail)
                                  go_cut [113] (fun v113 wc => ∃ (kq : Nat) (x113_96 : Bool), v113 = .bool x113_96 ∧ Aside0 (klaxonlaw17_StateQuiet.j5 kq a0 (wrap64 (x1_2 + (rd l2 x12_2))) l2 a3 x11_82 x12_2 3 x113_96 0 a0 1 1 t292 t293 t294 t295 t296 t297 t298 = some true) ∧ Aside0 (kq ≤ kj82) ∧ Aside0 (wc.heap[gb258]? = some (.cells #[.int .i64 0, .int .i64 a0, .int .i64 1, .int .i64 1] 27 (0, 0))) ∧ Aside0 (wc.heap[gb275]? = some (.cells #[.int .i64 t292, .int .i64 t293, .int .i64 t294, .int .i64 t295, .int .i64 t296, .int .i64 t297, .int .i64 t298] 25 (0, 0))) ∧ Aside0 (Below w.heap.size w wc))
                                  case first =>
                                    have H := HC97.out
                                    clear HC97
                                    by_cases c98 : a0 = 0
                                    · rw [if_pos c98] at H
                                      have c98b0 : (a0 == 0) = true := beq_iff_eq.mpr c98
                                      have c98b1 : (a0 != 0) = false := bne_eq_false_iff_eq.mpr c98
                                      clear c98
                                      (first | rw [c98b0] | (simp only [i64_w, i32_w]; rw [c98b0]) | skip)
                                      have H' := Aside0.mk H
                                      clear H
                                      go_wp2
                                      go_meet
                                      case rel => exact ⟨_, (true), (by first | rfl | (simp; done) | (simp [*]; done)), H', ⟨by have := HJ4.out; have := HK2.out; have := HJ35.out; have := HJ82.out; first | omega | exact Nat.le_refl _⟩, ⟨by (with_reducible repeat (first | refine blk_drewN ?_ _ | refine blk_drew ?_ | refine blk_alloc ?_ _)); exact BK258.out⟩, ⟨by (with_reducible repeat (first | refine blk_drewN ?_ _ | refine blk_drew ?_ | refine blk_alloc ?_ _)); exact BK275.out⟩, ⟨by repeat (first | (with_reducible first | exact HB.out | apply below_alloc | apply pw_below_drewN | apply below_drew1 | refine below_set ?_ GE258.out | refine below_set ?_ GE275.out) | exact HB.out)⟩⟩
                                    · rw [if_neg c98] at H
                                      have c98b0 : (a0 == 0) = false := beq_eq_false_iff_ne.mpr c98
                                      have c98b1 : (a0 != 0) = true := bne_iff_ne.mpr c98
                                      (first | rw [c98b0] | (simp only [i64_w, i32_w]; rw [c98b0]) | skip)
                                      have H' := Aside0.mk H
                                      clear H
                                      go_wp2
                                      go_meet
                                      case rel => exact ⟨_, (decide ((wrap64 ((wrap64 (x1_2 + (rd l2 x12_2))) - x11_82)) ≥ a0)), (by first | rfl | (simp; done) | (simp [*]; done)), H', ⟨by have := HJ4.out; have := HK2.out; have := HJ35.out; have := HJ82.out; first | omega | exact Nat.le_refl _⟩, ⟨by (with_reducible repeat (first | refine blk_drewN ?_ _ | refine blk_drew ?_ | refine blk_alloc ?_ _)); exact BK258.out⟩, ⟨by (with_reducible repeat (first | refine blk_drewN ?_ _ | refine blk_drew ?_ | refine blk_alloc ?_ _)); exact BK275.out⟩, ⟨by repeat (first | (with_reducible first | exact HB.out | apply below_alloc | apply pw_below_drewN | apply below_drew1 | refine below_set ?_ GE258.out | refine below_set ?_ GE275.out) | exact HB.out)⟩⟩
                                  case rest =>
                                    clear HC97
                                    try clear c1
                                    try clear c2
                                    try clear p2
                                    try clear q2
                                    try clear hx2
                                    try clear c3
                                    try clear c4
                                    try clear c5
                                    try clear c6
                                    try clear c6b0
                                    try clear p6
                                    try clear c7
                                    try clear c7b0
                                    try clear c8
                                    try clear c8b0
                                    try clear c9
                                    try clear c9b0
                                    try clear c10
                                    try clear c15
                                    try clear c16
                                    try clear c16b0
                                    try clear c16b1
                                    try clear c19
                                    try clear c23
                                    try clear c26
                                    try clear p27
                                    try clear q27
                                    try clear hx27
                                    try clear p28
                                    try clear q28
                                    try clear hx28
                                    try clear c33
                                    try clear c35
                                    try clear c35b0
                                    try clear c37
                                    try clear c37b0
                                    try clear c38
                                    try clear c38b0
                                    try clear c39
                                    try clear c42
                                    try clear c42b0
                                    try clear c43
                                    try clear c43b0
                                    try clear c44
                                    try clear c44b0
                                    try clear c44b1
                                    try clear c58
                                    try clear c58b0
                                    try clear c58b1
                                    try clear c59
                                    try clear c61
                                    try clear c63
                                    try clear p64
                                    try clear c66
                                    try clear c66b0
                                    try clear c66b1
                                    try clear c67
                                    try clear c67b0
                                    try clear c67b1
                                    try clear c69
                                    try clear c84
                                    try clear c96
                                    try clear c96b0
                                    try clear c98
                                    try clear c98b0
                                    try clear c98b1
                                    try clear hcz18_0
                                    try clear hcz18_1
                                    try clear hcz18_2
                                    try clear hcz18_3
                                    try clear hcz34_0
                                    try clear hcz34_1
                                    try clear hcz34_2
                                    try clear hcz34_3
                                    try clear hcz34_4
                                    try clear hcz34_5
                                    try clear hcz34_6
                                    try clear hcz60_0
                                    try clear hcz60_1
                                    try clear hcz60_2
                                    try clear hcz60_3
                                    try clear hcz60_4
                                    try clear hcz60_5
                                    try clear hcz60_6
                                    try clear hcz62_0
                                    try clear hcz62_1
                                    try clear hcz62_2
                                    try clear hcz62_3
                                    try clear hcz62_4
                                    try clear hcz62_5
                                    try clear hcz62_6
                                    try clear hcz70_0
                                    try clear hcz70_1
                                    try clear hcz70_2
                                    try clear hcz70_3
                                    try clear hcz70_4
                                    try clear hcz70_5
                                    try clear hcz70_6
                                    try clear hcz81_0
                                    try clear hcz81_1
                                    try clear hcz81_2
                                    try clear hcz81_3
                                    try clear hcz81_4
                                    try clear hcz81_5
                                    try clear hcz81_6
                                    try clear hcz85_0
                                    try clear hcz85_1
                                    try clear hcz85_2
                                    try clear hcz85_3
                                    try clear hcz85_4
                                    try clear hcz85_5
                                    try clear hcz85_6
                                    try clear hfz18_0
                                    try clear hfz18_1
                                    try clear hfz18_2
                                    try clear hfz18_3
                                    try clear hfz34_0
                                    try clear hfz34_1
                                    try clear hfz34_2
                                    try clear hfz34_3
                                    try clear hfz34_4
                                    try clear hfz34_5
                                    try clear hfz34_6
                                    try clear hfz60_0
                                    try clear hfz60_1
                                    try clear hfz60_2
                                    try clear hfz60_3
                                    try clear hfz60_4
                                    try clear hfz60_5
                                    try clear hfz60_6
                                    try clear hfz62_0
                                    try clear hfz62_1
                                    try clear hfz62_2
                                    try clear hfz62_3
                                    try clear hfz62_4
                                    try clear hfz62_5
                                    try clear hfz62_6
                                    try clear hfz70_0
                                    try clear hfz70_1
                                    try clear hfz70_2
                                    try clear hfz70_3
                                    try clear hfz70_4
                                    try clear hfz70_5
                                    try clear hfz70_6
                                    try clear hfz81_0
                                    try clear hfz81_1
                                    try clear hfz81_2
                                    try clear hfz81_3
                                    try clear hfz81_4
                                    try clear hfz81_5
                                    try clear hfz81_6
                                    try clear hfz85_0
                                    try clear hfz85_1
                                    try clear hfz85_2
                                    try clear hfz85_3
                                    try clear hfz85_4
                                    try clear hfz85_5
                                    try clear hfz85_6
                                    try clear hx277_0
                                    try clear hx278_0
                                    try clear hx280_0
                                    try clear p2
                                    try clear p27
                                    try clear p277
                                    try clear p278
                                    try clear p28
                                    try clear p280
                                    try clear p6
                                    try clear p64
                                    try clear q2
                                    try clear q27
                                    try clear q277
                                    try clear q278
                                    try clear q28
                                    try clear q280
                                    obtain ⟨kq, x113_96, rfl, HA, HJ96, BK258, BK275, HB⟩ := hcut
                                    cases kq with
                                    | zero => exact absurd HA.out (by simp [klaxonlaw17_StateQuiet.j5])
                                    | succ kj96 =>
                                      have H := HA.out
                                      clear HA
                                      simp only [klaxonlaw17_StateQuiet.j5] at H
                                      have HC99 := Aside0.mk H
                                      clear H
                                      go_upto_if 113 with (fail)
                                      go_cut [14] (fun v14 wc => ∃ (kq : Nat) (x14_98 : Int), v14 = .int .i64 x14_98 ∧ Aside0 (klaxonlaw17_StateQuiet.j6 kq a0 (wrap64 (x1_2 + (rd l2 x12_2))) l2 a3 x11_82 x12_2 x14_98 0 a0 1 1 t292 t293 t294 t295 t296 t297 t298 = some true) ∧ Aside0 (kq ≤ kj96) ∧ Aside0 (wc.heap[gb258]? = some (.cells #[.int .i64 0, .int .i64 a0, .int .i64 1, .int .i64 1] 27 (0, 0))) ∧ Aside0 (wc.heap[gb275]? = some (.cells #[.int .i64 t292, .int .i64 t293, .int .i64 t294, .int .i64 t295, .int .i64 t296, .int .i64 t297, .int .i64 t298] 25 (0, 0))) ∧ Aside0 (Below w.heap.size w wc))
                                      case first =>
                                        have H := HC99.out
                                        clear HC99
                                        by_cases c100 : x113_96 = true
                                        · subst c100
                                          have H1 : (klaxonlaw17_StateQuiet.j6 kj96 a0 (wrap64 (x1_2 + (rd l2 x12_2))) l2 a3 x11_82 x12_2 1 0 a0 1 1 t292 t293 t294 t295 t296 t297 t298) = some true := by rw [if_pos rfl] at H; exact H
                                          clear H
                                          have H := H1
                                          clear H1
                                          have H' := Aside0.mk H
                                          clear H
                                          go_wp2
                                          go_meet
                                          case rel => exact ⟨_, (1), (by first | rfl | (simp; done) | (simp [*]; done)), H', ⟨by have := HJ4.out; have := HK2.out; have := HJ35.out; have := HJ82.out; have := HJ96.out; first | omega | exact Nat.le_refl _⟩, ⟨by (with_reducible repeat (first | refine blk_drewN ?_ _ | refine blk_drew ?_ | refine blk_alloc ?_ _)); exact BK258.out⟩, ⟨by (with_reducible repeat (first | refine blk_drewN ?_ _ | refine blk_drew ?_ | refine blk_alloc ?_ _)); exact BK275.out⟩, ⟨by repeat (first | (with_reducible first | exact HB.out | apply below_alloc | apply pw_below_drewN | apply below_drew1 | refine below_set ?_ GE258.out | refine below_set ?_ GE275.out) | exact HB.out)⟩⟩
                                        · replace c100 := Bool.eq_false_iff.mpr c100
                                          subst c100
                                          have H1 : (klaxonlaw17_StateQuiet.j6 kj96 a0 (wrap64 (x1_2 + (rd l2 x12_2))) l2 a3 x11_82 x12_2 3 0 a0 1 1 t292 t293 t294 t295 t296 t297 t298) = some true := by rw [if_neg (show ¬ (false = true) by decide)] at H; exact H
                                          clear H
                                          have H := H1
                                          clear H1
                                          have H' := Aside0.mk H
                                          clear H
                                          go_wp2
                                          go_meet
                                          case rel => exact ⟨_, (3), (by first | rfl | (simp; done) | (simp [*]; done)), H', ⟨by have := HJ4.out; have := HK2.out; have := HJ35.out; have := HJ82.out; have := HJ96.out; first | omega | exact Nat.le_refl _⟩, ⟨by (with_reducible repeat (first | refine blk_drewN ?_ _ | refine blk_drew ?_ | refine blk_alloc ?_ _)); exact BK258.out⟩, ⟨by (with_reducible repeat (first | refine blk_drewN ?_ _ | refine blk_drew ?_ | refine blk_alloc ?_ _)); exact BK275.out⟩, ⟨by repeat (first | (with_reducible first | exact HB.out | apply below_alloc | apply pw_below_drewN | apply below_drew1 | refine below_set ?_ GE258.out | refine below_set ?_ GE275.out) | exact HB.out)⟩⟩
                                      case rest =>
                                        clear HC99
                                        try clear c1
                                        try clear c2
                                        try clear p2
                                        try clear q2
                                        try clear hx2
                                        try clear c3
                                        try clear c4
                                        try clear c5
                                        try clear c6
                                        try clear c6b0
                                        try clear p6
                                        try clear c7
                                        try clear c7b0
                                        try clear c8
                                        try clear c8b0
                                        try clear c9
                                        try clear c9b0
                                        try clear c10
                                        try clear c15
                                        try clear c16
                                        try clear c16b0
                                        try clear c16b1
                                        try clear c19
                                        try clear c23
                                        try clear c26
                                        try clear p27
                                        try clear q27
                                        try clear hx27
                                        try clear p28
                                        try clear q28
                                        try clear hx28
                                        try clear c33
                                        try clear c35
                                        try clear c35b0
                                        try clear c37
                                        try clear c37b0
                                        try clear c38
                                        try clear c38b0
                                        try clear c39
                                        try clear c42
                                        try clear c42b0
                                        try clear c43
                                        try clear c43b0
                                        try clear c44
                                        try clear c44b0
                                        try clear c44b1
                                        try clear c58
                                        try clear c58b0
                                        try clear c58b1
                                        try clear c59
                                        try clear c61
                                        try clear c63
                                        try clear p64
                                        try clear c66
                                        try clear c66b0
                                        try clear c66b1
                                        try clear c67
                                        try clear c67b0
                                        try clear c67b1
                                        try clear c69
                                        try clear c84
                                        try clear c96
                                        try clear c96b0
                                        try clear c98
                                        try clear c98b0
                                        try clear c98b1
                                        try clear c100
                                        try clear hcz18_0
                                        try clear hcz18_1
                                        try clear hcz18_2
                                        try clear hcz18_3
                                        try clear hcz34_0
                                        try clear hcz34_1
                                        try clear hcz34_2
                                        try clear hcz34_3
                                        try clear hcz34_4
                                        try clear hcz34_5
                                        try clear hcz34_6
                                        try clear hcz60_0
                                        try clear hcz60_1
                                        try clear hcz60_2
                                        try clear hcz60_3
                                        try clear hcz60_4
                                        try clear hcz60_5
                                        try clear hcz60_6
                                        try clear hcz62_0
                                        try clear hcz62_1
                                        try clear hcz62_2
                                        try clear hcz62_3
                                        try clear hcz62_4
                                        try clear hcz62_5
                                        try clear hcz62_6
                                        try clear hcz70_0
                                        try clear hcz70_1
                                        try clear hcz70_2
                                        try clear hcz70_3
                                        try clear hcz70_4
                                        try clear hcz70_5
                                        try clear hcz70_6
                                        try clear hcz81_0
                                        try clear hcz81_1
                                        try clear hcz81_2
                                        try clear hcz81_3
                                        try clear hcz81_4
                                        try clear hcz81_5
                                        try clear hcz81_6
                                        try clear hcz85_0
                                        try clear hcz85_1
                                        try clear hcz85_2
                                        try clear hcz85_3
                                        try clear hcz85_4
                                        try clear hcz85_5
                                        try clear hcz85_6
                                        try clear hfz18_0
                                        try clear hfz18_1
                                        try clear hfz18_2
                                        try clear hfz18_3
                                        try clear hfz34_0
                                        try clear hfz34_1
                                        try clear hfz34_2
                                        try clear hfz34_3
                                        try clear hfz34_4
                                        try clear hfz34_5
                                        try clear hfz34_6
                                        try clear hfz60_0
                                        try clear hfz60_1
                                        try clear hfz60_2
                                        try clear hfz60_3
                                        try clear hfz60_4
                                        try clear hfz60_5
                                        try clear hfz60_6
                                        try clear hfz62_0
                                        try clear hfz62_1
                                        try clear hfz62_2
                                        try clear hfz62_3
                                        try clear hfz62_4
                                        try clear hfz62_5
                                        try clear hfz62_6
                                        try clear hfz70_0
                                        try clear hfz70_1
                                        try clear hfz70_2
                                        try clear hfz70_3
                                        try clear hfz70_4
                                        try clear hfz70_5
                                        try clear hfz70_6
                                        try clear hfz81_0
                                        try clear hfz81_1
                                        try clear hfz81_2
                                        try clear hfz81_3
                                        try clear hfz81_4
                                        try clear hfz81_5
                                        try clear hfz81_6
                                        try clear hfz85_0
                                        try clear hfz85_1
                                        try clear hfz85_2
                                        try clear hfz85_3
                                        try clear hfz85_4
                                        try clear hfz85_5
                                        try clear hfz85_6
                                        try clear hx277_0
                                        try clear hx278_0
                                        try clear hx280_0
                                        try clear p2
                                        try clear p27
                                        try clear p277
                                        try clear p278
                                        try clear p28
                                        try clear p280
                                        try clear p6
                                        try clear p64
                                        try clear q2
                                        try clear q27
                                        try clear q277
                                        try clear q278
                                        try clear q28
                                        try clear q280
                                        obtain ⟨kq, x14_98, rfl, HA, HJ98, BK258, BK275, HB⟩ := hcut
                                        cases kq with
                                        | zero => exact absurd HA.out (by simp [klaxonlaw17_StateQuiet.j6])
                                        | succ kj98 =>
                                          have H := HA.out
                                          clear HA
                                          simp only [klaxonlaw17_StateQuiet.j6] at H
                                          by_cases c101 : t292 = x14_98
                                          · rw [if_pos c101] at H
                                            have c101b0 : (t292 == x14_98) = true := beq_iff_eq.mpr c101
                                            have c101b1 : (t292 != x14_98) = false := bne_eq_false_iff_eq.mpr c101
                                            clear c101
                                            have H' := Aside0.mk H
                                            clear H
                                            have hnb102 := NB275_258.out
                                            have hnc102 := NB258_275.out
                                            have hcz103_0 : wc.cell? ⟨gb275, 0, none⟩ = some (.int .i64 t292) := (blk_cell BK275.out 0).trans rfl
                                            have hcz103_1 : wc.cell? ⟨gb275, 1, none⟩ = some (.int .i64 t293) := (blk_cell BK275.out 1).trans rfl
                                            have hcz103_2 : wc.cell? ⟨gb275, 2, none⟩ = some (.int .i64 t294) := (blk_cell BK275.out 2).trans rfl
                                            have hcz103_3 : wc.cell? ⟨gb275, 3, none⟩ = some (.int .i64 t295) := (blk_cell BK275.out 3).trans rfl
                                            have hcz103_4 : wc.cell? ⟨gb275, 4, none⟩ = some (.int .i64 t296) := (blk_cell BK275.out 4).trans rfl
                                            have hcz103_5 : wc.cell? ⟨gb275, 5, none⟩ = some (.int .i64 t297) := (blk_cell BK275.out 5).trans rfl
                                            have hcz103_6 : wc.cell? ⟨gb275, 6, none⟩ = some (.int .i64 t298) := (blk_cell BK275.out 6).trans rfl
                                            have hfz103_0 := blk_frozen BK275.out 0
                                            have hfz103_1 := blk_frozen BK275.out 1
                                            have hfz103_2 := blk_frozen BK275.out 2
                                            have hfz103_3 := blk_frozen BK275.out 3
                                            have hfz103_4 := blk_frozen BK275.out 4
                                            have hfz103_5 := blk_frozen BK275.out 5
                                            have hfz103_6 := blk_frozen BK275.out 6
                                            go_wp2
                                            go_roundg kj98
                                            case measure => have := HJ4.out; have := HK2.out; have := HJ35.out; have := HJ82.out; have := HJ96.out; have := HJ98.out; omega
                                            case rel => exact ⟨((wrap64 (x1_2 + (rd l2 x12_2)))), (x11_82), (wrap64 (x12_2 + 1)), (t292), (t293), (t294), (t295), (t296), (t297), (t298), (by first | rfl | (simp; done) | (simp [*]; done)), (by first | rfl | (simp; done) | (simp [*]; done)), (by first | rfl | (simp; done) | (simp [*]; done)), H', ⟨by have := HJ4.out; have := HK2.out; have := HJ35.out; have := HJ82.out; have := HJ96.out; have := HJ98.out; omega⟩, ⟨by (with_reducible repeat (first | refine blk_drewN ?_ _ | refine blk_drew ?_ | refine blk_alloc ?_ _)); exact BK258.out⟩, ⟨by (with_reducible repeat (first | refine blk_drewN ?_ _ | refine blk_drew ?_ | refine blk_alloc ?_ _)); exact BK275.out⟩, ⟨by repeat (first | (with_reducible first | exact HB.out | apply below_alloc | apply pw_below_drewN | apply below_drew1 | refine below_set ?_ GE258.out | refine below_set ?_ GE275.out) | exact HB.out)⟩⟩
                                          · rw [if_neg c101] at H
                                            have c101b0 : (t292 == x14_98) = false := beq_eq_false_iff_ne.mpr c101
                                            have c101b1 : (t292 != x14_98) = true := bne_iff_ne.mpr c101
                                            exact absurd H (by simp)
                        · rw [if_neg c43] at H
                          exact absurd H (by simp)
                      · rw [if_neg c42] at H
                        exact absurd H (by simp)
              · rw [if_neg c35] at H
                have c35b0 : decide (x12_2 < (l2.length : Int)) = false := decide_eq_false c35
                clear c35
                replace H := Option.bind_eq_some_iff.mp H
                obtain ⟨t276, A1040, H⟩ := H
                replace H : (some t276) = some true := H
                have A104 := Aside0.mk A1040
                clear A1040
                have H9_ := Option.some.inj H
                clear H
                go_wp2_with (first | ((with_reducible refine gate_callee (f := 15) rfl ?_); refine goesL_ (some 118) rfl rfl Try.func15 (by kernel_rfl) rfl #[] rfl (by (try simp only [List.map_toArray, List.map_cons, List.map_nil]); first | done | rfl | (simp only [List.length_drop, List.length_take]; rfl)) ?_; (with_reducible refine (klaxonlaw17_live.calls k2  t276 _ A104.out).mono ?_); rintro e w105 ⟨rfl, hb⟩; refine ⟨_, rfl, ?_⟩; have n0_ := Aside0.mk (blk_below (g := gb258) (o := .cells #[.int .i64 0, .int .i64 a0, .int .i64 1, .int .i64 1] 27 (0, 0)) (by (with_reducible repeat (first | refine blk_drewN ?_ _ | refine blk_drew ?_ | refine blk_alloc ?_ _)); exact BK258.out) hb); have n1_ := Aside0.mk (blk_below (g := gb275) (o := .cells #[.int .i64 x276000_2, .int .i64 x276001_2, .int .i64 x276002_2, .int .i64 x276003_2, .int .i64 x276004_2, .int .i64 x276005_2, .int .i64 x276006_2] 25 (0, 0)) (by (with_reducible repeat (first | refine blk_drewN ?_ _ | refine blk_drew ?_ | refine blk_alloc ?_ _)); exact BK275.out) hb); have n2_ := Aside0.mk (below_step (by repeat (first | (with_reducible first | exact HB.out | apply below_alloc | apply pw_below_drewN | apply below_drew1 | refine below_set ?_ GE258.out | refine below_set ?_ GE275.out) | exact HB.out)) hb); clear BK258; clear BK275; clear HB; have BK258 := n0_; have BK275 := n1_; have HB := n2_; clear n0_ n1_ n2_; (try clear hb); (try clear hb2); (try clear hk); (try clear hi)))
                go_ret
                exact ⟨by first | rfl | (simp [errW_none, errW_some] <;> rfl) | (simp [*, errW_none, errW_some] <;> rfl), by repeat (first | (with_reducible first | exact HB.out | apply below_alloc | apply pw_below_drewN | apply below_drew1 | refine below_set ?_ GE258.out | refine below_set ?_ GE275.out) | exact HB.out)⟩
        · rw [if_neg c16] at H
          have c16b0 : (t268 == 3) = false := beq_eq_false_iff_ne.mpr c16
          have c16b1 : (t268 != 3) = true := bne_iff_ne.mpr c16
          exact absurd H (by simp)

end Go.Proofs.Ytmcnipjfigbkeaa.PState
