/- Labels in order: what the comparison of names is; two labels of a row change places. -/
import Derived.Test.YtjhgckpcadngaaaGreatKSrt
import Derived.Test.YtjhgckpcadngaaaGreatKLabC
namespace Go.Proofs.YtjhgckpcadngaaaGreatK
open Go.RowKit Go.Proofs.YtjhgckpcadngaaaGreatW.PrintWords Go.Proofs.YtjhgckpcadngaaaGreatW.PrintLast Go.Proofs.YtjhgckpcadngaaaGreatW.PrintMore
open Go.Proofs.YtjhgckpcadngaaaGreat.PLA Go.Proofs.YtjhgckpcadngaaaGreat Go.Proofs.YtjhgckpcadngaaaGreatSrt
set_option linter.unusedVariables false
set_option linter.unusedSimpArgs false
theorem cb_neg : ∀ a b : List UInt8, Lib.compareBytes a b = - Lib.compareBytes b a
  | [], [] => rfl
  | [], _ :: _ => rfl
  | _ :: _, [] => rfl
  | x :: a, y :: b => by
    unfold Lib.compareBytes
    by_cases h1 : x < y
    · have h2 : ¬ y < x := fun h => UInt8.lt_asymm h1 h
      rw [if_pos h1, if_neg h2, if_pos h1]
    · by_cases h2 : y < x
      · rw [if_neg h1, if_pos h2, if_pos h2]; rfl
      · rw [if_neg h1, if_neg h2, if_neg h2, if_neg h1]; exact cb_neg a b
theorem cb_self : ∀ a : List UInt8, Lib.compareBytes a a = 0 := fun a => by have := cb_neg a a; omega
theorem cb_zero : ∀ a b : List UInt8, Lib.compareBytes a b = 0 → a = b
  | [], [], _ => rfl
  | [], _ :: _, h => by simp [Lib.compareBytes] at h
  | _ :: _, [], h => by simp [Lib.compareBytes] at h
  | x :: a, y :: b, h => by
    unfold Lib.compareBytes at h
    by_cases h1 : x < y
    · rw [if_pos h1] at h; omega
    · rw [if_neg h1] at h
      by_cases h2 : y < x
      · rw [if_pos h2] at h; omega
      · rw [if_neg h2] at h
        have e : x = y := UInt8.le_antisymm (UInt8.not_lt.1 h2) (UInt8.not_lt.1 h1)
        rw [e, cb_zero a b h]
theorem cb_trans : ∀ a b c : List UInt8, Lib.compareBytes a b ≤ 0 → Lib.compareBytes b c ≤ 0 → Lib.compareBytes a c ≤ 0
  | [], _, [], _, _ => by simp [Lib.compareBytes]
  | [], _, _ :: _, _, _ => by simp [Lib.compareBytes]
  | _ :: _, [], _, h, _ => by simp [Lib.compareBytes] at h
  | _ :: _, _ :: _, [], _, h => by simp [Lib.compareBytes] at h
  | x :: a, y :: b, z :: c, h1, h2 => by
    unfold Lib.compareBytes at h1 h2 ⊢
    by_cases xz : x < z
    · rw [if_pos xz]; omega
    · rw [if_neg xz]
      by_cases xy : x < y
      · have yz : z < y := UInt8.lt_of_le_of_lt (UInt8.not_lt.1 xz) xy
        have yz' : ¬ y < z := fun h => UInt8.lt_asymm h yz
        rw [if_neg yz', if_pos yz] at h2; omega
      · rw [if_neg xy] at h1
        by_cases yx : y < x
        · rw [if_pos yx] at h1; omega
        · rw [if_neg yx] at h1
          have e : x = y := UInt8.le_antisymm (UInt8.not_lt.1 yx) (UInt8.not_lt.1 xy)
          subst e
          rw [if_neg xz] at h2
          by_cases zx : z < x
          · rw [if_pos zx] at h2; omega
          · rw [if_neg zx] at h2 ⊢
            exact cb_trans a b c h1 h2
/-- A label is not behind another one. -/
def leN (x y : S47) : Prop := cmpN x y ≤ 0
theorem leN_of_lt {x y : S47} (h : cmpN x y < 0) : leN x y := Int.le_of_lt h
theorem leN_of_not {x y : S47} (h : ¬ cmpN y x < 0) : leN x y := by
  unfold leN cmpN at *
  have := cb_neg x.f0.data.toList y.f0.data.toList
  omega
theorem leN_trans (x y z : S47) (h1 : leN x y) (h2 : leN y z) : leN x z := cb_trans _ _ _ h1 h2
theorem leN_anti {x y : S47} (h1 : leN x y) (h2 : leN y x) : x.f0.data.toList = y.f0.data.toList := by
  unfold leN cmpN at *
  have := cb_neg x.f0.data.toList y.f0.data.toList
  exact cb_zero _ _ (by omega)
theorem RowL.swapG {W : World} {g : Nat} {L : List S47} (h : RowL W g L) {i j : Nat} (hi : i < L.length) (hj : j < L.length) {x y : S47} (hx : x = L[i]) (hy : y = L[j]) :
    RowL ((((W.setCell ⟨g, i * 2, none⟩ (.string y.f0)).setCell ⟨g, i * 2 + 1, none⟩ (.string y.f1)).setCell ⟨g, j * 2, none⟩ (.string x.f0)).setCell ⟨g, j * 2 + 1, none⟩ (.string x.f1)) g (swpAt L i j) := by
  rw [swpAt_eq hi hj, ← hx, ← hy]
  exact (h.set1 hi y).set1 (j := j) (by rw [List.length_set]; exact hj) x
theorem FrmG.swap {g : Nat} {w W : World} (h : Frm (fun k => k = g) w W) (i j : Nat) (v1 v2 v3 v4 : Value) :
    Frm (fun k => k = g) w ((((W.setCell ⟨g, i * 2, none⟩ v1).setCell ⟨g, i * 2 + 1, none⟩ v2).setCell ⟨g, j * 2, none⟩ v3).setCell ⟨g, j * 2 + 1, none⟩ v4) :=
  Frm.set (Frm.set (Frm.set (Frm.set h (p := ⟨g, i * 2, none⟩) (.inl rfl) _) (p := ⟨g, i * 2 + 1, none⟩) (.inl rfl) _) (p := ⟨g, j * 2, none⟩) (.inl rfl) _) (p := ⟨g, j * 2 + 1, none⟩) (.inl rfl) _
/-- What a sorting step leaves: a row with the same labels, only the places from a to b changed. -/
def Sorted (w : World) (g a b : Nat) (L : List S47) (w' : World) : Prop := (∃ L', RowL w' g L' ∧ Seg a b L L' ∧ SortR leN a b L') ∧ Frm (fun k => k = g) w w'
end Go.Proofs.YtjhgckpcadngaaaGreatK
