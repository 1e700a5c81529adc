/- The pure statement of the law klaxonlaw04.MetaBack: a meta that may be is told by its bytes; one byte that is another one and it is not. -/
import Derived.Test.YteimienhaodfcaaSMetaBack
import Derived.Test.YteimienhaodfcaaKMetaP
namespace Go.Proofs.Yteimienhaodfcaa.Pure
open Go.RowKit Go.Proofs.YteimienhaodfcaaW.PrintWords Go.Proofs.Yteimienhaodfcaa.PMeta Go.Proofs.YteimienhaodfcaaK Go.Crc
theorem wfu64 {y : Int} (h : (Lit.int .u64 y).wf = true) : 0 ≤ y ∧ y < 18446744073709551616 := by
  simp [Lit.wf, IntKind.min, IntKind.max, IntKind.bits, IntKind.signed] at h; omega
theorem wfu8 {y : Int} (h : (Lit.int .u8 y).wf = true) : 0 ≤ y ∧ y < 256 := by
  simp [Lit.wf, IntKind.min, IntKind.max, IntKind.bits, IntKind.signed] at h; omega
theorem j0_true (n : Nat) (x1 x2 s r k d : Int) : klaxonlaw04_MetaBack.j0 (n + 1) x1 x2 true s r k d = some true := by
  rw [klaxonlaw04_MetaBack.j0]; rfl
theorem get_some {l : List Int} (h : Bytes l) : meta_Get.f l = some (getM l) := by
  unfold meta_Get.f; rw [if_pos (bytesB_of h)]
theorem j0_false (x1 x2 s r k d : Int) (hs : 1 ≤ s ∧ s < 18446744073709551616) (hr : 0 ≤ r ∧ r ≤ 16384) (hk : 0 ≤ k ∧ k ≤ 2147483647) (hd : 0 ≤ d ∧ d ≤ 64) (h2 : 0 ≤ x2 ∧ x2 < 256) : klaxonlaw04_MetaBack.j0 3 x1 x2 false s r k d = some true := by
  have hl : (metaOf s r k d).length = 36 := metaB_length _ _ _ _
  have hb : Bytes (metaOf s r k d) := metaB_bytes _ _ _ _
  rw [klaxonlaw04_MetaBack.j0, if_neg (by decide)]
  have hput : meta_Put.f s r k d = some (metaOf s r k d) := by unfold meta_Put.f; rw [if_pos ⟨by omega, hs.2⟩]
  rw [hput, Option.bind_some, get_some hb, Option.bind_some, getM_meta s r k d hs hr hk hd]
  simp only [klaxonlaw04_num.f, Option.bind_some, beq_self_eq_true, Bool.not_true, Bool.or_self, Bool.false_eq_true, if_false, if_true]
  rw [hl]
  have e36 : (((36 : Nat) : Int) != 36) = false := by decide
  rw [e36, klaxonlaw04_MetaBack.j1, if_neg (by decide)]
  have j2t : ∀ p, klaxonlaw04_MetaBack.j2 1 x1 x2 p true = some true := fun p => by rw [klaxonlaw04_MetaBack.j2]; rfl
  by_cases h0 : x1 < 0
  · rw [if_pos h0]; exact j2t _
  rw [if_neg h0]
  by_cases h1 : x1 ≥ ((metaOf s r k d).length : Int)
  · rw [if_pos h1]; exact j2t _
  rw [if_neg h1, if_pos (by omega), if_pos (by omega)]
  by_cases h3 : rd (metaOf s r k d) x1 = x2
  · rw [show (rd (metaOf s r k d) x1 == x2) = true by simpa using h3]; exact j2t _
  · rw [show (rd (metaOf s r k d) x1 == x2) = false by simpa using h3, klaxonlaw04_MetaBack.j2, if_neg (by decide), if_pos (by omega), if_pos (by omega)]
    obtain ⟨i, rfl⟩ : ∃ i : Nat, x1 = i := ⟨x1.toNat, by omega⟩
    have hset := getM_set s (IntKind.u64.wrap r) (IntKind.u64.wrap k) (IntKind.u64.wrap d) i x2 (by omega) h2 h3
    have hbs : Bytes ((metaOf s r k d).set i x2) := fun x hx => (List.mem_or_eq_of_mem_set hx).elim (hb x) fun e => by rw [e]; exact h2
    rw [Int.toNat_natCast, get_some hbs, Option.bind_some]
    unfold metaOf
    rw [hset]
    rfl
theorem MetaBack : klaxonlaw04_MetaBack.PureS := by
  rintro ⟨s, r, k, d⟩ x1 x2 ⟨hs, _, _, _⟩ _ h2
  refine ⟨3, ?_⟩
  have hs := wfu64 hs
  have h2 := wfu8 h2
  simp only at hs ⊢
  unfold klaxonlaw04_MetaBack.f
  by_cases g1 : s = 0
  · rw [if_pos g1]; exact j0_true _ _ _ _ _ _ _
  rw [if_neg g1]
  by_cases g2 : r < 0
  · rw [if_pos g2]; exact j0_true _ _ _ _ _ _ _
  rw [if_neg g2]
  by_cases g3 : r > 16384
  · rw [if_pos g3]; exact j0_true _ _ _ _ _ _ _
  rw [if_neg g3]
  by_cases g4 : k < 0
  · rw [if_pos g4]; exact j0_true _ _ _ _ _ _ _
  rw [if_neg g4]
  by_cases g5 : k > 2147483647
  · rw [if_pos g5]; exact j0_true _ _ _ _ _ _ _
  rw [if_neg g5]
  by_cases g6 : d < 0
  · rw [if_pos g6]; exact j0_true _ _ _ _ _ _ _
  rw [if_neg g6]
  by_cases g7 : d > 64
  · rw [decide_eq_true g7]; exact j0_true _ _ _ _ _ _ _
  · rw [decide_eq_false g7]
    exact j0_false x1 x2 s r k d ⟨by omega, hs.2⟩ ⟨by omega, by omega⟩ ⟨by omega, by omega⟩ ⟨by omega, by omega⟩ h2
end Go.Proofs.Yteimienhaodfcaa.Pure
