/- Disk.Unsafe: the sectors that are not safe, by the library's contracts of slices.Sorted(maps.Keys(m)). -/
import Derived.Test.YteimienhaodfcaaKShelf
import Derived.Test.YteimienhaodfcaaKLive4
import Derived.Test.YteimienhaodfcaaKMetaP
import Derived.Test.YteimienhaodfcaaKFlow
import Derived.Test.YteimienhaodfcaaKClone
import Derived.Deep.QuietTactic
import Derived.BigQuiet
import Derived.Outline
import Derived.Deep.RegionHeld3
import Derived.Lib.AppendZerosOnto
import Derived.Lib.SliceRun
import Derived.Lib.Walk
namespace Go.Proofs.YteimienhaodfcaaK
open Go.RowKit Go.Proofs.YteimienhaodfcaaW.PrintWords Go.Proofs.YteimienhaodfcaaW.PrintLast Go.Proofs.YteimienhaodfcaaW.PrintMore Go.Crc
open Go.ChangeMaps (setBlock)
attribute [local go_sem] max2_int min2_int max_two min_two
set_option linter.unusedVariables false
set_option linter.unusedSimpArgs false
variable {w w' : World} {X X' S : Nat → Prop} {d sb mb clock : Nat} {es : Array MapEntry} {safe : List Int} {D : Dk}
theorem nodup_bound (n : Nat) : ∀ l : List Nat, l.Nodup → (∀ x ∈ l, x < n) → l.length ≤ n := by
  induction n with
  | zero => intro l _ h; cases l with
    | nil => exact Nat.le_refl _
    | cons x l => exact absurd (h x (List.mem_cons_self)) (by omega)
  | succ n ih =>
    intro l hn h
    have h1 := ih (l.filter (· ≠ n)) (hn.filter _) (fun x hx => by
      have := List.mem_filter.1 hx
      have h2 := h x this.1
      have h3 : x ≠ n := by simpa using this.2
      omega)
    have h4 : l.length ≤ (l.filter (· ≠ n)).length + 1 := by
      clear h1 h ih
      induction l with
      | nil => simp
      | cons x l ih =>
        have hn' := List.nodup_cons.1 hn
        by_cases hx : x = n
        · subst hx
          rw [List.filter_cons_of_neg (by simp), List.filter_eq_self.2 (fun y hy => by
            have : y ≠ x := fun e => hn'.1 (e ▸ hy)
            simpa using this)]
          simp
        · rw [List.filter_cons_of_pos (by simpa using hx)]
          have := ih hn'.2
          simp only [List.length_cons]; omega
    omega
def keyInt : Value → Int
  | .int _ x => x
  | _ => 0
def keysOf (es : Array MapEntry) : List Int := es.toList.map fun e => keyInt e.key
theorem DParts.size (h : DParts w X d sb mb es clock safe D) : es.size ≤ D.sectors := by
  have hk : ∀ e ∈ es.toList, ∃ n : Nat, n < D.sectors ∧ e.key = .int .i64 (n : Int) := fun e he => by
    obtain ⟨n, l, b, hE⟩ := h.ent e he
    exact ⟨n, hE.lt, hE.key⟩
  have hn : (es.toList.map fun e => (keyInt e.key).toNat).Nodup := by
    have := h.st.2.2
    unfold List.Nodup at this ⊢
    rw [List.pairwise_map] at this ⊢
    refine this.imp_of_mem fun {a b} ha hb hne he => hne ?_
    obtain ⟨n, _, hna⟩ := hk a ha
    obtain ⟨m, _, hmb⟩ := hk b hb
    rw [hna, hmb] at he ⊢
    simp only [keyInt] at he
    have : n = m := by omega
    rw [this]
  have := nodup_bound D.sectors _ hn (fun x hx => by
    obtain ⟨e, he, rfl⟩ := List.mem_map.1 hx
    obtain ⟨n, hn, hk⟩ := hk e he
    rw [hk]; simpa [keyInt] using hn)
  simpa using this
theorem rd_int (e : MapEntry) (n : Nat) (hk : e.key = .int .i64 (n : Int)) (hn : n ≤ 65536) : Go.WideElems.rd Try.prog 3 (fun _ => some ((.nil : DataW Unit), [])) e = some (.int .i64 (n : Int), .nil) := by
  have h0 : keyOf Try.prog 3 (.int .i64 (n : Int)) = some (.int .i64 (n : Int)) := by
    have hw : (Lit.int .i64 (n : Int)).wf = true := by
      simp [Lit.wf, IntKind.min, IntKind.max, IntKind.bits, IntKind.signed]; omega
    simp [keyOf, Try.underlying3, mapKey, hw]
  unfold Go.WideElems.rd
  rw [hk, h0]
  rfl
theorem DParts.owns (h : DParts w X d sb mb es clock safe D) : ∃ D0 : DataW Unit, w.ownsMap Try.prog 3 (fun _ => some ((.nil : DataW Unit), [])) mb 65536 D0 ∧ (intKeys D0).Perm (keysOf es) ∧ Maps.size D0 = es.size := by
  have hs := h.size
  have hb := h.b2
  refine ⟨_, ⟨es, clock, h.hm, ⟨by unfold maxLen; omega, h.st, fun x hx => ?_⟩, by omega, rfl⟩, ?_, ?_⟩
  · obtain ⟨n, l, b, hE⟩ := h.ent x hx
    have hlt := hE.lt
    exact ⟨_, rd_int x n hE.key (by omega)⟩
  · simp only [intKeys]
    refine ((Go.WideShapes.sorted_perm _).map _).trans ?_
    rw [List.map_map]
    unfold keysOf
    rw [List.map_congr_left (g := fun e => keyInt e.key)]
    intro e he
    obtain ⟨n, l, b, hE⟩ := h.ent e he
    have hlt := hE.lt
    simp only [Function.comp, Go.WideElems.rg, rd_int e n hE.key (by omega), Option.getD_some, hE.key, keyInt]
    rfl
  · rw [Maps.size_eq, length_sorted]; simp
open Go.Proofs Go.Shelf Go.Sort Go.Maps
theorem sortsA (m : Nat) : AnyZI.SortsIn Try.prog Try.sortedA_ren Fence.wide m :=
  ⟨fun blk off cap ss W hH hblk hsz => callsIn_wide.2 (AnyM.slices_Sort_int Try.sortA blk off cap ss W hH hblk hsz),
   fun p cap W => callsIn_wide.2 (AnyM.slices_Sort_int_none Try.sortA p cap W)⟩
set_option maxHeartbeats 1000000 in
set_option maxRecDepth 100000 in
theorem unsafe_calls (h : DParts w X d sb mb es clock safe D) : Calls Try.prog 20 #[.pointer (some ⟨d, 0, none⟩)] w fun e w' => ∃ (v : Value) (ss : List Int), e = .returned v ∧ ss.Perm (keysOf es) ∧
      w'.ownsRow w.heap.size 3 1 v ss.length ((ss.mergeSort (fun x y => decide (x ≤ y))).map encZ) ∧ (v = .slice none 0 0 ↔ ss = []) ∧ Below w.heap.size w w' := by
  obtain ⟨D0, hown, hperm, hsz⟩ := h.owns
  have hle := h.size
  have hb2 := h.b2
  have hmax : Maps.size D0 ≤ maxLen := by unfold maxLen; omega
  have hbytes : Maps.size D0 * 8 ≤ 140737488355328 := by omega
  refine (callsIn_wide (n := 6)).1 ?_
  have hbl := hown.lt
  have hseq : SeqGives Fence.wide 2 Try.prog 87 #[.pointer (some ⟨w.heap.size, 0, none⟩)] encZ (fun ss => ss.Perm (intKeys D0)) (Maps.size D0) (w.alloc (.cells #[.map (some mb)] 98)) :=
    AnyZI.keys_gives (ρ := Try.keysA_ren) { Try.keysA with } Fence.wide _ trivial rfl (by omega) w.heap.size mb 65536 D0 _ (by simp) (by simp) (by
      obtain ⟨es, clock, hb, Ft, hs, hD⟩ := hown
      exact ⟨es, clock, (Below.heap_alloc _ _ mb hbl).trans hb, Ft, hs, hD⟩)
  have cK : ∀ mb W, CallsIn Fence.wide 5 Try.prog 61 #[.map mb] W fun e w' => e = .returned (.func (.func 87) #[] #[.pointer (some ⟨W.heap.size, 0, none⟩)]) ∧ w' = W.alloc (.cells #[.map mb] 98) := fun mb W => AnyZI.keys_in Try.keysA Fence.wide 5 trivial rfl mb W
  have cS := AnyZI.sorted_in Try.sortedA Fence.wide 5 trivial trivial trivial trivial rfl (by omega) (sortsA _) (enters_of Try.func86 (by kernel_rfl) rfl) 87 #[.pointer (some ⟨w.heap.size, 0, none⟩)] trivial (enters_of Try.func87 (by kernel_rfl) rfl) _ _ hmax hbytes _ hseq
  change CallsIn _ _ Try.prog 60 _ _ _ at cS
  have hfK : Fence.wide.fn 61 := trivial
  have hfS : Fence.wide.fn 60 := trivial
  have z3 := blk_cell h.hd 3
  simp only [List.getElem?_toArray, List.getElem?_cons_zero, List.getElem?_cons_succ] at z3
  clear h hown hseq hmax hbytes hle hb2 hsz
  refine callsIn_of_wp Try.func20 rfl trivial ?_ rfl
  simp only [Try.ntmps20, List.size_toArray, List.length_cons, List.length_nil, Nat.reduceAdd, Nat.reduceSub, Array.replicate_succ, Array.replicate_zero, List.push_toArray, List.append_toArray, List.nil_append, List.cons_append]
  gi_wp2_with (first
    | (gi_at_call 61; refine (cK _ _).mono ?_; rintro e w' ⟨rfl, rfl⟩)
    | (gi_at_call 60; refine cS.mono ?_; rintro e w' ⟨v, ss, rfl, hS, hrow, hnil, hb⟩))
  go_ret
  exact ⟨v, ss, rfl, hS.trans hperm, ownsRow_base_a hrow (by simp), hnil, ((Below.refl _ w).alloc (Nat.le_refl _) _).trans (hb.mono (by simp))⟩
set_option maxHeartbeats 1000000 in
theorem unsafe_nil (w : World) : Calls Try.prog 20 #[.pointer none] w fun e w' => e = .returned (.slice none 0 0) ∧ Drawn0 w w' := by
  go_enter Try.func20, Try.ntmps20
  go_wp2
  go_ret
  exact ⟨rfl, by repeat (first | exact Drawn0.refl _ | apply Drawn0.step)⟩
theorem DParts.key_of (h : DParts w X d sb mb es clock safe D) {e : MapEntry} (he : e ∈ es.toList) : ∃ n : Nat, D.fresh n ≠ none ∧ keyInt e.key = n ∧ e.key = .int .i64 (n : Int) := by
  obtain ⟨n, l, b, hE⟩ := h.ent e he
  exact ⟨n, by rw [hE.fr]; simp, by rw [hE.key]; rfl, hE.key⟩
theorem DParts.keys_mem (h : DParts w X d sb mb es clock safe D) (x : Int) : x ∈ keysOf es ↔ ∃ n : Nat, x = n ∧ D.fresh n ≠ none := by
  constructor
  · intro hx
    obtain ⟨e, he, rfl⟩ := List.mem_map.1 hx
    obtain ⟨n, hf, hk, _⟩ := h.key_of he
    exact ⟨n, hk, hf⟩
  · rintro ⟨n, rfl, hf⟩
    cases hl : D.fresh n with
    | none => exact absurd hl hf
    | some l =>
      obtain ⟨e, he, hk⟩ := h.all n l hl
      exact List.mem_map.2 ⟨e, he, by rw [hk]; rfl⟩
theorem DParts.keys_nodup (h : DParts w X d sb mb es clock safe D) : (keysOf es).Nodup := by
  have := h.st.2.2
  unfold keysOf List.Nodup at *
  rw [List.pairwise_map] at this ⊢
  refine this.imp_of_mem fun {a b} ha hb hne he => hne ?_
  obtain ⟨n, _, hna, hka⟩ := h.key_of ha
  obtain ⟨m, _, hmb, hkb⟩ := h.key_of hb
  rw [hna, hmb] at he
  rw [hka, hkb, he]
/-- No sector is unsafe. -/
theorem LS.unsafe0 {W : World} (h : LS w W d D) (hf : ∀ n, D.fresh n = none) : Calls Try.prog 20 #[.pointer (some ⟨d, 0, none⟩)] W fun e w' => e = .returned (.slice none 0 0) ∧ Below W.heap.size W w' := by
  obtain ⟨sb, mb, es, clock, safe, hp⟩ := h.at_
  refine (unsafe_calls hp).mono ?_
  rintro e w' ⟨v, ss, rfl, hS, _, hnil, hb⟩
  have : ss = [] := by
    have hk : keysOf es = [] := List.eq_nil_iff_forall_not_mem.2 fun x hx => by
      obtain ⟨n, _, hn⟩ := (hp.keys_mem x).1 hx
      exact hn (hf n)
    rw [hk] at hS
    exact hS.eq_nil
  rw [hnil.2 this]
  exact ⟨rfl, hb⟩
/-- One sector is unsafe. -/
theorem LS.unsafe1 {W : World} (h : LS w W d D) (k : Nat) (hf : ∀ n, D.fresh n ≠ none ↔ n = k) : Calls Try.prog 20 #[.pointer (some ⟨d, 0, none⟩)] W fun e w' => ∃ g cap, e = .returned (.slice (some ⟨g, 0, none⟩) 1 cap) ∧ 1 ≤ cap ∧ W.heap.size ≤ g ∧ (∃ cur : Array Value, w'.heap[g]? = some (.cells cur 3 (0, 0)) ∧ cur[0]? = some (.int .i64 (k : Int))) ∧ Below W.heap.size W w' := by
  obtain ⟨sb, mb, es, clock, safe, hp⟩ := h.at_
  refine (unsafe_calls hp).mono ?_
  rintro e w' ⟨v, ss, rfl, hS, hrow, hnil, hb⟩
  have hnd : ss.Nodup := hS.nodup_iff.2 hp.keys_nodup
  have hmem : ∀ x, x ∈ ss ↔ x = (k : Int) := fun x => by
    rw [hS.mem_iff, hp.keys_mem]
    constructor
    · rintro ⟨n, rfl, hn⟩; rw [(hf n).1 hn]
    · rintro rfl; exact ⟨k, rfl, (hf k).2 rfl⟩
  have hss : ss = [(k : Int)] := by
    match ss, hnd, hmem with
    | [], _, hm => exact absurd ((hm k).2 rfl) (List.not_mem_nil)
    | [x], _, hm => rw [(hm x).1 (List.mem_cons_self)]
    | x :: y :: l, hn, hm =>
      exfalso
      have e1 := (hm x).1 (List.mem_cons_self)
      have e2 := (hm y).1 (List.mem_cons_of_mem _ (List.mem_cons_self))
      have := (List.nodup_cons.1 hn).1
      rw [e1, e2] at this
      exact this (List.mem_cons_self)
  subst hss
  rcases hrow.2 with ⟨rfl, hz⟩ | ⟨g, cap, cur, rfl, hbase, hgb, r1, r2, r3, r4⟩
  · cases hz
  · refine ⟨g, cap, rfl, r1, hbase, ⟨cur, hgb, ?_⟩, hb⟩
    have h1 := congrArg (fun l => l[0]?) r4
    simp only [List.getElem?_take] at h1
    simpa using h1
end Go.Proofs.YteimienhaodfcaaK
