/- Labels: KLabQ, KLabR, KLabT, KLabW in one text (a claim's folder holds at most 60 files); the plain law and the walk of LabelsOver. -/
import Derived.Test.YtjhgckpcadngaaaGreatPLAx0
import Derived.Test.YtjhgckpcadngaaaGreatPLAx1
import Derived.Test.YtjhgckpcadngaaaGreatPLAx2
import Derived.Test.YtjhgckpcadngaaaGreatPLAx3
import Derived.Test.YtjhgckpcadngaaaGreatKFlow3
import Derived.Test.YtjhgckpcadngaaaGreatKFlow4
import Derived.Test.YtjhgckpcadngaaaGreatKJoin
import Derived.Test.YtjhgckpcadngaaaGreatKEv
import Derived.Test.YtjhgckpcadngaaaGreatKOpen
import Derived.Lib.SlBytesConst
import Derived.Lib.Bytes
import Derived.Deep.RegionWith
import Derived.Deep.QuietTactic
import Derived.Deep.RegionHeld3
import Derived.BigQuiet
import Derived.Outline
import Derived.Deep.WholeRow
import Derived.Lib.SliceRun
import Derived.Lib.LazyBuf
import Derived.Lib.ConvBytes
import Derived.Laws.Cover1
import Derived.Laws.CopyOwn
import Derived.Lib.Strings
import Derived.Lib.Slices
import Derived.Lib.Walk
import Derived.Lib.Bytealg
import Derived.Tactics
import Derived.Tactics2
import Derived.Defers
import Derived.Laws.Pointers
import Derived.Laws.LoneSync
import Derived.RegionTactic
import Derived.RegionCalls
import Derived.ChangeAlike
import Derived.Test.YtjhgckpcadngaaaGreatKLabA
import Derived.Test.YtjhgckpcadngaaaGreatKLabB
import Derived.Test.YtjhgckpcadngaaaGreatKLabC
import Derived.Test.YtjhgckpcadngaaaGreatKFrm
import Derived.Test.YtjhgckpcadngaaaGreatKSrt
import Derived.Test.YtjhgckpcadngaaaGreatKSrtN
import Derived.Test.YtjhgckpcadngaaaGreatKLabF
import Derived.Test.YtjhgckpcadngaaaGreatKLabG
import Derived.Test.YtjhgckpcadngaaaGreatKLabH
import Derived.Test.YtjhgckpcadngaaaGreatKLabI
import Derived.Test.YtjhgckpcadngaaaGreatKLabJ
import Derived.Test.YtjhgckpcadngaaaGreatKLabK
import Derived.Test.YtjhgckpcadngaaaGreatKLabL
import Derived.Test.YtjhgckpcadngaaaGreatKLabM
import Derived.Test.YtjhgckpcadngaaaGreatKLabN
import Derived.Test.YtjhgckpcadngaaaGreatPLAx7
import Derived.Test.YtjhgckpcadngaaaGreatPLAx6
import Derived.Test.YtjhgckpcadngaaaGreatPLAx4
import Derived.Test.YtjhgckpcadngaaaGreatKLabE
namespace Go.Proofs.YtjhgckpcadngaaaGreatK
open Go.RowKit Go.Proofs.YtjhgckpcadngaaaGreatW.PrintWords Go.Proofs.YtjhgckpcadngaaaGreatW.PrintLast Go.Proofs.YtjhgckpcadngaaaGreatW.PrintMore
open Go.Proofs.YtjhgckpcadngaaaGreat.PLA Go.Proofs.YtjhgckpcadngaaaGreat Go.Proofs.YtjhgckpcadngaaaGreatSrt
attribute [local go_sem] max2_int min2_int max_two min_two max_three min_three max_four min_four
set_option linter.unusedVariables false
set_option linter.unusedSimpArgs false
theorem sA {α : Type} (l : List α) (i : Nat) (a : α) : l.toArray.setIfInBounds i a = (l.set i a).toArray := List.setIfInBounds_toArray ..
theorem sB {α : Type} (a b : α) (l : List α) : (a :: l).set 0 b = b :: l := rfl
theorem sC {α : Type} (a b : α) (l : List α) (n : Nat) : (a :: l).set (n + 1) b = a :: l.set n b := rfl
theorem opens_L : Opens Tryz.prog k47 (fun x => x.f0.size ≤ 140737488351232 ∧ x.f1.size ≤ 140737488351232) 47 :=
  opens_struct (fun x : S47 => (x.f0, x.f1)) (fun p => ⟨p.1, p.2⟩) (fun _ => rfl) (opensL_cons 9 0 1 (opens_string Tryz.underlying9 (by kernel_rfl)) rfl (opensL_one 9 1 (opens_string Tryz.underlying9 (by kernel_rfl)))) Tryz.underlying47 (by kernel_rfl) rfl
theorem idx_l0 (l : List ByteArray) (o : ByteArray) (hl : l.length ≤ 4611686018427387904) : ∀ (n i k : Nat), i + n = l.length → n + 1 ≤ k → ∃ r, slices_Index_string_string.l0 k l o (l.length : Int) (i : Int) = some r ∧ decide (r ≥ 0) = (l.drop i).any (seq o)
  | 0, i, k, hi, hk => by
    obtain ⟨k, rfl⟩ : ∃ j, k = j + 1 := ⟨k - 1, by omega⟩
    refine ⟨-1, ?_, ?_⟩
    · unfold slices_Index_string_string.l0
      rw [if_neg (by omega)]
    · rw [List.drop_of_length_le (by omega)]; rfl
  | n + 1, i, k, hi, hk => by
    obtain ⟨k, rfl⟩ : ∃ j, k = j + 1 := ⟨k - 1, by omega⟩
    obtain ⟨r, h1, h2⟩ := idx_l0 l o hl n (i + 1) k (by omega) (by omega)
    have hlt : i < l.length := by omega
    unfold slices_Index_string_string.l0
    rw [if_pos (by omega), if_pos (by omega), if_pos (by omega), show wrap64 ((i : Int) + 1) = ((i + 1 : Nat) : Int) by unfold wrap64; omega, h1, List.drop_eq_getElem_cons hlt, List.any_cons,
      show rdOf ByteArray.empty l (i : Int) = l[i] by simp [rdOf, List.getD_eq_getElem?_getD, List.getElem?_eq_getElem hlt]]
    by_cases e : o.toList = l[i].toList
    · rw [if_pos e]; exact ⟨_, rfl, by unfold seq; rw [e]; simp⟩
    · rw [if_neg e]; exact ⟨r, rfl, by rw [h2]; unfold seq; simp [e]⟩
theorem contains_f (l : List ByteArray) (o : ByteArray) (hl : l.length ≤ 4611686018427387904) (k : Nat) (hk : l.length + 1 ≤ k) : slices_Contains_string_string.f k l o = some (l.any (seq o)) := by
  unfold slices_Contains_string_string.f slices_Index_string_string.f
  obtain ⟨r, h1, h2⟩ := idx_l0 l o hl l.length 0 k (by omega) hk
  rw [show ((0 : Nat) : Int) = 0 from rfl] at h1
  rw [h1, Option.bind_some, h2, List.drop_zero]
theorem rget_l0 (l : List S47) (nm : ByteArray) (hl : l.length ≤ 9223372036854775807) : ∀ (n i k : Nat), i + n = l.length → n + 1 ≤ k → klaxonref09_Get.l0 k l nm (i : Int) = some (getL (l.drop i) nm)
  | 0, i, k, hi, hk => by
    obtain ⟨k, rfl⟩ : ∃ j, k = j + 1 := ⟨k - 1, by omega⟩
    unfold klaxonref09_Get.l0
    rw [if_neg (by omega), List.drop_of_length_le (by omega)]; rfl
  | n + 1, i, k, hi, hk => by
    obtain ⟨k, rfl⟩ : ∃ j, k = j + 1 := ⟨k - 1, by omega⟩
    have ih := rget_l0 l nm hl n (i + 1) k (by omega) (by omega)
    have hlt : i < l.length := by omega
    unfold klaxonref09_Get.l0
    rw [if_pos (by omega), if_pos (by omega), rdT l i hlt, show wrap64 ((i : Int) + 1) = ((i + 1 : Nat) : Int) by unfold wrap64; omega, ih, List.drop_eq_getElem_cons hlt]
    unfold getL
    rw [List.find?_cons]
    unfold seq
    by_cases e : l[i].f0.toList = nm.toList
    · rw [if_pos e, e]; simp
    · have e' : (l[i].f0.toList == nm.toList) = false := beq_eq_false_iff_ne.2 e
      rw [if_neg e]; simp only [e']
theorem rget_f (l : List S47) (nm : ByteArray) (hl : l.length ≤ 9223372036854775807) : klaxonref09_Get.f (l.length + 1) l nm = some (getL l nm) := by
  have := rget_l0 l nm hl l.length 0 _ (by omega) (Nat.le_refl _)
  rw [List.drop_zero] at this
  exact this
theorem rget_calls (A : Option Addr) (c : Nat) (l : List S47) (nm : ByteArray) (w : World) (hr : Kd.C k47 w A l.length l) (hc : l.length ≤ c) : Calls Tryz.prog 31 #[.slice A l.length c, .string nm] w fun e w' => e = .returned (.string (getL l nm)) ∧ Below w.heap.size w w' :=
  (klaxonref09_Get.calls _ A c l nm _ w hr hc (rget_f l nm (by have := hr.2.1; omega))).mono fun e w' h => ⟨h.1, h.2.below⟩
theorem infoLL : (Tryz.prog.info? 47).map (fun i => (i.zero, i.size, i.bytes)) = some (some (.agg #[.string ⟨#[]⟩, .string ⟨#[]⟩]), 2, 32) := by kernel_rfl
theorem append_runL (W : World) (base : Nat) (ty : TypeId) (v : Value) (xs ys : List S47) (A : Option Addr) (c : Nat) (HO : Kd.R k47 47 W base (fun _ => True) v xs) (HR : Kd.C k47 W A ys.length ys) (hbase : base ≤ W.heap.size) (hl : (xs.length + ys.length) * 32 ≤ 140737488355328) :
    ∃ v1 w1, (Builtin.append_ #[22, 22] ty #[v, .slice A ys.length c]).run Tryz.prog W = .ok v1 w1 ∧ Kd.R k47 47 w1 base (fun _ => True) v1 (xs ++ ys) ∧ W.grownBy w1 v.ownBlock ∧ (v1.ownBlock = v.ownBlock ∨ ∃ b, v1.ownBlock = some b ∧ W.heap.size ≤ b) := by
  have h := Kd.R_append_rows_step (P := Tryz.prog) (ops := #[]) (o := { dst := some 0, op := .call { callee := .builtin .append, args := #[.tmp 0, .tmp 1], argTypes := #[22, 22] }, type := ty, pos := "", after := #[], guard := none }) (a := { tmps := #[v, .slice A ys.length c], defers := [] }) (Q := fun _ _ _ => False)
    (Kc := fun a' w1 => ∃ v1, a'.tmps[0]? = some v1 ∧ Kd.R k47 47 w1 base (fun _ => True) v1 (xs ++ ys) ∧ W.grownBy w1 v.ownBlock ∧ (v1.ownBlock = v.ownBlock ∨ ∃ b, v1.ownBlock = some b ∧ W.heap.size ≤ b))
    k47 (w0 := W) base rfl (.tmp 0) (.tmp 1) 22 47 (.agg #[.string ⟨#[]⟩, .string ⟨#[]⟩]) 32 rfl Tryz.underlying22 infoLL rfl (by decide) (by decide) v xs ys A ys.length c (fun _ => True) (fun _ => False) rfl rfl HO HR (fun _ _ h => h) (fun _ hk => hk.elim) (fun _ _ => trivial) ((Below.refl _ _).mono hbase) hbase (by omega)
    (fun v1 w1 h1 h2 h3 h4 => ⟨v1, rfl, h1, h3, h4⟩)
  rw [if_pos (show Region.wanted _ _ = true from rfl)] at h
  unfold Oper.wp at h
  obtain ⟨a, ha⟩ : ∃ a : Act, a = { tmps := #[v, .slice A ys.length c], defers := [] } := ⟨_, rfl⟩
  have e0 : a.eval (.tmp 0) = v := by rw [ha]; rfl
  have e1 : a.eval (.tmp 1) = .slice A ys.length c := by rw [ha]; rfl
  have e2 : ∀ u : Value, (a.put (some 0) u).tmps[0]? = some u := fun u => by rw [ha]; rfl
  rw [← ha] at h
  clear ha
  cases hb : (Builtin.append_ #[22, 22] ty #[v, .slice A ys.length c]).run Tryz.prog W with
  | ok v1 w1 =>
    have he : ∀ o : Oper, o.op = .call { callee := .builtin .append, args := #[.tmp 0, .tmp 1], argTypes := #[22, 22] } → o.type = ty → (execOp a.eval o).run Tryz.prog W = .ok (.value v1) w1 := fun o h1 h2 => by
      simp [execOp, resolve, invoke, builtin, h1, h2, e0, e1, hb]
    rw [he _ rfl rfl, Oper.upon_value] at h
    obtain ⟨u, hu, h1, h2, h3⟩ := h
    obtain rfl : v1 = u := Option.some.inj ((e2 v1).symm.trans hu)
    exact ⟨_, _, rfl, h1, h2, h3⟩
  | halt hh w1 =>
    exfalso
    have he : ∀ o : Oper, o.op = .call { callee := .builtin .append, args := #[.tmp 0, .tmp 1], argTypes := #[22, 22] } → o.type = ty → (execOp a.eval o).run Tryz.prog W = .halt hh w1 := fun o h1 h2 => by
      simp [execOp, resolve, invoke, builtin, h1, h2, e0, e1, hb]
    rw [he _ rfl rfl] at h
    cases hh <;> simp [Oper.upon, LetsOut] at h
theorem append_nothingL (W : World) (ty : TypeId) (g : Nat) (A : Option Addr) (c : Nat) : (Builtin.append_ #[22, 22] ty #[.slice (some ⟨g, 0, none⟩) 0 0, .slice A 0 c]).run Tryz.prog W = .ok (.slice (some ⟨g, 0, none⟩) 0 0) W := by
  obtain ⟨i, hi, hzz⟩ := Option.map_eq_some_iff.1 infoLL
  cases A <;> simp [Builtin.append_, run_underlying Tryz.underlying22, sizeOf, typeInfo, hi, storeCells, loadCellsFrom, Builtin.lenOf, Builtin.firstCells, loadCells]
theorem empty_RL {W : World} {g base : Nat} (h : W.heap[g]? = some (.cells #[] 47 (0, 0))) (hb : base ≤ g) : Kd.R k47 47 W base (fun _ => True) (.slice (some ⟨g, 0, none⟩) 0 0) [] :=
  ⟨fun k hk => trivial, [], ⟨rfl, .inr ⟨g, 0, #[], rfl, hb, h, Nat.le_refl _, by simp [maxLen], rfl, rfl⟩⟩, Reps.none _ _⟩
theorem append_emptyL (W : World) (base : Nat) (ty : TypeId) (g : Nat) (ys : List S47) (A : Option Addr) (c : Nat) (h0 : W.heap[g]? = some (.cells #[] 47 (0, 0))) (hg : base ≤ g) (hbase : base ≤ W.heap.size) (HR : Kd.C k47 W A ys.length ys) (hl : ys.length ≤ 1000000) :
    ∃ v1 w1, (Builtin.append_ #[22, 22] ty #[.slice (some ⟨g, 0, none⟩) 0 0, .slice A ys.length c]).run Tryz.prog W = .ok v1 w1 ∧ Kd.R k47 47 w1 base (fun _ => True) v1 ys ∧ Below W.heap.size W w1 := by
  by_cases hy : ys.length = 0
  · obtain rfl := List.length_eq_zero_iff.1 hy
    exact ⟨_, _, append_nothingL W ty g A c, empty_RL h0 hg, Below.refl _ _⟩
  obtain ⟨v1, w1, h1, h2, _, _⟩ := append_runL W base ty (.slice (some ⟨g, 0, none⟩) 0 0) [] ys A c (empty_RL h0 hg) HR hbase (by simp; omega)
  obtain ⟨i, hi, hzz⟩ := Option.map_eq_some_iff.1 infoLL
  simp only [Prod.mk.injEq] at hzz
  obtain ⟨hz, hsz, hby⟩ := hzz
  obtain ⟨ad, rfl, -⟩ := HR.2.2 (by omega)
  obtain ⟨inner, hrep, hcell⟩ := ReadsRow.inner_ HR
  have hr := run_append_grow (P := Tryz.prog) W 22 ty 47 i (.agg #[.string ⟨#[]⟩, .string ⟨#[]⟩]) Tryz.underlying22 hi hz ⟨g, 0, none⟩ 0 0 [] (by simp) (by intro j v hj; simp at hj) ad ys.length c inner (by rw [hrep.1, hsz]; rfl)
    hcell (by omega) (by omega) (growslice_fits (by omega) (by rw [hby]; omega))
  rw [h1] at hr
  injection hr with e1 e2
  refine ⟨v1, w1, h1, by simpa using h2, ?_⟩
  rw [e2]
  exact below_alloc (below_drew (Below.refl _ _)) _
theorem exec_appendL {ρ : Operand → Value} {s x : Nat} {ty : TypeId} {g : Option (Nat × Bool)} {v u v1 : Value} {w w1 : World} (hs : ρ (.tmp s) = v) (hx : ρ (.tmp x) = u) (h : (Builtin.append_ #[22, 22] ty #[v, u]).run Tryz.prog w = .ok v1 w1) :
    (execOp ρ (opOf (.call { callee := .builtin .append, args := #[.tmp s, .tmp x], argTypes := #[22, 22] }) ty g)).run Tryz.prog w = .ok (.value v1) w1 := by
  simp [execOp, resolve, invoke, builtin, opOf, hs, hx, h]
theorem exec_build0L {ρ : Operand → Value} {ty : TypeId} {g : Option (Nat × Bool)} {w : World} :
    (execOp ρ (opOf (.buildSlice 22 0 #[]) ty g)).run Tryz.prog w = .ok (.value (.slice (some ⟨w.heap.size, 0, none⟩) 0 0)) (w.alloc (.cells #[] 47)) := by
  have h5 := Tryz.underlying22
  obtain ⟨i, hi, hzz⟩ := Option.map_eq_some_iff.1 infoLL
  simp only [Prod.mk.injEq] at hzz
  obtain ⟨hz, hsz, hby⟩ := hzz
  simp [execOp, opOf, Instr.buildSlice, go_sem, h5, hi, hz, hsz, newRow]
theorem exec_build1L {ρ : Operand → Value} {x : Nat} {s0 s1 : ByteArray} {ty : TypeId} {g : Option (Nat × Bool)} {w : World} (hx : ρ (.tmp x) = .agg #[.string s0, .string s1]) :
    (execOp ρ (opOf (.buildSlice 22 1 #[(0, .tmp x)]) ty g)).run Tryz.prog w = .ok (.value (.slice (some ⟨w.heap.size, 0, none⟩) 1 1)) (w.alloc (.cells #[.string s0, .string s1] 47)) := by
  have h5 := Tryz.underlying22
  obtain ⟨i, hi, hzz⟩ := Option.map_eq_some_iff.1 infoLL
  simp only [Prod.mk.injEq] at hzz
  obtain ⟨hz, hsz, hby⟩ := hzz
  simp [execOp, opOf, Instr.buildSlice, go_sem, h5, hi, hz, hsz, newRow, hx, Value.cells]
theorem exec_sliceTo {ρ : Operand → Value} {s t : Tmp} {A : Option Addr} {n c k : Nat} {ty : TypeId} {g : Option (Nat × Bool)} (W : World) (hs : ρ (.tmp s) = .slice A n c) (ht : ρ (.tmp t) = .int .i64 (k : Int)) (hk : k ≤ c) :
    (execOp ρ (opOf (.slice 22 (.tmp s) none (some (.tmp t)) none) ty g)).run Tryz.prog W = .ok (.value (.slice A k c)) W := by
  have h5 := Tryz.underlying22
  obtain ⟨i, hi, hzz⟩ := Option.map_eq_some_iff.1 infoLL
  simp only [Prod.mk.injEq] at hzz
  obtain ⟨hz, hsz, hby⟩ := hzz
  simp [execOp, opOf, go_sem, h5, hs, ht, hi, hsz, hk, sliced]
theorem exec_sliceFrom {ρ : Operand → Value} {s t : Tmp} {A : Option Addr} {n c k : Nat} {ty : TypeId} {g : Option (Nat × Bool)} (W : World) (hs : ρ (.tmp s) = .slice A n c) (ht : ρ (.tmp t) = .int .i64 (k : Int)) (hk : k ≤ n) (hn : n ≤ c) :
    (execOp ρ (opOf (.slice 22 (.tmp s) (some (.tmp t)) none none) ty g)).run Tryz.prog W = .ok (.value (.slice (if c = k then A else A.map (·.add (k * 2))) (n - k) (c - k))) W := by
  have h5 := Tryz.underlying22
  obtain ⟨i, hi, hzz⟩ := Option.map_eq_some_iff.1 infoLL
  simp only [Prod.mk.injEq] at hzz
  obtain ⟨hz, hsz, hby⟩ := hzz
  simp [execOp, opOf, go_sem, h5, hs, ht, hi, hsz, hk, sliced]
theorem cut_from (A5 : Option Addr) (c5 : Nat) (out : List S47) (K : Nat) (hk : K ≤ out.length) (hc : out.length ≤ c5) : ∃ (AD : Option Addr) (cd : Nat), (∀ (ρ : Operand → Value) (W : World) (s t : Tmp) (ty : TypeId) (g : Option (Nat × Bool)), ρ (.tmp s) = .slice A5 out.length c5 → ρ (.tmp t) = .int .i64 (K : Int) → (execOp ρ (opOf (.slice 22 (.tmp s) (some (.tmp t)) none none) ty g)).run Tryz.prog W = .ok (.value (.slice AD (out.drop K).length cd)) W) ∧ (∀ W, Kd.C k47 W A5 out.length out → Kd.C k47 W AD (out.drop K).length (out.drop K)) :=
  ⟨if c5 = K then A5 else A5.map (·.add (K * 2)), c5 - K, fun ρ W s t ty g hs ht => by rw [List.length_drop]; exact exec_sliceFrom W hs ht hk hc, fun W h => Kd.C_drop h hk hc⟩
theorem cut_to (A5 : Option Addr) (c5 : Nat) (out : List S47) (K : Nat) (hk : K ≤ out.length) (hc : out.length ≤ c5) : (∀ (ρ : Operand → Value) (W : World) (s t : Tmp) (ty : TypeId) (g : Option (Nat × Bool)), ρ (.tmp s) = .slice A5 out.length c5 → ρ (.tmp t) = .int .i64 (K : Int) → (execOp ρ (opOf (.slice 22 (.tmp s) none (some (.tmp t)) none) ty g)).run Tryz.prog W = .ok (.value (.slice A5 (out.take K).length c5)) W) ∧ (∀ W, Kd.C k47 W A5 out.length out → Kd.C k47 W A5 (out.take K).length (out.take K)) :=
  ⟨fun ρ W s t ty g hs ht => by rw [List.length_take, Nat.min_eq_left hk]; exact exec_sliceTo W hs ht (Nat.le_trans hk hc), fun W h => Kd.C_take h hk⟩
theorem row_one_any (w : World) (x : S47) : Kd.C k47 (w.alloc (.cells #[.string x.f0, .string x.f1] 47)) (some ⟨w.heap.size, 0, none⟩) 1 [x] := row_one w x
def ltN (x y : S47) : Prop := cmpN x y < 0
instance ltN_dec (x y : S47) : Decidable (ltN x y) := inferInstanceAs (Decidable (cmpN x y < 0))
theorem ltN_irr {x y : S47} (h : ltN x y) (h2 : ltN y x) : False := by
  unfold ltN cmpN at *
  have := cb_neg x.f0.data.toList y.f0.data.toList
  omega
theorem ltN_le {x y z : S47} (h1 : ltN x y) (h2 : leN y z) : ltN x z := by
  have h3 : cmpN x z ≤ 0 := leN_trans x y z (leN_of_lt h1) h2
  by_cases h0 : cmpN x z = 0
  · exfalso
    have e : x.f0.data.toList = z.f0.data.toList := cb_zero _ _ h0
    unfold ltN cmpN at h1
    unfold leN cmpN at h2
    rw [← e] at h2
    have := cb_neg x.f0.data.toList y.f0.data.toList
    omega
  · unfold ltN; omega
theorem ltN_trans {x y z : S47} (h1 : ltN x y) (h2 : ltN y z) : ltN x z := ltN_le h1 (leN_of_lt h2)
theorem ltN_ne {x y : S47} (h : ltN x y) : x.f0.toList ≠ y.f0.toList := fun e => by
  rw [tl_data, tl_data] at e
  unfold ltN cmpN at h
  rw [e, cb_self] at h
  omega
theorem ltN_trich {x y : S47} (h1 : ¬ ltN x y) (h2 : x.f0.toList ≠ y.f0.toList) : ltN y x := by
  unfold ltN cmpN at *
  rw [tl_data, tl_data] at h2
  have := cb_neg x.f0.data.toList y.f0.data.toList
  by_cases h0 : Lib.compareBytes x.f0.data.toList y.f0.data.toList = 0
  · exact absurd (cb_zero _ _ h0) h2
  · omega
theorem less_ltN (x y : S47) : Op.bytesLess x.f0.toList y.f0.toList = decide (ltN x y) := by
  rw [less_cb, tl_data, tl_data]; rfl
theorem ins_pair {out : List S47} {x : S47} {k : Nat} (hp : out.Pairwise ltN) (h1 : ∀ y ∈ out.take k, ltN y x) (h2 : ∀ y, out[k]? = some y → ltN x y) : (out.take k ++ [x] ++ out.drop k).Pairwise ltN := by
  have h3 : ∀ y ∈ out.drop k, ltN x y := by
    intro y hy
    by_cases hlt : k < out.length
    · have h2 := h2 out[k] (List.getElem?_eq_getElem hlt)
      rw [List.drop_eq_getElem_cons hlt] at hy
      rcases List.mem_cons.1 hy with rfl | hy
      · exact h2
      · have h4 : (out.drop k).Pairwise ltN := hp.sublist (List.drop_sublist _ _)
        rw [List.drop_eq_getElem_cons hlt] at h4
        exact ltN_trans h2 ((List.pairwise_cons.1 h4).1 y hy)
    · rw [List.drop_of_length_le (by omega)] at hy; cases hy
  rw [List.append_assoc, List.pairwise_append]
  refine ⟨hp.sublist (List.take_sublist _ _), ?_, ?_⟩
  · rw [List.singleton_append, List.pairwise_cons]; exact ⟨h3, hp.sublist (List.drop_sublist _ _)⟩
  · intro a ha b hb
    rw [List.singleton_append] at hb
    rcases List.mem_cons.1 hb with rfl | hb
    · exact h1 a ha
    · exact ltN_trans (h1 a ha) (h3 b hb)
theorem ins_perm {out m : List S47} {x : S47} {k : Nat} (h : out.Perm m) : (out.take k ++ [x] ++ out.drop k).Perm (m ++ [x]) := by
  have h1 : (out.take k ++ [x] ++ out.drop k).Perm (x :: (out.take k ++ out.drop k)) := by
    rw [List.append_assoc, List.singleton_append]; exact List.perm_middle
  rw [List.take_append_drop] at h1
  exact h1.trans ((h.cons x).trans (List.perm_append_singleton x m).symm)
def neN (x y : S47) : Prop := x.f0.toList ≠ y.f0.toList
theorem dup_not {l : List S47} {i : Nat} (hi : i < l.length) {y : S47} (hy : y ∈ l.take i) (e : y.f0.toList = l[i].f0.toList) : ¬ l.Pairwise neN := by
  intro hp
  have h : (l.take i ++ l.drop i).Pairwise neN := by rw [List.take_append_drop]; exact hp
  rw [List.pairwise_append] at h
  exact h.2.2 y hy l[i] (by rw [List.drop_eq_getElem_cons hi]; exact List.mem_cons_self) e
theorem dup_pair {S : List S47} (h : dupL S) : ¬ S.Pairwise neN := by
  intro hp
  obtain ⟨j, h1, h2, h3⟩ := h
  obtain ⟨j, rfl⟩ : ∃ i, j = i + 1 := ⟨j - 1, by omega⟩
  have h4 := List.pairwise_iff_getElem.1 hp j (j + 1) (by omega) h2 (by omega)
  unfold eqAt at h3
  rw [Nat.add_sub_cancel, List.getElem?_eq_getElem h2, List.getElem?_eq_getElem (by omega : j < S.length)] at h3
  unfold neN at h4
  simp [seq] at h3
  exact h4 h3.symm
theorem sort_pair {S : List S47} (hs : SortR leN 0 S.length S) (hd : ¬ dupL S) : S.Pairwise ltN := by
  rw [List.pairwise_iff_getElem]
  intro i j hi hj hij
  have h1 : ltN S[i] S[i + 1] := by
    have h2 : leN S[i] S[i + 1] := hs i (i + 1) _ _ (by omega) (by omega) (by omega) (List.getElem?_eq_getElem hi) (List.getElem?_eq_getElem (by omega))
    by_cases h0 : cmpN S[i] S[i + 1] = 0
    · exfalso
      apply hd
      refine ⟨i + 1, by omega, by omega, ?_⟩
      have e : S[i].f0.data.toList = S[i + 1].f0.data.toList := cb_zero _ _ h0
      unfold eqAt
      rw [Nat.add_sub_cancel, List.getElem?_eq_getElem (by omega : i + 1 < S.length), List.getElem?_eq_getElem hi]
      simp [seq, tl_data, e]
    · unfold leN at h2; unfold ltN; omega
  by_cases hj1 : j = i + 1
  · subst hj1; exact h1
  · exact ltN_le h1 (hs (i + 1) j _ _ (by omega) (by omega) (by omega) (List.getElem?_eq_getElem (by omega)) (List.getElem?_eq_getElem hj))
theorem lt_ne_pair {S : List S47} (h : S.Pairwise ltN) : S.Pairwise neN := h.imp (fun h => ltN_ne h)
theorem ne_perm {S l : List S47} (h : S.Perm l) : S.Pairwise neN ↔ l.Pairwise neN := h.pairwise_iff (fun {x y} h e => h e.symm)
theorem lt_unique {S S' : List S47} (h1 : S.Pairwise ltN) (h2 : S'.Pairwise ltN) (h : S.Perm S') : S = S' := List.Perm.eq_of_pairwise (fun a b _ _ h1 h2 => (ltN_irr h1 h2).elim) h1 h2 h
def MadeR (w : World) (l : List S47) (e : Ending) (w' : World) : Prop :=
  Below w.heap.size w w' ∧
  ((l.any badL = true ∧ e = .returned (.tuple #[.slice none 0 0, .int .i64 90])) ∨
   (l.any badL = false ∧ ((¬ l.Pairwise neN ∧ e = .returned (.tuple #[.slice none 0 0, .int .i64 8])) ∨
     (∃ S : List S47, S.Perm l ∧ S.Pairwise ltN ∧ 16 < S.length ∧ e = .returned (.tuple #[.slice none 0 0, .int .i64 6])) ∨
     (∃ S : List S47, S.Perm l ∧ S.Pairwise ltN ∧ S.length ≤ 16 ∧ ∃ A c, e = .returned (.tuple #[.slice A S.length c, .int .i64 0]) ∧ S.length ≤ c ∧ Kd.C k47 w' A S.length S))))
set_option maxHeartbeats 2000000 in
set_option maxRecDepth 100000 in
theorem rmake_calls (A : Option Addr) (c : Nat) (l : List S47) (w : World) (hr : Kd.C k47 w A l.length l) (hm : l.length ≤ 60) (hsz : ∀ x ∈ l, x.f0.size ≤ 140737488351232 ∧ x.f1.size ≤ 140737488351232) :
    Calls Tryz.prog 14 #[.slice A l.length c] w fun e w' => MadeR w l e w' := by
  have HR := Aside0.mk hr; have HSZ := Aside0.mk hsz
  have hlm : l.length ≤ 9223372036854775807 := by omega
  have HM60 := Aside0.mk hm
  clear hr hsz hm
  go_enter Tryz.func14, Tryz.ntmps14
  go_wp2_with fail
  go_loopw [4] (fun x wr => ∃ i n : Nat, i + n = l.length ∧ x = .int .i64 i ∧ Aside0 ((l.take i).any badL = false) ∧ Aside0 (Below w.heap.size w wr)) (fun x _ => l.length - (intOf x).toNat)
  case atStart => exact ⟨0, l.length, by omega, rfl, ⟨rfl⟩, ⟨Below.refl _ _⟩⟩
  case round =>
    obtain ⟨i, n, hin, rfl, HS, HB⟩ := hrel
    cases n with
    | succ n =>
      have hlt : i < l.length := by omega
      obtain ⟨ad, rfl, hc0, hc1⟩ := lab_get (Kd.C_below HR.out HB.out) hlt
      obtain ⟨y, hy⟩ : ∃ y, y = l[i] := ⟨_, rfl⟩
      have hym : y ∈ l := by rw [hy]; exact List.getElem_mem hlt
      have HTK : Aside0 (l.take (i + 1) = l.take i ++ [y]) := ⟨by rw [hy]; exact List.take_succ_eq_append_getElem hlt⟩
      rw [← hy] at hc0 hc1
      obtain ⟨gb, hgb⟩ : ∃ b, b = badL y := ⟨_, rfl⟩
      have HGB := Aside0.mk hgb
      have HIS : Aside0 (∀ W, Calls Tryz.prog 42 #[.agg #[.string y.f0, .string y.f1]] W fun e w' => e = .returned (.bool (!gb)) ∧ Below W.heap.size W w') := ⟨fun W => by
        have hm := HSZ.out y hym
        rw [hgb]
        exact klaxonref09_Is.calls (2 * y.f0.size + 2) y.f0 y.f1 _ W (is_f y (by omega) _ (Nat.le_refl _))⟩
      have hki : (i : Int) < (l.length : Int) := by omega
      have hki0 : (0 : Int) ≤ (i : Int) := by omega
      have HIN := Aside0.mk hin; have HLT := Aside0.mk hlt; have HYM := Aside0.mk hym
      clear hy hgb hym
      go_wp2_with fail
      refine (HIS.out wr).mono ?_
      rintro e w1 ⟨rfl, hb1⟩
      have HB1 := Aside0.mk (below_step HB.out hb1)
      clear hb1 hc0 hc1
      cases gb with
      | true =>
        go_wp2_with fail
        go_ret2
        exact ⟨HB1.out, .inl ⟨List.any_eq_true.2 ⟨y, HYM.out, HGB.out.symm⟩, rfl⟩⟩
      | false =>
        go_wp2_with fail
        go_roundw
        case rel => exact ⟨i + 1, n, by have := HIN.out; omega, by go_num, ⟨by rw [HTK.out, List.any_append, HS.out, List.any_cons, ← HGB.out]; rfl⟩, HB1⟩
        case measure => (have := HLT.out; simp [intOf]; try omega)
    | zero =>
      obtain rfl : i = l.length := by omega
      have hkk : ¬ ((l.length : Int) < (l.length : Int)) := by omega
      have HGOOD : Aside0 (l.any badL = false) := ⟨by have h := HS.out; rw [List.take_length] at h; exact h⟩
      clear hin
      go_wp2_with fail
      go_loopw [5, 6] (fun x y wr2 => ∃ (A5 : Option Addr) (c5 : Nat) (out : List S47) (i n : Nat), i + n = l.length ∧ x = .slice A5 out.length c5 ∧ out.length ≤ c5 ∧ y = .int .i64 i ∧ Aside0 (out.Perm (l.take i)) ∧ Aside0 (out.Pairwise ltN) ∧ Aside0 (Kd.C k47 wr2 A5 out.length out) ∧ Aside0 (Below w.heap.size w wr2)) (fun _ y _ => l.length - (intOf y).toNat)
      case atStart => exact ⟨none, 0, [], 0, l.length, by omega, rfl, Nat.le_refl _, rfl, ⟨.nil⟩, ⟨.nil⟩, ⟨⟨rfl, by decide, fun h => by simp at h⟩⟩, HB⟩
      case round =>
        obtain ⟨wB, rfl⟩ : ∃ W, W = wr := ⟨_, rfl⟩
        obtain ⟨A5, c5, out, i, n, hin, rfl, hoc, rfl, HP, HW, HC, HB2⟩ := hrel
        clear hkk HS
        cases n with
        | zero =>
          obtain rfl : i = l.length := by omega
          have hkk : ¬ ((l.length : Int) < (l.length : Int)) := by omega
          have HPL : Aside0 (out.Perm l) := ⟨by have h := HP.out; rw [List.take_length] at h; exact h⟩
          by_cases h16 : out.length ≤ 16
          · have hgt : decide ((16 : Int) < (out.length : Int)) = false := decide_eq_false (by omega)
            have H16 := Aside0.mk h16; have HOC := Aside0.mk hoc
            clear hoc hin
            go_wp2_with fail
            go_ret2
            exact ⟨HB2.out, .inr ⟨HGOOD.out, .inr (.inr ⟨out, HPL.out, HW.out, H16.out, A5, c5, rfl, HOC.out, HC.out⟩)⟩⟩
          · have hgt : decide ((16 : Int) < (out.length : Int)) = true := decide_eq_true (by omega)
            have H16 := Aside0.mk h16
            clear hoc hin
            go_wp2_with fail
            go_ret2
            exact ⟨HB2.out, .inr ⟨HGOOD.out, .inr (.inl ⟨out, HPL.out, HW.out, by have := H16.out; omega, rfl⟩)⟩⟩
        | succ n =>
          have hlt : i < l.length := by omega
          obtain ⟨ad, rfl, hx0, hx1⟩ := lab_get (Kd.C_below HR.out HB2.out) hlt
          obtain ⟨x, hx⟩ : ∃ x, x = l[i] := ⟨_, rfl⟩
          have HX := Aside0.mk hx
          rw [← hx] at hx0 hx1
          have HTK : Aside0 (l.take (i + 1) = l.take i ++ [x]) := ⟨by rw [hx]; exact List.take_succ_eq_append_getElem hlt⟩
          have hol : out.length ≤ 60 := by have h1 := HP.out.length_eq; have h2 := HM60.out; rw [List.length_take] at h1; omega
          have hki : (i : Int) < (l.length : Int) := by omega
          have hki0 : (0 : Int) ≤ (i : Int) := by omega
          have HIN := Aside0.mk hin; have HLT := Aside0.mk hlt; have HOC := Aside0.mk hoc; have HOL := Aside0.mk hol
          have hol2 : out.length ≤ 9223372036854775807 := by omega
          clear hx hol hin
          have HX0 := Aside0.mk hx0; have HX1 := Aside0.mk hx1
          clear hx0 hx1
          go_wp2_with fail
          go_loopw [7] (fun z wr3 => ∃ k m : Nat, k + m = out.length ∧ z = .int .i64 k ∧ Aside0 (∀ y ∈ out.take k, ltN y x) ∧ Aside0 (Below wB.heap.size wB wr3)) (fun z _ => out.length - (intOf z).toNat)
          case atStart => exact ⟨0, out.length, by omega, rfl, ⟨fun y hy => by simp at hy⟩, ⟨Below.refl _ _⟩⟩
          case round =>
            obtain ⟨k, m, hkm, rfl, HK, HB3⟩ := hrel
            have hx0 := pw_cell_below HB3.out HX0.out
            have hx1 := pw_cell_below HB3.out HX1.out
            cases m with
            | zero =>
              obtain rfl : k = out.length := by omega
              have hkk : ¬ ((out.length : Int) < (out.length : Int)) := by omega
              clear hkm
              go_wp2_with fail
              go_quiet (fail)
              go_wp2_with fail
              go_quiet (fail)
              have HK2 : Aside0 (∀ y, out[out.length]? = some y → ltN x y) := ⟨fun y h => by simp at h⟩
              obtain ⟨O, hO⟩ : ∃ o, o = out.take out.length ++ [x] ++ out.drop out.length := ⟨_, rfl⟩
              have HO := Aside0.mk hO
              clear hO
              obtain ⟨AD, cd, hsf, hcd⟩ := cut_from A5 c5 out out.length (by omega) hoc
              obtain ⟨hst, hct⟩ := cut_to A5 c5 out out.length (by omega) hoc
              have HSFR := Aside0.mk hsf; have HSTO := Aside0.mk hst
              have HCT : Aside0 (∀ W', Below wr.heap.size wr W' → Kd.C k47 W' A5 (out.take out.length).length (out.take out.length)) := ⟨fun W' h => hct _ (Kd.C_below (Kd.C_below HC.out HB3.out) h)⟩
              have HCD : Aside0 (∀ W', Below wr.heap.size wr W' → Kd.C k47 W' AD (out.drop out.length).length (out.drop out.length)) := ⟨fun W' h => hcd _ (Kd.C_below (Kd.C_below HC.out HB3.out) h)⟩
              clear hsf hst hcd hct
              go_upto_region 15 with (fail)
              obtain ⟨Jnv, hJnv⟩ : ∃ J : World → Prop, J = fun W' => Below wr.heap.size wr W' := ⟨_, rfl⟩
              have HJD : Aside0 (∀ W', Jnv W' → Below wr.heap.size wr W') := ⟨fun W' h => by rw [hJnv] at h; exact h⟩
              have HDJ : Aside0 (∀ W', Below wr.heap.size wr W' → Jnv W') := ⟨fun W' h => by rw [hJnv]; exact h⟩
              have HJA : Aside0 (∀ W' o, Jnv W' → Jnv (W'.alloc o)) := ⟨fun W' o h => HDJ.out _ (below_alloc (HJD.out _ h) o)⟩
              have HRF : Aside0 (∀ W : World, Below W.heap.size W W) := ⟨fun W => Below.refl _ _⟩
              have SF : Aside0 (∀ W', Jnv W' → W'.cell? (ad.add (i * 2)) = some (.string x.f0) ∧ W'.cell? ⟨(ad.add (i * 2)).block, (ad.add (i * 2)).off + 1, none⟩ = some (.string x.f1)) := ⟨fun W' hW => ⟨pw_cell_below (HJD.out W' hW) hx0, pw_cell_below (HJD.out W' hW) hx1⟩⟩
              clear hJnv hx0 hx1
              refine wp_region_any (by kernel_rfl) ?_
              refine wpAny_flow3 (by kernel_rfl) Jnv (fun W W' => Below W.heap.size W W') (fun _ _ => True) 10 (fun k => k == 0 || k == 4 || k == 9) HRF.out (fun _ => trivial) ?hS (by kernel_rfl) [(0, (fun u => ∃ b : Nat, u = Value.slice (some ⟨b, 0, none⟩) 0 0), (fun u W => ∃ b : Nat, u = Value.slice (some ⟨b, 0, none⟩) 0 0 ∧ wr.heap.size ≤ b ∧ W.heap[b]? = some (Obj.cells #[] 47 (0, 0)))), (1, (fun u => u = Value.slice A5 out.length c5), (fun _ _ => True)), (2, (fun u => u = Value.int .i64 (out.length : Int)), (fun _ _ => True)), (3, (fun u => u = Value.slice A5 (out.take out.length).length c5), (fun _ _ => True)), (4, (fun _ => True), (fun u W => Kd.R k47 47 W wr.heap.size (fun _ => True) u (out.take out.length))), (5, (fun u => u = Value.slice (some ad) l.length c), (fun _ _ => True)), (6, (fun u => u = Value.int .i64 (i : Int)), (fun _ _ => True)), (7, (fun u => u = Value.pointer (some (ad.add (i * 2)))), (fun _ _ => True)), (8, (fun u => u = Value.agg #[.string x.f0, .string x.f1]), (fun _ _ => True)), (9, (fun u => ∃ b : Nat, u = Value.slice (some ⟨b, 0, none⟩) 1 1), (fun u W => ∃ b : Nat, u = Value.slice (some ⟨b, 0, none⟩) 1 1 ∧ Kd.C k47 W (some ⟨b, 0, none⟩) 1 [x])), (10, (fun _ => True), (fun u W => Kd.R k47 47 W wr.heap.size (fun _ => True) u (out.take out.length ++ [x]))), (11, (fun u => u = Value.slice A5 out.length c5), (fun _ _ => True)), (12, (fun u => u = Value.int .i64 (out.length : Int)), (fun _ _ => True)), (13, (fun u => u = Value.slice AD (out.drop out.length).length cd), (fun _ _ => True))] ?_
              case hS => exact HDJ.out _ (below_drew (pw_below_drewN (pw_below_drewN (Below.refl _ _) _) _))
              refine Flow3.op _ 0 (some 62) (Op.buildSlice 22 0 #[]) 22 (none) [] _ _ rfl (by kernel_rfl) (by kernel_rfl) (by kernel_rfl) (by rfl) ⟨_, 0, rfl⟩ ?_ ?_ (by rfl) ?_ ?_
              · rintro u W W' hu ⟨q, hv, hq, hb⟩; exact ⟨q, hv, hq, blk_below hb hu⟩
              · intro hd; exact absurd hd (by decide)
              · rw [upOf_ne (by decide)]; intro W hW hK; exact .inl ⟨_, _, ⟨_, rfl⟩, HJA.out _ _ hW, below_alloc (Below.refl _ _) _, ⟨_, rfl, (HJD.out _ hW).size, blk_new W _⟩, exec_build0L⟩
              rintro u0 ⟨q0, rfl⟩
              try simp only [Act.put, sA, sB, sC]
              refine Flow3.val _ 1 (some 63) (Op.move (Operand.tmp 5)) 22 (none) [] _ rfl (by kernel_rfl) (by kernel_rfl) (by kernel_rfl) (by rfl) (by rfl) ?_ ?_ HRF.out (fun _ => trivial)
              · (intro W hW hK; go_simp; first | done | with_reducible rfl)
              try simp only [Act.put, sA, sB, sC]
              refine Flow3.val _ 2 (some 64) (Op.move (Operand.tmp 7)) 3 (none) [] _ rfl (by kernel_rfl) (by kernel_rfl) (by kernel_rfl) (by rfl) (by rfl) ?_ ?_ HRF.out (fun _ => trivial)
              · (intro W hW hK; go_simp; first | done | with_reducible rfl)
              try simp only [Act.put, sA, sB, sC]
              refine Flow3.val _ 3 (some 65) (Op.slice 22 (Operand.tmp 63) none (some (Operand.tmp 64)) none) 22 (none) [] _ rfl (by kernel_rfl) (by kernel_rfl) (by kernel_rfl) (by rfl) (by rfl) ?_ ?_ HRF.out (fun _ => trivial)
              · (intro W hW hK; exact HSTO.out _ W _ _ _ _ (by rfl) (by rfl))
              try simp only [Act.put, sA, sB, sC]
              refine Flow3.op _ 4 (some 66) (Op.call { callee := Callee.builtin Builtin.append, args := #[Operand.tmp 62, Operand.tmp 65], argTypes := #[22, 22] }) 22 (none) [0] _ _ rfl (by kernel_rfl) (by kernel_rfl) (by kernel_rfl) (by rfl) ⟨undef, trivial⟩ ?_ ?_ (by rfl) ?_ ?_
              · intro u W W' hu hr; exact Kd.R_below hr hu
              · intro hd; exact absurd hd (by decide)
              · rw [upOf_ne (by decide)]
                intro W hW hK
                have h0 := hK 0 (by simp)
                simp [updK] at h0
                obtain ⟨hq, hb⟩ := h0
                obtain ⟨v1, W1, hr, hR, hB⟩ := append_emptyL W wr.heap.size 22 q0 (out.take out.length) A5 c5 hb hq (HJD.out _ hW).size (HCT.out _ (HJD.out _ hW)) (by have := HOL.out; have := List.length_take_le out.length out; omega)
                exact .inl ⟨v1, W1, trivial, HDJ.out _ (below_then (HJD.out _ hW) (HJD.out _ hW).size hB), hB, hR, exec_appendL (by rfl) (by rfl) hr⟩
              intro u4 _
              try simp only [Act.put, sA, sB, sC]
              refine Flow3.val _ 5 (some 67) (Op.move (Operand.tmp 0)) 22 (none) [] _ rfl (by kernel_rfl) (by kernel_rfl) (by kernel_rfl) (by rfl) (by rfl) ?_ ?_ HRF.out (fun _ => trivial)
              · (intro W hW hK; go_simp; first | done | with_reducible rfl)
              try simp only [Act.put, sA, sB, sC]
              refine Flow3.val _ 6 (some 68) (Op.move (Operand.tmp 6)) 3 (none) [] _ rfl (by kernel_rfl) (by kernel_rfl) (by kernel_rfl) (by rfl) (by rfl) ?_ ?_ HRF.out (fun _ => trivial)
              · (intro W hW hK; go_simp; first | done | with_reducible rfl)
              try simp only [Act.put, sA, sB, sC]
              refine Flow3.val _ 7 (some 69) (Op.indexAddr 22 (Operand.tmp 67) (Operand.tmp 68)) 0 (none) [] _ rfl (by kernel_rfl) (by kernel_rfl) (by kernel_rfl) (by rfl) (by rfl) ?_ ?_ HRF.out (fun _ => trivial)
              · (intro W hW hK; have hF := SF.out W hW; go_simp; first | done | with_reducible rfl)
              try simp only [Act.put, sA, sB, sC]
              refine Flow3.val _ 8 (some 70) (Op.load 47 (Operand.tmp 69)) 47 (none) [] _ rfl (by kernel_rfl) (by kernel_rfl) (by kernel_rfl) (by rfl) (by rfl) ?_ ?_ HRF.out (fun _ => trivial)
              · (intro W hW hK; have hF := SF.out W hW; go_simp; first | done | with_reducible rfl)
              try simp only [Act.put, sA, sB, sC]
              refine Flow3.op _ 9 (some 71) (Op.buildSlice 22 1 #[(0, Operand.tmp 70)]) 22 (none) [] _ _ rfl (by kernel_rfl) (by kernel_rfl) (by kernel_rfl) (by rfl) ⟨_, 0, rfl⟩ ?_ ?_ (by rfl) ?_ ?_
              · rintro u W W' hu ⟨q, hv, hq⟩; exact ⟨q, hv, Kd.C_below hq hu⟩
              · intro hd; exact absurd hd (by decide)
              · rw [upOf_ne (by decide)]; intro W hW hK; exact .inl ⟨_, _, ⟨_, rfl⟩, HJA.out _ _ hW, below_alloc (Below.refl _ _) _, ⟨_, rfl, row_one_any W x⟩, exec_build1L (by rfl)⟩
              rintro u9 ⟨q9, rfl⟩
              try simp only [Act.put, sA, sB, sC]
              refine Flow3.op _ 10 (some 72) (Op.call { callee := Callee.builtin Builtin.append, args := #[Operand.tmp 66, Operand.tmp 71], argTypes := #[22, 22] }) 22 (none) [4, 9] _ _ rfl (by kernel_rfl) (by kernel_rfl) (by kernel_rfl) (by rfl) ⟨undef, trivial⟩ ?_ ?_ (by rfl) ?_ ?_
              · intro u W W' hu hr; exact Kd.R_below hr hu
              · intro _ hd; exact absurd rfl hd
              · rw [upOf_eq]
                intro W hW hK
                have h4 := hK 4 (by simp)
                have h9 := hK 9 (by simp)
                simp [updK, -List.take_length] at h4 h9
                obtain ⟨v1, W1, hr, hR, hG, _⟩ := append_runL W wr.heap.size 22 u4 (out.take out.length) [x] (some ⟨q9, 0, none⟩) 1 h4 h9 (HJD.out _ hW).size (by have := HOL.out; have := List.length_take_le out.length out; simp; omega)
                exact .inl ⟨v1, W1, trivial, HDJ.out _ (below_grown (HJD.out _ hW) hG (fun k hk => own_base h4.2.choose_spec.1 k hk)), trivial, hR, exec_appendL (by rfl) (by rfl) hr⟩
              intro u10 _
              try simp only [Act.put, sA, sB, sC]
              refine Flow3.val _ 11 (some 73) (Op.move (Operand.tmp 5)) 22 (none) [] _ rfl (by kernel_rfl) (by kernel_rfl) (by kernel_rfl) (by rfl) (by rfl) ?_ ?_ HRF.out (fun _ => trivial)
              · (intro W hW hK; go_simp; first | done | with_reducible rfl)
              try simp only [Act.put, sA, sB, sC]
              refine Flow3.val _ 12 (some 74) (Op.move (Operand.tmp 7)) 3 (none) [] _ rfl (by kernel_rfl) (by kernel_rfl) (by kernel_rfl) (by rfl) (by rfl) ?_ ?_ HRF.out (fun _ => trivial)
              · (intro W hW hK; go_simp; first | done | with_reducible rfl)
              try simp only [Act.put, sA, sB, sC]
              refine Flow3.val _ 13 (some 75) (Op.slice 22 (Operand.tmp 73) (some (Operand.tmp 74)) none none) 22 (none) [] _ rfl (by kernel_rfl) (by kernel_rfl) (by kernel_rfl) (by rfl) (by rfl) ?_ ?_ HRF.out (fun _ => trivial)
              · (intro W hW hK; exact HSFR.out _ W _ _ _ _ (by rfl) (by rfl))
              try simp only [Act.put, sA, sB, sC]
              refine Flow3.lastRun _ 14 (some 76) (Op.call { callee := Callee.builtin Builtin.append, args := #[Operand.tmp 72, Operand.tmp 75], argTypes := #[22, 22] }) 22 (none) rfl 12 (by kernel_rfl) (by kernel_rfl) (by rfl) ?_
              intro W hW hK
              have h10 := hK 10 (by decide) (fun h => absurd h (by decide))
              simp [updK, -List.take_length] at h10
              obtain ⟨v1, w1, hrun, hR1, hG1, -⟩ := append_runL W wr.heap.size 22 u10 (out.take out.length ++ [x]) (out.drop out.length) AD cd h10 (HCD.out _ (HJD.out _ hW)) (HJD.out _ hW).size (by have := HOL.out; have := List.length_take_le out.length out; simp; omega)
              obtain ⟨A9, c9, rfl, hc9, hC9⟩ := Kd.R_reads hR1
              rw [← HO.out] at hc9 hC9 hrun
              refine ⟨_, w1, exec_appendL (by rfl) (by rfl) hrun, ?_⟩
              have HBX1 : Aside0 (Below wr.heap.size wr w1) := ⟨below_grown (HJD.out _ hW) hG1 (fun k hk => own_base h10.2.choose_spec.1 k hk)⟩
              have HC9 := Aside0.mk hC9; have HN9 := Aside0.mk hc9
              clear hrun hR1 hG1 h10 hK hC9 hc9
              refine wpAny_flow3 (by kernel_rfl) (fun W => W = w1) (fun W W' => W' = W) (fun W W' => W' = W) 14 (fun _ => false) (fun _ => rfl) (fun _ => rfl) rfl (by kernel_rfl) [(15, (fun u => u = Value.slice A9 O.length c9), (fun _ _ => True))] ?_
              try simp only [Act.put, sA, sB, sC]
              refine Flow3.val _ 15 (some 5) (Op.assign (Operand.tmp 76)) 22 (none) [] _ rfl (by kernel_rfl) (by kernel_rfl) (by kernel_rfl) (by rfl) (by rfl) ?_ ?_ (fun _ => rfl) (fun _ => rfl)
              · (intro W hW hK; go_simp; first | done | with_reducible rfl)
              try simp only [Act.put, sA, sB, sC]
              refine Flow3.done _ (by kernel_rfl) ?_
              intro W5 hW5 hK5
              subst hW5
              clear hW hK5
              have HBW := Aside0.mk (below_then (below_then HB2.out HB2.out.size HB3.out) (Nat.le_trans HB2.out.size HB3.out.size) HBX1.out)
              have HPO : Aside0 (O.Perm (l.take (i + 1))) := ⟨by rw [HO.out, HTK.out]; exact ins_perm HP.out⟩
              have HWO : Aside0 (O.Pairwise ltN) := ⟨by rw [HO.out]; exact ins_pair HW.out HK.out HK2.out⟩
              clear HSFR HSTO HCT HCD HJD HDJ HJA HRF SF
              go_wp2_with fail
              go_roundw
              case rel => exact ⟨A9, c9, O, i + 1, n, by have := HIN.out; omega, rfl, HN9.out, by go_num, HPO, HWO, HC9, HBW⟩
              case measure => (have := HLT.out; simp [intOf]; try omega)
            | succ m =>
              have hkl : k < out.length := by omega
              have hkk : (k : Int) < (out.length : Int) := by omega
              have hkk0 : (0 : Int) ≤ (k : Int) := by omega
              obtain ⟨ay, rfl, hy0, hy1⟩ := lab_get (Kd.C_below HC.out HB3.out) hkl
              obtain ⟨y, hy⟩ : ∃ y, y = out[k] := ⟨_, rfl⟩
              rw [← hy] at hy0 hy1
              have HKT : Aside0 (out.take (k + 1) = out.take k ++ [y]) := ⟨by rw [hy]; exact List.take_succ_eq_append_getElem hkl⟩
              have HYK : Aside0 (out[k]? = some y) := ⟨by rw [hy]; exact List.getElem?_eq_getElem hkl⟩
              obtain ⟨lb, hlb⟩ : ∃ b, b = decide (ltN y x) := ⟨_, rfl⟩
              have HLB := Aside0.mk hlb
              have hls : Op.bytesLess y.f0.toList x.f0.toList = lb := by rw [less_ltN, hlb]
              have HKM := Aside0.mk hkm; have HKL := Aside0.mk hkl
              clear hlb hkm hy
              cases lb with
              | true =>
                go_wp2_with fail
                go_quiet (fail)
                go_wp2_with fail
                go_roundw
                case rel => exact ⟨k + 1, m, by have := HKM.out; omega, by go_num, ⟨fun z hz => by
                  rw [HKT.out] at hz
                  rcases List.mem_append.1 hz with h | h
                  · exact HK.out z h
                  · obtain rfl := List.mem_singleton.1 h
                    exact of_decide_eq_true HLB.out.symm⟩, ⟨by repeat (first | (with_reducible first | exact HB3.out | apply pw_below_drewN | apply below_drew1) | exact HB3.out)⟩⟩
                case measure => (have := HKL.out; simp [intOf]; try omega)
              | false =>
                obtain ⟨eb, heb⟩ : ∃ b, b = (y.f0.toList == x.f0.toList) := ⟨_, rfl⟩
                have HEB := Aside0.mk heb
                have heb2 := heb.symm
                clear heb
                go_wp2_with fail
                go_quiet (fail)
                go_wp2_with fail
                go_quiet (fail)
                cases eb with
                | true =>
                  go_wp2_with fail
                  go_ret2
                  exact ⟨by repeat (first | (with_reducible first | exact (below_then HB2.out HB2.out.size HB3.out) | apply pw_below_drewN | apply below_drew1) | exact (below_then HB2.out HB2.out.size HB3.out)), .inr ⟨HGOOD.out, .inl ⟨dup_not HLT.out (HP.out.mem_iff.1 (List.mem_of_getElem? HYK.out)) (by rw [← HX.out]; exact beq_iff_eq.1 HEB.out.symm), rfl⟩⟩⟩
                | false =>
                  have HK2 : Aside0 (∀ y, out[k]? = some y → ltN x y) := ⟨fun z h => by
                    rw [HYK.out] at h
                    obtain rfl := Option.some.inj h
                    exact ltN_trich (of_decide_eq_false HLB.out.symm) (beq_eq_false_iff_ne.1 HEB.out.symm)⟩
                  obtain ⟨O, hO⟩ : ∃ o, o = out.take k ++ [x] ++ out.drop k := ⟨_, rfl⟩
                  have HO := Aside0.mk hO
                  clear hO
                  obtain ⟨AD, cd, hsf, hcd⟩ := cut_from (some ay) c5 out k (by omega) hoc
                  obtain ⟨hst, hct⟩ := cut_to (some ay) c5 out k (by omega) hoc
                  have HSFR := Aside0.mk hsf; have HSTO := Aside0.mk hst
                  have HCT : Aside0 (∀ W', Below wr.heap.size wr W' → Kd.C k47 W' (some ay) (out.take k).length (out.take k)) := ⟨fun W' h => hct _ (Kd.C_below (Kd.C_below HC.out HB3.out) h)⟩
                  have HCD : Aside0 (∀ W', Below wr.heap.size wr W' → Kd.C k47 W' AD (out.drop k).length (out.drop k)) := ⟨fun W' h => hcd _ (Kd.C_below (Kd.C_below HC.out HB3.out) h)⟩
                  clear hsf hst hcd hct
                  go_upto_region 15 with (fail)
                  obtain ⟨Jnv, hJnv⟩ : ∃ J : World → Prop, J = fun W' => Below wr.heap.size wr W' := ⟨_, rfl⟩
                  have HJD : Aside0 (∀ W', Jnv W' → Below wr.heap.size wr W') := ⟨fun W' h => by rw [hJnv] at h; exact h⟩
                  have HDJ : Aside0 (∀ W', Below wr.heap.size wr W' → Jnv W') := ⟨fun W' h => by rw [hJnv]; exact h⟩
                  have HJA : Aside0 (∀ W' o, Jnv W' → Jnv (W'.alloc o)) := ⟨fun W' o h => HDJ.out _ (below_alloc (HJD.out _ h) o)⟩
                  have HRF : Aside0 (∀ W : World, Below W.heap.size W W) := ⟨fun W => Below.refl _ _⟩
                  have SF : Aside0 (∀ W', Jnv W' → W'.cell? (ad.add (i * 2)) = some (.string x.f0) ∧ W'.cell? ⟨(ad.add (i * 2)).block, (ad.add (i * 2)).off + 1, none⟩ = some (.string x.f1)) := ⟨fun W' hW => ⟨pw_cell_below (HJD.out W' hW) hx0, pw_cell_below (HJD.out W' hW) hx1⟩⟩
                  clear hJnv hx0 hx1
                  refine wp_region_any (by kernel_rfl) ?_
                  refine wpAny_flow3 (by kernel_rfl) Jnv (fun W W' => Below W.heap.size W W') (fun _ _ => True) 10 (fun k => k == 0 || k == 4 || k == 9) HRF.out (fun _ => trivial) ?hS (by kernel_rfl) [(0, (fun u => ∃ b : Nat, u = Value.slice (some ⟨b, 0, none⟩) 0 0), (fun u W => ∃ b : Nat, u = Value.slice (some ⟨b, 0, none⟩) 0 0 ∧ wr.heap.size ≤ b ∧ W.heap[b]? = some (Obj.cells #[] 47 (0, 0)))), (1, (fun u => u = Value.slice (some ay) out.length c5), (fun _ _ => True)), (2, (fun u => u = Value.int .i64 (k : Int)), (fun _ _ => True)), (3, (fun u => u = Value.slice (some ay) (out.take k).length c5), (fun _ _ => True)), (4, (fun _ => True), (fun u W => Kd.R k47 47 W wr.heap.size (fun _ => True) u (out.take k))), (5, (fun u => u = Value.slice (some ad) l.length c), (fun _ _ => True)), (6, (fun u => u = Value.int .i64 (i : Int)), (fun _ _ => True)), (7, (fun u => u = Value.pointer (some (ad.add (i * 2)))), (fun _ _ => True)), (8, (fun u => u = Value.agg #[.string x.f0, .string x.f1]), (fun _ _ => True)), (9, (fun u => ∃ b : Nat, u = Value.slice (some ⟨b, 0, none⟩) 1 1), (fun u W => ∃ b : Nat, u = Value.slice (some ⟨b, 0, none⟩) 1 1 ∧ Kd.C k47 W (some ⟨b, 0, none⟩) 1 [x])), (10, (fun _ => True), (fun u W => Kd.R k47 47 W wr.heap.size (fun _ => True) u (out.take k ++ [x]))), (11, (fun u => u = Value.slice (some ay) out.length c5), (fun _ _ => True)), (12, (fun u => u = Value.int .i64 (k : Int)), (fun _ _ => True)), (13, (fun u => u = Value.slice AD (out.drop k).length cd), (fun _ _ => True))] ?_
                  case hS => exact HDJ.out _ (below_drew (pw_below_drewN (pw_below_drewN (Below.refl _ _) _) _))
                  refine Flow3.op _ 0 (some 62) (Op.buildSlice 22 0 #[]) 22 (none) [] _ _ rfl (by kernel_rfl) (by kernel_rfl) (by kernel_rfl) (by rfl) ⟨_, 0, rfl⟩ ?_ ?_ (by rfl) ?_ ?_
                  · rintro u W W' hu ⟨q, hv, hq, hb⟩; exact ⟨q, hv, hq, blk_below hb hu⟩
                  · intro hd; exact absurd hd (by decide)
                  · rw [upOf_ne (by decide)]; intro W hW hK; exact .inl ⟨_, _, ⟨_, rfl⟩, HJA.out _ _ hW, below_alloc (Below.refl _ _) _, ⟨_, rfl, (HJD.out _ hW).size, blk_new W _⟩, exec_build0L⟩
                  rintro u0 ⟨q0, rfl⟩
                  try simp only [Act.put, sA, sB, sC]
                  refine Flow3.val _ 1 (some 63) (Op.move (Operand.tmp 5)) 22 (none) [] _ rfl (by kernel_rfl) (by kernel_rfl) (by kernel_rfl) (by rfl) (by rfl) ?_ ?_ HRF.out (fun _ => trivial)
                  · (intro W hW hK; go_simp; first | done | with_reducible rfl)
                  try simp only [Act.put, sA, sB, sC]
                  refine Flow3.val _ 2 (some 64) (Op.move (Operand.tmp 7)) 3 (none) [] _ rfl (by kernel_rfl) (by kernel_rfl) (by kernel_rfl) (by rfl) (by rfl) ?_ ?_ HRF.out (fun _ => trivial)
                  · (intro W hW hK; go_simp; first | done | with_reducible rfl)
                  try simp only [Act.put, sA, sB, sC]
                  refine Flow3.val _ 3 (some 65) (Op.slice 22 (Operand.tmp 63) none (some (Operand.tmp 64)) none) 22 (none) [] _ rfl (by kernel_rfl) (by kernel_rfl) (by kernel_rfl) (by rfl) (by rfl) ?_ ?_ HRF.out (fun _ => trivial)
                  · (intro W hW hK; exact HSTO.out _ W _ _ _ _ (by rfl) (by rfl))
                  try simp only [Act.put, sA, sB, sC]
                  refine Flow3.op _ 4 (some 66) (Op.call { callee := Callee.builtin Builtin.append, args := #[Operand.tmp 62, Operand.tmp 65], argTypes := #[22, 22] }) 22 (none) [0] _ _ rfl (by kernel_rfl) (by kernel_rfl) (by kernel_rfl) (by rfl) ⟨undef, trivial⟩ ?_ ?_ (by rfl) ?_ ?_
                  · intro u W W' hu hr; exact Kd.R_below hr hu
                  · intro hd; exact absurd hd (by decide)
                  · rw [upOf_ne (by decide)]
                    intro W hW hK
                    have h0 := hK 0 (by simp)
                    simp [updK] at h0
                    obtain ⟨hq, hb⟩ := h0
                    obtain ⟨v1, W1, hr, hR, hB⟩ := append_emptyL W wr.heap.size 22 q0 (out.take k) (some ay) c5 hb hq (HJD.out _ hW).size (HCT.out _ (HJD.out _ hW)) (by have := HOL.out; have := List.length_take_le k out; omega)
                    exact .inl ⟨v1, W1, trivial, HDJ.out _ (below_then (HJD.out _ hW) (HJD.out _ hW).size hB), hB, hR, exec_appendL (by rfl) (by rfl) hr⟩
                  intro u4 _
                  try simp only [Act.put, sA, sB, sC]
                  refine Flow3.val _ 5 (some 67) (Op.move (Operand.tmp 0)) 22 (none) [] _ rfl (by kernel_rfl) (by kernel_rfl) (by kernel_rfl) (by rfl) (by rfl) ?_ ?_ HRF.out (fun _ => trivial)
                  · (intro W hW hK; go_simp; first | done | with_reducible rfl)
                  try simp only [Act.put, sA, sB, sC]
                  refine Flow3.val _ 6 (some 68) (Op.move (Operand.tmp 6)) 3 (none) [] _ rfl (by kernel_rfl) (by kernel_rfl) (by kernel_rfl) (by rfl) (by rfl) ?_ ?_ HRF.out (fun _ => trivial)
                  · (intro W hW hK; go_simp; first | done | with_reducible rfl)
                  try simp only [Act.put, sA, sB, sC]
                  refine Flow3.val _ 7 (some 69) (Op.indexAddr 22 (Operand.tmp 67) (Operand.tmp 68)) 0 (none) [] _ rfl (by kernel_rfl) (by kernel_rfl) (by kernel_rfl) (by rfl) (by rfl) ?_ ?_ HRF.out (fun _ => trivial)
                  · (intro W hW hK; have hF := SF.out W hW; go_simp; first | done | with_reducible rfl)
                  try simp only [Act.put, sA, sB, sC]
                  refine Flow3.val _ 8 (some 70) (Op.load 47 (Operand.tmp 69)) 47 (none) [] _ rfl (by kernel_rfl) (by kernel_rfl) (by kernel_rfl) (by rfl) (by rfl) ?_ ?_ HRF.out (fun _ => trivial)
                  · (intro W hW hK; have hF := SF.out W hW; go_simp; first | done | with_reducible rfl)
                  try simp only [Act.put, sA, sB, sC]
                  refine Flow3.op _ 9 (some 71) (Op.buildSlice 22 1 #[(0, Operand.tmp 70)]) 22 (none) [] _ _ rfl (by kernel_rfl) (by kernel_rfl) (by kernel_rfl) (by rfl) ⟨_, 0, rfl⟩ ?_ ?_ (by rfl) ?_ ?_
                  · rintro u W W' hu ⟨q, hv, hq⟩; exact ⟨q, hv, Kd.C_below hq hu⟩
                  · intro hd; exact absurd hd (by decide)
                  · rw [upOf_ne (by decide)]; intro W hW hK; exact .inl ⟨_, _, ⟨_, rfl⟩, HJA.out _ _ hW, below_alloc (Below.refl _ _) _, ⟨_, rfl, row_one_any W x⟩, exec_build1L (by rfl)⟩
                  rintro u9 ⟨q9, rfl⟩
                  try simp only [Act.put, sA, sB, sC]
                  refine Flow3.op _ 10 (some 72) (Op.call { callee := Callee.builtin Builtin.append, args := #[Operand.tmp 66, Operand.tmp 71], argTypes := #[22, 22] }) 22 (none) [4, 9] _ _ rfl (by kernel_rfl) (by kernel_rfl) (by kernel_rfl) (by rfl) ⟨undef, trivial⟩ ?_ ?_ (by rfl) ?_ ?_
                  · intro u W W' hu hr; exact Kd.R_below hr hu
                  · intro _ hd; exact absurd rfl hd
                  · rw [upOf_eq]
                    intro W hW hK
                    have h4 := hK 4 (by simp)
                    have h9 := hK 9 (by simp)
                    simp [updK, -List.take_length] at h4 h9
                    obtain ⟨v1, W1, hr, hR, hG, _⟩ := append_runL W wr.heap.size 22 u4 (out.take k) [x] (some ⟨q9, 0, none⟩) 1 h4 h9 (HJD.out _ hW).size (by have := HOL.out; have := List.length_take_le k out; simp; omega)
                    exact .inl ⟨v1, W1, trivial, HDJ.out _ (below_grown (HJD.out _ hW) hG (fun k hk => own_base h4.2.choose_spec.1 k hk)), trivial, hR, exec_appendL (by rfl) (by rfl) hr⟩
                  intro u10 _
                  try simp only [Act.put, sA, sB, sC]
                  refine Flow3.val _ 11 (some 73) (Op.move (Operand.tmp 5)) 22 (none) [] _ rfl (by kernel_rfl) (by kernel_rfl) (by kernel_rfl) (by rfl) (by rfl) ?_ ?_ HRF.out (fun _ => trivial)
                  · (intro W hW hK; go_simp; first | done | with_reducible rfl)
                  try simp only [Act.put, sA, sB, sC]
                  refine Flow3.val _ 12 (some 74) (Op.move (Operand.tmp 7)) 3 (none) [] _ rfl (by kernel_rfl) (by kernel_rfl) (by kernel_rfl) (by rfl) (by rfl) ?_ ?_ HRF.out (fun _ => trivial)
                  · (intro W hW hK; go_simp; first | done | with_reducible rfl)
                  try simp only [Act.put, sA, sB, sC]
                  refine Flow3.val _ 13 (some 75) (Op.slice 22 (Operand.tmp 73) (some (Operand.tmp 74)) none none) 22 (none) [] _ rfl (by kernel_rfl) (by kernel_rfl) (by kernel_rfl) (by rfl) (by rfl) ?_ ?_ HRF.out (fun _ => trivial)
                  · (intro W hW hK; exact HSFR.out _ W _ _ _ _ (by rfl) (by rfl))
                  try simp only [Act.put, sA, sB, sC]
                  refine Flow3.lastRun _ 14 (some 76) (Op.call { callee := Callee.builtin Builtin.append, args := #[Operand.tmp 72, Operand.tmp 75], argTypes := #[22, 22] }) 22 (none) rfl 12 (by kernel_rfl) (by kernel_rfl) (by rfl) ?_
                  intro W hW hK
                  have h10 := hK 10 (by decide) (fun h => absurd h (by decide))
                  simp [updK, -List.take_length] at h10
                  obtain ⟨v1, w1, hrun, hR1, hG1, -⟩ := append_runL W wr.heap.size 22 u10 (out.take k ++ [x]) (out.drop k) AD cd h10 (HCD.out _ (HJD.out _ hW)) (HJD.out _ hW).size (by have := HOL.out; have := List.length_take_le k out; simp; omega)
                  obtain ⟨A9, c9, rfl, hc9, hC9⟩ := Kd.R_reads hR1
                  rw [← HO.out] at hc9 hC9 hrun
                  refine ⟨_, w1, exec_appendL (by rfl) (by rfl) hrun, ?_⟩
                  have HBX1 : Aside0 (Below wr.heap.size wr w1) := ⟨below_grown (HJD.out _ hW) hG1 (fun k hk => own_base h10.2.choose_spec.1 k hk)⟩
                  have HC9 := Aside0.mk hC9; have HN9 := Aside0.mk hc9
                  clear hrun hR1 hG1 h10 hK hC9 hc9
                  refine wpAny_flow3 (by kernel_rfl) (fun W => W = w1) (fun W W' => W' = W) (fun W W' => W' = W) 14 (fun _ => false) (fun _ => rfl) (fun _ => rfl) rfl (by kernel_rfl) [(15, (fun u => u = Value.slice A9 O.length c9), (fun _ _ => True))] ?_
                  try simp only [Act.put, sA, sB, sC]
                  refine Flow3.val _ 15 (some 5) (Op.assign (Operand.tmp 76)) 22 (none) [] _ rfl (by kernel_rfl) (by kernel_rfl) (by kernel_rfl) (by rfl) (by rfl) ?_ ?_ (fun _ => rfl) (fun _ => rfl)
                  · (intro W hW hK; go_simp; first | done | with_reducible rfl)
                  try simp only [Act.put, sA, sB, sC]
                  refine Flow3.done _ (by kernel_rfl) ?_
                  intro W5 hW5 hK5
                  subst hW5
                  clear hW hK5
                  have HBW := Aside0.mk (below_then (below_then HB2.out HB2.out.size HB3.out) (Nat.le_trans HB2.out.size HB3.out.size) HBX1.out)
                  have HPO : Aside0 (O.Perm (l.take (i + 1))) := ⟨by rw [HO.out, HTK.out]; exact ins_perm HP.out⟩
                  have HWO : Aside0 (O.Pairwise ltN) := ⟨by rw [HO.out]; exact ins_pair HW.out HK.out HK2.out⟩
                  clear HSFR HSTO HCT HCD HJD HDJ HJA HRF SF
                  go_wp2_with fail
                  go_roundw
                  case rel => exact ⟨A9, c9, O, i + 1, n, by have := HIN.out; omega, rfl, HN9.out, by go_num, HPO, HWO, HC9, HBW⟩
                  case measure => (have := HLT.out; simp [intOf]; try omega)
theorem own_f (l : List S47) (h : l.length ≤ 60) : klaxonlaw09_own.f l = some l := by
  unfold klaxonlaw09_own.f
  rw [Option.bind_some, if_pos (by simp; omega), List.nil_append]
theorem own_calls (A : Option Addr) (c : Nat) (l : List S47) (w : World) (hr : Kd.C k47 w A l.length l) (hc : l.length ≤ c) (h : l.length ≤ 60) :
    Calls Tryz.prog 13 #[.slice A l.length c] w fun e w' => ∃ A' c', e = .returned (.slice A' l.length c') ∧ l.length ≤ c' ∧ Kd.C k47 w' A' l.length l ∧ Below w.heap.size w w' :=
  (klaxonlaw09_own.calls A c l l w hr hc (own_f l h)).mono fun e w' ⟨v, he, hR, hb⟩ => by
    obtain ⟨A', c', rfl, hc', hC'⟩ := Kd.R_reads hR
    exact ⟨A', c', he, hc', hC', hb⟩
theorem made_form {w w' : World} {l : List S47} {e : Ending} (h : MadeG w l e w') : ∃ A n c r, e = .returned (.tuple #[.slice A n c, .int .i64 r]) := by
  obtain ⟨-, h⟩ := h
  rcases h with ⟨-, rfl⟩ | ⟨-, S, -, -, h⟩
  · exact ⟨_, _, _, _, rfl⟩
  · rcases h with ⟨-, rfl⟩ | ⟨-, -, rfl⟩ | ⟨-, -, A, c, rfl, -⟩
    · exact ⟨_, _, _, _, rfl⟩
    · exact ⟨_, _, _, _, rfl⟩
    · exact ⟨_, _, _, _, rfl⟩
theorem madeR_form {w w' : World} {l : List S47} {e : Ending} (h : MadeR w l e w') : ∃ A n c r, e = .returned (.tuple #[.slice A n c, .int .i64 r]) := by
  obtain ⟨-, h⟩ := h
  rcases h with ⟨-, rfl⟩ | ⟨-, h⟩
  · exact ⟨_, _, _, _, rfl⟩
  · rcases h with ⟨-, rfl⟩ | ⟨S, -, -, -, rfl⟩ | ⟨S, -, -, -, A, c, rfl, -⟩
    · exact ⟨_, _, _, _, rfl⟩
    · exact ⟨_, _, _, _, rfl⟩
    · exact ⟨_, _, _, _, rfl⟩
def cmpV (x y : S47) : Int := Lib.compareBytes x.f1.data.toList y.f1.data.toList
def cmp2 (x y : S47) : Int := if cmpN x y = 0 then cmpV x y else cmpN x y
def cmpL : List S47 → List S47 → Int
  | [], [] => 0
  | [], _ :: _ => -1
  | _ :: _, [] => 1
  | x :: a, y :: b => if cmp2 x y = 0 then cmpL a b else cmp2 x y
set_option maxHeartbeats 1000000 in
theorem cmp1_calls (x y : S47) (w : World) : Calls Tryz.prog 57 #[.agg #[.string x.f0, .string x.f1], .agg #[.string y.f0, .string y.f1]] w fun e w' => e = .returned (.int .i64 (cmp2 x y)) ∧ Below w.heap.size w w' := by
  obtain ⟨v, hv⟩ : ∃ v, v = cmpN x y := ⟨_, rfl⟩
  have HV := Aside0.mk hv
  clear hv
  go_enter Tryz.func57, Tryz.ntmps57
  go_wp2_with fail
  refine (byname_calls x y _).mono ?_
  rintro e w1 ⟨rfl, hb1⟩
  rw [← HV.out]
  have hk0 : w1.heap[w.heap.size]? = some (.cells #[.string x.f0, .string x.f1] 47 (0, 0)) := blk_below (blk_below (blk_new w _) (below_alloc (Below.refl _ _) _)) hb1
  have hk1 : w1.heap[(w.alloc (.cells #[.string x.f0, .string x.f1] 47)).heap.size]? = some (.cells #[.string y.f0, .string y.f1] 47 (0, 0)) := blk_below (blk_new _ _) hb1
  rw [World.size_alloc] at hk1
  have d0 : w1.cell? ⟨w.heap.size, 1, none⟩ = some (.string x.f1) := by rw [blk_cell hk0]; rfl
  have d1 : w1.cell? ⟨w.heap.size + 1, 1, none⟩ = some (.string y.f1) := by rw [blk_cell hk1]; rfl
  have HB1 := Aside0.mk (below_step (below_alloc (below_alloc (Below.refl w.heap.size w) _) _) hb1)
  clear hb1 hk0 hk1
  by_cases h0 : v = 0
  · have hvb : (v != 0) = false := by simp [h0]
    have hvc : (v == 0) = true := by simp [h0]
    have H0 := Aside0.mk h0
    clear h0
    go_wp2_with fail
    refine (compare_calls x.f1 y.f1 w1).mono ?_
    rintro e w2 ⟨rfl, rfl⟩
    go_wp2_with fail
    go_ret
    refine ⟨?_, HB1.out⟩
    show Ending.returned (.int .i64 (Lib.compareBytes x.f1.data.toList y.f1.data.toList)) = _
    unfold cmp2
    rw [if_pos (HV.out.symm.trans H0.out)]
    rfl
  · have hvb : (v != 0) = true := by simp [h0]
    have hvc : (v == 0) = false := by simp [h0]
    have H0 := Aside0.mk h0
    go_wp2_with fail
    go_ret
    refine ⟨?_, HB1.out⟩
    show Ending.returned (.int .i64 v) = _
    unfold cmp2
    rw [if_neg (fun h => H0.out (HV.out.trans h)), HV.out]
set_option maxHeartbeats 2000000 in
set_option maxRecDepth 100000 in
theorem cmpf_calls (A : Option Addr) (c : Nat) (a : List S47) (B : Option Addr) (d : Nat) (b : List S47) (w : World) (hr : Kd.C k47 w A a.length a) (hr2 : Kd.C k47 w B b.length b) :
    Calls Tryz.prog 56 #[.slice A a.length c, .slice B b.length d, .func (.func 57) #[] #[]] w fun e w' => e = .returned (.int .i64 (cmpL a b)) ∧ Below w.heap.size w w' := by
  have hlm : a.length ≤ 9223372036854775807 := hr.2.1
  have hlm2 : b.length ≤ 9223372036854775807 := hr2.2.1
  have HR := Aside0.mk hr; have HR2 := Aside0.mk hr2
  clear hr hr2
  go_enter Tryz.func56, Tryz.ntmps56
  go_wp2_with fail
  go_loopw [13] (fun x wr => ∃ k n : Nat, k + n = a.length ∧ k ≤ b.length ∧ x = .int .i64 k ∧ Aside0 (cmpL (a.drop k) (b.drop k) = cmpL a b) ∧ Aside0 (Below w.heap.size w wr)) (fun x _ => a.length - (intOf x).toNat)
  case atStart => exact ⟨0, a.length, by omega, Nat.zero_le _, rfl, ⟨rfl⟩, ⟨Below.refl _ _⟩⟩
  case round =>
    obtain ⟨k, n, hkn, hkb, rfl, HK, HB⟩ := hrel
    cases n with
    | zero =>
      obtain rfl : k = a.length := by omega
      have hkk : ¬ ((a.length : Int) < (a.length : Int)) := by omega
      by_cases hab : (a.length : Int) < (b.length : Int)
      · have hd : decide ((a.length : Int) < (b.length : Int)) = true := decide_eq_true hab
        have HE : Aside0 (cmpL a b = -1) := ⟨by rw [← HK.out, List.drop_length, List.drop_eq_getElem_cons (by omega)]; rfl⟩
        clear hkn
        go_wp2_with fail
        go_ret
        refine ⟨?_, HB.out⟩
        show Ending.returned (.int .i64 (-1)) = _
        rw [HE.out]
      · have hd : decide ((a.length : Int) < (b.length : Int)) = false := decide_eq_false hab
        have HE : Aside0 (cmpL a b = 0) := ⟨by rw [← HK.out, List.drop_length, List.drop_of_length_le (by omega)]; rfl⟩
        clear hkn
        go_wp2_with fail
        go_ret
        refine ⟨?_, HB.out⟩
        show Ending.returned (.int .i64 0) = _
        rw [HE.out]
    | succ n =>
      have hlt : k < a.length := by omega
      obtain ⟨ad, rfl, hx0, hx1⟩ := lab_get (Kd.C_below HR.out HB.out) hlt
      obtain ⟨x, hx⟩ : ∃ x, x = a[k] := ⟨_, rfl⟩
      have HXD : Aside0 (a.drop k = x :: a.drop (k + 1)) := ⟨by rw [hx]; exact List.drop_eq_getElem_cons hlt⟩
      rw [← hx] at hx0 hx1
      have hki : (k : Int) < (a.length : Int) := by omega
      have hki0 : (0 : Int) ≤ (k : Int) := by omega
      have HKN := Aside0.mk hkn; have HLT := Aside0.mk hlt
      clear hkn hx
      by_cases hkl : k < b.length
      · obtain ⟨bd, rfl, hy0, hy1⟩ := lab_get (Kd.C_below HR2.out HB.out) hkl
        obtain ⟨y, hy⟩ : ∃ y, y = b[k] := ⟨_, rfl⟩
        have HYD : Aside0 (b.drop k = y :: b.drop (k + 1)) := ⟨by rw [hy]; exact List.drop_eq_getElem_cons hkl⟩
        rw [← hy] at hy0 hy1
        have hkb2 : (k : Int) < (b.length : Int) := by omega
        have hyl := World.block_lt_of_cell? wr _ hy0
        have hyb : ¬ (bd.add (k * 2)).block = wr.heap.size := by omega
        have hyb2 : ¬ wr.heap.size = (bd.add (k * 2)).block := by omega
        have HYL := Aside0.mk hyl
        clear hyl
        have hge : decide ((b.length : Int) ≤ (k : Int)) = false := decide_eq_false (by omega)
        have HKL := Aside0.mk hkl
        obtain ⟨v, hv⟩ : ∃ v, v = cmp2 x y := ⟨_, rfl⟩
        have HV := Aside0.mk hv
        have HE : Aside0 (cmpL a b = if v = 0 then cmpL (a.drop (k + 1)) (b.drop (k + 1)) else v) := ⟨by rw [← HK.out, HXD.out, HYD.out, cmpL, hv]⟩
        clear hv hy
        go_upto_region 4 with (fail)
        obtain ⟨v1, hv1⟩ : ∃ W, W = wr.alloc (.cells #[.string x.f0, .string x.f1] 47) := ⟨_, rfl⟩
        obtain ⟨e1, he1⟩ : ∃ b, b = wr.heap.size := ⟨_, rfl⟩
        rw [← hv1, ← he1]
        have hbl : Below wr.heap.size wr v1 := by rw [hv1]; exact below_alloc (Below.refl _ _) _
        have hk1 : v1.heap[e1]? = some (.cells #[.string x.f0, .string x.f1] 47 (0, 0)) := by rw [hv1, he1]; exact blk_new wr _
        have hz0 : v1.cell? ⟨e1, 0, none⟩ = some (.string x.f0) := by rw [blk_cell hk1]; rfl
        have hz1 : v1.cell? ⟨e1, 1, none⟩ = some (.string x.f1) := by rw [blk_cell hk1]; rfl
        replace hy0 := pw_cell_below hbl hy0
        replace hy1 := pw_cell_below hbl hy1
        have hel := World.block_lt_of_cell? v1 ⟨e1, 0, none⟩ hz0
        have hen : ¬ e1 = v1.heap.size := by simp at hel; omega
        have hen2 : ¬ v1.heap.size = e1 := fun h => hen h.symm
        have HBV := Aside0.mk (below_step HB.out hbl)
        clear hv1 he1 hbl hk1 hel hyb hyb2
        go_upto_region 7 with (fail)
        obtain ⟨v2, hv2⟩ : ∃ W, W = v1.alloc (.cells #[.string y.f0, .string y.f1] 47) := ⟨_, rfl⟩
        obtain ⟨e2, he2⟩ : ∃ b, b = v1.heap.size := ⟨_, rfl⟩
        rw [← hv2, ← he2]
        have hbl : Below v1.heap.size v1 v2 := by rw [hv2]; exact below_alloc (Below.refl _ _) _
        have hk2 : v2.heap[e2]? = some (.cells #[.string y.f0, .string y.f1] 47 (0, 0)) := by rw [hv2, he2]; exact blk_new v1 _
        have hq0 : v2.cell? ⟨e2, 0, none⟩ = some (.string y.f0) := by rw [blk_cell hk2]; rfl
        have hq1 : v2.cell? ⟨e2, 1, none⟩ = some (.string y.f1) := by rw [blk_cell hk2]; rfl
        replace hz0 := pw_cell_below hbl hz0
        replace hz1 := pw_cell_below hbl hz1
        have HBV2 := Aside0.mk (below_step HBV.out hbl)
        clear hv2 he2 hbl hk2 hen hen2
        go_wp2_with fail
        refine (cmp1_calls x y _).mono ?_
        rintro e w1 ⟨rfl, hb1⟩
        rw [← HV.out]
        have HB1 := Aside0.mk (below_step HBV2.out hb1)
        clear hz0 hz1
        clear hb1 hx0 hx1 hy0 hy1
        by_cases h0 : v = 0
        · have hvb : (v != 0) = false := by simp [h0]
          have hvc : (v == 0) = true := by simp [h0]
          have HE2 : Aside0 (cmpL (a.drop (k + 1)) (b.drop (k + 1)) = cmpL a b) := ⟨by rw [HE.out, if_pos h0]⟩
          clear h0
          go_wp2_with fail
          go_roundw
          case rel => exact ⟨k + 1, n, by have := HKN.out; omega, by have := HKL.out; omega, by go_num, HE2, HB1⟩
          case measure => (have := HLT.out; simp [intOf]; try omega)
        · have hvb : (v != 0) = true := by simp [h0]
          have hvc : (v == 0) = false := by simp [h0]
          have HE2 : Aside0 (cmpL a b = v) := ⟨by rw [HE.out, if_neg h0]⟩
          go_wp2_with fail
          go_ret
          refine ⟨?_, HB1.out⟩
          show Ending.returned (.int .i64 v) = _
          rw [HE2.out]
      · have hge : decide ((b.length : Int) ≤ (k : Int)) = true := decide_eq_true (by omega)
        have hkb2 : (b.length : Int) ≤ (k : Int) := by omega
        have HE : Aside0 (cmpL a b = 1) := ⟨by
          have e : b.drop k = [] := List.drop_of_length_le (by omega)
          rw [← HK.out, HXD.out, e]; rfl⟩
        go_wp2_with fail
        go_ret
        refine ⟨?_, below_alloc HB.out _⟩
        show Ending.returned (.int .i64 1) = _
        rw [HE.out]
theorem compareL_calls (A : Option Addr) (c : Nat) (a : List S47) (B : Option Addr) (d : Nat) (b : List S47) (w : World) (hr : Kd.C k47 w A a.length a) (hr2 : Kd.C k47 w B b.length b) :
    Calls Tryz.prog 27 #[.slice A a.length c, .slice B b.length d] w fun e w' => e = .returned (.int .i64 (cmpL a b)) ∧ Below w.heap.size w w' := by
  have HC : Aside0 (Calls Tryz.prog 56 #[.slice A a.length c, .slice B b.length d, .func (.func 57) #[] #[]] w fun e w' => e = .returned (.int .i64 (cmpL a b)) ∧ Below w.heap.size w w') := ⟨cmpf_calls A c a B d b w hr hr2⟩
  clear hr hr2
  go_enter Tryz.func27, Tryz.ntmps27
  go_wp2_with fail
  refine HC.out.mono ?_
  rintro e w1 ⟨rfl, hb1⟩
  have HB1 := Aside0.mk hb1
  clear hb1
  go_wp2_with fail
  go_ret
  exact ⟨rfl, HB1.out⟩
theorem cb_bound : ∀ a b : List UInt8, -1 ≤ Lib.compareBytes a b ∧ Lib.compareBytes a b ≤ 1
  | [], [] => by unfold Lib.compareBytes; omega
  | [], _ :: _ => by unfold Lib.compareBytes; omega
  | _ :: _, [] => by unfold Lib.compareBytes; omega
  | x :: a, y :: b => by
    have := cb_bound a b
    unfold Lib.compareBytes
    split
    · omega
    · split
      · omega
      · exact this
theorem ba_ext {a b : ByteArray} (h : a.data.toList = b.data.toList) : a = b := by
  cases a; cases b
  simp only [Array.toList_inj] at h
  simpa using h
theorem s47_ext {x y : S47} (h0 : x.f0.data.toList = y.f0.data.toList) (h1 : x.f1.data.toList = y.f1.data.toList) : x = y := by
  obtain ⟨x0, x1⟩ := x
  obtain ⟨y0, y1⟩ := y
  obtain rfl := ba_ext h0
  obtain rfl := ba_ext h1
  rfl
def eqN (x y : S47) : Bool := x.f0.toList == y.f0.toList && x.f1.toList == y.f1.toList
theorem eqN_iff {x y : S47} : eqN x y = true ↔ x = y := by
  unfold eqN
  rw [Bool.and_eq_true, beq_iff_eq, beq_iff_eq, tl_data, tl_data, tl_data, tl_data]
  exact ⟨fun h => s47_ext h.1 h.2, fun h => by rw [h]; exact ⟨rfl, rfl⟩⟩
def sameL : List S47 → List S47 → Bool
  | [], [] => true
  | [], _ :: _ => false
  | _ :: _, [] => false
  | x :: a, y :: b => eqN x y && sameL a b
theorem sameL_iff : ∀ a b : List S47, sameL a b = true ↔ a = b
  | [], [] => by simp [sameL]
  | [], _ :: _ => by simp [sameL]
  | _ :: _, [] => by simp [sameL]
  | x :: a, y :: b => by
    rw [sameL, Bool.and_eq_true, eqN_iff, sameL_iff a b]
    simp
theorem sameL_len : ∀ a b : List S47, a.length ≠ b.length → sameL a b = false := fun a b h => by
  cases hs : sameL a b with
  | false => rfl
  | true => exact absurd (by rw [(sameL_iff a b).1 hs]) h
theorem sameG_l0 (a b : List S47) (hl : a.length ≤ 9223372036854775807) (hab : a.length = b.length) : ∀ (n i k : Nat), i + n = a.length → n + 1 ≤ k → klaxonref09_Same.l0 k a b (i : Int) = some (sameL (a.drop i) (b.drop i))
  | 0, i, k, hi, hk => by
    obtain ⟨k, rfl⟩ : ∃ j, k = j + 1 := ⟨k - 1, by omega⟩
    unfold klaxonref09_Same.l0
    rw [if_neg (by omega), List.drop_of_length_le (by omega), List.drop_of_length_le (by omega)]; rfl
  | n + 1, i, k, hi, hk => by
    obtain ⟨k, rfl⟩ : ∃ j, k = j + 1 := ⟨k - 1, by omega⟩
    have ih := sameG_l0 a b hl hab n (i + 1) k (by omega) (by omega)
    have h1 : i < a.length := by omega
    have h2 : i < b.length := by omega
    unfold klaxonref09_Same.l0
    rw [if_pos (by omega), if_pos (by omega), if_pos (by omega), rdT a i h1, rdT b i h2, show wrap64 ((i : Int) + 1) = ((i + 1 : Nat) : Int) by unfold wrap64; omega, ih, List.drop_eq_getElem_cons h1, List.drop_eq_getElem_cons h2, sameL]
    unfold eqN
    cases (a[i].f0.toList == b[i].f0.toList) <;> cases (a[i].f1.toList == b[i].f1.toList) <;> simp
theorem sameG_f (a b : List S47) (hl : a.length ≤ 9223372036854775807) : klaxonref09_Same.f (a.length + 1) a b = some (sameL a b) := by
  unfold klaxonref09_Same.f
  by_cases h : a.length = b.length
  · rw [if_pos (by omega)]
    exact sameG_l0 a b hl h a.length 0 _ (by omega) (Nat.le_refl _)
  · rw [if_neg (by omega), sameL_len a b h]
theorem same_calls (A : Option Addr) (c : Nat) (a : List S47) (B : Option Addr) (d : Nat) (b : List S47) (w : World) (hr : Kd.C k47 w A a.length a) (hc : a.length ≤ c) (hr2 : Kd.C k47 w B b.length b) (hd : b.length ≤ d) :
    Calls Tryz.prog 15 #[.slice A a.length c, .slice B b.length d] w fun e w' => e = .returned (.bool (sameL a b)) ∧ Below w.heap.size w w' :=
  (klaxonref09_Same.calls _ A c a B d b _ w hr hc hr2 hd (sameG_f a b hr.2.1)).mono fun e w' h => ⟨h.1, h.2.below⟩
theorem made_toR {w w' : World} {l : List S47} {e : Ending} (h : MadeG w l e w') : MadeR w l e w' := by
  obtain ⟨hb, h⟩ := h
  refine ⟨hb, ?_⟩
  rcases h with h | ⟨hn, S, hp, hs, h⟩
  · exact .inl h
  · refine .inr ⟨hn, ?_⟩
    rcases h with ⟨hd, rfl⟩ | ⟨hd, hl, rfl⟩ | ⟨hd, hl, A, c, rfl, hc, hC⟩
    · exact .inl ⟨fun h => dup_pair hd ((ne_perm hp).2 h), rfl⟩
    · exact .inr (.inl ⟨S, hp, sort_pair hs hd, hl, rfl⟩)
    · exact .inr (.inr ⟨S, hp, sort_pair hs hd, hl, A, c, rfl, hc, hC⟩)
theorem made_rr {w w2 : World} {l : List S47} {e e2 : Ending} {w' w2' : World} (h : MadeR w l e w') (h2 : MadeR w2 l e2 w2') : ∃ (S : List S47) (A B : Option Addr) (c d : Nat) (r : Int), e = .returned (.tuple #[.slice A S.length c, .int .i64 r]) ∧ e2 = .returned (.tuple #[.slice B S.length d, .int .i64 r]) ∧ S.length ≤ c ∧ S.length ≤ d ∧ Kd.C k47 w' A S.length S ∧ Kd.C k47 w2' B S.length S ∧ ((r = 0 ∧ S.Perm l ∧ S.Pairwise ltN ∧ S.length ≤ 16 ∧ l.any badL = false) ∨ (r ≠ 0 ∧ S = [])) := by
  have hnil : ∀ W : World, Kd.C k47 W none ([] : List S47).length [] := fun W => ⟨rfl, by decide, fun h => by simp at h⟩
  obtain ⟨-, h⟩ := h
  obtain ⟨-, h2⟩ := h2
  rcases h with ⟨hb, rfl⟩ | ⟨hb, h⟩
  · rcases h2 with ⟨hb2, rfl⟩ | ⟨hb2, -⟩
    · exact ⟨[], none, none, 0, 0, 90, rfl, rfl, Nat.le_refl _, Nat.le_refl _, hnil _, hnil _, .inr ⟨by decide, rfl⟩⟩
    · rw [hb] at hb2; cases hb2
  · rcases h2 with ⟨hb2, -⟩ | ⟨hb2, h2⟩
    · rw [hb] at hb2; cases hb2
    · rcases h with ⟨hn, rfl⟩ | ⟨S, hp, hs, hl, rfl⟩ | ⟨S, hp, hs, hl, A, c, rfl, hc, hC⟩
      · rcases h2 with ⟨-, rfl⟩ | ⟨S', hp', hs', -⟩ | ⟨S', hp', hs', -⟩
        · exact ⟨[], none, none, 0, 0, 8, rfl, rfl, Nat.le_refl _, Nat.le_refl _, hnil _, hnil _, .inr ⟨by decide, rfl⟩⟩
        · exact absurd ((ne_perm hp').1 (lt_ne_pair hs')) hn
        · exact absurd ((ne_perm hp').1 (lt_ne_pair hs')) hn
      · have hy : l.Pairwise neN := (ne_perm hp).1 (lt_ne_pair hs)
        have hlen := hp.length_eq
        rcases h2 with ⟨hn, -⟩ | ⟨S', hp', hs', hl', rfl⟩ | ⟨S', hp', hs', hl', -⟩
        · exact absurd hy hn
        · exact ⟨[], none, none, 0, 0, 6, rfl, rfl, Nat.le_refl _, Nat.le_refl _, hnil _, hnil _, .inr ⟨by decide, rfl⟩⟩
        · have := hp'.length_eq; omega
      · have hy : l.Pairwise neN := (ne_perm hp).1 (lt_ne_pair hs)
        have hlen := hp.length_eq
        rcases h2 with ⟨hn, -⟩ | ⟨S', hp', hs', hl', rfl⟩ | ⟨S', hp', hs', hl', B, d, rfl, hd2, hC2⟩
        · exact absurd hy hn
        · have := hp'.length_eq; omega
        · obtain rfl := lt_unique hs hs' (hp.trans hp'.symm)
          exact ⟨S, A, B, c, d, 0, rfl, rfl, hc, hd2, hC, hC2, .inl ⟨rfl, hp, hs, hl, hb⟩⟩
theorem setFrom_iff (l : List S47) : ∀ (n i : Nat), i + n = l.length → (setFrom l i n = true ↔ l.length ≤ 16 ∧ ∀ j (hj : j < l.length), i ≤ j → badL l[j] = false ∧ (j = 0 ∨ ltN l[j - 1] l[j]))
  | 0, i, hi => by
    rw [setFrom, decide_eq_true_iff]
    exact ⟨fun h => ⟨h, fun j hj h2 => by omega⟩, fun h => h.1⟩
  | n + 1, i, hi => by
    have hlt : i < l.length := by omega
    have ih := setFrom_iff l n (i + 1) (by omega)
    rw [setFrom, Bool.and_eq_true, ih, List.getElem?_eq_getElem hlt, List.getElem?_eq_getElem (by omega : i - 1 < l.length)]
    simp only [Bool.and_eq_true, Bool.or_eq_true, decide_eq_true_iff, Bool.not_eq_true']
    constructor
    · rintro ⟨⟨h1, h2⟩, h3, h4⟩
      refine ⟨h3, fun j hj hij => ?_⟩
      by_cases e : j = i
      · subst e; exact ⟨h1, h2⟩
      · exact h4 j hj (by omega)
    · rintro ⟨h3, h4⟩
      exact ⟨h4 i hlt (Nat.le_refl _), h3, fun j hj hij => h4 j hj (by omega)⟩
theorem setB_iff (l : List S47) : setB l = true ↔ l.Pairwise ltN ∧ l.length ≤ 16 ∧ l.any badL = false := by
  unfold setB
  rw [setFrom_iff l l.length 0 (by omega)]
  constructor
  · rintro ⟨h1, h2⟩
    refine ⟨?_, h1, ?_⟩
    · rw [List.pairwise_iff_getElem]
      intro i j hi hj hij
      have key : ∀ d, (hd : i + d + 1 < l.length) → ltN l[i] l[i + d + 1] := by
        intro d
        induction d with
        | zero => intro hd; exact ((h2 (i + 1) hd (Nat.zero_le _)).2).resolve_left (by omega)
        | succ d ih =>
          intro hd
          have h3 := ((h2 (i + d + 1 + 1) hd (Nat.zero_le _)).2).resolve_left (by omega)
          exact ltN_trans (ih (by omega)) h3
      have := key (j - i - 1) (by omega)
      have e : i + (j - i - 1) + 1 = j := by omega
      simp only [e] at this
      exact this
    · rw [List.any_eq_false]
      intro x hx
      obtain ⟨j, hj, rfl⟩ := List.getElem_of_mem hx
      rw [(h2 j hj (Nat.zero_le _)).1]
      simp
  · rintro ⟨h1, h2, h3⟩
    refine ⟨h2, fun j hj _ => ⟨?_, ?_⟩⟩
    · have := List.any_eq_false.1 h3 l[j] (List.getElem_mem hj)
      simpa using this
    · by_cases e : j = 0
      · exact .inl e
      · exact .inr (List.pairwise_iff_getElem.1 h1 (j - 1) j (by omega) hj (by omega))
theorem zero_cells2 (n : Nat) : (Builtin.zeroCells #[.string ⟨#[]⟩, .string ⟨#[]⟩] n).toList = List.replicate (n * 2) (.string ⟨#[]⟩) := by
  simp [Builtin.zeroCells]
  apply List.ext_getElem
  · simp
  · intro i h1 h2
    simp
    rcases Nat.mod_two_eq_zero_or_one i with h | h <;> simp [h]
theorem zeroValue_L (w : World) : (zeroValue 47).run Tryz.prog w = .ok (.agg #[.string ⟨#[]⟩, .string ⟨#[]⟩]) w := by
  obtain ⟨i, hi, hzz⟩ := Option.map_eq_some_iff.1 infoLL
  simp only [Prod.mk.injEq] at hzz
  obtain ⟨hz, hsz, hby⟩ := hzz
  simp [zeroValue, typeInfo, hi, hz]
theorem run_clearL (w : World) (ty : TypeId) (g o n c : Nat) (hn : 0 < n) (hc : ∀ j, j < n * 2 → (w.cell? ⟨g, o + j, none⟩).isSome = true) (hf : ∀ j, j < n * 2 → w.frozen? ⟨g, o + j, none⟩ = false) :
    (Builtin.clear_ #[22] ty #[.slice (some ⟨g, o, none⟩) n c]).run Tryz.prog w = .ok (.tuple #[]) (w.setCells g o (List.replicate (n * 2) (.string ⟨#[]⟩))) := by
  have hst := run_storeCells_cells (P := Tryz.prog) g o (List.replicate (n * 2) (.string ⟨#[]⟩)) 0 w (by simpa using hc) (by simpa using hf) (by intro v hv'; rw [List.eq_of_mem_replicate hv']; rfl)
  simp only [Nat.add_zero] at hst
  have hz := zero_cells2 n
  have hzv := zeroValue_L
  obtain ⟨m, rfl⟩ : ∃ m, n = m + 1 := ⟨n - 1, by omega⟩
  simp [Builtin.clear_, run_underlying Tryz.underlying22, hzv, Value.cells, hz, hst]
theorem setCells_blk (g t : Nat) : ∀ (vs : List Value) (o : Nat) (W : World) (cur : Array Value), W.heap[g]? = some (.cells cur t (0, 0)) → ∃ cur' : Array Value, (W.setCells g o vs).heap[g]? = some (.cells cur' t (0, 0)) ∧ ∀ i, i < o → cur'[i]? = cur[i]?
  | [], o, W, cur, h => ⟨cur, h, fun _ _ => rfl⟩
  | v :: r, o, W, cur, h => by
    obtain ⟨cur', h1, h2⟩ := setCells_blk g t r (o + 1) (W.setCell ⟨g, o, none⟩ v) _ (blk_set h o v)
    refine ⟨cur', h1, fun i hi => ?_⟩
    rw [h2 i (by omega), Array.getElem?_setIfInBounds_ne (by omega)]
theorem setCells_frm (g : Nat) (w : World) : ∀ (vs : List Value) (o : Nat) (W : World), Frm (fun k => k = g) w W → Frm (fun k => k = g) w (W.setCells g o vs)
  | [], _, _, h => h
  | v :: r, o, W, h => setCells_frm g w r (o + 1) _ (Frm.set h (p := ⟨g, o, none⟩) (.inl rfl) v)
theorem RowL.clear {W : World} {g : Nat} {L : List S47} (h : RowL W g L) (i : Nat) (vs : List Value) : RowL (W.setCells g (i * 2) vs) g (L.take i) := by
  obtain ⟨cur, h1, h2⟩ := h
  obtain ⟨cur', h3, h4⟩ := setCells_blk g 47 vs (i * 2) W cur h1
  refine ⟨cur', h3, fun j hj => ?_⟩
  have hj2 : j < i ∧ j < L.length := by rw [List.length_take] at hj; omega
  rw [h4 _ (by omega), h4 _ (by omega), List.getElem_take]
  exact h2 j hj2.2
theorem RowL.some {W : World} {g : Nat} {L : List S47} (h : RowL W g L) {j : Nat} (hj : j < L.length * 2) : (W.cell? ⟨g, j, none⟩).isSome = true ∧ W.frozen? ⟨g, j, none⟩ = false := by
  obtain ⟨cur, h1, h2⟩ := h
  refine ⟨?_, blk_frozen h1 _⟩
  rw [blk_cell h1]
  have h3 := h2 (j / 2) (by omega)
  rcases Nat.mod_two_eq_zero_or_one j with e | e
  · have : j = j / 2 * 2 := by omega
    rw [this, h3.1]; rfl
  · have : j = j / 2 * 2 + 1 := by omega
    rw [this, h3.2]; rfl
theorem wp_clearL {ops : Array Oper} {rest : List Oper} {o : Oper} {a : Act} {Q : Exit → Act → World → Prop} (W : World) (hw : Region.wanted o (yielded ops a.tmps) = true) (s : Tmp) (ho : o.op = .call { callee := .builtin .clear, args := #[.tmp s], argTypes := #[22] })
    (g i n c : Nat) (L : List S47) (hs : a.eval (.tmp s) = .slice (some ⟨g, i * 2, none⟩) n c) (hR : RowL W g L) (hn : 0 < n) (hi : i + n = L.length)
    (h : wpList Tryz.prog ops Q rest (a.put o.dst (.tuple #[])) (W.setCells g (i * 2) (List.replicate (n * 2) (.string ⟨#[]⟩)))) : wpList Tryz.prog ops Q (o :: rest) a W := by
  refine gate_guard hw ?_
  have hr := run_clearL W o.type g (i * 2) n c hn (fun j hj => (hR.some (by omega)).1) (fun j hj => (hR.some (by omega)).2)
  refine Kd.event_run rfl ?_ h
  simp [execOp, resolve, invoke, builtin, ho, hs, hr]
theorem keep_take (p : S47 → Bool) (l : List S47) (j : Nat) (hj : j < l.length) : (l.take (j + 1)).filter (fun x => !(p x)) = (l.take j).filter (fun x => !(p x)) ++ (if p l[j] then [] else [l[j]]) := by
  rw [List.take_succ_eq_append_getElem hj, List.filter_append]
  cases h : p l[j] <;> simp [h]
theorem set_take (L : List S47) (i : Nat) (hi : i < L.length) (x : S47) : (L.set i x).take (i + 1) = L.take i ++ [x] := by
  rw [List.take_succ_eq_append_getElem (by rw [List.length_set]; exact hi), List.getElem_set_self]
  congr 1
  apply List.ext_getElem?
  intro m
  rw [List.getElem?_take, List.getElem?_take]
  split
  · rw [List.getElem?_set_ne (by omega)]
  · rfl
set_option maxHeartbeats 2000000 in
set_option maxRecDepth 100000 in
theorem del_calls (gf : Nat) (lb : Array Value) (hgo : ∀ (args : Array Value) (W : World), (callFunc gf args).run Tryz.prog W = .ok (.enter gf args) W) (p : S47 → Bool) (g c : Nat) (l : List S47) (w : World) (hrow : RowL w g l) (hl : l.length ≤ 1000000) (hlc : l.length ≤ c)
    (hp : ∀ (W : World) (x : S47), x ∈ l → Frm (fun k => k = g) w W → Calls Tryz.prog gf (#[.agg #[.string x.f0, .string x.f1]] ++ lb) W fun e w' => e = .returned (.bool (p x)) ∧ Below W.heap.size W w') :
    Calls Tryz.prog 48 #[.slice (some ⟨g, 0, none⟩) l.length c, .func (.func gf) #[] lb] w fun e w' => e = .returned (.slice (some ⟨g, 0, none⟩) (l.filter (fun x => !(p x))).length c) ∧ RowL w' g (l.filter (fun x => !(p x))) ∧ Frm (fun k => k = g) w w' := by
  have hgl : g < w.heap.size := by obtain ⟨cur, h1, -⟩ := hrow; exact blk_lt h1
  have HI : Aside0 (Calls Tryz.prog 51 #[.slice (some ⟨g, 0, none⟩) l.length c, .func (.func gf) #[] lb] w fun e w' => e = .returned (.int .i64 (firstI p l)) ∧ Below w.heap.size w w') := ⟨indexL2_calls gf lb hgo p (some ⟨g, 0, none⟩) c l w (hrow.toC (by omega)) (fun W x hx hb => hp W x hx (Frm.of_below hb))⟩
  have HP := Aside0.mk hp; have HROW := Aside0.mk hrow; have HGL := Aside0.mk hgl; have HLC := Aside0.mk hlc; have HL := Aside0.mk hl
  clear hp hrow hgl hlc hl
  go_enter Tryz.func48, Tryz.ntmps48
  go_wp2_with fail
  refine HI.out.mono ?_
  rintro e w1 ⟨rfl, hb1⟩
  have HB1 := Aside0.mk hb1
  clear hb1
  cases hfi : l.findIdx? p with
  | none =>
    have hall := List.findIdx?_eq_none_iff.1 hfi
    have HFL : Aside0 (l.filter (fun x => !(p x)) = l) := ⟨List.filter_eq_self.2 (fun x hx => by rw [hall x hx]; rfl)⟩
    have hf1 : firstI p l = -1 := by simp only [firstI, hfi]
    rw [hf1]
    clear hall hfi hf1
    go_wp2_with fail
    go_ret
    rw [HFL.out]
    exact ⟨rfl, HROW.out.below HB1.out, Frm.of_below HB1.out⟩
  | some k =>
    obtain ⟨hkl, hpk, hpj⟩ := List.findIdx?_eq_some_iff_getElem.1 hfi
    have hf1 : firstI p l = (k : Int) := by simp only [firstI, hfi]
    rw [hf1]
    have HT0 : Aside0 (l.take k = (l.take (k + 1)).filter (fun x => !(p x))) := ⟨by
      rw [keep_take p l k hkl, hpk, if_pos rfl, List.append_nil]
      refine (List.filter_eq_self.2 (fun x hx => ?_)).symm
      obtain ⟨j, hj, rfl⟩ := List.mem_take_iff_getElem.1 hx
      have := hpj j (by omega)
      simpa using this⟩
    have hk1 : ((k : Int) == -1) = false := beq_eq_false_iff_ne.2 (by omega)
    have hk2 : ¬ (k : Int) = -1 := by omega
    have hkw : wrap64 ((k : Int) + 1) = ((k + 1 : Nat) : Int) := by have := HL.out; unfold wrap64; omega
    have HKL := Aside0.mk hkl
    have hls := HL.out
    obtain ⟨k1, hk1d⟩ : ∃ k1, k1 = k + 1 := ⟨_, rfl⟩
    rw [← hk1d] at hkw
    have HK1 := Aside0.mk hk1d
    clear hfi hf1 hpk hpj hk1d
    go_wp2_with fail
    go_loopw [5, 6] (fun x y wr => ∃ (i j n : Nat) (L : List S47), j + n = l.length ∧ i < j ∧ x = .int .i64 i ∧ y = .int .i64 j ∧ Aside0 (L.length = l.length) ∧ Aside0 (L.take i = (l.take j).filter (fun x => !(p x))) ∧ Aside0 (L.drop j = l.drop j) ∧ Aside0 (RowL wr g L) ∧ Aside0 (Frm (fun k => k = g) w wr)) (fun _ y _ => l.length - (intOf y).toNat)
    case atStart => exact ⟨k, k1, l.length - k1, l, by have := HK1.out; have := HKL.out; omega, by have := HK1.out; omega, rfl, by rw [HK1.out]; go_num, ⟨rfl⟩, ⟨by rw [HK1.out]; exact HT0.out⟩, ⟨rfl⟩, ⟨HROW.out.below HB1.out⟩, ⟨Frm.of_below HB1.out⟩⟩
    case round =>
      clear hkw hk1 hk2 hkl
      obtain ⟨i, j, n, L, hjn, hij, rfl, rfl, HLL, HLT, HLD, HRW, HFR⟩ := hrel
      cases n with
      | zero =>
        obtain rfl : j = l.length := by omega
        have hkk : ¬ ((l.length : Int) < (l.length : Int)) := by omega
        have hin : (i : Int) ≤ (l.length : Int) := by omega
        have hin0 : (0 : Int) ≤ (i : Int) := by omega
        have hci : ¬ c = i := by have := HLC.out; omega
        have hci2 : (i : Int) ≤ (c : Int) := by have := HLC.out; omega
        have HJN := Aside0.mk hjn; have HIJ := Aside0.mk hij
        have HTF : Aside0 (L.take i = l.filter (fun x => !(p x))) := ⟨by have h := HLT.out; rw [List.take_length] at h; exact h⟩
        have HIL : Aside0 (i = (l.filter (fun x => !(p x))).length) := ⟨by rw [← HTF.out, List.length_take]; have := HLL.out; omega⟩
        have HRWC := Aside0.mk (HRW.out.clear i (List.replicate ((l.length - i) * 2) (.string ⟨#[]⟩)))
        have HFRC := Aside0.mk (setCells_frm g w (List.replicate ((l.length - i) * 2) (.string ⟨#[]⟩)) (i * 2) wr HFR.out)
        have hrc := run_clearL wr 0 g (i * 2) (l.length - i) (c - i) (by have := HIJ.out; omega) (fun m hm => (HRW.out.some (j := i * 2 + m) (by have := HIJ.out; have := HLL.out; omega)).1) (fun m hm => (HRW.out.some (j := i * 2 + m) (by have := HIJ.out; have := HLL.out; omega)).2)
        obtain ⟨W3, hW3⟩ : ∃ W, W = wr.setCells g (i * 2) (List.replicate ((l.length - i) * 2) (.string ⟨#[]⟩)) := ⟨_, rfl⟩
        rw [← hW3] at hrc HRWC HFRC
        clear hW3
        go_wp2_with fail
        go_ret
        refine ⟨?_, ?_, HFRC.out⟩
        · show Ending.returned (.slice (some ⟨g, 0, none⟩) i c) = _
          rw [← HIL.out]
        · rw [← HTF.out]; exact HRWC.out
      | succ n =>
        have hjl : j < l.length := by omega
        have hjl2 : j < L.length := by rw [HLL.out]; exact hjl
        obtain ⟨x, hx⟩ : ∃ x, x = l[j] := ⟨_, rfl⟩
        have hlx : L[j] = x := by
          have h := HLD.out
          rw [List.drop_eq_getElem_cons hjl2, List.drop_eq_getElem_cons hjl] at h
          rw [hx]; exact (List.cons.inj h).1
        have HXM : Aside0 (x ∈ l) := ⟨by rw [hx]; exact List.getElem_mem hjl⟩
        have HKT : Aside0 ((l.take (j + 1)).filter (fun x => !(p x)) = (l.take j).filter (fun x => !(p x)) ++ (if p x then [] else [x])) := ⟨by rw [hx]; exact keep_take p l j hjl⟩
        obtain ⟨hc0, hc1, -⟩ := HRW.out.cell2 hjl2
        rw [hlx] at hc0 hc1
        have hji : (j : Int) < (l.length : Int) := by omega
        have hji0 : (0 : Int) ≤ (j : Int) := by omega
        have HJN := Aside0.mk hjn; have HIJ := Aside0.mk hij; have HJL := Aside0.mk hjl; have HJL2 := Aside0.mk hjl2
        clear hlx hx hjn hjl hjl2
        go_upto_region 8 with (fail)
        obtain ⟨v1, hv1⟩ : ∃ W, W = wr.alloc (.cells #[.string x.f0, .string x.f1] 47) := ⟨_, rfl⟩
        obtain ⟨e1, he1⟩ : ∃ b, b = wr.heap.size := ⟨_, rfl⟩
        rw [← hv1, ← he1]
        have hbl : Below wr.heap.size wr v1 := by rw [hv1]; exact below_alloc (Below.refl _ _) _
        have hk1 : v1.heap[e1]? = some (.cells #[.string x.f0, .string x.f1] 47 (0, 0)) := by rw [hv1, he1]; exact blk_new wr _
        have hz0 : v1.cell? ⟨e1, 0, none⟩ = some (.string x.f0) := by rw [blk_cell hk1]; rfl
        have hz1 : v1.cell? ⟨e1, 1, none⟩ = some (.string x.f1) := by rw [blk_cell hk1]; rfl
        have HRW1 := Aside0.mk (HRW.out.below hbl)
        have HFR1 := Aside0.mk (Frm.step HFR.out hbl)
        have HEG : Aside0 (¬ e1 = g) := ⟨by have h1 := HGL.out; have h2 := HFR.out.size; omega⟩
        clear hv1 he1 hbl hk1 hc0 hc1
        go_wp2_with fail
        refine (HP.out v1 x HXM.out HFR1.out).mono ?_
        rintro e w2 ⟨rfl, hb2⟩
        have HRW2 := Aside0.mk (HRW1.out.below hb2)
        have HFR2 := Aside0.mk (Frm.step HFR1.out hb2)
        have hz20 := pw_cell_below hb2 hz0
        have hz21 := pw_cell_below hb2 hz1
        clear hb2 hz0 hz1
        cases hpx : p x with
        | true =>
          have HPX := Aside0.mk hpx
          clear hpx
          go_wp2_with fail
          go_roundw
          case rel => exact ⟨i, j + 1, n, L, by have := HJN.out; omega, by have := HIJ.out; omega, rfl, by go_num, HLL, ⟨by rw [HKT.out, HPX.out, if_pos rfl, List.append_nil]; exact HLT.out⟩, ⟨by have h := HLD.out; rw [← List.drop_drop, ← List.drop_drop, h]⟩, HRW2, HFR2⟩
          case measure => (have := HJL.out; simp [intOf]; try omega)
        | false =>
          have HPX := Aside0.mk hpx
          clear hpx
          have hil : i < L.length := by have h1 := HJL2.out; have h2 := HIJ.out; omega
          have hs := HRW2.out.cell2 (i := i) hil
          obtain ⟨y, hy⟩ : ∃ y, y = L[i] := ⟨_, rfl⟩
          rw [← hy] at hs
          have hii : (i : Int) < (l.length : Int) := by have h1 := HJL.out; have h2 := HIJ.out; omega
          have hii0 : (0 : Int) ≤ (i : Int) := by omega
          have HRW3 := Aside0.mk (HRW2.out.set1 hil x)
          have HTK : Aside0 ((L.set i x).take (i + 1) = L.take i ++ [x]) := ⟨set_take L i hil x⟩
          have HDK : Aside0 ((L.set i x).drop (j + 1) = L.drop (j + 1)) := ⟨List.drop_set_of_lt (by have := HIJ.out; omega)⟩
          have HFR3 := Aside0.mk (Frm.set (Frm.set HFR2.out (p := ⟨g, i * 2, none⟩) (.inl rfl) (.string x.f0)) (p := ⟨g, i * 2 + 1, none⟩) (.inl rfl) (.string x.f1))
          clear hy hil
          go_wp2_with fail
          go_roundw
          case rel => exact ⟨i + 1, j + 1, n, L.set i x, by have := HJN.out; omega, by have := HIJ.out; omega, by go_num, by go_num, ⟨by rw [List.length_set]; exact HLL.out⟩, ⟨by rw [HTK.out, HKT.out, HPX.out, HLT.out]; rfl⟩, ⟨by have h := HLD.out; rw [HDK.out, ← List.drop_drop, ← List.drop_drop, h]⟩, HRW3, HFR3⟩
          case measure => (have := HJL.out; simp [intOf]; try omega)
theorem hasname_calls (An : Option Addr) (cn : Nat) (names : List ByteArray) (o : ByteArray) (W : World) (hC : Kd.C Kd.string W An names.length names) (hcn : names.length ≤ cn) (hn : names.length ≤ 4611686018427387904) :
    Calls Tryz.prog 43 #[.slice An names.length cn, .string o] W fun e w' => e = .returned (.bool (names.any (seq o))) ∧ Below W.heap.size W w' :=
  (slices_Contains_string_string.calls (names.length + 1) An cn names o _ W hC hcn (contains_f names o hn _ (Nat.le_refl _))).mono fun e w' h => ⟨h.1, by first | exact h.2.below | exact h.2⟩
set_option maxHeartbeats 400000 in
theorem only1_calls (x0 x1 : ByteArray) (An : Option Addr) (cn : Nat) (names : List ByteArray) (B : Nat) (w : World) (hB : w.cell? ⟨B, 0, none⟩ = some (.slice An names.length cn)) (hC : Kd.C Kd.string w An names.length names) (hcn : names.length ≤ cn) (hn : names.length ≤ 4611686018427387904) :
    Calls Tryz.prog 49 #[.agg #[.string x0, .string x1], .pointer (some ⟨B, 0, none⟩)] w fun e w' => e = .returned (.bool (!(names.any (seq x0)))) ∧ Below w.heap.size w w' := by
  have hlt := World.block_lt_of_cell? w ⟨B, 0, none⟩ hB
  have hne : B ≠ w.heap.size := fun e => by simp at hlt; omega
  have HCC : Aside0 (∀ o, Calls Tryz.prog 43 #[.slice An names.length cn, .string x0] (w.alloc o) fun e w' => e = .returned (.bool (names.any (seq x0))) ∧ Below (w.alloc o).heap.size (w.alloc o) w') := ⟨fun o => hasname_calls An cn names x0 _ (Kd.C_alloc hC o) hcn hn⟩
  clear hC hcn hn
  go_enter Tryz.func49, Tryz.ntmps49
  go_wp2_with fail
  refine (HCC.out _).mono ?_
  rintro e w1 ⟨rfl, hb1⟩
  have HB1 := Aside0.mk (below_step (below_alloc (Below.refl w.heap.size w) _) hb1)
  clear hb1
  go_wp2_with fail
  go_ret
  exact ⟨rfl, HB1.out⟩
set_option maxHeartbeats 400000 in
theorem without1_calls (x0 x1 : ByteArray) (An : Option Addr) (cn : Nat) (names : List ByteArray) (B : Nat) (w : World) (hB : w.cell? ⟨B, 0, none⟩ = some (.slice An names.length cn)) (hC : Kd.C Kd.string w An names.length names) (hcn : names.length ≤ cn) (hn : names.length ≤ 4611686018427387904) :
    Calls Tryz.prog 50 #[.agg #[.string x0, .string x1], .pointer (some ⟨B, 0, none⟩)] w fun e w' => e = .returned (.bool (names.any (seq x0))) ∧ Below w.heap.size w w' := by
  have hlt := World.block_lt_of_cell? w ⟨B, 0, none⟩ hB
  have hne : B ≠ w.heap.size := fun e => by simp at hlt; omega
  have HCC : Aside0 (∀ o, Calls Tryz.prog 43 #[.slice An names.length cn, .string x0] (w.alloc o) fun e w' => e = .returned (.bool (names.any (seq x0))) ∧ Below (w.alloc o).heap.size (w.alloc o) w') := ⟨fun o => hasname_calls An cn names x0 _ (Kd.C_alloc hC o) hcn hn⟩
  clear hC hcn hn
  go_enter Tryz.func50, Tryz.ntmps50
  go_wp2_with fail
  refine (HCC.out _).mono ?_
  rintro e w1 ⟨rfl, hb1⟩
  have HB1 := Aside0.mk (below_step (below_alloc (Below.refl w.heap.size w) _) hb1)
  clear hb1
  go_wp2_with fail
  go_ret
  exact ⟨rfl, HB1.out⟩
set_option maxHeartbeats 400000 in
theorem del0_calls (gf : Nat) (lb : Array Value) (hgo : ∀ (args : Array Value) (W : World), (callFunc gf args).run Tryz.prog W = .ok (.enter gf args) W) (A : Option Addr) (c : Nat) (w : World) :
    Calls Tryz.prog 48 #[.slice A 0 c, .func (.func gf) #[] lb] w fun e w' => e = .returned (.slice A 0 c) ∧ Below w.heap.size w w' := by
  have HI : Aside0 (Calls Tryz.prog 51 #[.slice A 0 c, .func (.func gf) #[] lb] w fun e w' => e = .returned (.int .i64 (-1)) ∧ Below w.heap.size w w') := ⟨indexL2_calls gf lb hgo (fun _ => false) A c [] w ⟨rfl, by decide, fun h => by simp at h⟩ (fun W x hx _ => by cases hx)⟩
  go_enter Tryz.func48, Tryz.ntmps48
  go_wp2_with fail
  refine HI.out.mono ?_
  rintro e w1 ⟨rfl, hb1⟩
  have HB1 := Aside0.mk hb1
  clear hb1
  go_wp2_with fail
  go_ret
  exact ⟨rfl, HB1.out⟩
def onlyL (l : List S47) (names : List ByteArray) : List S47 := l.filter (fun x => names.any (seq x.f0))
def withoutL (l : List S47) (names : List ByteArray) : List S47 := l.filter (fun x => !(names.any (seq x.f0)))
set_option maxHeartbeats 1000000 in
theorem only_calls (A : Option Addr) (c : Nat) (l : List S47) (An : Option Addr) (cn : Nat) (names : List ByteArray) (w : World) (hr : Kd.C k47 w A l.length l) (hl : l.length ≤ 1000) (hrn : Kd.C Kd.string w An names.length names) (hcn : names.length ≤ cn) (hn : names.length ≤ 4611686018427387904) :
    Calls Tryz.prog 23 #[.slice A l.length c, .slice An names.length cn] w fun e w' => ∃ A' c', e = .returned (.slice A' (onlyL l names).length c') ∧ (onlyL l names).length ≤ c' ∧ Kd.C k47 w' A' (onlyL l names).length (onlyL l names) ∧ Below w.heap.size w w' := by
  have HR := Aside0.mk hr; have HRN := Aside0.mk hrn; have HCN := Aside0.mk hcn; have HN := Aside0.mk hn; have HL := Aside0.mk hl
  have HFL : Aside0 (l.filter (fun x => !(!(names.any (seq x.f0)))) = onlyL l names) := ⟨by unfold onlyL; simp only [Bool.not_not]⟩
  clear hr hrn hcn hn hl
  go_enter Tryz.func23, Tryz.ntmps23
  go_wp2_with fail
  obtain ⟨v1, hv1⟩ : ∃ W, W = w.alloc (.cells #[.slice An names.length cn] 41) := ⟨_, rfl⟩
  obtain ⟨e1, he1⟩ : ∃ b, b = w.heap.size := ⟨_, rfl⟩
  rw [← hv1]
  try rw [← he1]
  have hbl : Below w.heap.size w v1 := by rw [hv1]; exact below_alloc (Below.refl _ _) _
  have hk1 : v1.heap[e1]? = some (.cells #[.slice An names.length cn] 41 (0, 0)) := by rw [hv1, he1]; exact blk_new w _
  have HK1 := Aside0.mk hk1
  have HBV := Aside0.mk hbl
  clear hv1 he1 hbl hk1
  refine (cloneG_calls A c l v1 (Kd.C_below HR.out HBV.out) (by have := HL.out; omega)).mono ?_
  rintro e w2 ⟨v, rfl, hR2, hb2⟩
  have HB2 := Aside0.mk (below_step HBV.out hb2)
  have HK2 := Aside0.mk (blk_below HK1.out hb2)
  rcases Nat.eq_zero_or_pos l.length with h0 | h0
  · obtain rfl := List.length_eq_zero_iff.1 h0
    obtain ⟨A2, c2, rfl, hc2, hC2⟩ := Kd.R_reads hR2
    clear hR2 hb2 h0
    go_wp2_with fail
    refine (del0_calls 49 #[.pointer (some ⟨e1, 0, none⟩)] (enters Tryz.func49 (by kernel_rfl) rfl) A2 c2 w2).mono ?_
    rintro e w3 ⟨rfl, hb3⟩
    have HB3 := Aside0.mk (below_step HB2.out hb3)
    clear hb3
    go_wp2_with fail
    go_ret
    exact ⟨A2, c2, rfl, Nat.zero_le _, ⟨rfl, by simp [onlyL], fun h => by simp [onlyL] at h⟩, HB3.out⟩
  · obtain ⟨g, cap, rfl, hcap, hbg, hrow, hC⟩ := own_rowL hR2 h0
    have HEG : Aside0 (e1 < v1.heap.size ∧ v1.heap.size ≤ g ∧ w.heap.size ≤ v1.heap.size) := ⟨⟨blk_lt HK1.out, hbg, HBV.out.size⟩⟩
    have HROW := Aside0.mk hrow
    have HCAP := Aside0.mk hcap
    have HP : Aside0 (∀ (W : World) (x : S47), x ∈ l → Frm (fun k => k = g) w2 W → Calls Tryz.prog 49 (#[.agg #[.string x.f0, .string x.f1]] ++ #[.pointer (some ⟨e1, 0, none⟩)]) W fun e w' => e = .returned (.bool (!(names.any (seq x.f0)))) ∧ Below W.heap.size W w') := ⟨fun W x hx hF => by
      have hke : W.heap[e1]? = some (.cells #[.slice An names.length cn] 41 (0, 0)) := hF.blk HK2.out (by have := HEG.out; omega)
      have hbw : Below w.heap.size w W := HB2.out.trans (hF.below (B := w.heap.size) (fun k hk => by have := HEG.out; omega) HB2.out.size)
      exact only1_calls x.f0 x.f1 An cn names e1 W (by rw [blk_cell hke]; rfl) (Kd.C_below HRN.out hbw) HCN.out HN.out⟩
    clear hR2 hb2 h0 hcap hbg hrow hC
    go_wp2_with fail
    refine (del_calls 49 #[.pointer (some ⟨e1, 0, none⟩)] (enters Tryz.func49 (by kernel_rfl) rfl) (fun x => !(names.any (seq x.f0))) g cap l w2 HROW.out (by have := HL.out; omega) HCAP.out HP.out).mono ?_
    rw [HFL.out]
    rintro e w3 ⟨rfl, hrow3, hF3⟩
    have hlen : (onlyL l names).length ≤ l.length := List.length_filter_le _ _
    have HC3 := Aside0.mk (hrow3.toC (by have := HL.out; omega))
    have HB3 : Aside0 (Below w.heap.size w w3) := ⟨HB2.out.trans (hF3.below (B := w.heap.size) (fun k hk => by have := HEG.out; omega) HB2.out.size)⟩
    have HLN : Aside0 ((onlyL l names).length ≤ cap) := ⟨Nat.le_trans hlen HCAP.out⟩
    clear hrow3 hF3 hlen
    go_wp2_with fail
    go_ret
    exact ⟨_, cap, rfl, HLN.out, HC3.out, HB3.out⟩
set_option maxHeartbeats 1000000 in
theorem without_calls (A : Option Addr) (c : Nat) (l : List S47) (An : Option Addr) (cn : Nat) (names : List ByteArray) (w : World) (hr : Kd.C k47 w A l.length l) (hl : l.length ≤ 1000) (hrn : Kd.C Kd.string w An names.length names) (hcn : names.length ≤ cn) (hn : names.length ≤ 4611686018427387904) :
    Calls Tryz.prog 24 #[.slice A l.length c, .slice An names.length cn] w fun e w' => ∃ A' c', e = .returned (.slice A' (withoutL l names).length c') ∧ (withoutL l names).length ≤ c' ∧ Kd.C k47 w' A' (withoutL l names).length (withoutL l names) ∧ Below w.heap.size w w' := by
  have HR := Aside0.mk hr; have HRN := Aside0.mk hrn; have HCN := Aside0.mk hcn; have HN := Aside0.mk hn; have HL := Aside0.mk hl
  have HFL : Aside0 (l.filter (fun x => !(names.any (seq x.f0))) = withoutL l names) := ⟨by rfl⟩
  clear hr hrn hcn hn hl
  go_enter Tryz.func24, Tryz.ntmps24
  go_wp2_with fail
  obtain ⟨v1, hv1⟩ : ∃ W, W = w.alloc (.cells #[.slice An names.length cn] 41) := ⟨_, rfl⟩
  obtain ⟨e1, he1⟩ : ∃ b, b = w.heap.size := ⟨_, rfl⟩
  rw [← hv1]
  try rw [← he1]
  have hbl : Below w.heap.size w v1 := by rw [hv1]; exact below_alloc (Below.refl _ _) _
  have hk1 : v1.heap[e1]? = some (.cells #[.slice An names.length cn] 41 (0, 0)) := by rw [hv1, he1]; exact blk_new w _
  have HK1 := Aside0.mk hk1
  have HBV := Aside0.mk hbl
  clear hv1 he1 hbl hk1
  refine (cloneG_calls A c l v1 (Kd.C_below HR.out HBV.out) (by have := HL.out; omega)).mono ?_
  rintro e w2 ⟨v, rfl, hR2, hb2⟩
  have HB2 := Aside0.mk (below_step HBV.out hb2)
  have HK2 := Aside0.mk (blk_below HK1.out hb2)
  rcases Nat.eq_zero_or_pos l.length with h0 | h0
  · obtain rfl := List.length_eq_zero_iff.1 h0
    obtain ⟨A2, c2, rfl, hc2, hC2⟩ := Kd.R_reads hR2
    clear hR2 hb2 h0
    go_wp2_with fail
    refine (del0_calls 50 #[.pointer (some ⟨e1, 0, none⟩)] (enters Tryz.func50 (by kernel_rfl) rfl) A2 c2 w2).mono ?_
    rintro e w3 ⟨rfl, hb3⟩
    have HB3 := Aside0.mk (below_step HB2.out hb3)
    clear hb3
    go_wp2_with fail
    go_ret
    exact ⟨A2, c2, rfl, Nat.zero_le _, ⟨rfl, by simp [withoutL], fun h => by simp [withoutL] at h⟩, HB3.out⟩
  · obtain ⟨g, cap, rfl, hcap, hbg, hrow, hC⟩ := own_rowL hR2 h0
    have HEG : Aside0 (e1 < v1.heap.size ∧ v1.heap.size ≤ g ∧ w.heap.size ≤ v1.heap.size) := ⟨⟨blk_lt HK1.out, hbg, HBV.out.size⟩⟩
    have HROW := Aside0.mk hrow
    have HCAP := Aside0.mk hcap
    have HP : Aside0 (∀ (W : World) (x : S47), x ∈ l → Frm (fun k => k = g) w2 W → Calls Tryz.prog 50 (#[.agg #[.string x.f0, .string x.f1]] ++ #[.pointer (some ⟨e1, 0, none⟩)]) W fun e w' => e = .returned (.bool (names.any (seq x.f0))) ∧ Below W.heap.size W w') := ⟨fun W x hx hF => by
      have hke : W.heap[e1]? = some (.cells #[.slice An names.length cn] 41 (0, 0)) := hF.blk HK2.out (by have := HEG.out; omega)
      have hbw : Below w.heap.size w W := HB2.out.trans (hF.below (B := w.heap.size) (fun k hk => by have := HEG.out; omega) HB2.out.size)
      exact without1_calls x.f0 x.f1 An cn names e1 W (by rw [blk_cell hke]; rfl) (Kd.C_below HRN.out hbw) HCN.out HN.out⟩
    clear hR2 hb2 h0 hcap hbg hrow hC
    go_wp2_with fail
    refine (del_calls 50 #[.pointer (some ⟨e1, 0, none⟩)] (enters Tryz.func50 (by kernel_rfl) rfl) (fun x => names.any (seq x.f0)) g cap l w2 HROW.out (by have := HL.out; omega) HCAP.out HP.out).mono ?_
    rw [HFL.out]
    rintro e w3 ⟨rfl, hrow3, hF3⟩
    have hlen : (withoutL l names).length ≤ l.length := List.length_filter_le _ _
    have HC3 := Aside0.mk (hrow3.toC (by have := HL.out; omega))
    have HB3 : Aside0 (Below w.heap.size w w3) := ⟨HB2.out.trans (hF3.below (B := w.heap.size) (fun k hk => by have := HEG.out; omega) HB2.out.size)⟩
    have HLN : Aside0 ((withoutL l names).length ≤ cap) := ⟨Nat.le_trans hlen HCAP.out⟩
    clear hrow3 hF3 hlen
    go_wp2_with fail
    go_ret
    exact ⟨_, cap, rfl, HLN.out, HC3.out, HB3.out⟩
def SetL (a : List S47) : Prop := a.Pairwise ltN ∧ a.length ≤ 16 ∧ a.any badL = false
theorem wp_append_oneS {ops : Array Oper} {rest : List Oper} {o : Oper} {a : Act} {Q : Exit → Act → World → Prop} (w0 W : World) (hw : Region.wanted o (yielded ops a.tmps) = true) (s x : Tmp) (ho : o.op = .call { callee := .builtin .append, args := #[.tmp s, .tmp x], argTypes := #[41, 41] })
    (v : Value) (xs : List ByteArray) (y : ByteArray) (A : Option Addr) (c : Nat) (hs : a.eval (.tmp s) = v) (hx : a.eval (.tmp x) = .slice A 1 c) (HO : Kd.R Kd.string 9 W w0.heap.size (fun _ => True) v xs) (HR : Kd.C Kd.string W A 1 [y]) (HB : Below w0.heap.size w0 W) (hl : xs.length ≤ 1000000)
    (h : ∀ A9 c9 w1, Kd.R Kd.string 9 w1 w0.heap.size (fun _ => True) (.slice A9 (xs ++ [y]).length c9) (xs ++ [y]) → Below w0.heap.size w0 w1 → wpList Tryz.prog ops Q rest (a.put o.dst (.slice A9 (xs ++ [y]).length c9)) w1) : wpList Tryz.prog ops Q (o :: rest) a W := by
  refine gate_guard hw ?_
  obtain ⟨v1, w1, hr, hR, hG, -⟩ := append_runS W w0.heap.size o.type v xs [y] A c HO HR HB.size (by simp; omega)
  have hbw : Below w0.heap.size w0 w1 := below_grown HB hG (fun k hk => own_base HO.2.choose_spec.1 k hk)
  obtain ⟨A9, c9, rfl, hc9, hC9⟩ := Kd.R_reads hR
  refine Kd.event_run rfl ?_ (h A9 c9 w1 hR hbw)
  rw [show [y].length = 1 from rfl] at hr
  simp [execOp, resolve, invoke, builtin, ho, hs, hx, hr]
theorem wp_append_manyL {ops : Array Oper} {rest : List Oper} {o : Oper} {a : Act} {Q : Exit → Act → World → Prop} (w0 W : World) (hw : Region.wanted o (yielded ops a.tmps) = true) (s x : Tmp) (ho : o.op = .call { callee := .builtin .append, args := #[.tmp s, .tmp x], argTypes := #[22, 22] })
    (v : Value) (xs ys : List S47) (A : Option Addr) (c : Nat) (hs : a.eval (.tmp s) = v) (hx : a.eval (.tmp x) = .slice A ys.length c) (HO : Kd.R k47 47 W w0.heap.size (fun _ => True) v xs) (HR : Kd.C k47 W A ys.length ys) (HB : Below w0.heap.size w0 W) (hl : xs.length + ys.length ≤ 1000000) (T : List S47) (hT : T = xs ++ ys)
    (h : ∀ A9 c9 w1, Kd.R k47 47 w1 w0.heap.size (fun _ => True) (.slice A9 T.length c9) T → Below w0.heap.size w0 w1 → wpList Tryz.prog ops Q rest (a.put o.dst (.slice A9 T.length c9)) w1) : wpList Tryz.prog ops Q (o :: rest) a W := by
  subst hT
  refine gate_guard hw ?_
  obtain ⟨v1, w1, hr, hR, hG, -⟩ := append_runL W w0.heap.size o.type v xs ys A c HO HR HB.size (by omega)
  have hbw : Below w0.heap.size w0 w1 := below_grown HB hG (fun k hk => own_base HO.2.choose_spec.1 k hk)
  obtain ⟨A9, c9, rfl, hc9, hC9⟩ := Kd.R_reads hR
  refine Kd.event_run rfl ?_ (h A9 c9 w1 hR hbw)
  simp [execOp, resolve, invoke, builtin, ho, hs, hx, hr]
def namesL (more : List S47) : List ByteArray := more.map (·.f0)
set_option maxHeartbeats 2000000 in
set_option maxRecDepth 100000 in
theorem with_calls (A : Option Addr) (c : Nat) (l : List S47) (A2 : Option Addr) (c2 : Nat) (more : List S47) (w : World) (hr : Kd.C k47 w A l.length l) (hr2 : Kd.C k47 w A2 more.length more) (hl : l.length + more.length ≤ 60)
    (hsz : ∀ x ∈ l, x.f0.size ≤ 140737488351232 ∧ x.f1.size ≤ 140737488351232) (hszm : ∀ x ∈ more, x.f0.size ≤ 140737488351232 ∧ x.f1.size ≤ 140737488351232) :
    Calls Tryz.prog 28 #[.slice A l.length c, .slice A2 more.length c2] w fun e w' => MadeR w (more ++ withoutL l (namesL more)) e w' := by
  have HR := Aside0.mk hr; have HR2 := Aside0.mk hr2; have HL := Aside0.mk hl; have HSZ := Aside0.mk hsz; have HSZM := Aside0.mk hszm
  have hlm : more.length ≤ 9223372036854775807 := hr2.2.1
  clear hr hr2 hl hsz hszm
  go_enter Tryz.func28, Tryz.ntmps28
  go_wp2_with fail
  go_loopw [6, 11] (fun x y wr => ∃ (A7 : Option Addr) (c7 : Nat) (o : List ByteArray) (k n : Nat), k + n = more.length ∧ x = .slice A7 o.length c7 ∧ y = .int .i64 k ∧ Aside0 (o = namesL (more.take k)) ∧ Aside0 (Kd.R Kd.string 9 wr w.heap.size (fun _ => True) (.slice A7 o.length c7) o) ∧ Aside0 (Below w.heap.size w wr)) (fun _ y _ => more.length - (intOf y).toNat)
  case atStart => exact ⟨none, 0, [], 0, more.length, by omega, rfl, rfl, ⟨by simp [namesL]⟩, ⟨Kd.R_nil _ _ _ _ _⟩, ⟨Below.refl _ _⟩⟩
  case round =>
    obtain ⟨A7, c7, o, k, n, hkn, rfl, rfl, HO, HRO, HB⟩ := hrel
    cases n with
    | zero =>
      obtain rfl : k = more.length := by omega
      have hkk : ¬ ((more.length : Int) < (more.length : Int)) := by omega
      have HON : Aside0 (o = namesL more) := ⟨by rw [HO.out, List.take_length]⟩
      have HOR := Aside0.mk (Kd.R_reads' HRO.out)
      clear hkn
      go_wp2_with fail
      refine (cloneG_calls A2 c2 more wr (Kd.C_below HR2.out HB.out) (by have := HL.out; omega)).mono ?_
      rintro e w3 ⟨v, rfl, hR3, hb3⟩
      have HB3 := Aside0.mk (below_step HB.out hb3)
      have HRV := Aside0.mk (Kd.R_lower hR3 HB.out.size)
      have HON3 := Aside0.mk (Kd.C_below HOR.out.2.2 hb3)
      clear hR3 hb3
      go_wp2_with fail
      refine (without_calls A c l A7 c7 o w3 (Kd.C_below HR.out HB3.out) (by have := HL.out; omega) HON3.out HOR.out.2.1 (by have h1 := HON.out; have h2 := HL.out; rw [h1, namesL, List.length_map]; omega)).mono ?_
      rintro e w4 ⟨A4, c4, rfl, hc4, hC4, hb4⟩
      have HB4 := Aside0.mk (below_step HB3.out hb4)
      have HRV4 := Aside0.mk (Kd.R_below HRV.out hb4)
      have HC4 := Aside0.mk hC4
      clear hb4 hC4 hc4
      obtain ⟨Lr, hLr⟩ : ∃ x, x = withoutL l o := ⟨_, rfl⟩
      have HLR := Aside0.mk hLr
      have HLL : Aside0 (Lr.length ≤ l.length) := ⟨by rw [hLr]; exact List.length_filter_le _ _⟩
      rw [← hLr] at HC4 ⊢
      have HME : Aside0 (∀ x ∈ more ++ Lr, x.f0.size ≤ 140737488351232 ∧ x.f1.size ≤ 140737488351232) := ⟨fun x hx => by
        rcases List.mem_append.1 hx with h | h
        · exact HSZM.out x h
        · rw [hLr] at h; exact HSZ.out x (List.mem_filter.1 h).1⟩
      obtain ⟨T, hT⟩ : ∃ x, x = more ++ Lr := ⟨_, rfl⟩
      have HTE := Aside0.mk hT
      have HT6 : Aside0 (T.length ≤ 60) := ⟨by have := HL.out; have := HLL.out; rw [hT, List.length_append]; omega⟩
      rw [← hT] at HME
      clear hLr hT
      go_wp2_with ((with_reducible refine gate_builtin (b := .append) (xs := #[.tmp 22, .tmp 25]) rfl ?_); at_builtin; refine wp_append_manyL w _ (by rfl) 22 25 rfl v more Lr A4 c4 (by rfl) (by rfl) ?h0 ?hR ?hB ?hl T HTE.out ?_; (case h0 => exact HRV4.out); (case hR => exact HC4.out); (case hB => exact HB4.out); (case hl => (have := HL.out; have := HLL.out; omega)); intro A9 c9 w9 hR9 hb9; have HB9 := Aside0.mk hb9; have HR9 := Aside0.mk hR9; clear hR9 hb9)
      refine (makeG_calls A9 c9 T w9 (Kd.R_reads' HR9.out).2.2 HT6.out (fun x hx => by have := HME.out x hx; omega)).mono ?_
      intro e w10 hM
      have hM2 := made_toR hM
      obtain ⟨A5, n5, c5, r5, rfl⟩ := made_form hM
      have HM : Aside0 (MadeR w (more ++ withoutL l (namesL more)) (.returned (.tuple #[.slice A5 n5 c5, .int .i64 r5])) w10) := ⟨⟨below_step HB9.out hM.1, by have h := hM2.2; rw [HTE.out, HLR.out, HON.out] at h; exact h⟩⟩
      clear hM hM2
      go_wp2_with fail
      go_ret2
      exact HM.out
    | succ n =>
      have hkl : k < more.length := by omega
      obtain ⟨ad, rfl, hx0, hx1⟩ := lab_get (Kd.C_below HR2.out HB.out) hkl
      obtain ⟨x, hx⟩ : ∃ x, x = more[k] := ⟨_, rfl⟩
      have HT : Aside0 (namesL (more.take (k + 1)) = o ++ [x.f0]) := ⟨by rw [HO.out, List.take_succ_eq_append_getElem hkl, ← hx]; simp [namesL]⟩
      have HOL : Aside0 (o.length ≤ 1000000) := ⟨by rw [HO.out, namesL, List.length_map]; have h1 := List.length_take_le k more; have h2 := HL.out; omega⟩
      rw [← hx] at hx0 hx1
      have hki : (k : Int) < (more.length : Int) := by omega
      have hki0 : (0 : Int) ≤ (k : Int) := by omega
      have HKN := Aside0.mk hkn; have HKL := Aside0.mk hkl
      clear hx hkn
      go_upto_region 5 with (fail)
      obtain ⟨v1, hv1⟩ : ∃ W, W = wr.alloc (.cells #[.string x.f0, .string x.f1] 47) := ⟨_, rfl⟩
      obtain ⟨e1, he1⟩ : ∃ b, b = wr.heap.size := ⟨_, rfl⟩
      rw [← hv1, ← he1]
      have hbl : Below wr.heap.size wr v1 := by rw [hv1]; exact below_alloc (Below.refl _ _) _
      have hk1 : v1.heap[e1]? = some (.cells #[.string x.f0, .string x.f1] 47 (0, 0)) := by rw [hv1, he1]; exact blk_new wr _
      have hz0 : v1.cell? ⟨e1, 0, none⟩ = some (.string x.f0) := by rw [blk_cell hk1]; rfl
      have HBV := Aside0.mk (below_step HB.out hbl)
      have HRO1 := Aside0.mk (Kd.R_below HRO.out hbl)
      clear hv1 he1 hbl hk1 hx0 hx1
      go_wp2_with ((with_reducible refine gate_builtin (b := .append) (xs := #[.tmp 15, .tmp 18]) rfl ?_); at_builtin; refine wp_append_oneS w _ (by rfl) 15 18 rfl _ o x.f0 _ 1 (by rfl) (by rfl) ?h0 ?hR ?hB ?hl ?_; (case h0 => exact Kd.R_alloc HRO1.out _); (case hR => exact row1 (blk_new v1 _)); (case hB => exact below_alloc HBV.out _); (case hl => exact HOL.out); intro A9 c9 w9 hR9 hb9; have HB9 := Aside0.mk hb9; have HR9 := Aside0.mk hR9; clear hR9 hb9)
      go_roundw
      case rel => exact ⟨A9, c9, o ++ [x.f0], k + 1, n, by have := HKN.out; omega, by rw [List.length_append]; rfl, by go_num, ⟨HT.out.symm⟩, HR9, HB9⟩
      case measure => (have := HKL.out; simp [intOf]; try omega)
theorem rin_l0 (l : List ByteArray) (o : ByteArray) (hl : l.length ≤ 4611686018427387904) : ∀ (n i k : Nat), i + n = l.length → n + 1 ≤ k → klaxonref09_in.l0 k l o (i : Int) = some ((l.drop i).any (seq o))
  | 0, i, k, hi, hk => by
    obtain ⟨k, rfl⟩ : ∃ j, k = j + 1 := ⟨k - 1, by omega⟩
    unfold klaxonref09_in.l0
    rw [if_neg (by omega), List.drop_of_length_le (by omega)]; rfl
  | n + 1, i, k, hi, hk => by
    obtain ⟨k, rfl⟩ : ∃ j, k = j + 1 := ⟨k - 1, by omega⟩
    have ih := rin_l0 l o hl n (i + 1) k (by omega) (by omega)
    have hlt : i < l.length := by omega
    unfold klaxonref09_in.l0
    rw [if_pos (by omega), if_pos (by omega), show wrap64 ((i : Int) + 1) = ((i + 1 : Nat) : Int) by unfold wrap64; omega, ih, List.drop_eq_getElem_cons hlt, List.any_cons,
      show rdOf ByteArray.empty l (i : Int) = l[i] by simp [rdOf, List.getD_eq_getElem?_getD, List.getElem?_eq_getElem hlt]]
    by_cases e : l[i].toList = o.toList
    · rw [if_pos e]; unfold seq; rw [e]; simp
    · rw [if_neg e]
      have e' : seq o l[i] = false := by unfold seq; exact beq_eq_false_iff_ne.2 (fun h => e h.symm)
      rw [e', Bool.false_or]
theorem rin_f (l : List ByteArray) (o : ByteArray) (hl : l.length ≤ 4611686018427387904) (k : Nat) (hk : l.length + 1 ≤ k) : klaxonref09_in.f k l o = some (l.any (seq o)) := by
  have := rin_l0 l o hl l.length 0 k (by omega) hk
  rw [List.drop_zero] at this
  exact this
theorem rpart_l0 (l : List S47) (names : List ByteArray) (is : Bool) (hl : l.length ≤ 1000000) (hn : names.length ≤ 4611686018427387904) : ∀ (n i k : Nat) (acc : List S47), i + n = l.length → acc.length ≤ i → n + names.length + 2 ≤ k → klaxonref09_part.l0 k l names is acc (i : Int) = some (acc ++ (l.drop i).filter (fun x => names.any (seq x.f0) == is))
  | 0, i, k, acc, hi, ha, hk => by
    obtain ⟨k, rfl⟩ : ∃ j, k = j + 1 := ⟨k - 1, by omega⟩
    unfold klaxonref09_part.l0
    rw [if_neg (by omega), List.drop_of_length_le (by omega)]; simp
  | n + 1, i, k, acc, hi, ha, hk => by
    obtain ⟨k, rfl⟩ : ∃ j, k = j + 1 := ⟨k - 1, by omega⟩
    have hlt : i < l.length := by omega
    unfold klaxonref09_part.l0
    rw [if_pos (by omega), if_pos (by omega), rdT l i hlt, rin_f names l[i].f0 hn k (by omega), Option.bind_some, show wrap64 ((i : Int) + 1) = ((i + 1 : Nat) : Int) by unfold wrap64; omega, List.drop_eq_getElem_cons hlt, List.filter_cons]
    by_cases e : (names.any (seq l[i].f0) == is) = true
    · rw [if_pos e, if_pos e, if_pos (by omega), rpart_l0 l names is hl hn n (i + 1) k _ (by omega) (by rw [List.length_append]; simp; omega) (by omega)]
      simp
    · rw [if_neg e, if_neg e]
      exact rpart_l0 l names is hl hn n (i + 1) k acc (by omega) (by omega) (by omega)
theorem rpart_f (l : List S47) (names : List ByteArray) (is : Bool) (hl : l.length ≤ 1000000) (hn : names.length ≤ 4611686018427387904) : klaxonref09_part.f (l.length + names.length + 2) l names is = some (l.filter (fun x => names.any (seq x.f0) == is)) := by
  have := rpart_l0 l names is hl hn l.length 0 (l.length + names.length + 2) [] (by omega) (Nat.le_refl _) (Nat.le_refl _)
  rw [List.drop_zero, List.nil_append] at this
  exact this
theorem ronly_f (l : List S47) (names : List ByteArray) (hl : l.length ≤ 1000000) (hn : names.length ≤ 4611686018427387904) : klaxonref09_Only.f (l.length + names.length + 2) l names = some (onlyL l names) := by
  unfold klaxonref09_Only.f
  rw [rpart_f l names true hl hn, Option.bind_some]
  unfold onlyL
  congr 2
  funext x
  cases names.any (seq x.f0) <;> rfl
theorem rwithout_f (l : List S47) (names : List ByteArray) (hl : l.length ≤ 1000000) (hn : names.length ≤ 4611686018427387904) : klaxonref09_Without.f (l.length + names.length + 2) l names = some (withoutL l names) := by
  unfold klaxonref09_Without.f
  rw [rpart_f l names false hl hn, Option.bind_some]
  unfold withoutL
  congr 2
  funext x
  cases names.any (seq x.f0) <;> rfl
theorem ronly_calls (A : Option Addr) (c : Nat) (l : List S47) (An : Option Addr) (cn : Nat) (names : List ByteArray) (w : World) (hr : Kd.C k47 w A l.length l) (hc : l.length ≤ c) (hl : l.length ≤ 1000000) (hrn : Kd.C Kd.string w An names.length names) (hcn : names.length ≤ cn) (hn : names.length ≤ 4611686018427387904) :
    Calls Tryz.prog 33 #[.slice A l.length c, .slice An names.length cn] w fun e w' => ∃ A' c', e = .returned (.slice A' (onlyL l names).length c') ∧ (onlyL l names).length ≤ c' ∧ Kd.C k47 w' A' (onlyL l names).length (onlyL l names) ∧ Below w.heap.size w w' :=
  (klaxonref09_Only.calls _ A c l An cn names _ w hr hc hrn hcn (ronly_f l names hl hn)).mono fun e w' ⟨v, he, hR, hb⟩ => by
    obtain ⟨A', c', rfl, hc', hC'⟩ := Kd.R_reads hR
    exact ⟨A', c', he, hc', hC', hb⟩
theorem rwithout_calls (A : Option Addr) (c : Nat) (l : List S47) (An : Option Addr) (cn : Nat) (names : List ByteArray) (w : World) (hr : Kd.C k47 w A l.length l) (hc : l.length ≤ c) (hl : l.length ≤ 1000000) (hrn : Kd.C Kd.string w An names.length names) (hcn : names.length ≤ cn) (hn : names.length ≤ 4611686018427387904) :
    Calls Tryz.prog 32 #[.slice A l.length c, .slice An names.length cn] w fun e w' => ∃ A' c', e = .returned (.slice A' (withoutL l names).length c') ∧ (withoutL l names).length ≤ c' ∧ Kd.C k47 w' A' (withoutL l names).length (withoutL l names) ∧ Below w.heap.size w w' :=
  (klaxonref09_Without.calls _ A c l An cn names _ w hr hc hrn hcn (rwithout_f l names hl hn)).mono fun e w' ⟨v, he, hR, hb⟩ => by
    obtain ⟨A', c', rfl, hc', hC'⟩ := Kd.R_reads hR
    exact ⟨A', c', he, hc', hC', hb⟩
theorem wp_append_emptyL {ops : Array Oper} {rest : List Oper} {o : Oper} {a : Act} {Q : Exit → Act → World → Prop} (w0 W : World) (hw : Region.wanted o (yielded ops a.tmps) = true) (s x : Tmp) (ho : o.op = .call { callee := .builtin .append, args := #[.tmp s, .tmp x], argTypes := #[22, 22] })
    (g : Nat) (ys : List S47) (A : Option Addr) (c : Nat) (hs : a.eval (.tmp s) = .slice (some ⟨g, 0, none⟩) 0 0) (hx : a.eval (.tmp x) = .slice A ys.length c) (h0 : W.heap[g]? = some (.cells #[] 47 (0, 0))) (hg : w0.heap.size ≤ g) (HR : Kd.C k47 W A ys.length ys) (HB : Below w0.heap.size w0 W) (hl : ys.length ≤ 1000000)
    (h : ∀ A9 c9 w1, Kd.R k47 47 w1 w0.heap.size (fun _ => True) (.slice A9 ys.length c9) ys → Below W.heap.size W w1 → wpList Tryz.prog ops Q rest (a.put o.dst (.slice A9 ys.length c9)) w1) : wpList Tryz.prog ops Q (o :: rest) a W := by
  refine gate_guard hw ?_
  obtain ⟨v1, w1, hr, hR, hB⟩ := append_emptyL W w0.heap.size o.type g ys A c h0 hg HB.size HR hl
  obtain ⟨A9, c9, rfl, hc9, hC9⟩ := Kd.R_reads hR
  refine Kd.event_run rfl ?_ (h A9 c9 w1 hR hB)
  simp [execOp, resolve, invoke, builtin, ho, hs, hx, hr]
set_option maxHeartbeats 2000000 in
set_option maxRecDepth 100000 in
theorem rwith_calls (A : Option Addr) (c : Nat) (l : List S47) (A2 : Option Addr) (c2 : Nat) (more : List S47) (w : World) (hr : Kd.C k47 w A l.length l) (hc : l.length ≤ c) (hr2 : Kd.C k47 w A2 more.length more) (hl : l.length + more.length ≤ 60)
    (hsz : ∀ x ∈ l, x.f0.size ≤ 140737488351232 ∧ x.f1.size ≤ 140737488351232) (hszm : ∀ x ∈ more, x.f0.size ≤ 140737488351232 ∧ x.f1.size ≤ 140737488351232) :
    Calls Tryz.prog 29 #[.slice A l.length c, .slice A2 more.length c2] w fun e w' => MadeR w (more ++ withoutL l (namesL more)) e w' := by
  have HR := Aside0.mk hr; have HC := Aside0.mk hc; have HR2 := Aside0.mk hr2; have HL := Aside0.mk hl; have HSZ := Aside0.mk hsz; have HSZM := Aside0.mk hszm
  have hlm : more.length ≤ 9223372036854775807 := hr2.2.1
  clear hr hc hr2 hl hsz hszm
  go_enter Tryz.func29, Tryz.ntmps29
  go_wp2_with fail
  go_loopw [6, 7] (fun x y wr => ∃ (A7 : Option Addr) (c7 : Nat) (o : List ByteArray) (k n : Nat), k + n = more.length ∧ x = .slice A7 o.length c7 ∧ y = .int .i64 k ∧ Aside0 (o = namesL (more.take k)) ∧ Aside0 (Kd.R Kd.string 9 wr w.heap.size (fun _ => True) (.slice A7 o.length c7) o) ∧ Aside0 (Below w.heap.size w wr)) (fun _ y _ => more.length - (intOf y).toNat)
  case atStart => exact ⟨none, 0, [], 0, more.length, by omega, rfl, rfl, ⟨by simp [namesL]⟩, ⟨Kd.R_nil _ _ _ _ _⟩, ⟨Below.refl _ _⟩⟩
  case round =>
    obtain ⟨A7, c7, o, k, n, hkn, rfl, rfl, HO, HRO, HB⟩ := hrel
    cases n with
    | zero =>
      obtain rfl : k = more.length := by omega
      have hkk : ¬ ((more.length : Int) < (more.length : Int)) := by omega
      have HON : Aside0 (o = namesL more) := ⟨by rw [HO.out, List.take_length]⟩
      have HOR := Aside0.mk (Kd.R_reads' HRO.out)
      clear hkn
      go_wp2_with ((with_reducible refine gate_builtin (b := .append) (xs := #[.tmp 22, .tmp 23]) rfl ?_); at_builtin; refine wp_append_emptyL w _ (by rfl) 22 23 rfl _ more A2 c2 (by rfl) (by rfl) ?h0 ?hg ?hR ?hB ?hl ?_; (case h0 => exact blk_new _ _); (case hg => exact HB.out.size); (case hR => exact Kd.C_alloc (Kd.C_below HR2.out HB.out) _); (case hB => exact below_alloc HB.out _); (case hl => (have := HL.out; omega)); intro A8 c8 w3 hR3 hb3; have HB3 := Aside0.mk (below_step (below_alloc HB.out _) hb3); have HRV := Aside0.mk hR3; have HON3 := Aside0.mk (Kd.C_below (Kd.C_alloc HOR.out.2.2 _) hb3); clear hR3 hb3)
      refine (rwithout_calls A c l A7 c7 o w3 (Kd.C_below HR.out HB3.out) HC.out (by have := HL.out; omega) HON3.out HOR.out.2.1 (by have h1 := HON.out; have h2 := HL.out; rw [h1, namesL, List.length_map]; omega)).mono ?_
      rintro e w4 ⟨A4, c4, rfl, hc4, hC4, hb4⟩
      have HB4 := Aside0.mk (below_step HB3.out hb4)
      have HRV4 := Aside0.mk (Kd.R_below HRV.out hb4)
      have HC4 := Aside0.mk hC4
      clear hb4 hC4 hc4
      obtain ⟨Lr, hLr⟩ : ∃ x, x = withoutL l o := ⟨_, rfl⟩
      have HLR := Aside0.mk hLr
      have HLL : Aside0 (Lr.length ≤ l.length) := ⟨by rw [hLr]; exact List.length_filter_le _ _⟩
      rw [← hLr] at HC4 ⊢
      have HME : Aside0 (∀ x ∈ more ++ Lr, x.f0.size ≤ 140737488351232 ∧ x.f1.size ≤ 140737488351232) := ⟨fun x hx => by
        rcases List.mem_append.1 hx with h | h
        · exact HSZM.out x h
        · rw [hLr] at h; exact HSZ.out x (List.mem_filter.1 h).1⟩
      obtain ⟨T, hT⟩ : ∃ x, x = more ++ Lr := ⟨_, rfl⟩
      have HTE := Aside0.mk hT
      have HT6 : Aside0 (T.length ≤ 60) := ⟨by have := HL.out; have := HLL.out; rw [hT, List.length_append]; omega⟩
      rw [← hT] at HME
      clear hLr hT
      go_wp2_with ((with_reducible refine gate_builtin (b := .append) (xs := #[.tmp 24, .tmp 27]) rfl ?_); at_builtin; refine wp_append_manyL w _ (by rfl) 24 27 rfl _ more Lr A4 c4 (by rfl) (by rfl) ?h0 ?hR ?hB ?hl T HTE.out ?_; (case h0 => exact HRV4.out); (case hR => exact HC4.out); (case hB => exact HB4.out); (case hl => (have := HL.out; have := HLL.out; omega)); intro A9 c9 w9 hR9 hb9; have HB9 := Aside0.mk hb9; have HR9 := Aside0.mk hR9; clear hR9 hb9)
      refine (rmake_calls A9 c9 T w9 (Kd.R_reads' HR9.out).2.2 HT6.out HME.out).mono ?_
      intro e w10 hM
      obtain ⟨A5, n5, c5, r5, rfl⟩ := madeR_form hM
      have HM : Aside0 (MadeR w (more ++ withoutL l (namesL more)) (.returned (.tuple #[.slice A5 n5 c5, .int .i64 r5])) w10) := ⟨⟨below_step HB9.out hM.1, by have h := hM.2; rw [HTE.out, HLR.out, HON.out] at h; exact h⟩⟩
      clear hM
      go_wp2_with fail
      go_ret2
      exact HM.out
    | succ n =>
      have hkl : k < more.length := by omega
      obtain ⟨ad, rfl, hx0, hx1⟩ := lab_get (Kd.C_below HR2.out HB.out) hkl
      obtain ⟨x, hx⟩ : ∃ x, x = more[k] := ⟨_, rfl⟩
      have HT : Aside0 (namesL (more.take (k + 1)) = o ++ [x.f0]) := ⟨by rw [HO.out, List.take_succ_eq_append_getElem hkl, ← hx]; simp [namesL]⟩
      have HOL : Aside0 (o.length ≤ 1000000) := ⟨by rw [HO.out, namesL, List.length_map]; have h1 := List.length_take_le k more; have h2 := HL.out; omega⟩
      rw [← hx] at hx0 hx1
      have hki : (k : Int) < (more.length : Int) := by omega
      have hki0 : (0 : Int) ≤ (k : Int) := by omega
      have HKN := Aside0.mk hkn; have HKL := Aside0.mk hkl
      clear hx hkn
      go_wp2_with ((with_reducible refine gate_builtin (b := .append) (xs := #[.tmp 14, .tmp 20]) rfl ?_); at_builtin; refine wp_append_oneS w _ (by rfl) 14 20 rfl _ o x.f0 _ 1 (by rfl) (by rfl) ?h0 ?hR ?hB ?hl ?_; (case h0 => exact Kd.R_alloc HRO.out _); (case hR => exact row1 (blk_new _ _)); (case hB => exact below_alloc HB.out _); (case hl => exact HOL.out); intro A9 c9 w9 hR9 hb9; have HB9 := Aside0.mk hb9; have HR9 := Aside0.mk hR9; clear hR9 hb9)
      go_roundw
      case rel => exact ⟨A9, c9, o ++ [x.f0], k + 1, n, by have := HKN.out; omega, by rw [List.length_append]; rfl, by go_num, ⟨HT.out.symm⟩, HR9, HB9⟩
      case measure => (have := HKL.out; simp [intOf]; try omega)
def JoinedR (w : World) (a b : List S47) (e : Ending) (w' : World) : Prop :=
  Below w.heap.size w w' ∧ match joinL a a b with
    | none => e = .returned (.tuple #[.slice none 0 0, .bool false])
    | some all => ∃ (W1 W2 : World) (v : Value) (n : Int), MadeR W1 all (.returned (.tuple #[v, .int .i64 n])) W2 ∧ Below W2.heap.size W2 w' ∧ e = .returned (.tuple #[v, .bool (decide (n = 0))])
theorem joined_toR {w w' : World} {a b : List S47} {e : Ending} (h : JoinedG w a b e w') : JoinedR w a b e w' := by
  obtain ⟨hb, h⟩ := h
  refine ⟨hb, ?_⟩
  cases hj : joinL a a b with
  | none => rw [hj] at h; exact h
  | some all =>
    rw [hj] at h
    obtain ⟨W1, W2, v, n, h1, h2, h3⟩ := h
    exact ⟨W1, W2, v, n, made_toR h1, h2, h3⟩
theorem joinedR_form {w w' : World} {a b : List S47} {e : Ending} (h : JoinedR w a b e w') : ∃ A n c ok, e = .returned (.tuple #[.slice A n c, .bool ok]) := by
  obtain ⟨-, h⟩ := h
  cases hj : joinL a a b with
  | none => rw [hj] at h; exact ⟨_, _, _, _, h⟩
  | some all =>
    rw [hj] at h
    obtain ⟨W1, W2, v, n, h1, h2, rfl⟩ := h
    obtain ⟨A, n', c, r, he⟩ := madeR_form h1
    simp only [Ending.returned.injEq, Value.tuple.injEq, Array.mk.injEq, List.cons.injEq, Value.int.injEq, and_true, true_and] at he
    obtain ⟨rfl, rfl⟩ := he
    exact ⟨_, _, _, _, rfl⟩
theorem joined_pair {w w2 w' w2' : World} {a b : List S47} {e e2 : Ending} (h : JoinedR w a b e w') (h2 : JoinedR w2 a b e2 w2') : ∃ (S : List S47) (A B : Option Addr) (c d : Nat) (ok : Bool), e = .returned (.tuple #[.slice A S.length c, .bool ok]) ∧ e2 = .returned (.tuple #[.slice B S.length d, .bool ok]) ∧ S.length ≤ c ∧ S.length ≤ d ∧ Kd.C k47 w' A S.length S ∧ Kd.C k47 w2' B S.length S := by
  have hnil : ∀ W : World, Kd.C k47 W none ([] : List S47).length [] := fun W => ⟨rfl, by decide, fun h => by simp at h⟩
  obtain ⟨-, h⟩ := h
  obtain ⟨-, h2⟩ := h2
  cases hj : joinL a a b with
  | none =>
    rw [hj] at h h2
    exact ⟨[], none, none, 0, 0, false, h, h2, Nat.le_refl _, Nat.le_refl _, hnil _, hnil _⟩
  | some all =>
    rw [hj] at h h2
    obtain ⟨W1, W2, v, n, hm, hbl, rfl⟩ := h
    obtain ⟨W3, W4, v2, n2, hm2, hbl2, rfl⟩ := h2
    obtain ⟨S, A, B, c, d, r, he, he2, h3, h4, hC, hD, -⟩ := made_rr hm hm2
    simp only [Ending.returned.injEq, Value.tuple.injEq, Array.mk.injEq, List.cons.injEq, Value.int.injEq, and_true, true_and] at he he2
    obtain ⟨rfl, rfl⟩ := he
    obtain ⟨rfl, rfl⟩ := he2
    exact ⟨S, A, B, c, d, _, rfl, rfl, h3, h4, Kd.C_below hC hbl, Kd.C_below hD hbl2⟩
set_option maxHeartbeats 2000000 in
set_option maxRecDepth 100000 in
theorem rjoin_calls (A : Option Addr) (c : Nat) (a : List S47) (A2 : Option Addr) (c2 : Nat) (b : List S47) (hl : a.length + b.length ≤ 60) (hc : a.length ≤ c) (hsz : ∀ x ∈ a ++ b, x.f0.size ≤ 140737488351232 ∧ x.f1.size ≤ 140737488351232) (w : World) (hr : Kd.C k47 w A a.length a) (hr2 : Kd.C k47 w A2 b.length b) :
    Calls Tryz.prog 30 #[.slice A a.length c, .slice A2 b.length c2] w (JoinedR w a b) := by
  have HR := Aside0.mk hr; have HR2 := Aside0.mk hr2; have HL := Aside0.mk hl; have HSZ := Aside0.mk hsz; have HC := Aside0.mk hc
  clear hr hr2 hl hsz hc
  go_enter Tryz.func30, Tryz.ntmps30
  go_wp2_with ((with_reducible refine gate_builtin (b := .append) (xs := #[.tmp 11, .tmp 12]) rfl ?_); at_builtin; refine wp_append_emptyL w _ (by rfl) 11 12 rfl _ a A c (by rfl) (by rfl) ?h0 ?hg ?hR ?hB ?hl ?_; (case h0 => exact blk_new _ _); (case hg => exact Nat.le_refl _); (case hR => exact Kd.C_alloc HR.out _); (case hB => exact below_alloc (Below.refl _ _) _); (case hl => (have := HL.out; omega)); intro A8 c8 w1 hR3 hb3; have HB1 := Aside0.mk (below_step (below_alloc (Below.refl w.heap.size w) _) hb3); have HV1 := Aside0.mk hR3; clear hR3 hb3)
  go_loopw [6, 7] (fun x6 x7 wr => ∃ (k : Nat) (v : Value) (all : List S47), k ≤ b.length ∧ x6 = v ∧ x7 = .int .i64 k ∧ Aside0 (Kd.R k47 47 wr w.heap.size (fun _ => True) v all ∧ joinL a all (b.drop k) = joinL a a b ∧ all.length ≤ a.length + k ∧ (∀ x ∈ all, x ∈ a ++ b)) ∧ Aside0 (Below w.heap.size w wr)) (fun _ x _ => b.length - (intOf x).toNat)
  case atStart => exact ⟨0, _, a, Nat.zero_le _, rfl, rfl, ⟨HV1.out, by simp, Nat.le_refl _, fun x hx => List.mem_append_left _ hx⟩, HB1⟩
  case round =>
    obtain ⟨k, v, all, hk, rfl, rfl, HV, HB⟩ := hrel
    by_cases hlt : k < b.length
    · obtain ⟨ad, rfl, hc0, hc1⟩ := lab_get (Kd.C_below HR2.out HB.out) hlt
      have HD : Aside0 (b.drop k = b[k] :: b.drop (k + 1)) := ⟨List.drop_eq_getElem_cons hlt⟩
      have HM : Aside0 (b[k] ∈ a ++ b) := ⟨List.mem_append_right _ (List.getElem_mem hlt)⟩
      obtain ⟨y, hy⟩ : ∃ y, y = b[k] := ⟨_, rfl⟩
      rw [← hy] at hc0 hc1 HD HM
      obtain ⟨x0, x1⟩ := y
      have hki : (k : Int) < (b.length : Int) := by omega
      have hki0 : (0 : Int) ≤ (k : Int) := by omega
      have HLT := Aside0.mk hlt
      obtain ⟨gv, hgv⟩ : ∃ g, g = getL a x0 := ⟨_, rfl⟩
      have HGV := Aside0.mk hgv
      have hlb : b.length ≤ 9223372036854775807 := HR2.out.2.1
      clear hlt hy
      have HGET : Aside0 (∀ W, Below w.heap.size w W → Calls Tryz.prog 31 #[.slice A a.length c, .string x0] W fun e w' => e = .returned (.string gv) ∧ Below W.heap.size W w') := ⟨fun W hb => by rw [hgv]; exact rget_calls A c a x0 W (Kd.C_below HR.out hb) HC.out⟩
      clear hgv
      go_wp2_with fail
      refine (HGET.out wr HB.out).mono ?_
      rintro e w2 ⟨rfl, hb2⟩
      have e0 := pw_cell_below hb2 hc0
      have e1 := pw_cell_below hb2 hc1
      have HB2 := Aside0.mk (below_step HB.out hb2); have HV2 := Aside0.mk (Kd.R_below HV.out.1 hb2)
      clear hb2 hc0 hc1
      have hkb : k ≤ 60 := by have := HL.out; omega
      by_cases hg : gv.toList = []
      · have HJ : Aside0 (joinL a (all ++ [⟨x0, x1⟩]) (b.drop (k + 1)) = joinL a a b) := ⟨by rw [← HV.out.2.1, HD.out, joinL, ← HGV.out, if_pos hg]⟩
        have hall : (all.length + 1) * 32 ≤ 140737488355328 := by have := HV.out.2.2.1; have := HL.out; omega
        have he1 : gv.toList.isEmpty = true := List.isEmpty_iff.2 hg
        have he2 : (gv.toList == []) = true := by simpa using hg
        go_wp2_with ((with_reducible refine gate_builtin (b := .append) (xs := #[.tmp 29, .tmp 34]) rfl ?_); at_builtin; go_loud (refine Kd.R_append k47 (w0 := w) w.heap.size rfl (.tmp 29) (.tmp 34) 22 47 (.agg #[(.string ⟨#[]⟩), (.string ⟨#[]⟩)]) 32 rfl Tryz.underlying22 info47 rfl (by decide) (by decide) u6 all (⟨x0, x1⟩ : S47) [.string x0, .string x1] (fun _ => True) (fun _ => False) rfl rfl (k47_mkM _ _ _ (⟨x0, x1⟩ : S47)) (fun _ hk => hk.elim) (fun _ _ => trivial) HV2.out HB2.out HB2.out.size hall ?_; intro v3 w3 ho hb hg_ hat; have HO3 := Aside0.mk ho; have HB3 := Aside0.mk hb; clear ho hb hg_ hat))
        go_roundw
        case rel => exact ⟨k + 1, v3, all ++ [⟨x0, x1⟩], by have := HLT.out; omega, rfl, by go_num, ⟨HO3.out, HJ.out, by have := HV.out.2.2.1; simp; omega, fun z hz => by
          rcases List.mem_append.1 hz with h | h
          · exact HV.out.2.2.2 z h
          · rw [List.mem_singleton.1 h]; exact HM.out⟩, HB3⟩
        case measure => (have := HLT.out; simp [intOf]; try omega)
      · have he1 : gv.toList.isEmpty = false := List.isEmpty_eq_false_iff.2 hg
        have he2 : (gv.toList == []) = false := by simpa using hg
        by_cases hq : gv.toList = x1.toList
        · have HJ : Aside0 (joinL a all (b.drop (k + 1)) = joinL a a b) := ⟨by rw [← HV.out.2.1, HD.out, joinL, ← HGV.out, if_neg hg, if_pos hq]⟩
          have he3 : x1.toList.isEmpty = false := by rw [← hq]; exact he1
          have he4 : (x1.toList == []) = false := by rw [← hq]; exact he2
          have hg4 : ¬ x1.toList = [] := by rw [← hq]; exact hg
          have he5 : (gv.toList == x1.toList) = true := beq_iff_eq.2 hq
          go_wp2_with fail
          go_roundw
          case rel => exact ⟨k + 1, u6, all, by have := HLT.out; omega, rfl, by go_num, ⟨HV2.out, HJ.out, by have := HV.out.2.2.1; omega, HV.out.2.2.2⟩, HB2⟩
          case measure => (have := HLT.out; simp [intOf]; try omega)
        · have HJ : Aside0 (joinL a a b = none) := ⟨by rw [← HV.out.2.1, HD.out, joinL, ← HGV.out, if_neg hg, if_neg hq]⟩
          have he5 : (gv.toList == x1.toList) = false := beq_eq_false_iff_ne.2 hq
          go_wp2_with fail
          go_ret2
          exact ⟨HB2.out, by rw [HJ.out]; rfl⟩
    · obtain rfl : k = b.length := by omega
      have hkk : ¬ ((b.length : Int) < (b.length : Int)) := by omega
      have HJ : Aside0 (joinL a a b = some all) := ⟨by rw [← HV.out.2.1, List.drop_length]; rfl⟩
      obtain ⟨A3, c3, hv3, hc3, hC3⟩ := Kd.R_reads HV.out.1
      subst hv3
      have HMK := Aside0.mk (rmake_calls A3 c3 all wr hC3 (by have := HV.out.2.2.1; have := HL.out; omega) (fun x hx => HSZ.out x (HV.out.2.2.2 x hx)))
      clear hc3 hC3
      go_wp2_with fail
      refine (HMK.out).mono ?_
      rintro e w2 hm
      have HMM := Aside0.mk hm
      obtain ⟨hB2, hm⟩ := hm
      have HB2 := Aside0.mk (below_step HB.out hB2)
      rcases hm with ⟨-, rfl⟩ | ⟨-, ⟨-, rfl⟩ | ⟨S, -, -, -, rfl⟩ | ⟨S, -, -, -, A4, c4, rfl, -, -⟩⟩
      all_goals clear hB2
      all_goals go_wp2_with fail
      all_goals go_ret2
      all_goals exact ⟨HB2.out, by rw [HJ.out]; exact ⟨_, w2, _, _, HMM.out, Below.refl _ _, rfl⟩⟩
theorem order_calls (a b : ByteArray) (w : World) : Calls Tryz.prog 60 #[.string a, .string b] w fun e w' => e = .returned (.int .i64 (Lib.compareBytes a.data.toList b.data.toList)) ∧ Below w.heap.size w w' := by
  have h1 : Op.bytesLess a.toList b.toList = decide (Lib.compareBytes a.data.toList b.data.toList < 0) := by rw [less_cb, tl_data, tl_data]
  have h2 : Op.bytesLess b.toList a.toList = decide (Lib.compareBytes b.data.toList a.data.toList < 0) := by rw [less_cb, tl_data, tl_data]
  have h3 := cb_neg a.data.toList b.data.toList
  have h4 := cb_bound a.data.toList b.data.toList
  have h5 : Lib.compareBytes a.data.toList b.data.toList = 0 ↔ a.toList = b.toList := by
    rw [tl_data, tl_data]
    exact ⟨fun h => cb_zero _ _ h, fun h => by rw [h]; exact cb_self _⟩
  generalize Lib.compareBytes a.data.toList b.data.toList = v at *
  generalize Lib.compareBytes b.data.toList a.data.toList = u at *
  obtain h | h | h : v = -1 ∨ v = 0 ∨ v = 1 := by omega
  · subst h
    have e1 : Op.bytesLess a.toList b.toList = true := by rw [h1]; rfl
    clear h1 h2 h3 h4 h5
    go_enter Tryz.func60, Tryz.ntmps60
    go_wp2_with fail
    go_ret
    exact ⟨rfl, Below.refl _ _⟩
  · subst h
    have e1 : Op.bytesLess a.toList b.toList = false := by rw [h1]; rfl
    have e2 : Op.bytesLess b.toList a.toList = false := by rw [h2]; exact decide_eq_false (by omega)
    have e3 : (a.toList == b.toList) = true := beq_iff_eq.2 (h5.1 rfl)
    clear h1 h2 h3 h4 h5
    go_enter Tryz.func60, Tryz.ntmps60
    go_wp2_with fail
    go_ret
    exact ⟨rfl, Below.refl _ _⟩
  · subst h
    have e1 : Op.bytesLess a.toList b.toList = false := by rw [h1]; rfl
    have e2 : Op.bytesLess b.toList a.toList = true := by rw [h2]; exact decide_eq_true (by omega)
    have e3 : (a.toList == b.toList) = false := beq_eq_false_iff_ne.2 (fun h => absurd (h5.2 h) (by decide))
    clear h1 h2 h3 h4 h5
    go_enter Tryz.func60, Tryz.ntmps60
    go_wp2_with fail
    go_ret
    exact ⟨rfl, Below.refl _ _⟩
set_option maxHeartbeats 2000000 in
set_option maxRecDepth 100000 in
theorem rcompare_calls (A : Option Addr) (c : Nat) (a : List S47) (B : Option Addr) (d : Nat) (b : List S47) (w : World) (hr : Kd.C k47 w A a.length a) (hr2 : Kd.C k47 w B b.length b) :
    Calls Tryz.prog 35 #[.slice A a.length c, .slice B b.length d] w fun e w' => e = .returned (.int .i64 (cmpL a b)) ∧ Below w.heap.size w w' := by
  have hlm : a.length ≤ 9223372036854775807 := hr.2.1
  have hlm2 : b.length ≤ 9223372036854775807 := hr2.2.1
  have HR := Aside0.mk hr; have HR2 := Aside0.mk hr2
  clear hr hr2
  go_enter Tryz.func35, Tryz.ntmps35
  go_wp2_with fail
  go_loopw [5] (fun x wr => ∃ k n : Nat, k + n = a.length ∧ k ≤ b.length ∧ x = .int .i64 k ∧ Aside0 (cmpL (a.drop k) (b.drop k) = cmpL a b) ∧ Aside0 (Below w.heap.size w wr)) (fun x _ => a.length - (intOf x).toNat)
  case atStart => exact ⟨0, a.length, by omega, Nat.zero_le _, rfl, ⟨rfl⟩, ⟨Below.refl _ _⟩⟩
  case round =>
    obtain ⟨k, n, hkn, hkb, rfl, HK, HB⟩ := hrel
    cases n with
    | zero =>
      obtain rfl : k = a.length := by omega
      have hkk : ¬ ((a.length : Int) < (a.length : Int)) := by omega
      by_cases hab : (a.length : Int) < (b.length : Int)
      · have hd : decide ((a.length : Int) < (b.length : Int)) = true := decide_eq_true hab
        have HE : Aside0 (cmpL a b = -1) := ⟨by rw [← HK.out, List.drop_length, List.drop_eq_getElem_cons (by omega)]; rfl⟩
        clear hkn
        go_wp2_with fail
        go_ret
        refine ⟨?_, HB.out⟩
        show Ending.returned (.int .i64 (-1)) = _
        rw [HE.out]
      · have hd : decide ((a.length : Int) < (b.length : Int)) = false := decide_eq_false hab
        have hab2 : ¬ ((b.length : Int) < (a.length : Int)) := by omega
        have hd2 : decide ((b.length : Int) < (a.length : Int)) = false := decide_eq_false hab2
        have HE : Aside0 (cmpL a b = 0) := ⟨by rw [← HK.out, List.drop_length, List.drop_of_length_le (by omega)]; rfl⟩
        clear hkn
        go_wp2_with fail
        go_ret
        refine ⟨?_, HB.out⟩
        show Ending.returned (.int .i64 0) = _
        rw [HE.out]
    | succ n =>
      have hlt : k < a.length := by omega
      obtain ⟨ad, rfl, hx0, hx1⟩ := lab_get (Kd.C_below HR.out HB.out) hlt
      obtain ⟨x, hx⟩ : ∃ x, x = a[k] := ⟨_, rfl⟩
      have HXD : Aside0 (a.drop k = x :: a.drop (k + 1)) := ⟨by rw [hx]; exact List.drop_eq_getElem_cons hlt⟩
      rw [← hx] at hx0 hx1
      have hki : (k : Int) < (a.length : Int) := by omega
      have hki0 : (0 : Int) ≤ (k : Int) := by omega
      have HKN := Aside0.mk hkn; have HLT := Aside0.mk hlt
      clear hkn hx
      by_cases hkl : k < b.length
      · obtain ⟨bd, rfl, hy0, hy1⟩ := lab_get (Kd.C_below HR2.out HB.out) hkl
        obtain ⟨y, hy⟩ : ∃ y, y = b[k] := ⟨_, rfl⟩
        have HYD : Aside0 (b.drop k = y :: b.drop (k + 1)) := ⟨by rw [hy]; exact List.drop_eq_getElem_cons hkl⟩
        rw [← hy] at hy0 hy1
        have hkb2 : (k : Int) < (b.length : Int) := by omega
        have HKL := Aside0.mk hkl
        obtain ⟨v, hv⟩ : ∃ v, v = cmpN x y := ⟨_, rfl⟩
        obtain ⟨u, hu⟩ : ∃ u, u = cmpV x y := ⟨_, rfl⟩
        have HE : Aside0 (cmpL a b = if (if v = 0 then u else v) = 0 then cmpL (a.drop (k + 1)) (b.drop (k + 1)) else (if v = 0 then u else v)) := ⟨by rw [← HK.out, HXD.out, HYD.out, cmpL, hv, hu]; rfl⟩
        obtain ⟨Jnv, hJnv⟩ : ∃ J : World → Prop, J = fun W' => Below wr.heap.size wr W' := ⟨_, rfl⟩
        have HJD : Aside0 (∀ W', Jnv W' → Below wr.heap.size wr W') := ⟨fun W' h => by rw [hJnv] at h; exact h⟩
        have HDJ : Aside0 (∀ W', Below wr.heap.size wr W' → Jnv W') := ⟨fun W' h => by rw [hJnv]; exact h⟩
        have HRF : Aside0 (∀ W : World, Below W.heap.size W W) := ⟨fun W => Below.refl _ _⟩
        have SF : Aside0 (∀ W', Jnv W' → W'.cell? (ad.add (k * 2)) = some (.string x.f0) ∧ W'.cell? ⟨(ad.add (k * 2)).block, (ad.add (k * 2)).off + 1, none⟩ = some (.string x.f1) ∧ W'.cell? (bd.add (k * 2)) = some (.string y.f0) ∧ W'.cell? ⟨(bd.add (k * 2)).block, (bd.add (k * 2)).off + 1, none⟩ = some (.string y.f1)) := ⟨fun W' hW => ⟨pw_cell_below (HJD.out W' hW) hx0, pw_cell_below (HJD.out W' hW) hx1, pw_cell_below (HJD.out W' hW) hy0, pw_cell_below (HJD.out W' hW) hy1⟩⟩
        have HCN : Aside0 (∀ W', Jnv W' → Calls Tryz.prog 60 #[.string x.f0, .string y.f0] W' fun e w' => e = .returned (.int .i64 v) ∧ Jnv w' ∧ Below W'.heap.size W' w') := ⟨fun W' hW => by
          refine (order_calls x.f0 y.f0 W').mono ?_
          rintro e w' ⟨he, hb⟩
          exact ⟨by rw [he, hv]; rfl, HDJ.out _ (below_step (HJD.out _ hW) hb), hb⟩⟩
        have HCV : Aside0 (∀ W', Jnv W' → Calls Tryz.prog 60 #[.string x.f1, .string y.f1] W' fun e w' => e = .returned (.int .i64 u) ∧ Jnv w' ∧ Below W'.heap.size W' w') := ⟨fun W' hW => by
          refine (order_calls x.f1 y.f1 W').mono ?_
          rintro e w' ⟨he, hb⟩
          exact ⟨by rw [he, hu]; rfl, HDJ.out _ (below_step (HJD.out _ hW) hb), hb⟩⟩
        clear hJnv hx0 hx1 hy0 hy1 hv hu hy
        go_upto_region 4 with (fail)
        refine' wp_region_flow (by kernel_rfl) (by kernel_rfl) Jnv (fun W W' => Below W.heap.size W W') HRF.out (HDJ.out _ (by first | exact Below.refl _ _ | exact below_drew1 (Below.refl _ _) | exact pw_below_drewN (Below.refl _ _) _)) _ ?_
        rotate_left
        refine' Flow.val _ 0 (some 19) (Op.move (Operand.tmp 0)) 22 (none) [] _ rfl (by kernel_rfl) (by kernel_rfl) (by kernel_rfl) (by rfl) ?_ ?_ HRF.out
        rotate_left 2
        · (intro W hW hK; go_simp; first | done | with_reducible rfl)
        try simp only [Act.put, sA, sB, sC]
        refine' Flow.val _ 1 (some 20) (Op.move (Operand.tmp 5)) 3 (none) [] _ rfl (by kernel_rfl) (by kernel_rfl) (by kernel_rfl) (by rfl) ?_ ?_ HRF.out
        rotate_left 2
        · (intro W hW hK; go_simp; first | done | with_reducible rfl)
        try simp only [Act.put, sA, sB, sC]
        refine' Flow.val _ 2 (some 21) (Op.indexAddr 22 (Operand.tmp 19) (Operand.tmp 20)) 0 (none) [] _ rfl (by kernel_rfl) (by kernel_rfl) (by kernel_rfl) (by rfl) ?_ ?_ HRF.out
        rotate_left 2
        · (intro W hW hK; have hF := SF.out W hW; go_simp; first | done | with_reducible rfl)
        try simp only [Act.put, sA, sB, sC]
        refine' Flow.val _ 3 (some 22) (Op.fieldAddr 47 (Operand.tmp 21) 0) 0 (none) [] _ rfl (by kernel_rfl) (by kernel_rfl) (by kernel_rfl) (by rfl) ?_ ?_ HRF.out
        rotate_left 2
        · (intro W hW hK; have hF := SF.out W hW; go_simp; first | done | with_reducible rfl)
        try simp only [Act.put, sA, sB, sC]
        refine' Flow.val _ 4 (some 23) (Op.load 9 (Operand.tmp 22)) 9 (none) [] _ rfl (by kernel_rfl) (by kernel_rfl) (by kernel_rfl) (by rfl) ?_ ?_ HRF.out
        rotate_left 2
        · (intro W hW hK; have hF := SF.out W hW; go_simp; first | done | with_reducible rfl)
        try simp only [Act.put, sA, sB, sC]
        refine' Flow.val _ 5 (some 24) (Op.move (Operand.tmp 1)) 22 (none) [] _ rfl (by kernel_rfl) (by kernel_rfl) (by kernel_rfl) (by rfl) ?_ ?_ HRF.out
        rotate_left 2
        · (intro W hW hK; go_simp; first | done | with_reducible rfl)
        try simp only [Act.put, sA, sB, sC]
        refine' Flow.val _ 6 (some 25) (Op.move (Operand.tmp 5)) 3 (none) [] _ rfl (by kernel_rfl) (by kernel_rfl) (by kernel_rfl) (by rfl) ?_ ?_ HRF.out
        rotate_left 2
        · (intro W hW hK; go_simp; first | done | with_reducible rfl)
        try simp only [Act.put, sA, sB, sC]
        refine' Flow.val _ 7 (some 26) (Op.indexAddr 22 (Operand.tmp 24) (Operand.tmp 25)) 0 (none) [] _ rfl (by kernel_rfl) (by kernel_rfl) (by kernel_rfl) (by rfl) ?_ ?_ HRF.out
        rotate_left 2
        · (intro W hW hK; have hF := SF.out W hW; go_simp; first | done | with_reducible rfl)
        try simp only [Act.put, sA, sB, sC]
        refine' Flow.val _ 8 (some 27) (Op.fieldAddr 47 (Operand.tmp 26) 0) 0 (none) [] _ rfl (by kernel_rfl) (by kernel_rfl) (by kernel_rfl) (by rfl) ?_ ?_ HRF.out
        rotate_left 2
        · (intro W hW hK; have hF := SF.out W hW; go_simp; first | done | with_reducible rfl)
        try simp only [Act.put, sA, sB, sC]
        refine' Flow.val _ 9 (some 28) (Op.load 9 (Operand.tmp 27)) 9 (none) [] _ rfl (by kernel_rfl) (by kernel_rfl) (by kernel_rfl) (by rfl) ?_ ?_ HRF.out
        rotate_left 2
        · (intro W hW hK; have hF := SF.out W hW; go_simp; first | done | with_reducible rfl)
        try simp only [Act.put, sA, sB, sC]
        refine' Flow.call _ 10 (some 29) (Op.call { callee := Callee.value (Operand.func 60), args := #[Operand.tmp 23, Operand.tmp 28], argTypes := #[9, 9] }) 3 (none) [] _ 60 _ rfl (by kernel_rfl) (by kernel_rfl) (by kernel_rfl) (by rfl) ?_ ?_ ?_
        rotate_left 3
        · (intro W; go_simp; first | done | with_reducible rfl)
        · (intro W hW hK; refine (HCN.out W hW).mono ?_; intro e w' h; exact h)
        try simp only [Act.put, sA, sB, sC]
        refine' Flow.val _ 11 (some 6) (Op.assign (Operand.tmp 29)) 3 (none) [] _ rfl (by kernel_rfl) (by kernel_rfl) (by kernel_rfl) (by rfl) ?_ ?_ HRF.out
        rotate_left 2
        · (intro W hW hK; go_simp; first | done | with_reducible rfl)
        try simp only [Act.put, sA, sB, sC]
        refine Flow.done _ (by kernel_rfl) ?_
        intro W4 hW hK
        clear hK
        by_cases h0 : v = 0
        · subst h0
          go_upto_region 6 with (fail)
          refine' wp_region_flow (by kernel_rfl) (by kernel_rfl) Jnv (fun W W' => Below W.heap.size W W') HRF.out (by first | exact hW | exact HDJ.out _ (below_drew1 (HJD.out _ hW)) | exact HDJ.out _ (pw_below_drewN (HJD.out _ hW) _)) _ ?_
          rotate_left
          refine' Flow.val _ 0 (some 32) (Op.move (Operand.tmp 0)) 22 (none) [] _ rfl (by kernel_rfl) (by kernel_rfl) (by kernel_rfl) (by rfl) ?_ ?_ HRF.out
          rotate_left 2
          · (intro W hW hK; go_simp; first | done | with_reducible rfl)
          try simp only [Act.put, sA, sB, sC]
          refine' Flow.val _ 1 (some 33) (Op.move (Operand.tmp 5)) 3 (none) [] _ rfl (by kernel_rfl) (by kernel_rfl) (by kernel_rfl) (by rfl) ?_ ?_ HRF.out
          rotate_left 2
          · (intro W hW hK; go_simp; first | done | with_reducible rfl)
          try simp only [Act.put, sA, sB, sC]
          refine' Flow.val _ 2 (some 34) (Op.indexAddr 22 (Operand.tmp 32) (Operand.tmp 33)) 0 (none) [] _ rfl (by kernel_rfl) (by kernel_rfl) (by kernel_rfl) (by rfl) ?_ ?_ HRF.out
          rotate_left 2
          · (intro W hW hK; have hF := SF.out W hW; go_simp; first | done | with_reducible rfl)
          try simp only [Act.put, sA, sB, sC]
          refine' Flow.val _ 3 (some 35) (Op.fieldAddr 47 (Operand.tmp 34) 1) 0 (none) [] _ rfl (by kernel_rfl) (by kernel_rfl) (by kernel_rfl) (by rfl) ?_ ?_ HRF.out
          rotate_left 2
          · (intro W hW hK; have hF := SF.out W hW; go_simp; first | done | with_reducible rfl)
          try simp only [Act.put, sA, sB, sC]
          refine' Flow.val _ 4 (some 36) (Op.load 9 (Operand.tmp 35)) 9 (none) [] _ rfl (by kernel_rfl) (by kernel_rfl) (by kernel_rfl) (by rfl) ?_ ?_ HRF.out
          rotate_left 2
          · (intro W hW hK; have hF := SF.out W hW; go_simp; first | done | with_reducible rfl)
          try simp only [Act.put, sA, sB, sC]
          refine' Flow.val _ 5 (some 37) (Op.move (Operand.tmp 1)) 22 (none) [] _ rfl (by kernel_rfl) (by kernel_rfl) (by kernel_rfl) (by rfl) ?_ ?_ HRF.out
          rotate_left 2
          · (intro W hW hK; go_simp; first | done | with_reducible rfl)
          try simp only [Act.put, sA, sB, sC]
          refine' Flow.val _ 6 (some 38) (Op.move (Operand.tmp 5)) 3 (none) [] _ rfl (by kernel_rfl) (by kernel_rfl) (by kernel_rfl) (by rfl) ?_ ?_ HRF.out
          rotate_left 2
          · (intro W hW hK; go_simp; first | done | with_reducible rfl)
          try simp only [Act.put, sA, sB, sC]
          refine' Flow.val _ 7 (some 39) (Op.indexAddr 22 (Operand.tmp 37) (Operand.tmp 38)) 0 (none) [] _ rfl (by kernel_rfl) (by kernel_rfl) (by kernel_rfl) (by rfl) ?_ ?_ HRF.out
          rotate_left 2
          · (intro W hW hK; have hF := SF.out W hW; go_simp; first | done | with_reducible rfl)
          try simp only [Act.put, sA, sB, sC]
          refine' Flow.val _ 8 (some 40) (Op.fieldAddr 47 (Operand.tmp 39) 1) 0 (none) [] _ rfl (by kernel_rfl) (by kernel_rfl) (by kernel_rfl) (by rfl) ?_ ?_ HRF.out
          rotate_left 2
          · (intro W hW hK; have hF := SF.out W hW; go_simp; first | done | with_reducible rfl)
          try simp only [Act.put, sA, sB, sC]
          refine' Flow.val _ 9 (some 41) (Op.load 9 (Operand.tmp 40)) 9 (none) [] _ rfl (by kernel_rfl) (by kernel_rfl) (by kernel_rfl) (by rfl) ?_ ?_ HRF.out
          rotate_left 2
          · (intro W hW hK; have hF := SF.out W hW; go_simp; first | done | with_reducible rfl)
          try simp only [Act.put, sA, sB, sC]
          refine' Flow.call _ 10 (some 42) (Op.call { callee := Callee.value (Operand.func 60), args := #[Operand.tmp 36, Operand.tmp 41], argTypes := #[9, 9] }) 3 (none) [] _ 60 _ rfl (by kernel_rfl) (by kernel_rfl) (by kernel_rfl) (by rfl) ?_ ?_ ?_
          rotate_left 3
          · (intro W; go_simp; first | done | with_reducible rfl)
          · (intro W hW hK; refine (HCV.out W hW).mono ?_; intro e w' h; exact h)
          try simp only [Act.put, sA, sB, sC]
          refine' Flow.val _ 11 (some 6) (Op.assign (Operand.tmp 42)) 3 (none) [] _ rfl (by kernel_rfl) (by kernel_rfl) (by kernel_rfl) (by rfl) ?_ ?_ HRF.out
          rotate_left 2
          · (intro W hW hK; go_simp; first | done | with_reducible rfl)
          try simp only [Act.put, sA, sB, sC]
          refine Flow.done _ (by kernel_rfl) ?_
          intro W6 hW6 hK
          have HBW := Aside0.mk (below_step HB.out (HJD.out _ hW6))
          clear hK hW6 hW SF HCN HCV HJD HDJ HRF
          by_cases h1 : u = 0
          · subst h1
            have HE2 : Aside0 (cmpL (a.drop (k + 1)) (b.drop (k + 1)) = cmpL a b) := ⟨by rw [HE.out, if_pos (by rfl)]⟩
            go_wp2_with fail
            go_roundw
            case rel => exact ⟨k + 1, n, by have := HKN.out; omega, by have := HKL.out; omega, by go_num, HE2, HBW⟩
            case measure => (have := HLT.out; simp [intOf]; try omega)
          · have hvb : (u != 0) = true := by simp [h1]
            have hvc : (u == 0) = false := by simp [h1]
            have HE2 : Aside0 (cmpL a b = u) := ⟨by rw [HE.out, if_pos rfl, if_neg h1]⟩
            go_wp2_with fail
            go_ret
            refine ⟨?_, HBW.out⟩
            show Ending.returned (.int .i64 u) = _
            rw [HE2.out]
        · have hvb : (v != 0) = true := by simp [h0]
          have hvc : (v == 0) = false := by simp [h0]
          have HE2 : Aside0 (cmpL a b = v) := ⟨by rw [HE.out, if_neg h0, if_neg h0]⟩
          have HBW := Aside0.mk (below_step HB.out (HJD.out _ hW))
          clear hW SF HCN HCV HJD HDJ HRF
          go_wp2_with fail
          go_ret
          refine ⟨?_, HBW.out⟩
          show Ending.returned (.int .i64 v) = _
          rw [HE2.out]
      · have hge : decide ((k : Int) < (b.length : Int)) = false := decide_eq_false (by omega)
        have hkb2 : ¬ ((k : Int) < (b.length : Int)) := by omega
        have hab : ¬ ((a.length : Int) < (b.length : Int)) := by omega
        have hab2 : (b.length : Int) < (a.length : Int) := by omega
        have HE : Aside0 (cmpL a b = 1) := ⟨by
          have e : b.drop k = [] := List.drop_of_length_le (by omega)
          rw [← HK.out, HXD.out, e]; rfl⟩
        go_wp2_with fail
        go_ret
        refine ⟨?_, HB.out⟩
        show Ending.returned (.int .i64 1) = _
        rw [HE.out]
def partL (x : S47) : List UInt8 := x.f0.data.toList ++ 61 :: 34 :: (escL x.f1.data.toList ++ [34])
theorem keyPart_data (x : S47) : (keyPart x).data.toList = partL x := by
  unfold keyPart partL esc
  simp [ByteArray.data_append]
theorem keyS_list (l : List S47) : (keyS l).toList = 123 :: (Lib.join (l.map partL) [44] ++ [125]) := by
  rw [tl_data]
  unfold keyS keyJ keyParts
  simp [ByteArray.data_append, List.map_map, Function.comp_def, keyPart_data]
theorem infoB : (Tryz.prog.info? 5).map (fun i => (i.zero, i.size, i.bytes)) = some (some (.int .u8 0), 1, 1) := by kernel_rfl
theorem append_runB (W : World) (base : Nat) (ty : TypeId) (v : Value) (xs ys : List Int) (A : Option Addr) (c : Nat) (HO : Kd.R (Kd.int .u8) 5 W base (fun _ => True) v xs) (HR : Kd.C (Kd.int .u8) W A ys.length ys) (hbase : base ≤ W.heap.size) (hl : xs.length + ys.length ≤ 140737488355328) :
    ∃ v1 w1, (Builtin.append_ #[73, 73] ty #[v, .slice A ys.length c]).run Tryz.prog W = .ok v1 w1 ∧ Kd.R (Kd.int .u8) 5 w1 base (fun _ => True) v1 (xs ++ ys) ∧ W.grownBy w1 v.ownBlock ∧ (v1.ownBlock = v.ownBlock ∨ ∃ b, v1.ownBlock = some b ∧ W.heap.size ≤ b) := by
  have h := Kd.R_append_rows_step (P := Tryz.prog) (ops := #[]) (o := { dst := some 0, op := .call { callee := .builtin .append, args := #[.tmp 0, .tmp 1], argTypes := #[73, 73] }, type := ty, pos := "", after := #[], guard := none }) (a := { tmps := #[v, .slice A ys.length c], defers := [] }) (Q := fun _ _ _ => False)
    (Kc := fun a' w1 => ∃ v1, a'.tmps[0]? = some v1 ∧ Kd.R (Kd.int .u8) 5 w1 base (fun _ => True) v1 (xs ++ ys) ∧ W.grownBy w1 v.ownBlock ∧ (v1.ownBlock = v.ownBlock ∨ ∃ b, v1.ownBlock = some b ∧ W.heap.size ≤ b))
    (Kd.int .u8) (Rr := fun (x : Int) (c : List Value) => c = [.int .u8 x]) (w0 := W) base rfl (.tmp 0) (.tmp 1) 73 5 (.int .u8 0) 1 rfl Tryz.underlying73 infoB rfl (by decide) (by decide) v xs ys A ys.length c (fun _ => True) (fun _ => False) rfl rfl HO HR (fun _ _ h => h) (fun _ hk => hk.elim) (fun _ _ => trivial) ((Below.refl _ _).mono hbase) hbase (by omega)
    (fun v1 w1 h1 h2 h3 h4 => ⟨v1, rfl, h1, h3, h4⟩)
  rw [if_pos (show Region.wanted _ _ = true from rfl)] at h
  unfold Oper.wp at h
  obtain ⟨a, ha⟩ : ∃ a : Act, a = { tmps := #[v, .slice A ys.length c], defers := [] } := ⟨_, rfl⟩
  have e0 : a.eval (.tmp 0) = v := by rw [ha]; rfl
  have e1 : a.eval (.tmp 1) = .slice A ys.length c := by rw [ha]; rfl
  have e2 : ∀ u : Value, (a.put (some 0) u).tmps[0]? = some u := fun u => by rw [ha]; rfl
  rw [← ha] at h
  clear ha
  cases hb : (Builtin.append_ #[73, 73] ty #[v, .slice A ys.length c]).run Tryz.prog W with
  | ok v1 w1 =>
    have he : ∀ o : Oper, o.op = .call { callee := .builtin .append, args := #[.tmp 0, .tmp 1], argTypes := #[73, 73] } → o.type = ty → (execOp a.eval o).run Tryz.prog W = .ok (.value v1) w1 := fun o h1 h2 => by
      simp [execOp, resolve, invoke, builtin, h1, h2, e0, e1, hb]
    rw [he _ rfl rfl, Oper.upon_value] at h
    obtain ⟨u, hu, h1, h2, h3⟩ := h
    obtain rfl : v1 = u := Option.some.inj ((e2 v1).symm.trans hu)
    exact ⟨_, _, rfl, h1, h2, h3⟩
  | halt hh w1 =>
    exfalso
    have he : ∀ o : Oper, o.op = .call { callee := .builtin .append, args := #[.tmp 0, .tmp 1], argTypes := #[73, 73] } → o.type = ty → (execOp a.eval o).run Tryz.prog W = .halt hh w1 := fun o h1 h2 => by
      simp [execOp, resolve, invoke, builtin, h1, h2, e0, e1, hb]
    rw [he _ rfl rfl] at h
    cases hh <;> simp [Oper.upon, LetsOut] at h
theorem byte1 {W : World} {b : Nat} {s : Int} (h : W.heap[b]? = some (.cells #[.int .u8 s] 5 (0, 0))) : Kd.C (Kd.int .u8) W (some ⟨b, 0, none⟩) 1 [s] := by
  refine ⟨rfl, by decide, fun _ => ⟨_, rfl, fun j p hj => ?_⟩⟩
  have hjl := (List.getElem?_eq_some_iff.1 hj).1
  refine ⟨[.int .u8 p], rfl, rfl, fun i u hu => ?_⟩
  have hil := (List.getElem?_eq_some_iff.1 hu).1
  have hi0 : i = 0 := by simp at hil; omega
  have hj0 : j = 0 := by simp at hjl; omega
  subst hi0; subst hj0
  have hu2 : Value.int .u8 p = u := by simpa using hu
  subst hu2
  rw [add_plain, blk_cell h]
  simp at hj; subst hj; rfl
theorem byte2 {W : World} {b : Nat} {s t : Int} (h : W.heap[b]? = some (.cells #[.int .u8 s, .int .u8 t] 5 (0, 0))) : Kd.C (Kd.int .u8) W (some ⟨b, 0, none⟩) 2 [s, t] := by
  refine ⟨rfl, by decide, fun _ => ⟨_, rfl, fun j p hj => ?_⟩⟩
  have hjl := (List.getElem?_eq_some_iff.1 hj).1
  refine ⟨[.int .u8 p], rfl, rfl, fun i u hu => ?_⟩
  have hil := (List.getElem?_eq_some_iff.1 hu).1
  have hi0 : i = 0 := by simp at hil; omega
  subst hi0
  have hu2 : Value.int .u8 p = u := by simpa using hu
  subst hu2
  rw [add_plain, blk_cell h]
  have hj2 : j = 0 ∨ j = 1 := by simp at hjl; omega
  rcases hj2 with rfl | rfl <;> (simp at hj; subst hj; rfl)
def bv (xs : List Int) : List Value := xs.map (Value.int .u8)
theorem bv_append (xs ys : List Int) : bv (xs ++ ys) = bv xs ++ bv ys := by unfold bv; rw [List.map_append]
def Row0 (W : World) (base : Nat) (v : Value) (xs : List Int) : Prop := Kd.R (Kd.int .u8) 5 W base (fun _ => True) v xs ∨ ∃ g, v = .slice (some ⟨g, 0, none⟩) xs.length xs.length ∧ (∀ (j : Nat) (u : Value), (bv xs)[j]? = some u → W.cell? ((⟨g, 0, none⟩ : Addr).add j) = some u)
theorem byte0 (w : World) (s : Int) (fr : Nat × Nat) (base : Nat) : Row0 (w.alloc (.cells #[.int .u8 s] 5 fr)) base (.slice (some ⟨w.heap.size, 0, none⟩) 1 1) [s] := by
  refine .inr ⟨_, rfl, fun j u hj => ?_⟩
  have hjl := (List.getElem?_eq_some_iff.1 hj).1
  have hj0 : j = 0 := by simp [bv] at hjl; omega
  subst hj0
  rw [add_plain]
  unfold World.cell?
  rw [blk_new]
  simpa [bv] using hj
theorem row0_alloc {W : World} {base : Nat} {v : Value} {xs : List Int} (h : Row0 W base v xs) (o : Obj) : Row0 (W.alloc o) base v xs := by
  rcases h with h | ⟨g, hv, hc⟩
  · exact .inl (Kd.R_alloc h o)
  · exact .inr ⟨g, hv, fun j u hj => pw_cell_below (below_alloc (Below.refl _ _) o) (hc j u hj)⟩
theorem full_new (W : World) (base : Nat) (hb : base ≤ W.heap.size) (xs ys : List Int) (cs : List Value) (hcs : cs = bv ys) (n : Nat) (hn : n = xs.length + ys.length) (old : Nat) (hl : n ≤ maxLen) :
    Kd.R (Kd.int .u8) 5 (W.drew.alloc (.cells ((bv xs).toArray ++ cs.toArray ++ Builtin.zeroCells (Value.int .u8 0).cells (grownCap W n old 5 - n)) 5)) base (fun _ => True) (.slice (some ⟨W.heap.size, 0, none⟩) n (grownCap W n old 5)) (xs ++ ys) ∧
    Below W.heap.size W (W.drew.alloc (.cells ((bv xs).toArray ++ cs.toArray ++ Builtin.zeroCells (Value.int .u8 0).cells (grownCap W n old 5 - n)) 5)) := by
  subst hcs
  have hge := grownCap_ge W n old 5
  have hcm : grownCap W n old 5 ≤ maxLen := grownCap_le_maxLen W n old 5 hl
  have hl2 : (xs ++ ys).length = n := by rw [List.length_append, hn]
  have hnl : ∀ zs : List Int, (bv zs).length = zs.length := fun zs => by simp [bv]
  refine ⟨Kd.R_of_own (h1 := fun _ => rfl) (by
    rw [hl2]
    show World.ownsRow _ base 5 1 _ n (bv (xs ++ ys))
    refine ⟨by rw [hnl, hl2, Nat.mul_one], .inr ⟨W.heap.size, _, _, rfl, hb, heap_alloc_new W.drew _, hge, hcm, ?_, ?_⟩⟩
    · simp only [Array.size_append, List.size_toArray, size_zeroCells, hnl]
      show xs.length + ys.length + (grownCap W n old 5 - n) * 1 = _
      omega
    · simp only [Array.toList_append]
      rw [bv_append]
      have e : (bv xs ++ bv ys).length = n * 1 := by rw [List.length_append, hnl, hnl]; omega
      rw [← e]
      exact List.take_left) (fun _ _ => trivial), below_alloc (below_drew (Below.refl _ _)) _⟩
theorem byte_run0 (w0 W : World) (ty : TypeId) (v : Value) (xs ys : List Int) (A : Option Addr) (c : Nat) (HO : Row0 W w0.heap.size v xs) (HR : Kd.C (Kd.int .u8) W A ys.length ys) (HB : Below w0.heap.size w0 W) (hl : xs.length + ys.length ≤ 1000000000) (hy : 0 < ys.length) :
    ∃ v1 w1, (Builtin.append_ #[73, 73] ty #[v, .slice A ys.length c]).run Tryz.prog W = .ok v1 w1 ∧ Kd.R (Kd.int .u8) 5 w1 w0.heap.size (fun _ => True) v1 (xs ++ ys) ∧ Below w0.heap.size w0 w1 := by
  rcases HO with HO | ⟨g, rfl, hcell⟩
  · obtain ⟨v1, w1, hr, hR, hG, -⟩ := append_runB W w0.heap.size ty v xs ys A c HO HR HB.size (by omega)
    exact ⟨v1, w1, hr, hR, below_grown HB hG (fun k hk => own_base (Kd.own_of_R HO) k hk)⟩
  · obtain ⟨i, hi, hzz⟩ := Option.map_eq_some_iff.1 infoB
    simp only [Prod.mk.injEq] at hzz
    obtain ⟨hz, hsz, hby⟩ := hzz
    obtain ⟨ad, rfl, hc2⟩ := HR.2.2 hy
    have hr := run_append_grow (P := Tryz.prog) W 73 ty 5 i (.int .u8 0) Tryz.underlying73 hi hz ⟨g, 0, none⟩ xs.length xs.length (bv xs) (by rw [hsz]; simp [bv]) hcell ad ys.length c (bv ys) (by rw [hsz]; simp [bv])
      (fun j v hj => by
        rw [bv, List.getElem?_map] at hj
        obtain ⟨p, hp, rfl⟩ := Option.map_eq_some_iff.1 hj
        obtain ⟨cs, hlen, hK, hc⟩ := hc2 j p hp
        have := hc 0 (.int .u8 p) (by rw [show cs = [.int .u8 p] from hK]; rfl)
        rw [show (Kd.int .u8).sz = 1 from rfl, Nat.mul_one, Nat.add_zero] at this
        exact this)
      (by omega) (by omega) (growslice_fits (by omega) (by rw [hby]; omega))
    obtain ⟨h1, h2⟩ := full_new W w0.heap.size HB.size xs ys (bv ys) rfl (xs.length + ys.length) rfl xs.length (by simp only [maxLen]; omega)
    exact ⟨_, _, hr, h1, below_step HB h2⟩
theorem str_run0 (w0 W : World) (ty : TypeId) (v : Value) (xs : List Int) (y : ByteArray) (HO : Row0 W w0.heap.size v xs) (HB : Below w0.heap.size w0 W) (hl : xs.length + y.size ≤ 1000000000) (hy : 0 < y.size) :
    ∃ v1 w1, (Builtin.append_ #[73, 9] ty #[v, .string y]).run Tryz.prog W = .ok v1 w1 ∧ Kd.R (Kd.int .u8) 5 w1 w0.heap.size (fun _ => True) v1 (xs ++ bytesOf y) ∧ Below w0.heap.size w0 w1 := by
  obtain ⟨i, hi, hzz⟩ := Option.map_eq_some_iff.1 infoB
  simp only [Prod.mk.injEq] at hzz
  obtain ⟨hz, hsz, hby⟩ := hzz
  have hl2 : (xs ++ bytesOf y).length = xs.length + y.size := by rw [List.length_append, bytesOf_length]
  have hcy : Lib.strCells y = bv (bytesOf y) := by simp [bv, bytesOf, Lib.strCells]
  have hc : bv (xs ++ bytesOf y) = bv xs ++ Lib.strCells y := by rw [bv_append, hcy]
  rcases HO with HO | ⟨g, rfl, hcell⟩
  · have hown0 := Kd.own_of_R HO
    obtain ⟨v', w', hr, h2, h3, _⟩ := Lib.run_append_own_string (P := Tryz.prog) W w0.heap.size 73 9 ty 5 i Tryz.underlying73 Tryz.underlying9 hi hz hsz hby v xs.length (bv xs) hown0 y (by simp only [maxLen]; omega) (by omega) HB.size
    exact ⟨v', w', hr, Kd.R_of_own (h1 := fun _ => rfl) (by rw [hl2]; show World.ownsRow w' w0.heap.size 5 1 v' _ (bv (xs ++ bytesOf y)); rw [hc]; exact h2) (fun _ _ => trivial), below_grown HB h3 (fun k hk => own_base hown0 k hk)⟩
  · have hr := Lib.run_append_grow_string (P := Tryz.prog) W 73 9 ty 5 i (.int .u8 0) Tryz.underlying73 Tryz.underlying9 hi hz ⟨g, 0, none⟩ xs.length xs.length (bv xs) (by rw [hsz]; simp [bv]) hcell y (by omega) (by omega) (growslice_fits (by omega) (by rw [hby]; omega))
    obtain ⟨h1, h2⟩ := full_new W w0.heap.size HB.size xs (bytesOf y) (Lib.strCells y) hcy (xs.length + y.size) (by rw [bytesOf_length]) xs.length (by simp only [maxLen]; omega)
    exact ⟨_, _, hr, h1, below_step HB h2⟩
theorem wp_append_bytes {ops : Array Oper} {rest : List Oper} {o : Oper} {a : Act} {Q : Exit → Act → World → Prop} (w0 W : World) (hw : Region.wanted o (yielded ops a.tmps) = true) (s x : Tmp) (ho : o.op = .call { callee := .builtin .append, args := #[.tmp s, .tmp x], argTypes := #[73, 73] })
    (v : Value) (xs ys : List Int) (A : Option Addr) (c : Nat) (hs : a.eval (.tmp s) = v) (hx : a.eval (.tmp x) = .slice A ys.length c) (HO : Row0 W w0.heap.size v xs) (HR : Kd.C (Kd.int .u8) W A ys.length ys) (HB : Below w0.heap.size w0 W) (hl : xs.length + ys.length ≤ 1000000000 ∧ 0 < ys.length) (T : List Int) (hT : T = xs ++ ys)
    (h : ∀ A9 c9 w1, Kd.R (Kd.int .u8) 5 w1 w0.heap.size (fun _ => True) (.slice A9 T.length c9) T → Below w0.heap.size w0 w1 → wpList Tryz.prog ops Q rest (a.put o.dst (.slice A9 T.length c9)) w1) : wpList Tryz.prog ops Q (o :: rest) a W := by
  subst hT
  refine gate_guard hw ?_
  obtain ⟨v1, w1, hr, hR, hbw⟩ := byte_run0 w0 W o.type v xs ys A c HO HR HB hl.1 hl.2
  obtain ⟨A9, c9, rfl, hc9, hC9⟩ := Kd.R_reads hR
  refine Kd.event_run rfl ?_ (h A9 c9 w1 hR hbw)
  simp [execOp, resolve, invoke, builtin, ho, hs, hx, hr]
theorem wp_append_str {ops : Array Oper} {rest : List Oper} {o : Oper} {a : Act} {Q : Exit → Act → World → Prop} (w0 W : World) (hw : Region.wanted o (yielded ops a.tmps) = true) (s x : Tmp) (ho : o.op = .call { callee := .builtin .append, args := #[.tmp s, .tmp x], argTypes := #[73, 9] })
    (v : Value) (xs : List Int) (y : ByteArray) (hs : a.eval (.tmp s) = v) (hx : a.eval (.tmp x) = .string y) (HO : Row0 W w0.heap.size v xs) (HB : Below w0.heap.size w0 W) (hl : xs.length + y.size ≤ 1000000000 ∧ 0 < y.size) (T : List Int) (hT : T = xs ++ bytesOf y)
    (h : ∀ A9 c9 w1, Kd.R (Kd.int .u8) 5 w1 w0.heap.size (fun _ => True) (.slice A9 T.length c9) T → Below w0.heap.size w0 w1 → wpList Tryz.prog ops Q rest (a.put o.dst (.slice A9 T.length c9)) w1) : wpList Tryz.prog ops Q (o :: rest) a W := by
  subst hT
  refine gate_guard hw ?_
  obtain ⟨v1, w1, hr, hR, hbw⟩ := str_run0 w0 W o.type v xs y HO HB hl.1 hl.2
  obtain ⟨A9, c9, rfl, hc9, hC9⟩ := Kd.R_reads hR
  refine Kd.event_run rfl ?_ (h A9 c9 w1 hR hbw)
  simp [execOp, resolve, invoke, builtin, ho, hs, hx, hr]
def bz (t : List UInt8) : List Int := t.map (fun b => (b.toNat : Int))
theorem bz_append (s t : List UInt8) : bz (s ++ t) = bz s ++ bz t := by unfold bz; rw [List.map_append]
theorem bz_length (t : List UInt8) : (bz t).length = t.length := by unfold bz; rw [List.length_map]
theorem bz_str (s : ByteArray) : bytesOf s = bz s.data.toList := rfl
def keyH (l : List S47) (i : Nat) : List UInt8 := 123 :: Lib.join ((l.take i).map partL) [44]
theorem keyH_zero (l : List S47) : keyH l 0 = [123] := by simp [keyH, Lib.join_nil]
theorem keyH_succ (l : List S47) (i : Nat) (h : i < l.length) : keyH l (i + 1) = keyH l i ++ (if i = 0 then [] else [44]) ++ partL l[i] := by
  unfold keyH
  rw [List.take_succ_eq_append_getElem h, List.map_append, List.map_singleton]
  by_cases h0 : i = 0
  · subst h0
    rw [List.take_zero, List.map_nil, List.nil_append, Lib.join_one, Lib.join_nil, if_pos rfl]
    simp
  · rw [if_neg h0]
    obtain ⟨x, r, hxr⟩ : ∃ x r, (l.take i).map partL = x :: r := by
      cases hl : (l.take i).map partL with
      | nil =>
        exfalso
        have := congrArg List.length hl
        simp at this
        rcases this with h1 | h1
        · omega
        · rw [h1] at h; simp at h
      | cons x r => exact ⟨x, r, rfl⟩
    rw [hxr, List.cons_append, Lib.join_cons, Lib.join_cons]
    simp [Lib.joinTail]
theorem partL_length (x : S47) (h0 : x.f0.size ≤ 1000) (h1 : x.f1.size ≤ 1000) : (partL x).length ≤ 3005 := by
  have h2 := escL_length x.f1.data.toList
  have h3 := cntE_le x.f1.data.toList
  have h4 := Lib.size_eq x.f0
  have h5 := Lib.size_eq x.f1
  unfold partL
  simp only [List.length_append, List.length_cons, List.length_nil]
  omega
theorem keyH_length (l : List S47) (hsz : ∀ x ∈ l, x.f0.size ≤ 1000 ∧ x.f1.size ≤ 1000) : ∀ i, i ≤ l.length → (keyH l i).length ≤ 1 + 3006 * i
  | 0, _ => by rw [keyH_zero]; simp
  | i + 1, h => by
    have ih := keyH_length l hsz i (by omega)
    have hm := hsz l[i] (List.getElem_mem (by omega))
    have h2 := partL_length l[i] hm.1 hm.2
    rw [keyH_succ l i (by omega)]
    simp only [List.length_append]
    have h3 : (if i = 0 then ([] : List UInt8) else [44]).length ≤ 1 := by split <;> simp
    omega
theorem keyH_last (l : List S47) : keyS l = ⟨(keyH l l.length ++ [125]).toArray⟩ := by
  apply ba_ext
  rw [← tl_data, keyS_list]
  simp [keyH]
theorem badL_name {x : S47} (h : badL x = false) : nmOK x.f0 = true ∧ x.f0.size ≤ 64 ∧ x.f1.size ≤ 128 := by
  unfold badL at h
  simp only [Bool.or_eq_false_iff, Bool.not_eq_false', decide_eq_false_iff_not] at h
  refine ⟨h.1.1, ?_, by omega⟩
  have := h.1.1
  unfold nmOK at this
  simp only [Bool.and_eq_true, decide_eq_true_iff] at this
  omega
set_option maxHeartbeats 2000000 in
set_option maxRecDepth 100000 in
theorem rkey_calls (A : Option Addr) (c : Nat) (l : List S47) (hl : l.length ≤ 1000) (hsz : ∀ x ∈ l, x.f0.size ≤ 1000 ∧ x.f1.size ≤ 1000 ∧ 0 < x.f0.size) (w : World) (hr : Kd.C k47 w A l.length l) :
    Calls Tryz.prog 34 #[.slice A l.length c] w fun e w' => e = .returned (.string (keyS l)) ∧ Below w.heap.size w w' := by
  have HR := Aside0.mk hr; have HL := Aside0.mk hl; have HSZ := Aside0.mk hsz; have HKL := Aside0.mk (keyH_length l (fun x hx => ⟨(hsz x hx).1, (hsz x hx).2.1⟩)); have HKE := Aside0.mk (keyH_last l)
  have hlm : l.length ≤ 9223372036854775807 := by omega
  obtain ⟨R, hR⟩ : ∃ R, R = keyS l := ⟨_, rfl⟩
  rw [← hR]
  have HRE := Aside0.mk hR
  clear hr hl hsz hR
  have kc := Lib.run_convert_bytes_const (P := Tryz.prog) w 73 5 #[.int .u8 123] 1 1 Tryz.underlying73 Tryz.underlying5
  go_enter Tryz.func34, Tryz.ntmps34
  go_wp2_with fail
  go_loopw [3, 4] (fun x y wr => ∃ (v : Value) (T : List Int) (i n : Nat), i + n = l.length ∧ x = v ∧ y = .int .i64 i ∧ Aside0 (T = bz (keyH l i)) ∧ Aside0 (Row0 wr w.heap.size v T) ∧ Aside0 (Below w.heap.size w wr)) (fun _ y _ => l.length - (intOf y).toNat)
  case atStart => exact ⟨_, [123], 0, l.length, by omega, rfl, rfl, ⟨by rw [keyH_zero]; rfl⟩, ⟨byte0 w 123 _ _⟩, ⟨below_alloc (Below.refl _ _) _⟩⟩
  case round =>
    obtain ⟨v, T, i, n, hin, rfl, rfl, HT, HRV, HB⟩ := hrel
    cases n with
    | zero =>
      obtain rfl : i = l.length := by omega
      have hkk : ¬ ((l.length : Int) < (l.length : Int)) := by omega
      obtain ⟨T9, hT9⟩ : ∃ T', T' = T ++ [125] := ⟨_, rfl⟩
      have HT9 := Aside0.mk hT9
      have HTL : Aside0 (T.length ≤ 1000000000 - 1) := ⟨by have h1 := HKL.out l.length (Nat.le_refl _); have h2 := HL.out; rw [HT.out, bz_length]; omega⟩
      have HS9 : Aside0 (strOfNums T9 = R) := ⟨by
        rw [hT9, HT.out, show ([125] : List Int) = bz [125] from rfl, ← bz_append, HRE.out, HKE.out]
        exact Lib.Lz.strOfNums_map _⟩
      clear hin hT9
      go_wp2_with ((with_reducible refine gate_builtin (b := .append) (xs := #[.tmp 63, .tmp 64]) rfl ?_); at_builtin; refine wp_append_bytes w _ (by rfl) 63 64 rfl u3 T [125] _ 1 (by rfl) (by rfl) ?h0 ?hR ?hB ?hl T9 HT9.out ?_; (case h0 => exact row0_alloc HRV.out _); (case hR => exact byte1 (blk_new _ _)); (case hB => exact below_alloc HB.out _); (case hl => exact ⟨(by have := HTL.out; simp only [List.length_cons, List.length_nil]; omega), Nat.succ_pos _⟩); intro A9 c9 w9 hR9 hb9; have HB9 := Aside0.mk hb9; have HR9 := Aside0.mk hR9; clear hR9 hb9; have hcv : (convert 73 9 (.slice A9 T9.length c9)).run Tryz.prog w9 = .ok (.string R) w9 := by rw [← HS9.out]; exact Kd.C_string (c := c9) Tryz.underlying73 Tryz.underlying5 Tryz.underlying9 (Kd.R_reads' HR9.out).2.2)
      go_ret
      exact ⟨rfl, HB9.out⟩
    | succ n =>
      have hlt : i < l.length := by omega
      obtain ⟨ad, rfl, hx0, hx1⟩ := lab_get HR.out hlt
      obtain ⟨x, hx⟩ : ∃ x, x = l[i] := ⟨_, rfl⟩
      have HSX := HSZ.out l[i] (List.getElem_mem hlt)
      have HSUC : Aside0 (keyH l (i + 1) = keyH l i ++ (if i = 0 then [] else [44]) ++ partL x) := ⟨by rw [hx]; exact keyH_succ l i hlt⟩
      rw [← hx] at hx0 hx1 HSX
      obtain ⟨x0, x1⟩ := x
      have HX : Aside0 (x0.size ≤ 1000 ∧ x1.size ≤ 1000 ∧ 0 < x0.size) := ⟨HSX⟩
      have SFX : Aside0 (∀ W, Below w.heap.size w W → W.cell? (ad.add (i * 2)) = some (.string x0) ∧ W.cell? ⟨(ad.add (i * 2)).block, (ad.add (i * 2)).off + 1, none⟩ = some (.string x1)) := ⟨fun W hW => ⟨pw_cell_below hW hx0, pw_cell_below hW hx1⟩⟩
      have hki : (i : Int) < (l.length : Int) := by omega
      have hki0 : (0 : Int) ≤ (i : Int) := by omega
      have HIN := Aside0.mk hin; have HLT := Aside0.mk hlt
      obtain ⟨T1, hT1⟩ : ∃ T', T' = bz (keyH l i ++ (if i = 0 then [] else [44])) := ⟨_, rfl⟩
      obtain ⟨T2, hT2⟩ : ∃ T', T' = T1 ++ bytesOf x0 := ⟨_, rfl⟩
      obtain ⟨T3, hT3⟩ : ∃ T', T' = T2 ++ [61, 34] := ⟨_, rfl⟩
      obtain ⟨t3, ht3⟩ : ∃ t, t = keyH l i ++ (if i = 0 then [] else [44]) ++ x0.data.toList ++ [61, 34] := ⟨_, rfl⟩
      have HT1 := Aside0.mk hT1; have HT2 := Aside0.mk hT2; have HT3 := Aside0.mk hT3; have Ht3 := Aside0.mk ht3
      have HT3L : Aside0 (T3 = bz t3) := ⟨by rw [hT3, hT2, hT1, ht3, bz_append, bz_append, bz_append, bz_append, bz_str]; rfl⟩
      have HLL : Aside0 (T1.length ≤ 3100000 ∧ T2.length ≤ 3200000 ∧ t3.length ≤ 3300000) := ⟨by
        have h1 := HKL.out i (by omega)
        have h2 := HL.out
        have h3 : (if i = 0 then ([] : List UInt8) else [44]).length ≤ 1 := by split <;> simp
        have h4 := HX.out.1
        have e1 : T1.length ≤ 3100000 := by rw [hT1, bz_length, List.length_append]; omega
        have e2 : T2.length = T1.length + x0.size := by rw [hT2, List.length_append, bytesOf_length]
        have e3 : T3.length = T2.length + 2 := by rw [hT3, List.length_append]; rfl
        have e4 : t3.length = T3.length := by rw [HT3L.out, bz_length]
        omega⟩
      clear hin hx hx0 hx1 hlt hT1 hT2 hT3 ht3 HSX
      by_cases h0 : i = 0
      · have hgi : ¬ ((0 : Int) < (i : Int)) := by omega
        have hgd : decide ((0 : Int) < (i : Int)) = false := decide_eq_false hgi
        have HRV1 : Aside0 (Row0 wr w.heap.size u3 T1) := ⟨by rw [HT1.out, if_pos h0, List.append_nil, ← HT.out]; exact HRV.out⟩
        clear h0
        go_upto_region 7 with (fail)
        obtain ⟨hc0, hc1⟩ := SFX.out _ HB.out
        go_upto_region 8 with ((with_reducible refine gate_builtin (b := .append) (xs := #[.tmp 20, .tmp 25]) rfl ?_); at_builtin; refine wp_append_str w _ (by rfl) 20 25 rfl _ T1 x0 (by rfl) (by rfl) ?h0 ?hB ?hl T2 HT2.out ?_; (case h0 => exact HRV1.out); (case hB => exact HB.out); (case hl => exact ⟨by have := HLL.out.1; have := HX.out.1; omega, HX.out.2.2⟩); intro A2 c2 w2 hR2 hb2; have HB2 := Aside0.mk hb2; have HR2 := Aside0.mk hR2; clear hR2 hb2)
        clear hc0 hc1
        go_upto_region 9 with ((with_reducible refine gate_builtin (b := .append) (xs := #[.tmp 27, .tmp 28]) rfl ?_); at_builtin; refine wp_append_bytes w _ (by rfl) 27 28 rfl _ T2 [61, 34] _ 2 (by rfl) (by rfl) ?h0 ?hR ?hB ?hl T3 HT3.out ?_; (case h0 => exact .inl (Kd.R_alloc HR2.out _)); (case hR => exact byte2 (blk_new _ _)); (case hB => exact below_alloc HB2.out _); (case hl => exact ⟨(by have := HLL.out.2.1; simp only [List.length_cons, List.length_nil]; omega), Nat.succ_pos _⟩); intro A3 c3 w3 hR3 hb3; have HB3 := Aside0.mk hb3; have HR3 := Aside0.mk hR3; clear hR3 hb3)
        go_wp2_with fail
        go_loopw [3, 5] (fun x y wi => ∃ (v : Value) (T : List Int) (k n : Nat), k + n = x1.size ∧ x = v ∧ y = .int .i64 k ∧ Aside0 (T = bz (t3 ++ escL (x1.data.toList.take k))) ∧ Aside0 (T.length ≤ t3.length + 2 * k) ∧ Aside0 (Kd.R (Kd.int .u8) 5 wi w.heap.size (fun _ => True) v T) ∧ Aside0 (Below w.heap.size w wi)) (fun _ y _ => x1.size - (intOf y).toNat)
        case atStart => exact ⟨_, T3, 0, x1.size, by omega, rfl, rfl, ⟨by rw [HT3L.out]; simp [escL]⟩, ⟨by rw [HT3L.out, bz_length]; omega⟩, HR3, HB3⟩
        case round =>
          have hx1s : x1.size ≤ 1000 := HX.out.2.1
          obtain ⟨v4, T4, k, m, hkm, rfl, rfl, HT4, HL4, HR4, HB4⟩ := hrel
          obtain ⟨hc0, hc1⟩ := SFX.out _ HB4.out
          cases m with
          | zero =>
            obtain rfl : k = x1.size := by omega
            have hkk2 : ¬ ((x1.size : Int) < (x1.size : Int)) := by omega
            obtain ⟨T5, hT5⟩ : ∃ T, T = T4 ++ [34] := ⟨_, rfl⟩
            have HT5 := Aside0.mk hT5
            have HE5 : Aside0 (T5 = bz (keyH l (i + 1))) := ⟨by
              rw [hT5, HT4.out, HSUC.out, Ht3.out, List.take_of_length_le (by rw [← Lib.size_eq]; exact Nat.le_refl _)]
              unfold partL
              simp [bz]⟩
            clear hkm hT5
            go_wp2_with ((with_reducible refine gate_builtin (b := .append) (xs := #[.tmp 60, .tmp 61]) rfl ?_); at_builtin; refine wp_append_bytes w _ (by rfl) 60 61 rfl u3 T4 [34] _ 1 (by rfl) (by rfl) ?h0 ?hR ?hB ?hl T5 HT5.out ?_; (case h0 => exact .inl (Kd.R_alloc HR4.out _)); (case hR => exact byte1 (blk_new _ _)); (case hB => exact below_alloc HB4.out _); (case hl => exact ⟨(by have := HL4.out; have := HLL.out.2.2; have := HX.out.2.1; simp only [List.length_cons, List.length_nil]; omega), Nat.succ_pos _⟩); intro A6 c6 w6 hR6 hb6; have HB6 := Aside0.mk hb6; have HR6 := Aside0.mk hR6; clear hR6 hb6)
            go_roundw
            case rel => exact ⟨_, T5, i + 1, n, by have := HIN.out; omega, rfl, by go_num, HE5, ⟨.inl HR6.out⟩, HB6⟩
            case measure => (have := HLT.out; simp [intOf]; try omega)
          | succ m =>
            have hk1 : k < x1.size := by omega
            obtain ⟨q, hq1, hq2, hq3⟩ := byte_at x1 k hk1
            have hki2 : (k : Int) < (x1.size : Int) := by omega
            have hki3 : (0 : Int) ≤ (k : Int) := by omega
            have HKM := Aside0.mk hkm; have HK1 := Aside0.mk hk1; have HQ3 := Aside0.mk hq3
            clear hkm hq1 hq3
            obtain ⟨qc, hqc⟩ : ∃ z : Int, z = (q.toNat : Int) := ⟨_, rfl⟩
            go_upto_region 13 with (fail)
            try simp only [hq2]
            try rw [← hqc]
            have HQC := Aside0.mk hqc
            by_cases h92 : q = 92
            · obtain rfl : qc = 92 := by rw [hqc, h92]; rfl
              have HES : Aside0 (isE q = true) := ⟨by rw [h92]; rfl⟩
              clear hqc h92 hq2
              obtain ⟨T5, hT5⟩ : ∃ T, T = T4 ++ [92] := ⟨_, rfl⟩
              obtain ⟨T6, hT6⟩ : ∃ T, T = T5 ++ [(92 : Int)] := ⟨_, rfl⟩
              have HT5 := Aside0.mk hT5; have HT6 := Aside0.mk hT6
              have HE6 : Aside0 (T6 = bz (t3 ++ escL (x1.data.toList.take (k + 1)))) := ⟨by rw [hT6, hT5, HT4.out, HQ3.out, escL_snoc, if_pos HES.out]; simp [bz, HQC.out.symm]⟩
              have HL6 : Aside0 (T5.length = T4.length + 1 ∧ T6.length = T4.length + 2) := ⟨by rw [hT6, hT5]; simp⟩
              clear hT5 hT6
              go_upto_region 15 with ((with_reducible refine gate_builtin (b := .append) (xs := #[.tmp 53, .tmp 54]) rfl ?_); at_builtin; refine wp_append_bytes w _ (by rfl) 53 54 rfl u3 T4 [92] _ 1 (by rfl) (by rfl) ?h0 ?hR ?hB ?hl T5 HT5.out ?_; (case h0 => exact .inl (Kd.R_alloc HR4.out _)); (case hR => exact byte1 (blk_new _ _)); (case hB => exact below_alloc HB4.out _); (case hl => exact ⟨(by have := HL4.out; have := HLL.out.2.2; have := HX.out.2.1; have := HK1.out; simp only [List.length_cons, List.length_nil]; omega), Nat.succ_pos _⟩); intro A5 c5 w5 hR5 hb5; have HB5 := Aside0.mk hb5; have HR5 := Aside0.mk hR5; clear hR5 hb5)
              go_wp2_with ((with_reducible refine gate_builtin (b := .append) (xs := #[.tmp 56, .tmp 58]) rfl ?_); at_builtin; refine wp_append_bytes w _ (by rfl) 56 58 rfl _ T5 [(92 : Int)] _ 1 (by rfl) (by rfl) ?h0 ?hR ?hB ?hl T6 HT6.out ?_; (case h0 => exact .inl (Kd.R_alloc HR5.out _)); (case hR => exact byte1 (blk_new _ _)); (case hB => exact below_alloc HB5.out _); (case hl => exact ⟨(by have := HL6.out.1; have := HL4.out; have := HLL.out.2.2; have := HX.out.2.1; have := HK1.out; simp only [List.length_cons, List.length_nil]; omega), Nat.succ_pos _⟩); intro A6 c6 w6 hR6 hb6; have HB6 := Aside0.mk hb6; have HR6 := Aside0.mk hR6; clear hR6 hb6)
              go_roundw
              case rel => exact ⟨_, T6, k + 1, m, by have := HKM.out; omega, rfl, by go_num, HE6, ⟨by have := HL6.out.2; have := HL4.out; omega⟩, HR6, HB6⟩
              case measure => (have := HK1.out; simp [intOf]; try omega)
            · by_cases h34 : q = 34
              · obtain rfl : qc = 34 := by rw [hqc, h34]; rfl
                have HES : Aside0 (isE q = true) := ⟨by rw [h34]; rfl⟩
                clear hqc h92 h34 hq2
                obtain ⟨T5, hT5⟩ : ∃ T, T = T4 ++ [92] := ⟨_, rfl⟩
                obtain ⟨T6, hT6⟩ : ∃ T, T = T5 ++ [(34 : Int)] := ⟨_, rfl⟩
                have HT5 := Aside0.mk hT5; have HT6 := Aside0.mk hT6
                have HE6 : Aside0 (T6 = bz (t3 ++ escL (x1.data.toList.take (k + 1)))) := ⟨by rw [hT6, hT5, HT4.out, HQ3.out, escL_snoc, if_pos HES.out]; simp [bz, HQC.out.symm]⟩
                have HL6 : Aside0 (T5.length = T4.length + 1 ∧ T6.length = T4.length + 2) := ⟨by rw [hT6, hT5]; simp⟩
                clear hT5 hT6
                go_upto_region 15 with ((with_reducible refine gate_builtin (b := .append) (xs := #[.tmp 53, .tmp 54]) rfl ?_); at_builtin; refine wp_append_bytes w _ (by rfl) 53 54 rfl u3 T4 [92] _ 1 (by rfl) (by rfl) ?h0 ?hR ?hB ?hl T5 HT5.out ?_; (case h0 => exact .inl (Kd.R_alloc HR4.out _)); (case hR => exact byte1 (blk_new _ _)); (case hB => exact below_alloc HB4.out _); (case hl => exact ⟨(by have := HL4.out; have := HLL.out.2.2; have := HX.out.2.1; have := HK1.out; simp only [List.length_cons, List.length_nil]; omega), Nat.succ_pos _⟩); intro A5 c5 w5 hR5 hb5; have HB5 := Aside0.mk hb5; have HR5 := Aside0.mk hR5; clear hR5 hb5)
                go_wp2_with ((with_reducible refine gate_builtin (b := .append) (xs := #[.tmp 56, .tmp 58]) rfl ?_); at_builtin; refine wp_append_bytes w _ (by rfl) 56 58 rfl _ T5 [(34 : Int)] _ 1 (by rfl) (by rfl) ?h0 ?hR ?hB ?hl T6 HT6.out ?_; (case h0 => exact .inl (Kd.R_alloc HR5.out _)); (case hR => exact byte1 (blk_new _ _)); (case hB => exact below_alloc HB5.out _); (case hl => exact ⟨(by have := HL6.out.1; have := HL4.out; have := HLL.out.2.2; have := HX.out.2.1; have := HK1.out; simp only [List.length_cons, List.length_nil]; omega), Nat.succ_pos _⟩); intro A6 c6 w6 hR6 hb6; have HB6 := Aside0.mk hb6; have HR6 := Aside0.mk hR6; clear hR6 hb6)
                go_roundw
                case rel => exact ⟨_, T6, k + 1, m, by have := HKM.out; omega, rfl, by go_num, HE6, ⟨by have := HL6.out.2; have := HL4.out; omega⟩, HR6, HB6⟩
                case measure => (have := HK1.out; simp [intOf]; try omega)
              · have hz2 : ¬ qc = 92 := fun h => h92 (UInt8.toNat_inj.1 (by have e : (92 : UInt8).toNat = 92 := rfl; omega))
                have hz4 : ¬ qc = 34 := fun h => h34 (UInt8.toNat_inj.1 (by have e : (34 : UInt8).toNat = 34 := rfl; omega))
                have hz2b : (qc == 92) = false := beq_eq_false_iff_ne.2 hz2
                have hz4b : (qc == 34) = false := beq_eq_false_iff_ne.2 hz4
                have HES : Aside0 (isE q = false) := ⟨by unfold isE; rw [beq_eq_false_iff_ne.2 h92, beq_eq_false_iff_ne.2 h34]; rfl⟩
                clear hqc h92 h34 hq2
                obtain ⟨T6, hT6⟩ : ∃ T, T = T4 ++ [qc] := ⟨_, rfl⟩
                have HT6 := Aside0.mk hT6
                have HE6 : Aside0 (T6 = bz (t3 ++ escL (x1.data.toList.take (k + 1)))) := ⟨by rw [hT6, HT4.out, HQ3.out, escL_snoc, if_neg (by rw [HES.out]; decide), HQC.out]; simp [bz]⟩
                have HL6 : Aside0 (T6.length = T4.length + 1) := ⟨by rw [hT6]; simp⟩
                clear hT6
                go_wp2_with ((with_reducible refine gate_builtin (b := .append) (xs := #[.tmp 56, .tmp 58]) rfl ?_); at_builtin; refine wp_append_bytes w _ (by rfl) 56 58 rfl u3 T4 [qc] _ 1 (by rfl) (by rfl) ?h0 ?hR ?hB ?hl T6 HT6.out ?_; (case h0 => exact .inl (Kd.R_alloc HR4.out _)); (case hR => exact byte1 (blk_new _ _)); (case hB => exact below_alloc HB4.out _); (case hl => exact ⟨(by have := HL4.out; have := HLL.out.2.2; have := HX.out.2.1; have := HK1.out; simp only [List.length_cons, List.length_nil]; omega), Nat.succ_pos _⟩); intro A6 c6 w6 hR6 hb6; have HB6 := Aside0.mk hb6; have HR6 := Aside0.mk hR6; clear hR6 hb6)
                go_roundw
                case rel => exact ⟨_, T6, k + 1, m, by have := HKM.out; omega, rfl, by go_num, HE6, ⟨by have := HL6.out; have := HL4.out; omega⟩, HR6, HB6⟩
                case measure => (have := HK1.out; simp [intOf]; try omega)
      · have hgi : (0 : Int) < (i : Int) := by omega
        have hgd : decide ((0 : Int) < (i : Int)) = true := decide_eq_true hgi
        have HT1' : Aside0 (T1 = T ++ [44]) := ⟨by rw [HT1.out, if_neg h0, bz_append, ← HT.out]; rfl⟩
        have HTL : Aside0 (T.length ≤ 1000000000 - 1) := ⟨by have h1 := HKL.out i (by have := HLT.out; omega); have h2 := HL.out; have h3 := HLT.out; rw [HT.out, bz_length]; omega⟩
        clear h0
        go_upto_region 7 with ((with_reducible refine gate_builtin (b := .append) (xs := #[.tmp 17, .tmp 18]) rfl ?_); at_builtin; refine wp_append_bytes w _ (by rfl) 17 18 rfl u3 T [44] _ 1 (by rfl) (by rfl) ?h0 ?hR ?hB ?hl T1 HT1'.out ?_; (case h0 => exact row0_alloc HRV.out _); (case hR => exact byte1 (blk_new _ _)); (case hB => exact below_alloc HB.out _); (case hl => exact ⟨(by have := HTL.out; simp only [List.length_cons, List.length_nil]; omega), Nat.succ_pos _⟩); intro A1 c1 w1 hR1 hb1; have HB1 := Aside0.mk hb1; have HR1 := Aside0.mk hR1; clear hR1 hb1)
        obtain ⟨hc0, hc1⟩ := SFX.out _ HB1.out
        go_upto_region 8 with ((with_reducible refine gate_builtin (b := .append) (xs := #[.tmp 20, .tmp 25]) rfl ?_); at_builtin; refine wp_append_str w _ (by rfl) 20 25 rfl _ T1 x0 (by rfl) (by rfl) ?h0 ?hB ?hl T2 HT2.out ?_; (case h0 => exact .inl HR1.out); (case hB => exact HB1.out); (case hl => exact ⟨by have := HLL.out.1; have := HX.out.1; omega, HX.out.2.2⟩); intro A2 c2 w2 hR2 hb2; have HB2 := Aside0.mk hb2; have HR2 := Aside0.mk hR2; clear hR2 hb2)
        clear hc0 hc1
        go_upto_region 9 with ((with_reducible refine gate_builtin (b := .append) (xs := #[.tmp 27, .tmp 28]) rfl ?_); at_builtin; refine wp_append_bytes w _ (by rfl) 27 28 rfl _ T2 [61, 34] _ 2 (by rfl) (by rfl) ?h0 ?hR ?hB ?hl T3 HT3.out ?_; (case h0 => exact .inl (Kd.R_alloc HR2.out _)); (case hR => exact byte2 (blk_new _ _)); (case hB => exact below_alloc HB2.out _); (case hl => exact ⟨(by have := HLL.out.2.1; simp only [List.length_cons, List.length_nil]; omega), Nat.succ_pos _⟩); intro A3 c3 w3 hR3 hb3; have HB3 := Aside0.mk hb3; have HR3 := Aside0.mk hR3; clear hR3 hb3)
        go_wp2_with fail
        go_loopw [3, 5] (fun x y wi => ∃ (v : Value) (T : List Int) (k n : Nat), k + n = x1.size ∧ x = v ∧ y = .int .i64 k ∧ Aside0 (T = bz (t3 ++ escL (x1.data.toList.take k))) ∧ Aside0 (T.length ≤ t3.length + 2 * k) ∧ Aside0 (Kd.R (Kd.int .u8) 5 wi w.heap.size (fun _ => True) v T) ∧ Aside0 (Below w.heap.size w wi)) (fun _ y _ => x1.size - (intOf y).toNat)
        case atStart => exact ⟨_, T3, 0, x1.size, by omega, rfl, rfl, ⟨by rw [HT3L.out]; simp [escL]⟩, ⟨by rw [HT3L.out, bz_length]; omega⟩, HR3, HB3⟩
        case round =>
          have hx1s : x1.size ≤ 1000 := HX.out.2.1
          obtain ⟨v4, T4, k, m, hkm, rfl, rfl, HT4, HL4, HR4, HB4⟩ := hrel
          obtain ⟨hc0, hc1⟩ := SFX.out _ HB4.out
          cases m with
          | zero =>
            obtain rfl : k = x1.size := by omega
            have hkk2 : ¬ ((x1.size : Int) < (x1.size : Int)) := by omega
            obtain ⟨T5, hT5⟩ : ∃ T, T = T4 ++ [34] := ⟨_, rfl⟩
            have HT5 := Aside0.mk hT5
            have HE5 : Aside0 (T5 = bz (keyH l (i + 1))) := ⟨by
              rw [hT5, HT4.out, HSUC.out, Ht3.out, List.take_of_length_le (by rw [← Lib.size_eq]; exact Nat.le_refl _)]
              unfold partL
              simp [bz]⟩
            clear hkm hT5
            go_wp2_with ((with_reducible refine gate_builtin (b := .append) (xs := #[.tmp 60, .tmp 61]) rfl ?_); at_builtin; refine wp_append_bytes w _ (by rfl) 60 61 rfl u3 T4 [34] _ 1 (by rfl) (by rfl) ?h0 ?hR ?hB ?hl T5 HT5.out ?_; (case h0 => exact .inl (Kd.R_alloc HR4.out _)); (case hR => exact byte1 (blk_new _ _)); (case hB => exact below_alloc HB4.out _); (case hl => exact ⟨(by have := HL4.out; have := HLL.out.2.2; have := HX.out.2.1; simp only [List.length_cons, List.length_nil]; omega), Nat.succ_pos _⟩); intro A6 c6 w6 hR6 hb6; have HB6 := Aside0.mk hb6; have HR6 := Aside0.mk hR6; clear hR6 hb6)
            go_roundw
            case rel => exact ⟨_, T5, i + 1, n, by have := HIN.out; omega, rfl, by go_num, HE5, ⟨.inl HR6.out⟩, HB6⟩
            case measure => (have := HLT.out; simp [intOf]; try omega)
          | succ m =>
            have hk1 : k < x1.size := by omega
            obtain ⟨q, hq1, hq2, hq3⟩ := byte_at x1 k hk1
            have hki2 : (k : Int) < (x1.size : Int) := by omega
            have hki3 : (0 : Int) ≤ (k : Int) := by omega
            have HKM := Aside0.mk hkm; have HK1 := Aside0.mk hk1; have HQ3 := Aside0.mk hq3
            clear hkm hq1 hq3
            obtain ⟨qc, hqc⟩ : ∃ z : Int, z = (q.toNat : Int) := ⟨_, rfl⟩
            go_upto_region 13 with (fail)
            try simp only [hq2]
            try rw [← hqc]
            have HQC := Aside0.mk hqc
            by_cases h92 : q = 92
            · obtain rfl : qc = 92 := by rw [hqc, h92]; rfl
              have HES : Aside0 (isE q = true) := ⟨by rw [h92]; rfl⟩
              clear hqc h92 hq2
              obtain ⟨T5, hT5⟩ : ∃ T, T = T4 ++ [92] := ⟨_, rfl⟩
              obtain ⟨T6, hT6⟩ : ∃ T, T = T5 ++ [(92 : Int)] := ⟨_, rfl⟩
              have HT5 := Aside0.mk hT5; have HT6 := Aside0.mk hT6
              have HE6 : Aside0 (T6 = bz (t3 ++ escL (x1.data.toList.take (k + 1)))) := ⟨by rw [hT6, hT5, HT4.out, HQ3.out, escL_snoc, if_pos HES.out]; simp [bz, HQC.out.symm]⟩
              have HL6 : Aside0 (T5.length = T4.length + 1 ∧ T6.length = T4.length + 2) := ⟨by rw [hT6, hT5]; simp⟩
              clear hT5 hT6
              go_upto_region 15 with ((with_reducible refine gate_builtin (b := .append) (xs := #[.tmp 53, .tmp 54]) rfl ?_); at_builtin; refine wp_append_bytes w _ (by rfl) 53 54 rfl u3 T4 [92] _ 1 (by rfl) (by rfl) ?h0 ?hR ?hB ?hl T5 HT5.out ?_; (case h0 => exact .inl (Kd.R_alloc HR4.out _)); (case hR => exact byte1 (blk_new _ _)); (case hB => exact below_alloc HB4.out _); (case hl => exact ⟨(by have := HL4.out; have := HLL.out.2.2; have := HX.out.2.1; have := HK1.out; simp only [List.length_cons, List.length_nil]; omega), Nat.succ_pos _⟩); intro A5 c5 w5 hR5 hb5; have HB5 := Aside0.mk hb5; have HR5 := Aside0.mk hR5; clear hR5 hb5)
              go_wp2_with ((with_reducible refine gate_builtin (b := .append) (xs := #[.tmp 56, .tmp 58]) rfl ?_); at_builtin; refine wp_append_bytes w _ (by rfl) 56 58 rfl _ T5 [(92 : Int)] _ 1 (by rfl) (by rfl) ?h0 ?hR ?hB ?hl T6 HT6.out ?_; (case h0 => exact .inl (Kd.R_alloc HR5.out _)); (case hR => exact byte1 (blk_new _ _)); (case hB => exact below_alloc HB5.out _); (case hl => exact ⟨(by have := HL6.out.1; have := HL4.out; have := HLL.out.2.2; have := HX.out.2.1; have := HK1.out; simp only [List.length_cons, List.length_nil]; omega), Nat.succ_pos _⟩); intro A6 c6 w6 hR6 hb6; have HB6 := Aside0.mk hb6; have HR6 := Aside0.mk hR6; clear hR6 hb6)
              go_roundw
              case rel => exact ⟨_, T6, k + 1, m, by have := HKM.out; omega, rfl, by go_num, HE6, ⟨by have := HL6.out.2; have := HL4.out; omega⟩, HR6, HB6⟩
              case measure => (have := HK1.out; simp [intOf]; try omega)
            · by_cases h34 : q = 34
              · obtain rfl : qc = 34 := by rw [hqc, h34]; rfl
                have HES : Aside0 (isE q = true) := ⟨by rw [h34]; rfl⟩
                clear hqc h92 h34 hq2
                obtain ⟨T5, hT5⟩ : ∃ T, T = T4 ++ [92] := ⟨_, rfl⟩
                obtain ⟨T6, hT6⟩ : ∃ T, T = T5 ++ [(34 : Int)] := ⟨_, rfl⟩
                have HT5 := Aside0.mk hT5; have HT6 := Aside0.mk hT6
                have HE6 : Aside0 (T6 = bz (t3 ++ escL (x1.data.toList.take (k + 1)))) := ⟨by rw [hT6, hT5, HT4.out, HQ3.out, escL_snoc, if_pos HES.out]; simp [bz, HQC.out.symm]⟩
                have HL6 : Aside0 (T5.length = T4.length + 1 ∧ T6.length = T4.length + 2) := ⟨by rw [hT6, hT5]; simp⟩
                clear hT5 hT6
                go_upto_region 15 with ((with_reducible refine gate_builtin (b := .append) (xs := #[.tmp 53, .tmp 54]) rfl ?_); at_builtin; refine wp_append_bytes w _ (by rfl) 53 54 rfl u3 T4 [92] _ 1 (by rfl) (by rfl) ?h0 ?hR ?hB ?hl T5 HT5.out ?_; (case h0 => exact .inl (Kd.R_alloc HR4.out _)); (case hR => exact byte1 (blk_new _ _)); (case hB => exact below_alloc HB4.out _); (case hl => exact ⟨(by have := HL4.out; have := HLL.out.2.2; have := HX.out.2.1; have := HK1.out; simp only [List.length_cons, List.length_nil]; omega), Nat.succ_pos _⟩); intro A5 c5 w5 hR5 hb5; have HB5 := Aside0.mk hb5; have HR5 := Aside0.mk hR5; clear hR5 hb5)
                go_wp2_with ((with_reducible refine gate_builtin (b := .append) (xs := #[.tmp 56, .tmp 58]) rfl ?_); at_builtin; refine wp_append_bytes w _ (by rfl) 56 58 rfl _ T5 [(34 : Int)] _ 1 (by rfl) (by rfl) ?h0 ?hR ?hB ?hl T6 HT6.out ?_; (case h0 => exact .inl (Kd.R_alloc HR5.out _)); (case hR => exact byte1 (blk_new _ _)); (case hB => exact below_alloc HB5.out _); (case hl => exact ⟨(by have := HL6.out.1; have := HL4.out; have := HLL.out.2.2; have := HX.out.2.1; have := HK1.out; simp only [List.length_cons, List.length_nil]; omega), Nat.succ_pos _⟩); intro A6 c6 w6 hR6 hb6; have HB6 := Aside0.mk hb6; have HR6 := Aside0.mk hR6; clear hR6 hb6)
                go_roundw
                case rel => exact ⟨_, T6, k + 1, m, by have := HKM.out; omega, rfl, by go_num, HE6, ⟨by have := HL6.out.2; have := HL4.out; omega⟩, HR6, HB6⟩
                case measure => (have := HK1.out; simp [intOf]; try omega)
              · have hz2 : ¬ qc = 92 := fun h => h92 (UInt8.toNat_inj.1 (by have e : (92 : UInt8).toNat = 92 := rfl; omega))
                have hz4 : ¬ qc = 34 := fun h => h34 (UInt8.toNat_inj.1 (by have e : (34 : UInt8).toNat = 34 := rfl; omega))
                have hz2b : (qc == 92) = false := beq_eq_false_iff_ne.2 hz2
                have hz4b : (qc == 34) = false := beq_eq_false_iff_ne.2 hz4
                have HES : Aside0 (isE q = false) := ⟨by unfold isE; rw [beq_eq_false_iff_ne.2 h92, beq_eq_false_iff_ne.2 h34]; rfl⟩
                clear hqc h92 h34 hq2
                obtain ⟨T6, hT6⟩ : ∃ T, T = T4 ++ [qc] := ⟨_, rfl⟩
                have HT6 := Aside0.mk hT6
                have HE6 : Aside0 (T6 = bz (t3 ++ escL (x1.data.toList.take (k + 1)))) := ⟨by rw [hT6, HT4.out, HQ3.out, escL_snoc, if_neg (by rw [HES.out]; decide), HQC.out]; simp [bz]⟩
                have HL6 : Aside0 (T6.length = T4.length + 1) := ⟨by rw [hT6]; simp⟩
                clear hT6
                go_wp2_with ((with_reducible refine gate_builtin (b := .append) (xs := #[.tmp 56, .tmp 58]) rfl ?_); at_builtin; refine wp_append_bytes w _ (by rfl) 56 58 rfl u3 T4 [qc] _ 1 (by rfl) (by rfl) ?h0 ?hR ?hB ?hl T6 HT6.out ?_; (case h0 => exact .inl (Kd.R_alloc HR4.out _)); (case hR => exact byte1 (blk_new _ _)); (case hB => exact below_alloc HB4.out _); (case hl => exact ⟨(by have := HL4.out; have := HLL.out.2.2; have := HX.out.2.1; have := HK1.out; simp only [List.length_cons, List.length_nil]; omega), Nat.succ_pos _⟩); intro A6 c6 w6 hR6 hb6; have HB6 := Aside0.mk hb6; have HR6 := Aside0.mk hR6; clear hR6 hb6)
                go_roundw
                case rel => exact ⟨_, T6, k + 1, m, by have := HKM.out; omega, rfl, by go_num, HE6, ⟨by have := HL6.out; have := HL4.out; omega⟩, HR6, HB6⟩
                case measure => (have := HK1.out; simp [intOf]; try omega)
set_option maxHeartbeats 4000000 in
set_option maxRecDepth 100000 in
theorem lparts_calls (A : Option Addr) (c : Nat) (a : List S47) (A2 : Option Addr) (c2 : Nat) (b : List S47) (An : Option Addr) (cn : Nat) (names : List ByteArray) (w : World) (hr : Kd.C k47 w A a.length a) (hc : a.length ≤ c) (hr2 : Kd.C k47 w A2 b.length b) (hc2 : b.length ≤ c2) (hrn : Kd.C Kd.string w An names.length names) (hcn : names.length ≤ cn)
    (hsz : ∀ x ∈ a, x.f0.size ≤ 140737488351232 ∧ x.f1.size ≤ 140737488351232) (hszb : ∀ x ∈ b, x.f0.size ≤ 140737488351232 ∧ x.f1.size ≤ 140737488351232) :
    Calls Tryz.prog 9 #[.slice A a.length c, .slice A2 b.length c2, .slice An names.length cn] w fun e w' => e = .returned (.bool true) ∧ Below w.heap.size w w' := by
  have hlm : names.length ≤ 9223372036854775807 := hrn.2.1
  have HR := Aside0.mk hr; have HR2 := Aside0.mk hr2; have HRN := Aside0.mk hrn; have HC := Aside0.mk hc; have HC2 := Aside0.mk hc2; have HCN := Aside0.mk hcn; have HSZ := Aside0.mk hsz; have HSZB := Aside0.mk hszb
  obtain ⟨sa, hsa⟩ : ∃ x, x = setB a := ⟨_, rfl⟩
  obtain ⟨sb, hsb⟩ : ∃ x, x = setB b := ⟨_, rfl⟩
  have HSA : Aside0 (∀ W, Below w.heap.size w W → Calls Tryz.prog 17 #[.slice A a.length c] W fun e w' => e = .returned (.bool sa) ∧ Below W.heap.size W w') := ⟨fun W h => by rw [hsa]; exact set_calls A c a hsz W (Kd.C_below hr h)⟩
  have HSB : Aside0 (∀ W, Below w.heap.size w W → Calls Tryz.prog 17 #[.slice A2 b.length c2] W fun e w' => e = .returned (.bool sb) ∧ Below W.heap.size W w') := ⟨fun W h => by rw [hsb]; exact set_calls A2 c2 b hszb W (Kd.C_below hr2 h)⟩
  have HNM : Aside0 (∀ W (r : Int), Calls Tryz.prog 16 #[.int .i64 r] W fun e w' => e = .returned (.int .i64 r) ∧ Below W.heap.size W w') := ⟨fun W r => (klaxonlaw09_num.calls r r W rfl).mono fun e w' h => ⟨h.1, h.2.below⟩⟩
  have HSAE := Aside0.mk hsa; have HSBE := Aside0.mk hsb
  clear hr hc hr2 hc2 hrn hcn hsz hszb hsa hsb
  go_enter Tryz.func9, Tryz.ntmps9
  go_wp2_with fail
  refine (HSA.out w (Below.refl _ _)).mono ?_
  rintro e w1 ⟨rfl, hb1⟩
  have HB1 := Aside0.mk hb1
  clear hb1
  cases sa with
  | false =>
    go_wp2_with fail
    refine (live_calls w1).mono ?_
    rintro e w2 ⟨rfl, hb2⟩
    have HB2 := Aside0.mk (below_step HB1.out hb2)
    clear hb2
    go_wp2_with fail
    go_ret
    exact ⟨rfl, HB2.out⟩
  | true =>
    go_wp2_with fail
    refine (HSB.out w1 HB1.out).mono ?_
    rintro e w2 ⟨rfl, hb2⟩
    have HB2 := Aside0.mk (below_step HB1.out hb2)
    clear hb2
    cases sb with
    | false =>
      go_wp2_with fail
      refine (live_calls w2).mono ?_
      rintro e w3 ⟨rfl, hb3⟩
      have HB3 := Aside0.mk (below_step HB2.out hb3)
      clear hb3
      go_wp2_with fail
      go_ret
      exact ⟨rfl, HB3.out⟩
    | true =>
      by_cases h60 : names.length ≤ 60
      · have hgt : decide ((60 : Int) < (names.length : Int)) = false := decide_eq_false (by omega)
        have HA : Aside0 (SetL a) := ⟨(setB_iff a).1 HSAE.out.symm⟩
        have HBS : Aside0 (SetL b) := ⟨(setB_iff b).1 HSBE.out.symm⟩
        have HN : Aside0 (names.length ≤ 4611686018427387904) := ⟨by omega⟩
        have HAB : Aside0 (a.length + b.length ≤ 60) := ⟨by have h1 := HA.out.2.1; have h2 := HBS.out.2.1; omega⟩
        have HOA : Aside0 (∀ W, Below w.heap.size w W → Calls Tryz.prog 13 #[.slice A a.length c] W fun e w' => ∃ A' c', e = .returned (.slice A' a.length c') ∧ a.length ≤ c' ∧ Kd.C k47 w' A' a.length a ∧ Below W.heap.size W w') := ⟨fun W h => own_calls A c a W (Kd.C_below HR.out h) HC.out (by have := HAB.out; omega)⟩
        have HOB : Aside0 (∀ W, Below w.heap.size w W → Calls Tryz.prog 13 #[.slice A2 b.length c2] W fun e w' => ∃ A' c', e = .returned (.slice A' b.length c') ∧ b.length ≤ c' ∧ Kd.C k47 w' A' b.length b ∧ Below W.heap.size W w') := ⟨fun W h => own_calls A2 c2 b W (Kd.C_below HR2.out h) HC2.out (by have := HAB.out; omega)⟩
        clear h60
        go_wp2_with fail
        refine (HOA.out w2 HB2.out).mono ?_
        rintro e w3 ⟨A3, c3, rfl, hc3, hC3, hb3⟩
        have HB3 := Aside0.mk (below_step HB2.out hb3); have HC3 := Aside0.mk hC3
        clear hb3 hC3 hc3
        go_wp2_with fail
        refine (HOB.out w3 HB3.out).mono ?_
        rintro e w4 ⟨A4, c4, rfl, hc4, hC4, hb4⟩
        have HB4 := Aside0.mk (below_step HB3.out hb4); have HC4 := Aside0.mk hC4; have HC34 := Aside0.mk (Kd.C_below HC3.out hb4)
        clear hb4 hC4 hc4
        go_wp2_with fail
        refine (with_calls A3 c3 a A4 c4 b w4 HC34.out HC4.out HAB.out HSZ.out HSZB.out).mono ?_
        intro e w5 hM
        obtain ⟨A5, n5, c5, r5, rfl⟩ := madeR_form hM
        have HB5 := Aside0.mk (below_step HB4.out hM.1); have HM5 := Aside0.mk hM
        clear hM
        go_wp2_with fail
        refine (rwith_calls A c a A2 c2 b w5 (Kd.C_below HR.out HB5.out) HC.out (Kd.C_below HR2.out HB5.out) HAB.out HSZ.out HSZB.out).mono ?_
        intro e w6 hM
        obtain ⟨A6, n6, c6, r6, rfl⟩ := madeR_form hM
        have HB6 := Aside0.mk (below_step HB5.out hM.1)
        obtain ⟨S, A8, B8, c8, d8, r, he, he2, hc8, hd8, hC8, hD8, -⟩ := made_rr HM5.out hM
        simp only [Ending.returned.injEq, Value.tuple.injEq, Array.mk.injEq, List.cons.injEq, Value.slice.injEq, Value.int.injEq, Value.bool.injEq, and_true, true_and] at he he2
        obtain ⟨⟨e51, e52, e53⟩, e54⟩ := he
        obtain ⟨⟨e61, e62, e63⟩, e64⟩ := he2
        subst e52 e54 e62 e64 e51 e53 e61 e63
        have HCX : Aside0 (∀ W, Below w6.heap.size w6 W → Kd.C k47 W A5 S.length S) := ⟨fun W h => Kd.C_below (Kd.C_below hC8 hM.1) h⟩
        have HCY : Aside0 (∀ W, Below w6.heap.size w6 W → Kd.C k47 W A6 S.length S) := ⟨fun W h => Kd.C_below hD8 h⟩
        have HCC := Aside0.mk hc8; have HCD := Aside0.mk hd8
        have HV6 : Aside0 (Below w6.heap.size w6 w6) := ⟨Below.refl _ _⟩
        clear hM hc8 hd8 hC8 hD8 HM5
        go_wp2_with fail
        refine (HOA.out w6 HB6.out).mono ?_
        rintro e w7 ⟨A7, c7, rfl, hc7, hC7, hb7⟩
        have HB7 := Aside0.mk (below_step HB6.out hb7); have HV7 := Aside0.mk (below_step HV6.out hb7); have HC7 := Aside0.mk hC7
        clear hb7 hC7 hc7
        go_wp2_with fail
        refine (HOB.out w7 HB7.out).mono ?_
        rintro e w8 ⟨A8, c8, rfl, hc8, hC8, hb8⟩
        have HB8 := Aside0.mk (below_step HB7.out hb8); have HV8 := Aside0.mk (below_step HV7.out hb8); have HC8 := Aside0.mk hC8; have HC78 := Aside0.mk (Kd.C_below HC7.out hb8)
        clear hb8 hC8 hc8
        go_wp2_with fail
        refine (join_calls A7 c7 a A8 c8 b HAB.out (fun x hx => by rcases List.mem_append.1 hx with h | h; (have := HSZ.out x h; omega); (have := HSZB.out x h; omega)) w8 HC78.out HC8.out).mono ?_
        intro e w9 hJ0
        have hJ := joined_toR hJ0
        clear hJ0
        obtain ⟨A9, n9, c9, ok9, rfl⟩ := joinedR_form hJ
        have HB9 := Aside0.mk (below_step HB8.out hJ.1); have HV9 := Aside0.mk (below_step HV8.out hJ.1); have HJ9 := Aside0.mk hJ
        clear hJ
        go_wp2_with fail
        refine (rjoin_calls A c a A2 c2 b HAB.out HC.out (fun x hx => by rcases List.mem_append.1 hx with h | h; exact HSZ.out x h; exact HSZB.out x h) w9 (Kd.C_below HR.out HB9.out) (Kd.C_below HR2.out HB9.out)).mono ?_
        intro e w10 hJ
        obtain ⟨A10, n10, c10, ok10, rfl⟩ := joinedR_form hJ
        have HB10 := Aside0.mk (below_step HB9.out hJ.1); have HV10 := Aside0.mk (below_step HV9.out hJ.1)
        obtain ⟨S2, Aq, Bq, cq, dq, okq, he, he2, hcq, hdq, hCq, hDq⟩ := joined_pair HJ9.out hJ
        simp only [Ending.returned.injEq, Value.tuple.injEq, Array.mk.injEq, List.cons.injEq, Value.slice.injEq, Value.int.injEq, Value.bool.injEq, and_true, true_and] at he he2
        obtain ⟨⟨e51, e52, e53⟩, e54⟩ := he
        obtain ⟨⟨e61, e62, e63⟩, e64⟩ := he2
        subst e52 e54 e62 e64 e51 e53 e61 e63
        have HPX : Aside0 (∀ W, Below w10.heap.size w10 W → Kd.C k47 W A9 S2.length S2) := ⟨fun W h => Kd.C_below (Kd.C_below hCq hJ.1) h⟩
        have HPY : Aside0 (∀ W, Below w10.heap.size w10 W → Kd.C k47 W A10 S2.length S2) := ⟨fun W h => Kd.C_below hDq h⟩
        have HPC := Aside0.mk hcq; have HPD := Aside0.mk hdq
        have HU10 : Aside0 (Below w10.heap.size w10 w10) := ⟨Below.refl _ _⟩
        clear hJ hcq hdq hCq hDq HJ9
        go_wp2_with fail
        go_loopw [15] (fun x wr => ∃ i n : Nat, i + n = names.length ∧ x = .int .i64 i ∧ Aside0 (Below w.heap.size w wr) ∧ Aside0 (Below w6.heap.size w6 wr) ∧ Aside0 (Below w10.heap.size w10 wr)) (fun x _ => names.length - (intOf x).toNat)
        case atStart => exact ⟨0, names.length, by omega, rfl, HB10, HV10, HU10⟩
        case round =>
          obtain ⟨i, n, hin, rfl, HB, HV, HU⟩ := hrel
          cases n with
          | zero =>
            obtain rfl : i = names.length := by omega
            have hkk : ¬ ((names.length : Int) < (names.length : Int)) := by omega
            have hrr : (r6 == r6) = true := beq_self_eq_true _
            have hoo : (ok10 == ok10) = true := beq_self_eq_true _
            obtain ⟨K, hK⟩ : ∃ K, K = keyS a := ⟨_, rfl⟩
            obtain ⟨D, hD⟩ : ∃ D, D = cmpL a b := ⟨_, rfl⟩
            have hKK : (K.toList == K.toList) = true := beq_self_eq_true _
            have hDD : (D == D) = true := beq_self_eq_true _
            have HKS : Aside0 (∀ x ∈ a, x.f0.size ≤ 1000 ∧ x.f1.size ≤ 1000) := ⟨fun x hx => by have := badL_name (by simpa using List.any_eq_false.1 HA.out.2.2 x hx); omega⟩
            have HKP : Aside0 (∀ x ∈ a, x.f0.size ≤ 1000 ∧ x.f1.size ≤ 1000 ∧ 0 < x.f0.size) := ⟨fun x hx => by
              have h := badL_name (by simpa using List.any_eq_false.1 HA.out.2.2 x hx)
              have h1 := h.1
              unfold nmOK at h1
              simp only [Bool.and_eq_true, decide_eq_true_iff] at h1
              omega⟩
            have HK1 : Aside0 (∀ W, Below w.heap.size w W → Calls Tryz.prog 26 #[.slice A a.length c] W fun e w' => e = .returned (.string K) ∧ Below W.heap.size W w') := ⟨fun W h => by rw [hK]; exact key_calls A c a (by have := HAB.out; omega) HKS.out W (Kd.C_below HR.out h)⟩
            have HK2 : Aside0 (∀ W, Below w.heap.size w W → Calls Tryz.prog 34 #[.slice A a.length c] W fun e w' => e = .returned (.string K) ∧ Below W.heap.size W w') := ⟨fun W h => by rw [hK]; exact rkey_calls A c a (by have := HAB.out; omega) HKP.out W (Kd.C_below HR.out h)⟩
            have HD1 : Aside0 (∀ W, Below w.heap.size w W → Calls Tryz.prog 27 #[.slice A a.length c, .slice A2 b.length c2] W fun e w' => e = .returned (.int .i64 D) ∧ Below W.heap.size W w') := ⟨fun W h => by rw [hD]; exact compareL_calls A c a A2 c2 b W (Kd.C_below HR.out h) (Kd.C_below HR2.out h)⟩
            have HD2 : Aside0 (∀ W, Below w.heap.size w W → Calls Tryz.prog 35 #[.slice A a.length c, .slice A2 b.length c2] W fun e w' => e = .returned (.int .i64 D) ∧ Below W.heap.size W w') := ⟨fun W h => by rw [hD]; exact rcompare_calls A c a A2 c2 b W (Kd.C_below HR.out h) (Kd.C_below HR2.out h)⟩
            obtain ⟨Lo, hLo⟩ : ∃ x, x = onlyL a names := ⟨_, rfl⟩
            obtain ⟨Lr, hLr⟩ : ∃ x, x = withoutL a names := ⟨_, rfl⟩
            have HON : Aside0 (∀ W B d, Below w.heap.size w W → Kd.C k47 W B a.length a → Calls Tryz.prog 23 #[.slice B a.length d, .slice An names.length cn] W fun e w' => ∃ A' c', e = .returned (.slice A' Lo.length c') ∧ Lo.length ≤ c' ∧ Kd.C k47 w' A' Lo.length Lo ∧ Below W.heap.size W w') := ⟨fun W B d h hB => by rw [hLo]; exact only_calls B d a An cn names W hB (by have := HA.out.2.1; omega) (Kd.C_below HRN.out h) HCN.out HN.out⟩
            have HWI : Aside0 (∀ W B d, Below w.heap.size w W → Kd.C k47 W B a.length a → Calls Tryz.prog 24 #[.slice B a.length d, .slice An names.length cn] W fun e w' => ∃ A' c', e = .returned (.slice A' Lr.length c') ∧ Lr.length ≤ c' ∧ Kd.C k47 w' A' Lr.length Lr ∧ Below W.heap.size W w') := ⟨fun W B d h hB => by rw [hLr]; exact without_calls B d a An cn names W hB (by have := HA.out.2.1; omega) (Kd.C_below HRN.out h) HCN.out HN.out⟩
            have HRO : Aside0 (∀ W, Below w.heap.size w W → Calls Tryz.prog 33 #[.slice A a.length c, .slice An names.length cn] W fun e w' => ∃ A' c', e = .returned (.slice A' Lo.length c') ∧ Lo.length ≤ c' ∧ Kd.C k47 w' A' Lo.length Lo ∧ Below W.heap.size W w') := ⟨fun W h => by rw [hLo]; exact ronly_calls A c a An cn names W (Kd.C_below HR.out h) HC.out (by have := HA.out.2.1; omega) (Kd.C_below HRN.out h) HCN.out HN.out⟩
            have HRW : Aside0 (∀ W, Below w.heap.size w W → Calls Tryz.prog 32 #[.slice A a.length c, .slice An names.length cn] W fun e w' => ∃ A' c', e = .returned (.slice A' Lr.length c') ∧ Lr.length ≤ c' ∧ Kd.C k47 w' A' Lr.length Lr ∧ Below W.heap.size W w') := ⟨fun W h => by rw [hLr]; exact rwithout_calls A c a An cn names W (Kd.C_below HR.out h) HC.out (by have := HA.out.2.1; omega) (Kd.C_below HRN.out h) HCN.out HN.out⟩
            clear hin hK hD hLo hLr
            go_wp2_with fail
            refine (same_calls A5 c5 S A6 c6 S wr (HCX.out _ HV.out) HCC.out (HCY.out _ HV.out) HCD.out).mono ?_
            rintro e w11 ⟨rfl, hb11⟩
            rw [(sameL_iff S S).2 rfl]
            have HB11 := Aside0.mk (below_step HB.out hb11); have HU11 := Aside0.mk (below_step HU.out hb11)
            clear hb11
            go_wp2_with fail
            refine (HNM.out w11 r6).mono ?_
            rintro e w12 ⟨rfl, hb12⟩
            have HB12 := Aside0.mk (below_step HB11.out hb12); have HU12 := Aside0.mk (below_step HU11.out hb12)
            clear hb12
            go_wp2_with fail
            refine (same_calls A9 c9 S2 A10 c10 S2 w12 (HPX.out _ HU12.out) HPC.out (HPY.out _ HU12.out) HPD.out).mono ?_
            rintro e w13 ⟨rfl, hb13⟩
            rw [(sameL_iff S2 S2).2 rfl]
            have HB13 := Aside0.mk (below_step HB12.out hb13)
            clear hb13
            go_wp2_with fail
            refine (HOA.out w13 HB13.out).mono ?_
            rintro e w14 ⟨A14, c14, rfl, hc14, hC14, hb14⟩
            have HB14 := Aside0.mk (below_step HB13.out hb14); have HC14 := Aside0.mk hC14
            clear hb14 hC14 hc14
            go_wp2_with fail
            refine (HWI.out w14 A14 c14 HB14.out HC14.out).mono ?_
            rintro e w15 ⟨A15, c15, rfl, hc15, hC15, hb15⟩
            have HB15 := Aside0.mk (below_step HB14.out hb15); have HC15 := Aside0.mk hC15; have HL15 := Aside0.mk hc15
            clear hb15 hC15 hc15
            go_wp2_with fail
            refine (HRW.out w15 HB15.out).mono ?_
            rintro e w16 ⟨A16, c16, rfl, hc16, hC16, hb16⟩
            have HB16 := Aside0.mk (below_step HB15.out hb16); have HC16 := Aside0.mk hC16; have HL16 := Aside0.mk hc16; have HC156 := Aside0.mk (Kd.C_below HC15.out hb16)
            clear hb16 hC16 hc16
            go_wp2_with fail
            refine (same_calls A15 c15 Lr A16 c16 Lr w16 HC156.out HL15.out HC16.out HL16.out).mono ?_
            rintro e w17 ⟨rfl, hb17⟩
            rw [(sameL_iff Lr Lr).2 rfl]
            have HB17 := Aside0.mk (below_step HB16.out hb17)
            clear hb17
            go_wp2_with fail
            refine (HOA.out w17 HB17.out).mono ?_
            rintro e w18 ⟨A18, c18, rfl, hc18, hC18, hb18⟩
            have HB18 := Aside0.mk (below_step HB17.out hb18); have HC18 := Aside0.mk hC18
            clear hb18 hC18 hc18
            go_wp2_with fail
            refine (HON.out w18 A18 c18 HB18.out HC18.out).mono ?_
            rintro e w19 ⟨A19, c19, rfl, hc19, hC19, hb19⟩
            have HB19 := Aside0.mk (below_step HB18.out hb19); have HC19 := Aside0.mk hC19; have HL19 := Aside0.mk hc19
            clear hb19 hC19 hc19
            go_wp2_with fail
            refine (HRO.out w19 HB19.out).mono ?_
            rintro e w20 ⟨A20, c20, rfl, hc20, hC20, hb20⟩
            have HB20 := Aside0.mk (below_step HB19.out hb20); have HC20 := Aside0.mk hC20; have HL20 := Aside0.mk hc20; have HC190 := Aside0.mk (Kd.C_below HC19.out hb20)
            clear hb20 hC20 hc20
            go_wp2_with fail
            refine (same_calls A19 c19 Lo A20 c20 Lo w20 HC190.out HL19.out HC20.out HL20.out).mono ?_
            rintro e w21 ⟨rfl, hb21⟩
            rw [(sameL_iff Lo Lo).2 rfl]
            have HB21 := Aside0.mk (below_step HB20.out hb21)
            clear hb21
            go_wp2_with fail
            refine (HK1.out w21 HB21.out).mono ?_
            rintro e w22 ⟨rfl, hb22⟩
            have HB22 := Aside0.mk (below_step HB21.out hb22)
            clear hb22
            go_wp2_with fail
            refine (HK2.out w22 HB22.out).mono ?_
            rintro e w23 ⟨rfl, hb23⟩
            have HB23 := Aside0.mk (below_step HB22.out hb23)
            clear hb23
            go_wp2_with fail
            refine (HD1.out w23 HB23.out).mono ?_
            rintro e w24 ⟨rfl, hb24⟩
            have HB24 := Aside0.mk (below_step HB23.out hb24)
            clear hb24
            go_wp2_with fail
            refine (HD2.out w24 HB24.out).mono ?_
            rintro e w25 ⟨rfl, hb25⟩
            have HB25 := Aside0.mk (below_step HB24.out hb25)
            clear hb25
            go_wp2_with fail
            refine (live_calls w25).mono ?_
            rintro e w26 ⟨rfl, hb26⟩
            have HB26 := Aside0.mk (below_step HB25.out hb26)
            clear hb26
            go_wp2_with fail
            go_ret
            exact ⟨rfl, HB26.out⟩
          | succ n =>
            have hlt : i < names.length := by omega
            have hki : (i : Int) < (names.length : Int) := by omega
            have hki0 : (0 : Int) ≤ (i : Int) := by omega
            have hCn := Kd.C_below HRN.out HB.out
            obtain ⟨ad, rfl⟩ : ∃ ad, An = some ad := by
              obtain ⟨ad, h, -⟩ := hCn.2.2 (by omega)
              exact ⟨ad, h⟩
            have hx0 := lstr_at hCn i hlt
            obtain ⟨nm, hnm⟩ : ∃ x, x = names[i] := ⟨_, rfl⟩
            rw [← hnm] at hx0
            obtain ⟨gv, hgv⟩ : ∃ g, g = getL a nm := ⟨_, rfl⟩
            have HIN := Aside0.mk hin; have HLT := Aside0.mk hlt
            obtain ⟨Jnv, hJnv⟩ : ∃ J : World → Prop, J = fun W' => Below wr.heap.size wr W' := ⟨_, rfl⟩
            have HJD : Aside0 (∀ W', Jnv W' → Below wr.heap.size wr W') := ⟨fun W' h => by rw [hJnv] at h; exact h⟩
            have HDJ : Aside0 (∀ W', Below wr.heap.size wr W' → Jnv W') := ⟨fun W' h => by rw [hJnv]; exact h⟩
            have HRF : Aside0 (∀ W : World, Below W.heap.size W W) := ⟨fun W => Below.refl _ _⟩
            have SF : Aside0 (∀ W', Jnv W' → W'.cell? (ad.add i) = some (.string nm)) := ⟨fun W' hW => pw_cell_below (HJD.out W' hW) hx0⟩
            have HCG : Aside0 (∀ W', Jnv W' → Calls Tryz.prog 25 #[.slice A a.length c, .string nm] W' fun e w' => e = .returned (.string gv) ∧ Jnv w' ∧ Below W'.heap.size W' w') := ⟨fun W' hW => by
              refine (get_calls A c a nm W' (Kd.C_below HR.out (below_step HB.out (HJD.out _ hW)))).mono ?_
              rintro e w' ⟨he, hb⟩
              exact ⟨by rw [he, hgv], HDJ.out _ (below_step (HJD.out _ hW) hb), hb⟩⟩
            have HCR : Aside0 (∀ W', Jnv W' → Calls Tryz.prog 31 #[.slice A a.length c, .string nm] W' fun e w' => e = .returned (.string gv) ∧ Jnv w' ∧ Below W'.heap.size W' w') := ⟨fun W' hW => by
              refine (rget_calls A c a nm W' (Kd.C_below HR.out (below_step HB.out (HJD.out _ hW))) HC.out).mono ?_
              rintro e w' ⟨he, hb⟩
              exact ⟨by rw [he, hgv], HDJ.out _ (below_step (HJD.out _ hW) hb), hb⟩⟩
            clear hJnv hx0 hin hlt hgv hnm hCn
            go_upto_region 10 with (fail)
            refine' wp_region_flow (by kernel_rfl) (by kernel_rfl) Jnv (fun W W' => Below W.heap.size W W') HRF.out (HDJ.out _ (by first | exact Below.refl _ _ | exact below_drew1 (Below.refl _ _) | exact pw_below_drewN (Below.refl _ _) _)) _ ?_
            rotate_left
            refine' Flow.val _ 0 (some 64) (Op.move (Operand.tmp 0)) 22 (none) [] _ rfl (by kernel_rfl) (by kernel_rfl) (by kernel_rfl) (by rfl) ?_ ?_ HRF.out
            rotate_left 2
            · (intro W hW hK; go_simp; first | done | with_reducible rfl)
            try simp only [Act.put, sA, sB, sC]
            refine' Flow.val _ 1 (some 65) (Op.move (Operand.tmp 2)) 41 (none) [] _ rfl (by kernel_rfl) (by kernel_rfl) (by kernel_rfl) (by rfl) ?_ ?_ HRF.out
            rotate_left 2
            · (intro W hW hK; go_simp; first | done | with_reducible rfl)
            try simp only [Act.put, sA, sB, sC]
            refine' Flow.val _ 2 (some 66) (Op.move (Operand.tmp 15)) 3 (none) [] _ rfl (by kernel_rfl) (by kernel_rfl) (by kernel_rfl) (by rfl) ?_ ?_ HRF.out
            rotate_left 2
            · (intro W hW hK; go_simp; first | done | with_reducible rfl)
            try simp only [Act.put, sA, sB, sC]
            refine' Flow.val _ 3 (some 67) (Op.indexAddr 41 (Operand.tmp 65) (Operand.tmp 66)) 0 (none) [] _ rfl (by kernel_rfl) (by kernel_rfl) (by kernel_rfl) (by rfl) ?_ ?_ HRF.out
            rotate_left 2
            · (intro W hW hK; have hF := SF.out W hW; go_simp; first | done | with_reducible rfl)
            try simp only [Act.put, sA, sB, sC]
            refine' Flow.val _ 4 (some 68) (Op.load 9 (Operand.tmp 67)) 9 (none) [] _ rfl (by kernel_rfl) (by kernel_rfl) (by kernel_rfl) (by rfl) ?_ ?_ HRF.out
            rotate_left 2
            · (intro W hW hK; have hF := SF.out W hW; go_simp; first | done | with_reducible rfl)
            try simp only [Act.put, sA, sB, sC]
            refine' Flow.call _ 5 (some 69) (Op.call { callee := Callee.value (Operand.func 25), args := #[Operand.tmp 64, Operand.tmp 68], argTypes := #[22, 9] }) 9 (none) [] _ 25 _ rfl (by kernel_rfl) (by kernel_rfl) (by kernel_rfl) (by rfl) ?_ ?_ ?_
            rotate_left 3
            · (intro W; go_simp; first | done | with_reducible rfl)
            · (intro W hW hK; refine (HCG.out W hW).mono ?_; intro e w' h; exact h)
            try simp only [Act.put, sA, sB, sC]
            refine' Flow.val _ 6 (some 70) (Op.move (Operand.tmp 0)) 22 (none) [] _ rfl (by kernel_rfl) (by kernel_rfl) (by kernel_rfl) (by rfl) ?_ ?_ HRF.out
            rotate_left 2
            · (intro W hW hK; go_simp; first | done | with_reducible rfl)
            try simp only [Act.put, sA, sB, sC]
            refine' Flow.val _ 7 (some 71) (Op.move (Operand.tmp 2)) 41 (none) [] _ rfl (by kernel_rfl) (by kernel_rfl) (by kernel_rfl) (by rfl) ?_ ?_ HRF.out
            rotate_left 2
            · (intro W hW hK; go_simp; first | done | with_reducible rfl)
            try simp only [Act.put, sA, sB, sC]
            refine' Flow.val _ 8 (some 72) (Op.move (Operand.tmp 15)) 3 (none) [] _ rfl (by kernel_rfl) (by kernel_rfl) (by kernel_rfl) (by rfl) ?_ ?_ HRF.out
            rotate_left 2
            · (intro W hW hK; go_simp; first | done | with_reducible rfl)
            try simp only [Act.put, sA, sB, sC]
            refine' Flow.val _ 9 (some 73) (Op.indexAddr 41 (Operand.tmp 71) (Operand.tmp 72)) 0 (none) [] _ rfl (by kernel_rfl) (by kernel_rfl) (by kernel_rfl) (by rfl) ?_ ?_ HRF.out
            rotate_left 2
            · (intro W hW hK; have hF := SF.out W hW; go_simp; first | done | with_reducible rfl)
            try simp only [Act.put, sA, sB, sC]
            refine' Flow.val _ 10 (some 74) (Op.load 9 (Operand.tmp 73)) 9 (none) [] _ rfl (by kernel_rfl) (by kernel_rfl) (by kernel_rfl) (by rfl) ?_ ?_ HRF.out
            rotate_left 2
            · (intro W hW hK; have hF := SF.out W hW; go_simp; first | done | with_reducible rfl)
            try simp only [Act.put, sA, sB, sC]
            refine' Flow.call _ 11 (some 75) (Op.call { callee := Callee.value (Operand.func 31), args := #[Operand.tmp 70, Operand.tmp 74], argTypes := #[22, 9] }) 9 (none) [] _ 31 _ rfl (by kernel_rfl) (by kernel_rfl) (by kernel_rfl) (by rfl) ?_ ?_ ?_
            rotate_left 3
            · (intro W; go_simp; first | done | with_reducible rfl)
            · (intro W hW hK; refine (HCR.out W hW).mono ?_; intro e w' h; exact h)
            try simp only [Act.put, sA, sB, sC]
            refine' Flow.val _ 12 (some 76) (Op.binOp BinOp.neq 9 (Operand.tmp 69) (Operand.tmp 75) 9) 4 (none) [] _ rfl (by kernel_rfl) (by kernel_rfl) (by kernel_rfl) (by rfl) ?_ ?_ HRF.out
            rotate_left 2
            · (intro W hW hK; go_simp; first | done | with_reducible rfl)
            try simp only [Act.put, sA, sB, sC]
            refine Flow.done _ (by kernel_rfl) ?_
            intro W5 hW hK
            have HBW := Aside0.mk (below_step HB.out (HJD.out _ hW)); have HVW := Aside0.mk (below_step HV.out (HJD.out _ hW)); have HUW := Aside0.mk (below_step HU.out (HJD.out _ hW))
            have hgg : (gv.toList == gv.toList) = true := beq_self_eq_true _
            clear hK hW SF HCG HCR HJD HDJ HRF
            go_wp2_with fail
            go_roundw
            case rel => exact ⟨i + 1, n, by have := HIN.out; omega, by go_num, HBW, HVW, HUW⟩
            case measure => (have := HLT.out; simp [intOf]; try omega)
      · have hgt : decide ((60 : Int) < (names.length : Int)) = true := decide_eq_true (by omega)
        go_wp2_with fail
        refine (live_calls w2).mono ?_
        rintro e w3 ⟨rfl, hb3⟩
        have HB3 := Aside0.mk (below_step HB2.out hb3)
        clear hb3
        go_wp2_with fail
        go_ret
        exact ⟨rfl, HB3.out⟩
end Go.Proofs.YtjhgckpcadngaaaGreatK
