/- Labels: appends of labels, Make on both sides, the reference's Make walked. -/
import Derived.Test.YtjhgckpcadngaaaGreatPLAx0
import Derived.Test.YtjhgckpcadngaaaGreatPLAx1
import Derived.Test.YtjhgckpcadngaaaGreatPLAx2
import Derived.Test.YtjhgckpcadngaaaGreatPLAx3
import Derived.Test.YtjhgckpcadngaaaGreatKFlow3
import Derived.Test.YtjhgckpcadngaaaGreatKFlow4
import Derived.Test.YtjhgckpcadngaaaGreatKJoin
import Derived.Test.YtjhgckpcadngaaaGreatKEv
import Derived.Test.YtjhgckpcadngaaaGreatKOpen
import Derived.Lib.SlBytesConst
import Derived.Lib.Bytes
import Derived.Deep.RegionWith
import Derived.Deep.QuietTactic
import Derived.Deep.RegionHeld3
import Derived.BigQuiet
import Derived.Outline
import Derived.Deep.WholeRow
import Derived.Lib.SliceRun
import Derived.Lib.LazyBuf
import Derived.Lib.ConvBytes
import Derived.Laws.Cover1
import Derived.Laws.CopyOwn
import Derived.Lib.Strings
import Derived.Lib.Slices
import Derived.Lib.Walk
import Derived.Lib.Bytealg
import Derived.Tactics
import Derived.Tactics2
import Derived.Defers
import Derived.Laws.Pointers
import Derived.Laws.LoneSync
import Derived.RegionTactic
import Derived.RegionCalls
import Derived.ChangeAlike
import Derived.Test.YtjhgckpcadngaaaGreatKLabA
import Derived.Test.YtjhgckpcadngaaaGreatKLabB
import Derived.Test.YtjhgckpcadngaaaGreatKLabC
import Derived.Test.YtjhgckpcadngaaaGreatKFrm
import Derived.Test.YtjhgckpcadngaaaGreatKSrt
import Derived.Test.YtjhgckpcadngaaaGreatKSrtN
import Derived.Test.YtjhgckpcadngaaaGreatKLabF
import Derived.Test.YtjhgckpcadngaaaGreatKLabG
import Derived.Test.YtjhgckpcadngaaaGreatKLabH
import Derived.Test.YtjhgckpcadngaaaGreatKLabI
import Derived.Test.YtjhgckpcadngaaaGreatKLabJ
import Derived.Test.YtjhgckpcadngaaaGreatKLabK
import Derived.Test.YtjhgckpcadngaaaGreatKLabL
import Derived.Test.YtjhgckpcadngaaaGreatKLabM
import Derived.Test.YtjhgckpcadngaaaGreatKLabN
import Derived.Test.YtjhgckpcadngaaaGreatKLabP
import Derived.Test.YtjhgckpcadngaaaGreatPLAx6
import Derived.Test.YtjhgckpcadngaaaGreatPLAx4
import Derived.Test.YtjhgckpcadngaaaGreatKLabE
namespace Go.Proofs.YtjhgckpcadngaaaGreatK
open Go.RowKit Go.Proofs.YtjhgckpcadngaaaGreatW.PrintWords Go.Proofs.YtjhgckpcadngaaaGreatW.PrintLast Go.Proofs.YtjhgckpcadngaaaGreatW.PrintMore
open Go.Proofs.YtjhgckpcadngaaaGreat.PLA Go.Proofs.YtjhgckpcadngaaaGreat Go.Proofs.YtjhgckpcadngaaaGreatSrt
attribute [local go_sem] max2_int min2_int max_two min_two max_three min_three max_four min_four
set_option linter.unusedVariables false
set_option linter.unusedSimpArgs false
theorem infoLL : (Tryz.prog.info? 47).map (fun i => (i.zero, i.size, i.bytes)) = some (some (.agg #[.string ⟨#[]⟩, .string ⟨#[]⟩]), 2, 32) := by kernel_rfl
theorem append_runL (W : World) (base : Nat) (ty : TypeId) (v : Value) (xs ys : List S47) (A : Option Addr) (c : Nat) (HO : Kd.R k47 47 W base (fun _ => True) v xs) (HR : Kd.C k47 W A ys.length ys) (hbase : base ≤ W.heap.size) (hl : (xs.length + ys.length) * 32 ≤ 140737488355328) :
    ∃ v1 w1, (Builtin.append_ #[22, 22] ty #[v, .slice A ys.length c]).run Tryz.prog W = .ok v1 w1 ∧ Kd.R k47 47 w1 base (fun _ => True) v1 (xs ++ ys) ∧ W.grownBy w1 v.ownBlock ∧ (v1.ownBlock = v.ownBlock ∨ ∃ b, v1.ownBlock = some b ∧ W.heap.size ≤ b) := by
  have h := Kd.R_append_rows_step (P := Tryz.prog) (ops := #[]) (o := { dst := some 0, op := .call { callee := .builtin .append, args := #[.tmp 0, .tmp 1], argTypes := #[22, 22] }, type := ty, pos := "", after := #[], guard := none }) (a := { tmps := #[v, .slice A ys.length c], defers := [] }) (Q := fun _ _ _ => False)
    (Kc := fun a' w1 => ∃ v1, a'.tmps[0]? = some v1 ∧ Kd.R k47 47 w1 base (fun _ => True) v1 (xs ++ ys) ∧ W.grownBy w1 v.ownBlock ∧ (v1.ownBlock = v.ownBlock ∨ ∃ b, v1.ownBlock = some b ∧ W.heap.size ≤ b))
    k47 (w0 := W) base rfl (.tmp 0) (.tmp 1) 22 47 (.agg #[.string ⟨#[]⟩, .string ⟨#[]⟩]) 32 rfl Tryz.underlying22 infoLL rfl (by decide) (by decide) v xs ys A ys.length c (fun _ => True) (fun _ => False) rfl rfl HO HR (fun _ _ h => h) (fun _ hk => hk.elim) (fun _ _ => trivial) ((Below.refl _ _).mono hbase) hbase (by omega)
    (fun v1 w1 h1 h2 h3 h4 => ⟨v1, rfl, h1, h3, h4⟩)
  rw [if_pos (show Region.wanted _ _ = true from rfl)] at h
  unfold Oper.wp at h
  obtain ⟨a, ha⟩ : ∃ a : Act, a = { tmps := #[v, .slice A ys.length c], defers := [] } := ⟨_, rfl⟩
  have e0 : a.eval (.tmp 0) = v := by rw [ha]; rfl
  have e1 : a.eval (.tmp 1) = .slice A ys.length c := by rw [ha]; rfl
  have e2 : ∀ u : Value, (a.put (some 0) u).tmps[0]? = some u := fun u => by rw [ha]; rfl
  rw [← ha] at h
  clear ha
  cases hb : (Builtin.append_ #[22, 22] ty #[v, .slice A ys.length c]).run Tryz.prog W with
  | ok v1 w1 =>
    have he : ∀ o : Oper, o.op = .call { callee := .builtin .append, args := #[.tmp 0, .tmp 1], argTypes := #[22, 22] } → o.type = ty → (execOp a.eval o).run Tryz.prog W = .ok (.value v1) w1 := fun o h1 h2 => by
      simp [execOp, resolve, invoke, builtin, h1, h2, e0, e1, hb]
    rw [he _ rfl rfl, Oper.upon_value] at h
    obtain ⟨u, hu, h1, h2, h3⟩ := h
    obtain rfl : v1 = u := Option.some.inj ((e2 v1).symm.trans hu)
    exact ⟨_, _, rfl, h1, h2, h3⟩
  | halt hh w1 =>
    exfalso
    have he : ∀ o : Oper, o.op = .call { callee := .builtin .append, args := #[.tmp 0, .tmp 1], argTypes := #[22, 22] } → o.type = ty → (execOp a.eval o).run Tryz.prog W = .halt hh w1 := fun o h1 h2 => by
      simp [execOp, resolve, invoke, builtin, h1, h2, e0, e1, hb]
    rw [he _ rfl rfl] at h
    cases hh <;> simp [Oper.upon, LetsOut] at h
theorem append_nothingL (W : World) (ty : TypeId) (g : Nat) (A : Option Addr) (c : Nat) : (Builtin.append_ #[22, 22] ty #[.slice (some ⟨g, 0, none⟩) 0 0, .slice A 0 c]).run Tryz.prog W = .ok (.slice (some ⟨g, 0, none⟩) 0 0) W := by
  obtain ⟨i, hi, hzz⟩ := Option.map_eq_some_iff.1 infoLL
  cases A <;> simp [Builtin.append_, run_underlying Tryz.underlying22, sizeOf, typeInfo, hi, storeCells, loadCellsFrom, Builtin.lenOf, Builtin.firstCells, loadCells]
theorem empty_RL {W : World} {g base : Nat} (h : W.heap[g]? = some (.cells #[] 47 (0, 0))) (hb : base ≤ g) : Kd.R k47 47 W base (fun _ => True) (.slice (some ⟨g, 0, none⟩) 0 0) [] :=
  ⟨fun k hk => trivial, [], ⟨rfl, .inr ⟨g, 0, #[], rfl, hb, h, Nat.le_refl _, by simp [maxLen], rfl, rfl⟩⟩, Reps.none _ _⟩
theorem append_emptyL (W : World) (base : Nat) (ty : TypeId) (g : Nat) (ys : List S47) (A : Option Addr) (c : Nat) (h0 : W.heap[g]? = some (.cells #[] 47 (0, 0))) (hg : base ≤ g) (hbase : base ≤ W.heap.size) (HR : Kd.C k47 W A ys.length ys) (hl : ys.length ≤ 1000000) :
    ∃ v1 w1, (Builtin.append_ #[22, 22] ty #[.slice (some ⟨g, 0, none⟩) 0 0, .slice A ys.length c]).run Tryz.prog W = .ok v1 w1 ∧ Kd.R k47 47 w1 base (fun _ => True) v1 ys ∧ Below W.heap.size W w1 := by
  by_cases hy : ys.length = 0
  · obtain rfl := List.length_eq_zero_iff.1 hy
    exact ⟨_, _, append_nothingL W ty g A c, empty_RL h0 hg, Below.refl _ _⟩
  obtain ⟨v1, w1, h1, h2, _, _⟩ := append_runL W base ty (.slice (some ⟨g, 0, none⟩) 0 0) [] ys A c (empty_RL h0 hg) HR hbase (by simp; omega)
  obtain ⟨i, hi, hzz⟩ := Option.map_eq_some_iff.1 infoLL
  simp only [Prod.mk.injEq] at hzz
  obtain ⟨hz, hsz, hby⟩ := hzz
  obtain ⟨ad, rfl, -⟩ := HR.2.2 (by omega)
  obtain ⟨inner, hrep, hcell⟩ := ReadsRow.inner_ HR
  have hr := run_append_grow (P := Tryz.prog) W 22 ty 47 i (.agg #[.string ⟨#[]⟩, .string ⟨#[]⟩]) Tryz.underlying22 hi hz ⟨g, 0, none⟩ 0 0 [] (by simp) (by intro j v hj; simp at hj) ad ys.length c inner (by rw [hrep.1, hsz]; rfl)
    hcell (by omega) (by omega) (growslice_fits (by omega) (by rw [hby]; omega))
  rw [h1] at hr
  injection hr with e1 e2
  refine ⟨v1, w1, h1, by simpa using h2, ?_⟩
  rw [e2]
  exact below_alloc (below_drew (Below.refl _ _)) _
theorem exec_appendL {ρ : Operand → Value} {s x : Nat} {ty : TypeId} {g : Option (Nat × Bool)} {v u v1 : Value} {w w1 : World} (hs : ρ (.tmp s) = v) (hx : ρ (.tmp x) = u) (h : (Builtin.append_ #[22, 22] ty #[v, u]).run Tryz.prog w = .ok v1 w1) :
    (execOp ρ (opOf (.call { callee := .builtin .append, args := #[.tmp s, .tmp x], argTypes := #[22, 22] }) ty g)).run Tryz.prog w = .ok (.value v1) w1 := by
  simp [execOp, resolve, invoke, builtin, opOf, hs, hx, h]
theorem exec_build0L {ρ : Operand → Value} {ty : TypeId} {g : Option (Nat × Bool)} {w : World} :
    (execOp ρ (opOf (.buildSlice 22 0 #[]) ty g)).run Tryz.prog w = .ok (.value (.slice (some ⟨w.heap.size, 0, none⟩) 0 0)) (w.alloc (.cells #[] 47)) := by
  have h5 := Tryz.underlying22
  obtain ⟨i, hi, hzz⟩ := Option.map_eq_some_iff.1 infoLL
  simp only [Prod.mk.injEq] at hzz
  obtain ⟨hz, hsz, hby⟩ := hzz
  simp [execOp, opOf, Instr.buildSlice, go_sem, h5, hi, hz, hsz, newRow]
theorem exec_build1L {ρ : Operand → Value} {x : Nat} {s0 s1 : ByteArray} {ty : TypeId} {g : Option (Nat × Bool)} {w : World} (hx : ρ (.tmp x) = .agg #[.string s0, .string s1]) :
    (execOp ρ (opOf (.buildSlice 22 1 #[(0, .tmp x)]) ty g)).run Tryz.prog w = .ok (.value (.slice (some ⟨w.heap.size, 0, none⟩) 1 1)) (w.alloc (.cells #[.string s0, .string s1] 47)) := by
  have h5 := Tryz.underlying22
  obtain ⟨i, hi, hzz⟩ := Option.map_eq_some_iff.1 infoLL
  simp only [Prod.mk.injEq] at hzz
  obtain ⟨hz, hsz, hby⟩ := hzz
  simp [execOp, opOf, Instr.buildSlice, go_sem, h5, hi, hz, hsz, newRow, hx, Value.cells]
theorem addr_zero (A : Option Addr) : A.map (·.add 0) = A := by
  cases A with
  | none => rfl
  | some ad => obtain ⟨x, y, z⟩ := ad; cases z <;> simp [Addr.add]
theorem exec_sliceTo {ρ : Operand → Value} {s t : Tmp} {A : Option Addr} {n c k : Nat} {ty : TypeId} {g : Option (Nat × Bool)} (W : World) (hs : ρ (.tmp s) = .slice A n c) (ht : ρ (.tmp t) = .int .i64 (k : Int)) (hk : k ≤ c) :
    (execOp ρ (opOf (.slice 22 (.tmp s) none (some (.tmp t)) none) ty g)).run Tryz.prog W = .ok (.value (.slice A k c)) W := by
  have h5 := Tryz.underlying22
  obtain ⟨i, hi, hzz⟩ := Option.map_eq_some_iff.1 infoLL
  simp only [Prod.mk.injEq] at hzz
  obtain ⟨hz, hsz, hby⟩ := hzz
  simp [execOp, opOf, go_sem, h5, hs, ht, hi, hsz, hk, sliced]
theorem exec_sliceFrom {ρ : Operand → Value} {s t : Tmp} {A : Option Addr} {n c k : Nat} {ty : TypeId} {g : Option (Nat × Bool)} (W : World) (hs : ρ (.tmp s) = .slice A n c) (ht : ρ (.tmp t) = .int .i64 (k : Int)) (hk : k ≤ n) (hn : n ≤ c) :
    (execOp ρ (opOf (.slice 22 (.tmp s) (some (.tmp t)) none none) ty g)).run Tryz.prog W = .ok (.value (.slice (if c = k then A else A.map (·.add (k * 2))) (n - k) (c - k))) W := by
  have h5 := Tryz.underlying22
  obtain ⟨i, hi, hzz⟩ := Option.map_eq_some_iff.1 infoLL
  simp only [Prod.mk.injEq] at hzz
  obtain ⟨hz, hsz, hby⟩ := hzz
  simp [execOp, opOf, go_sem, h5, hs, ht, hi, hsz, hk, sliced]
theorem cut_from (A5 : Option Addr) (c5 : Nat) (out : List S47) (K : Nat) (hk : K ≤ out.length) (hc : out.length ≤ c5) : ∃ (AD : Option Addr) (cd : Nat), (∀ (ρ : Operand → Value) (W : World) (s t : Tmp) (ty : TypeId) (g : Option (Nat × Bool)), ρ (.tmp s) = .slice A5 out.length c5 → ρ (.tmp t) = .int .i64 (K : Int) → (execOp ρ (opOf (.slice 22 (.tmp s) (some (.tmp t)) none none) ty g)).run Tryz.prog W = .ok (.value (.slice AD (out.drop K).length cd)) W) ∧ (∀ W, Kd.C k47 W A5 out.length out → Kd.C k47 W AD (out.drop K).length (out.drop K)) :=
  ⟨if c5 = K then A5 else A5.map (·.add (K * 2)), c5 - K, fun ρ W s t ty g hs ht => by rw [List.length_drop]; exact exec_sliceFrom W hs ht hk hc, fun W h => Kd.C_drop h hk hc⟩
theorem cut_to (A5 : Option Addr) (c5 : Nat) (out : List S47) (K : Nat) (hk : K ≤ out.length) (hc : out.length ≤ c5) : (∀ (ρ : Operand → Value) (W : World) (s t : Tmp) (ty : TypeId) (g : Option (Nat × Bool)), ρ (.tmp s) = .slice A5 out.length c5 → ρ (.tmp t) = .int .i64 (K : Int) → (execOp ρ (opOf (.slice 22 (.tmp s) none (some (.tmp t)) none) ty g)).run Tryz.prog W = .ok (.value (.slice A5 (out.take K).length c5)) W) ∧ (∀ W, Kd.C k47 W A5 out.length out → Kd.C k47 W A5 (out.take K).length (out.take K)) :=
  ⟨fun ρ W s t ty g hs ht => by rw [List.length_take, Nat.min_eq_left hk]; exact exec_sliceTo W hs ht (Nat.le_trans hk hc), fun W h => Kd.C_take h hk⟩
theorem row_one_any (w : World) (x : S47) : Kd.C k47 (w.alloc (.cells #[.string x.f0, .string x.f1] 47)) (some ⟨w.heap.size, 0, none⟩) 1 [x] := row_one w x
def ltN (x y : S47) : Prop := cmpN x y < 0
instance ltN_dec (x y : S47) : Decidable (ltN x y) := inferInstanceAs (Decidable (cmpN x y < 0))
theorem ltN_irr {x y : S47} (h : ltN x y) (h2 : ltN y x) : False := by
  unfold ltN cmpN at *
  have := cb_neg x.f0.data.toList y.f0.data.toList
  omega
theorem ltN_le {x y z : S47} (h1 : ltN x y) (h2 : leN y z) : ltN x z := by
  have h3 : cmpN x z ≤ 0 := leN_trans x y z (leN_of_lt h1) h2
  by_cases h0 : cmpN x z = 0
  · exfalso
    have e : x.f0.data.toList = z.f0.data.toList := cb_zero _ _ h0
    unfold ltN cmpN at h1
    unfold leN cmpN at h2
    rw [← e] at h2
    have := cb_neg x.f0.data.toList y.f0.data.toList
    omega
  · unfold ltN; omega
theorem ltN_trans {x y z : S47} (h1 : ltN x y) (h2 : ltN y z) : ltN x z := ltN_le h1 (leN_of_lt h2)
theorem ltN_ne {x y : S47} (h : ltN x y) : x.f0.toList ≠ y.f0.toList := fun e => by
  rw [tl_data, tl_data] at e
  unfold ltN cmpN at h
  rw [e, cb_self] at h
  omega
theorem ltN_trich {x y : S47} (h1 : ¬ ltN x y) (h2 : x.f0.toList ≠ y.f0.toList) : ltN y x := by
  unfold ltN cmpN at *
  rw [tl_data, tl_data] at h2
  have := cb_neg x.f0.data.toList y.f0.data.toList
  by_cases h0 : Lib.compareBytes x.f0.data.toList y.f0.data.toList = 0
  · exact absurd (cb_zero _ _ h0) h2
  · omega
theorem less_ltN (x y : S47) : Op.bytesLess x.f0.toList y.f0.toList = decide (ltN x y) := by
  rw [less_cb, tl_data, tl_data]; rfl
theorem ins_pair {out : List S47} {x : S47} {k : Nat} (hp : out.Pairwise ltN) (h1 : ∀ y ∈ out.take k, ltN y x) (h2 : ∀ y, out[k]? = some y → ltN x y) : (out.take k ++ [x] ++ out.drop k).Pairwise ltN := by
  have h3 : ∀ y ∈ out.drop k, ltN x y := by
    intro y hy
    by_cases hlt : k < out.length
    · have h2 := h2 out[k] (List.getElem?_eq_getElem hlt)
      rw [List.drop_eq_getElem_cons hlt] at hy
      rcases List.mem_cons.1 hy with rfl | hy
      · exact h2
      · have h4 : (out.drop k).Pairwise ltN := hp.sublist (List.drop_sublist _ _)
        rw [List.drop_eq_getElem_cons hlt] at h4
        exact ltN_trans h2 ((List.pairwise_cons.1 h4).1 y hy)
    · rw [List.drop_of_length_le (by omega)] at hy; cases hy
  rw [List.append_assoc, List.pairwise_append]
  refine ⟨hp.sublist (List.take_sublist _ _), ?_, ?_⟩
  · rw [List.singleton_append, List.pairwise_cons]; exact ⟨h3, hp.sublist (List.drop_sublist _ _)⟩
  · intro a ha b hb
    rw [List.singleton_append] at hb
    rcases List.mem_cons.1 hb with rfl | hb
    · exact h1 a ha
    · exact ltN_trans (h1 a ha) (h3 b hb)
theorem ins_perm {out m : List S47} {x : S47} {k : Nat} (h : out.Perm m) : (out.take k ++ [x] ++ out.drop k).Perm (m ++ [x]) := by
  have h1 : (out.take k ++ [x] ++ out.drop k).Perm (x :: (out.take k ++ out.drop k)) := by
    rw [List.append_assoc, List.singleton_append]; exact List.perm_middle
  rw [List.take_append_drop] at h1
  exact h1.trans ((h.cons x).trans (List.perm_append_singleton x m).symm)
def neN (x y : S47) : Prop := x.f0.toList ≠ y.f0.toList
theorem dup_not {l : List S47} {i : Nat} (hi : i < l.length) {y : S47} (hy : y ∈ l.take i) (e : y.f0.toList = l[i].f0.toList) : ¬ l.Pairwise neN := by
  intro hp
  have h : (l.take i ++ l.drop i).Pairwise neN := by rw [List.take_append_drop]; exact hp
  rw [List.pairwise_append] at h
  exact h.2.2 y hy l[i] (by rw [List.drop_eq_getElem_cons hi]; exact List.mem_cons_self) e
theorem dup_pair {S : List S47} (h : dupL S) : ¬ S.Pairwise neN := by
  intro hp
  obtain ⟨j, h1, h2, h3⟩ := h
  obtain ⟨j, rfl⟩ : ∃ i, j = i + 1 := ⟨j - 1, by omega⟩
  have h4 := List.pairwise_iff_getElem.1 hp j (j + 1) (by omega) h2 (by omega)
  unfold eqAt at h3
  rw [Nat.add_sub_cancel, List.getElem?_eq_getElem h2, List.getElem?_eq_getElem (by omega : j < S.length)] at h3
  unfold neN at h4
  simp [seq] at h3
  exact h4 h3.symm
theorem sort_pair {S : List S47} (hs : SortR leN 0 S.length S) (hd : ¬ dupL S) : S.Pairwise ltN := by
  rw [List.pairwise_iff_getElem]
  intro i j hi hj hij
  have h1 : ltN S[i] S[i + 1] := by
    have h2 : leN S[i] S[i + 1] := hs i (i + 1) _ _ (by omega) (by omega) (by omega) (List.getElem?_eq_getElem hi) (List.getElem?_eq_getElem (by omega))
    by_cases h0 : cmpN S[i] S[i + 1] = 0
    · exfalso
      apply hd
      refine ⟨i + 1, by omega, by omega, ?_⟩
      have e : S[i].f0.data.toList = S[i + 1].f0.data.toList := cb_zero _ _ h0
      unfold eqAt
      rw [Nat.add_sub_cancel, List.getElem?_eq_getElem (by omega : i + 1 < S.length), List.getElem?_eq_getElem hi]
      simp [seq, tl_data, e]
    · unfold leN at h2; unfold ltN; omega
  by_cases hj1 : j = i + 1
  · subst hj1; exact h1
  · exact ltN_le h1 (hs (i + 1) j _ _ (by omega) (by omega) (by omega) (List.getElem?_eq_getElem (by omega)) (List.getElem?_eq_getElem hj))
theorem lt_ne_pair {S : List S47} (h : S.Pairwise ltN) : S.Pairwise neN := h.imp (fun h => ltN_ne h)
theorem ne_perm {S l : List S47} (h : S.Perm l) : S.Pairwise neN ↔ l.Pairwise neN := h.pairwise_iff (fun {x y} h e => h e.symm)
theorem lt_unique {S S' : List S47} (h1 : S.Pairwise ltN) (h2 : S'.Pairwise ltN) (h : S.Perm S') : S = S' := List.Perm.eq_of_pairwise (fun a b _ _ h1 h2 => (ltN_irr h1 h2).elim) h1 h2 h
/-- What the reference's Make answers. -/
def MadeR (w : World) (l : List S47) (e : Ending) (w' : World) : Prop :=
  Below w.heap.size w w' ∧
  ((l.any badL = true ∧ e = .returned (.tuple #[.slice none 0 0, .int .i64 90])) ∨
   (l.any badL = false ∧ ((¬ l.Pairwise neN ∧ e = .returned (.tuple #[.slice none 0 0, .int .i64 8])) ∨
     (∃ S : List S47, S.Perm l ∧ S.Pairwise ltN ∧ 16 < S.length ∧ e = .returned (.tuple #[.slice none 0 0, .int .i64 6])) ∨
     (∃ S : List S47, S.Perm l ∧ S.Pairwise ltN ∧ S.length ≤ 16 ∧ ∃ A c, e = .returned (.tuple #[.slice A S.length c, .int .i64 0]) ∧ S.length ≤ c ∧ Kd.C k47 w' A S.length S))))
/-- Both answer alike. -/
theorem made_both {w w2 : World} {l : List S47} {e e2 : Ending} {w' w2' : World} (h : MadeG w l e w') (h2 : MadeR w2 l e2 w2') : ∃ (S : List S47) (A B : Option Addr) (c d : Nat) (r : Int), e = .returned (.tuple #[.slice A S.length c, .int .i64 r]) ∧ e2 = .returned (.tuple #[.slice B S.length d, .int .i64 r]) ∧ S.length ≤ c ∧ S.length ≤ d ∧ Kd.C k47 w' A S.length S ∧ Kd.C k47 w2' B S.length S := by
  have hnil : ∀ W : World, Kd.C k47 W none ([] : List S47).length [] := fun W => ⟨rfl, by decide, fun h => by simp at h⟩
  obtain ⟨-, h⟩ := h
  obtain ⟨-, h2⟩ := h2
  rcases h with ⟨hb, rfl⟩ | ⟨hb, S, hp, hs, h⟩
  · rcases h2 with ⟨hb2, rfl⟩ | ⟨hb2, -⟩
    · exact ⟨[], none, none, 0, 0, 90, rfl, rfl, Nat.le_refl _, Nat.le_refl _, hnil _, hnil _⟩
    · rw [hb] at hb2; cases hb2
  · rcases h2 with ⟨hb2, -⟩ | ⟨hb2, h2⟩
    · rw [hb] at hb2; cases hb2
    · rcases h with ⟨hd, rfl⟩ | ⟨hd, hl, rfl⟩ | ⟨hd, hl, A, c, rfl, hc, hC⟩
      · have hn : ¬ l.Pairwise neN := fun h => dup_pair hd ((ne_perm hp).2 h)
        rcases h2 with ⟨-, rfl⟩ | ⟨S', hp', hs', -⟩ | ⟨S', hp', hs', -⟩
        · exact ⟨[], none, none, 0, 0, 8, rfl, rfl, Nat.le_refl _, Nat.le_refl _, hnil _, hnil _⟩
        · exact absurd ((ne_perm hp').1 (lt_ne_pair hs')) hn
        · exact absurd ((ne_perm hp').1 (lt_ne_pair hs')) hn
      · have hy : l.Pairwise neN := (ne_perm hp).1 (lt_ne_pair (sort_pair hs hd))
        have hlen := hp.length_eq
        rcases h2 with ⟨hn, -⟩ | ⟨S', hp', hs', hl', rfl⟩ | ⟨S', hp', hs', hl', -⟩
        · exact absurd hy hn
        · exact ⟨[], none, none, 0, 0, 6, rfl, rfl, Nat.le_refl _, Nat.le_refl _, hnil _, hnil _⟩
        · have := hp'.length_eq; omega
      · have hy : l.Pairwise neN := (ne_perm hp).1 (lt_ne_pair (sort_pair hs hd))
        have hlen := hp.length_eq
        rcases h2 with ⟨hn, -⟩ | ⟨S', hp', hs', hl', rfl⟩ | ⟨S', hp', hs', hl', B, d, rfl, hd2, hC2⟩
        · exact absurd hy hn
        · have := hp'.length_eq; omega
        · obtain rfl := lt_unique (sort_pair hs hd) hs' (hp.trans hp'.symm)
          exact ⟨S, A, B, c, d, 0, rfl, rfl, hc, hd2, hC, hC2⟩
theorem same_l0 (S : List S47) (hl : S.length ≤ 9223372036854775807) : ∀ (n i k : Nat), i + n = S.length → n + 1 ≤ k → klaxonref09_Same.l0 k S S (i : Int) = some true
  | 0, i, k, hi, hk => by
    obtain ⟨k, rfl⟩ : ∃ j, k = j + 1 := ⟨k - 1, by omega⟩
    unfold klaxonref09_Same.l0
    rw [if_neg (by omega)]
  | n + 1, i, k, hi, hk => by
    obtain ⟨k, rfl⟩ : ∃ j, k = j + 1 := ⟨k - 1, by omega⟩
    have ih := same_l0 S hl n (i + 1) k (by omega) (by omega)
    unfold klaxonref09_Same.l0
    rw [if_pos (by omega), if_pos (by omega), if_pos (by omega), show wrap64 ((i : Int) + 1) = ((i + 1 : Nat) : Int) by unfold wrap64; omega, ih, if_neg (by simp)]
theorem same_f (S : List S47) (hl : S.length ≤ 9223372036854775807) : klaxonref09_Same.f (S.length + 1) S S = some true := by
  unfold klaxonref09_Same.f
  rw [if_pos rfl]
  exact same_l0 S hl S.length 0 _ (by omega) (Nat.le_refl _)
set_option maxHeartbeats 2000000 in
set_option maxRecDepth 100000 in
theorem rmake_calls (A : Option Addr) (c : Nat) (l : List S47) (w : World) (hr : Kd.C k47 w A l.length l) (hm : l.length ≤ 60) (hsz : ∀ x ∈ l, x.f0.size ≤ 140737488351232 ∧ x.f1.size ≤ 140737488351232) :
    Calls Tryz.prog 14 #[.slice A l.length c] w fun e w' => MadeR w l e w' := by
  have HR := Aside0.mk hr; have HSZ := Aside0.mk hsz
  have hlm : l.length ≤ 9223372036854775807 := by omega
  have HM60 := Aside0.mk hm
  clear hr hsz hm
  go_enter Tryz.func14, Tryz.ntmps14
  go_wp2_with fail
  go_loopw [4] (fun x wr => ∃ i n : Nat, i + n = l.length ∧ x = .int .i64 i ∧ Aside0 ((l.take i).any badL = false) ∧ Aside0 (Below w.heap.size w wr)) (fun x _ => l.length - (intOf x).toNat)
  case atStart => exact ⟨0, l.length, by omega, rfl, ⟨rfl⟩, ⟨Below.refl _ _⟩⟩
  case round =>
    obtain ⟨i, n, hin, rfl, HS, HB⟩ := hrel
    cases n with
    | succ n =>
      have hlt : i < l.length := by omega
      obtain ⟨ad, rfl, hc0, hc1⟩ := lab_get (Kd.C_below HR.out HB.out) hlt
      obtain ⟨y, hy⟩ : ∃ y, y = l[i] := ⟨_, rfl⟩
      have hym : y ∈ l := by rw [hy]; exact List.getElem_mem hlt
      have HTK : Aside0 (l.take (i + 1) = l.take i ++ [y]) := ⟨by rw [hy]; exact List.take_succ_eq_append_getElem hlt⟩
      rw [← hy] at hc0 hc1
      obtain ⟨gb, hgb⟩ : ∃ b, b = badL y := ⟨_, rfl⟩
      have HGB := Aside0.mk hgb
      have HIS : Aside0 (∀ W, Calls Tryz.prog 42 #[.agg #[.string y.f0, .string y.f1]] W fun e w' => e = .returned (.bool (!gb)) ∧ Below W.heap.size W w') := ⟨fun W => by
        have hm := HSZ.out y hym
        rw [hgb]
        exact klaxonref09_Is.calls (2 * y.f0.size + 2) y.f0 y.f1 _ W (is_f y (by omega) _ (Nat.le_refl _))⟩
      have hki : (i : Int) < (l.length : Int) := by omega
      have hki0 : (0 : Int) ≤ (i : Int) := by omega
      have HIN := Aside0.mk hin; have HLT := Aside0.mk hlt; have HYM := Aside0.mk hym
      clear hy hgb hym
      go_wp2_with fail
      refine (HIS.out wr).mono ?_
      rintro e w1 ⟨rfl, hb1⟩
      have HB1 := Aside0.mk (below_step HB.out hb1)
      clear hb1 hc0 hc1
      cases gb with
      | true =>
        go_wp2_with fail
        go_ret2
        exact ⟨HB1.out, .inl ⟨List.any_eq_true.2 ⟨y, HYM.out, HGB.out.symm⟩, rfl⟩⟩
      | false =>
        go_wp2_with fail
        go_roundw
        case rel => exact ⟨i + 1, n, by have := HIN.out; omega, by go_num, ⟨by rw [HTK.out, List.any_append, HS.out, List.any_cons, ← HGB.out]; rfl⟩, HB1⟩
        case measure => (have := HLT.out; simp [intOf]; try omega)
    | zero =>
      obtain rfl : i = l.length := by omega
      have hkk : ¬ ((l.length : Int) < (l.length : Int)) := by omega
      have HGOOD : Aside0 (l.any badL = false) := ⟨by have h := HS.out; rw [List.take_length] at h; exact h⟩
      clear hin
      go_wp2_with fail
      go_loopw [5, 6] (fun x y wr2 => ∃ (A5 : Option Addr) (c5 : Nat) (out : List S47) (i n : Nat), i + n = l.length ∧ x = .slice A5 out.length c5 ∧ out.length ≤ c5 ∧ y = .int .i64 i ∧ Aside0 (out.Perm (l.take i)) ∧ Aside0 (out.Pairwise ltN) ∧ Aside0 (Kd.C k47 wr2 A5 out.length out) ∧ Aside0 (Below w.heap.size w wr2)) (fun _ y _ => l.length - (intOf y).toNat)
      case atStart => exact ⟨none, 0, [], 0, l.length, by omega, rfl, Nat.le_refl _, rfl, ⟨.nil⟩, ⟨.nil⟩, ⟨⟨rfl, by decide, fun h => by simp at h⟩⟩, HB⟩
      case round =>
        obtain ⟨wB, rfl⟩ : ∃ W, W = wr := ⟨_, rfl⟩
        obtain ⟨A5, c5, out, i, n, hin, rfl, hoc, rfl, HP, HW, HC, HB2⟩ := hrel
        clear hkk HS
        cases n with
        | zero =>
          obtain rfl : i = l.length := by omega
          have hkk : ¬ ((l.length : Int) < (l.length : Int)) := by omega
          have HPL : Aside0 (out.Perm l) := ⟨by have h := HP.out; rw [List.take_length] at h; exact h⟩
          by_cases h16 : out.length ≤ 16
          · have hgt : decide ((16 : Int) < (out.length : Int)) = false := decide_eq_false (by omega)
            have H16 := Aside0.mk h16; have HOC := Aside0.mk hoc
            clear hoc hin
            go_wp2_with fail
            go_ret2
            exact ⟨HB2.out, .inr ⟨HGOOD.out, .inr (.inr ⟨out, HPL.out, HW.out, H16.out, A5, c5, rfl, HOC.out, HC.out⟩)⟩⟩
          · have hgt : decide ((16 : Int) < (out.length : Int)) = true := decide_eq_true (by omega)
            have H16 := Aside0.mk h16
            clear hoc hin
            go_wp2_with fail
            go_ret2
            exact ⟨HB2.out, .inr ⟨HGOOD.out, .inr (.inl ⟨out, HPL.out, HW.out, by have := H16.out; omega, rfl⟩)⟩⟩
        | succ n =>
          have hlt : i < l.length := by omega
          obtain ⟨ad, rfl, hx0, hx1⟩ := lab_get (Kd.C_below HR.out HB2.out) hlt
          obtain ⟨x, hx⟩ : ∃ x, x = l[i] := ⟨_, rfl⟩
          have HX := Aside0.mk hx
          rw [← hx] at hx0 hx1
          have HTK : Aside0 (l.take (i + 1) = l.take i ++ [x]) := ⟨by rw [hx]; exact List.take_succ_eq_append_getElem hlt⟩
          have hol : out.length ≤ 60 := by have h1 := HP.out.length_eq; have h2 := HM60.out; rw [List.length_take] at h1; omega
          have hki : (i : Int) < (l.length : Int) := by omega
          have hki0 : (0 : Int) ≤ (i : Int) := by omega
          have HIN := Aside0.mk hin; have HLT := Aside0.mk hlt; have HOC := Aside0.mk hoc; have HOL := Aside0.mk hol
          have hol2 : out.length ≤ 9223372036854775807 := by omega
          clear hx hol hin
          have HX0 := Aside0.mk hx0; have HX1 := Aside0.mk hx1
          clear hx0 hx1
          go_wp2_with fail
          go_loopw [7] (fun z wr3 => ∃ k m : Nat, k + m = out.length ∧ z = .int .i64 k ∧ Aside0 (∀ y ∈ out.take k, ltN y x) ∧ Aside0 (Below wB.heap.size wB wr3)) (fun z _ => out.length - (intOf z).toNat)
          case atStart => exact ⟨0, out.length, by omega, rfl, ⟨fun y hy => by simp at hy⟩, ⟨Below.refl _ _⟩⟩
          case round =>
            obtain ⟨k, m, hkm, rfl, HK, HB3⟩ := hrel
            have hx0 := pw_cell_below HB3.out HX0.out
            have hx1 := pw_cell_below HB3.out HX1.out
            cases m with
            | zero =>
              obtain rfl : k = out.length := by omega
              have hkk : ¬ ((out.length : Int) < (out.length : Int)) := by omega
              clear hkm
              go_wp2_with fail
              go_quiet (fail)
              go_wp2_with fail
              go_quiet (fail)
              have HK2 : Aside0 (∀ y, out[out.length]? = some y → ltN x y) := ⟨fun y h => by simp at h⟩
              obtain ⟨O, hO⟩ : ∃ o, o = out.take out.length ++ [x] ++ out.drop out.length := ⟨_, rfl⟩
              have HO := Aside0.mk hO
              clear hO
              obtain ⟨AD, cd, hsf, hcd⟩ := cut_from A5 c5 out out.length (by omega) hoc
              obtain ⟨hst, hct⟩ := cut_to A5 c5 out out.length (by omega) hoc
              have HSFR := Aside0.mk hsf; have HSTO := Aside0.mk hst
              have HCT : Aside0 (∀ W', Below wr.heap.size wr W' → Kd.C k47 W' A5 (out.take out.length).length (out.take out.length)) := ⟨fun W' h => hct _ (Kd.C_below (Kd.C_below HC.out HB3.out) h)⟩
              have HCD : Aside0 (∀ W', Below wr.heap.size wr W' → Kd.C k47 W' AD (out.drop out.length).length (out.drop out.length)) := ⟨fun W' h => hcd _ (Kd.C_below (Kd.C_below HC.out HB3.out) h)⟩
              clear hsf hst hcd hct
              go_upto_region 15 with (fail)
              obtain ⟨Jnv, hJnv⟩ : ∃ J : World → Prop, J = fun W' => Below wr.heap.size wr W' := ⟨_, rfl⟩
              have HJD : Aside0 (∀ W', Jnv W' → Below wr.heap.size wr W') := ⟨fun W' h => by rw [hJnv] at h; exact h⟩
              have HDJ : Aside0 (∀ W', Below wr.heap.size wr W' → Jnv W') := ⟨fun W' h => by rw [hJnv]; exact h⟩
              have HJA : Aside0 (∀ W' o, Jnv W' → Jnv (W'.alloc o)) := ⟨fun W' o h => HDJ.out _ (below_alloc (HJD.out _ h) o)⟩
              have HRF : Aside0 (∀ W : World, Below W.heap.size W W) := ⟨fun W => Below.refl _ _⟩
              have SF : Aside0 (∀ W', Jnv W' → W'.cell? (ad.add (i * 2)) = some (.string x.f0) ∧ W'.cell? ⟨(ad.add (i * 2)).block, (ad.add (i * 2)).off + 1, none⟩ = some (.string x.f1)) := ⟨fun W' hW => ⟨pw_cell_below (HJD.out W' hW) hx0, pw_cell_below (HJD.out W' hW) hx1⟩⟩
              clear hJnv hx0 hx1
              refine wp_region_any (by kernel_rfl) ?_
              refine wpAny_flow3 (by kernel_rfl) Jnv (fun W W' => Below W.heap.size W W') (fun _ _ => True) 10 (fun k => k == 0 || k == 4 || k == 9) HRF.out (fun _ => trivial) ?hS (by kernel_rfl) [(0, (fun u => ∃ b : Nat, u = Value.slice (some ⟨b, 0, none⟩) 0 0), (fun u W => ∃ b : Nat, u = Value.slice (some ⟨b, 0, none⟩) 0 0 ∧ wr.heap.size ≤ b ∧ W.heap[b]? = some (Obj.cells #[] 47 (0, 0)))), (1, (fun u => u = Value.slice A5 out.length c5), (fun _ _ => True)), (2, (fun u => u = Value.int .i64 (out.length : Int)), (fun _ _ => True)), (3, (fun u => u = Value.slice A5 (out.take out.length).length c5), (fun _ _ => True)), (4, (fun _ => True), (fun u W => Kd.R k47 47 W wr.heap.size (fun _ => True) u (out.take out.length))), (5, (fun u => u = Value.slice (some ad) l.length c), (fun _ _ => True)), (6, (fun u => u = Value.int .i64 (i : Int)), (fun _ _ => True)), (7, (fun u => u = Value.pointer (some (ad.add (i * 2)))), (fun _ _ => True)), (8, (fun u => u = Value.agg #[.string x.f0, .string x.f1]), (fun _ _ => True)), (9, (fun u => ∃ b : Nat, u = Value.slice (some ⟨b, 0, none⟩) 1 1), (fun u W => ∃ b : Nat, u = Value.slice (some ⟨b, 0, none⟩) 1 1 ∧ Kd.C k47 W (some ⟨b, 0, none⟩) 1 [x])), (10, (fun _ => True), (fun u W => Kd.R k47 47 W wr.heap.size (fun _ => True) u (out.take out.length ++ [x]))), (11, (fun u => u = Value.slice A5 out.length c5), (fun _ _ => True)), (12, (fun u => u = Value.int .i64 (out.length : Int)), (fun _ _ => True)), (13, (fun u => u = Value.slice AD (out.drop out.length).length cd), (fun _ _ => True))] ?_
              case hS => exact HDJ.out _ (below_drew (pw_below_drewN (pw_below_drewN (Below.refl _ _) _) _))
              refine Flow3.op _ 0 (some 62) (Op.buildSlice 22 0 #[]) 22 (none) [] _ _ rfl (by kernel_rfl) (by kernel_rfl) (by kernel_rfl) (by rfl) ⟨_, 0, rfl⟩ ?_ ?_ (by rfl) ?_ ?_
              · rintro u W W' hu ⟨q, hv, hq, hb⟩; exact ⟨q, hv, hq, blk_below hb hu⟩
              · intro hd; exact absurd hd (by decide)
              · rw [upOf_ne (by decide)]; intro W hW hK; exact .inl ⟨_, _, ⟨_, rfl⟩, HJA.out _ _ hW, below_alloc (Below.refl _ _) _, ⟨_, rfl, (HJD.out _ hW).size, blk_new W _⟩, exec_build0L⟩
              rintro u0 ⟨q0, rfl⟩
              try simp only [Act.put, List.setIfInBounds_toArray, List.set_cons_zero, List.set_cons_succ]
              refine Flow3.val _ 1 (some 63) (Op.move (Operand.tmp 5)) 22 (none) [] _ rfl (by kernel_rfl) (by kernel_rfl) (by kernel_rfl) (by rfl) (by rfl) ?_ ?_ HRF.out (fun _ => trivial)
              · (intro W hW hK; go_simp; first | done | with_reducible rfl)
              try simp only [Act.put, List.setIfInBounds_toArray, List.set_cons_zero, List.set_cons_succ]
              refine Flow3.val _ 2 (some 64) (Op.move (Operand.tmp 7)) 3 (none) [] _ rfl (by kernel_rfl) (by kernel_rfl) (by kernel_rfl) (by rfl) (by rfl) ?_ ?_ HRF.out (fun _ => trivial)
              · (intro W hW hK; go_simp; first | done | with_reducible rfl)
              try simp only [Act.put, List.setIfInBounds_toArray, List.set_cons_zero, List.set_cons_succ]
              refine Flow3.val _ 3 (some 65) (Op.slice 22 (Operand.tmp 63) none (some (Operand.tmp 64)) none) 22 (none) [] _ rfl (by kernel_rfl) (by kernel_rfl) (by kernel_rfl) (by rfl) (by rfl) ?_ ?_ HRF.out (fun _ => trivial)
              · (intro W hW hK; exact HSTO.out _ W _ _ _ _ (by rfl) (by rfl))
              try simp only [Act.put, List.setIfInBounds_toArray, List.set_cons_zero, List.set_cons_succ]
              refine Flow3.op _ 4 (some 66) (Op.call { callee := Callee.builtin Builtin.append, args := #[Operand.tmp 62, Operand.tmp 65], argTypes := #[22, 22] }) 22 (none) [0] _ _ rfl (by kernel_rfl) (by kernel_rfl) (by kernel_rfl) (by rfl) ⟨undef, trivial⟩ ?_ ?_ (by rfl) ?_ ?_
              · intro u W W' hu hr; exact Kd.R_below hr hu
              · intro hd; exact absurd hd (by decide)
              · rw [upOf_ne (by decide)]
                intro W hW hK
                have h0 := hK 0 (by simp)
                simp [updK] at h0
                obtain ⟨hq, hb⟩ := h0
                obtain ⟨v1, W1, hr, hR, hB⟩ := append_emptyL W wr.heap.size 22 q0 (out.take out.length) A5 c5 hb hq (HJD.out _ hW).size (HCT.out _ (HJD.out _ hW)) (by have := HOL.out; have := List.length_take_le out.length out; omega)
                exact .inl ⟨v1, W1, trivial, HDJ.out _ (below_then (HJD.out _ hW) (HJD.out _ hW).size hB), hB, hR, exec_appendL (by rfl) (by rfl) hr⟩
              intro u4 _
              try simp only [Act.put, List.setIfInBounds_toArray, List.set_cons_zero, List.set_cons_succ]
              refine Flow3.val _ 5 (some 67) (Op.move (Operand.tmp 0)) 22 (none) [] _ rfl (by kernel_rfl) (by kernel_rfl) (by kernel_rfl) (by rfl) (by rfl) ?_ ?_ HRF.out (fun _ => trivial)
              · (intro W hW hK; go_simp; first | done | with_reducible rfl)
              try simp only [Act.put, List.setIfInBounds_toArray, List.set_cons_zero, List.set_cons_succ]
              refine Flow3.val _ 6 (some 68) (Op.move (Operand.tmp 6)) 3 (none) [] _ rfl (by kernel_rfl) (by kernel_rfl) (by kernel_rfl) (by rfl) (by rfl) ?_ ?_ HRF.out (fun _ => trivial)
              · (intro W hW hK; go_simp; first | done | with_reducible rfl)
              try simp only [Act.put, List.setIfInBounds_toArray, List.set_cons_zero, List.set_cons_succ]
              refine Flow3.val _ 7 (some 69) (Op.indexAddr 22 (Operand.tmp 67) (Operand.tmp 68)) 0 (none) [] _ rfl (by kernel_rfl) (by kernel_rfl) (by kernel_rfl) (by rfl) (by rfl) ?_ ?_ HRF.out (fun _ => trivial)
              · (intro W hW hK; have hF := SF.out W hW; go_simp; first | done | with_reducible rfl)
              try simp only [Act.put, List.setIfInBounds_toArray, List.set_cons_zero, List.set_cons_succ]
              refine Flow3.val _ 8 (some 70) (Op.load 47 (Operand.tmp 69)) 47 (none) [] _ rfl (by kernel_rfl) (by kernel_rfl) (by kernel_rfl) (by rfl) (by rfl) ?_ ?_ HRF.out (fun _ => trivial)
              · (intro W hW hK; have hF := SF.out W hW; go_simp; first | done | with_reducible rfl)
              try simp only [Act.put, List.setIfInBounds_toArray, List.set_cons_zero, List.set_cons_succ]
              refine Flow3.op _ 9 (some 71) (Op.buildSlice 22 1 #[(0, Operand.tmp 70)]) 22 (none) [] _ _ rfl (by kernel_rfl) (by kernel_rfl) (by kernel_rfl) (by rfl) ⟨_, 0, rfl⟩ ?_ ?_ (by rfl) ?_ ?_
              · rintro u W W' hu ⟨q, hv, hq⟩; exact ⟨q, hv, Kd.C_below hq hu⟩
              · intro hd; exact absurd hd (by decide)
              · rw [upOf_ne (by decide)]; intro W hW hK; exact .inl ⟨_, _, ⟨_, rfl⟩, HJA.out _ _ hW, below_alloc (Below.refl _ _) _, ⟨_, rfl, row_one_any W x⟩, exec_build1L (by rfl)⟩
              rintro u9 ⟨q9, rfl⟩
              try simp only [Act.put, List.setIfInBounds_toArray, List.set_cons_zero, List.set_cons_succ]
              refine Flow3.op _ 10 (some 72) (Op.call { callee := Callee.builtin Builtin.append, args := #[Operand.tmp 66, Operand.tmp 71], argTypes := #[22, 22] }) 22 (none) [4, 9] _ _ rfl (by kernel_rfl) (by kernel_rfl) (by kernel_rfl) (by rfl) ⟨undef, trivial⟩ ?_ ?_ (by rfl) ?_ ?_
              · intro u W W' hu hr; exact Kd.R_below hr hu
              · intro _ hd; exact absurd rfl hd
              · rw [upOf_eq]
                intro W hW hK
                have h4 := hK 4 (by simp)
                have h9 := hK 9 (by simp)
                simp [updK, -List.take_length] at h4 h9
                obtain ⟨v1, W1, hr, hR, hG, _⟩ := append_runL W wr.heap.size 22 u4 (out.take out.length) [x] (some ⟨q9, 0, none⟩) 1 h4 h9 (HJD.out _ hW).size (by have := HOL.out; have := List.length_take_le out.length out; simp; omega)
                exact .inl ⟨v1, W1, trivial, HDJ.out _ (below_grown (HJD.out _ hW) hG (fun k hk => own_base h4.2.choose_spec.1 k hk)), trivial, hR, exec_appendL (by rfl) (by rfl) hr⟩
              intro u10 _
              try simp only [Act.put, List.setIfInBounds_toArray, List.set_cons_zero, List.set_cons_succ]
              refine Flow3.val _ 11 (some 73) (Op.move (Operand.tmp 5)) 22 (none) [] _ rfl (by kernel_rfl) (by kernel_rfl) (by kernel_rfl) (by rfl) (by rfl) ?_ ?_ HRF.out (fun _ => trivial)
              · (intro W hW hK; go_simp; first | done | with_reducible rfl)
              try simp only [Act.put, List.setIfInBounds_toArray, List.set_cons_zero, List.set_cons_succ]
              refine Flow3.val _ 12 (some 74) (Op.move (Operand.tmp 7)) 3 (none) [] _ rfl (by kernel_rfl) (by kernel_rfl) (by kernel_rfl) (by rfl) (by rfl) ?_ ?_ HRF.out (fun _ => trivial)
              · (intro W hW hK; go_simp; first | done | with_reducible rfl)
              try simp only [Act.put, List.setIfInBounds_toArray, List.set_cons_zero, List.set_cons_succ]
              refine Flow3.val _ 13 (some 75) (Op.slice 22 (Operand.tmp 73) (some (Operand.tmp 74)) none none) 22 (none) [] _ rfl (by kernel_rfl) (by kernel_rfl) (by kernel_rfl) (by rfl) (by rfl) ?_ ?_ HRF.out (fun _ => trivial)
              · (intro W hW hK; exact HSFR.out _ W _ _ _ _ (by rfl) (by rfl))
              try simp only [Act.put, List.setIfInBounds_toArray, List.set_cons_zero, List.set_cons_succ]
              refine Flow3.lastRun _ 14 (some 76) (Op.call { callee := Callee.builtin Builtin.append, args := #[Operand.tmp 72, Operand.tmp 75], argTypes := #[22, 22] }) 22 (none) rfl 12 (by kernel_rfl) (by kernel_rfl) (by rfl) ?_
              intro W hW hK
              have h10 := hK 10 (by decide) (fun h => absurd h (by decide))
              simp [updK, -List.take_length] at h10
              obtain ⟨v1, w1, hrun, hR1, hG1, -⟩ := append_runL W wr.heap.size 22 u10 (out.take out.length ++ [x]) (out.drop out.length) AD cd h10 (HCD.out _ (HJD.out _ hW)) (HJD.out _ hW).size (by have := HOL.out; have := List.length_take_le out.length out; simp; omega)
              obtain ⟨A9, c9, rfl, hc9, hC9⟩ := Kd.R_reads hR1
              rw [← HO.out] at hc9 hC9 hrun
              refine ⟨_, w1, exec_appendL (by rfl) (by rfl) hrun, ?_⟩
              have HBX1 : Aside0 (Below wr.heap.size wr w1) := ⟨below_grown (HJD.out _ hW) hG1 (fun k hk => own_base h10.2.choose_spec.1 k hk)⟩
              have HC9 := Aside0.mk hC9; have HN9 := Aside0.mk hc9
              clear hrun hR1 hG1 h10 hK hC9 hc9
              refine wpAny_flow3 (by kernel_rfl) (fun W => W = w1) (fun W W' => W' = W) (fun W W' => W' = W) 14 (fun _ => false) (fun _ => rfl) (fun _ => rfl) rfl (by kernel_rfl) [(15, (fun u => u = Value.slice A9 O.length c9), (fun _ _ => True))] ?_
              try simp only [Act.put, List.setIfInBounds_toArray, List.set_cons_zero, List.set_cons_succ]
              refine Flow3.val _ 15 (some 5) (Op.assign (Operand.tmp 76)) 22 (none) [] _ rfl (by kernel_rfl) (by kernel_rfl) (by kernel_rfl) (by rfl) (by rfl) ?_ ?_ (fun _ => rfl) (fun _ => rfl)
              · (intro W hW hK; go_simp; first | done | with_reducible rfl)
              try simp only [Act.put, List.setIfInBounds_toArray, List.set_cons_zero, List.set_cons_succ]
              refine Flow3.done _ (by kernel_rfl) ?_
              intro W5 hW5 hK5
              subst hW5
              clear hW hK5
              have HBW := Aside0.mk (below_then (below_then HB2.out HB2.out.size HB3.out) (Nat.le_trans HB2.out.size HB3.out.size) HBX1.out)
              have HPO : Aside0 (O.Perm (l.take (i + 1))) := ⟨by rw [HO.out, HTK.out]; exact ins_perm HP.out⟩
              have HWO : Aside0 (O.Pairwise ltN) := ⟨by rw [HO.out]; exact ins_pair HW.out HK.out HK2.out⟩
              clear HSFR HSTO HCT HCD HJD HDJ HJA HRF SF
              go_wp2_with fail
              go_roundw
              case rel => exact ⟨A9, c9, O, i + 1, n, by have := HIN.out; omega, rfl, HN9.out, by go_num, HPO, HWO, HC9, HBW⟩
              case measure => (have := HLT.out; simp [intOf]; try omega)
            | succ m =>
              have hkl : k < out.length := by omega
              have hkk : (k : Int) < (out.length : Int) := by omega
              have hkk0 : (0 : Int) ≤ (k : Int) := by omega
              obtain ⟨ay, rfl, hy0, hy1⟩ := lab_get (Kd.C_below HC.out HB3.out) hkl
              obtain ⟨y, hy⟩ : ∃ y, y = out[k] := ⟨_, rfl⟩
              rw [← hy] at hy0 hy1
              have HKT : Aside0 (out.take (k + 1) = out.take k ++ [y]) := ⟨by rw [hy]; exact List.take_succ_eq_append_getElem hkl⟩
              have HYK : Aside0 (out[k]? = some y) := ⟨by rw [hy]; exact List.getElem?_eq_getElem hkl⟩
              obtain ⟨lb, hlb⟩ : ∃ b, b = decide (ltN y x) := ⟨_, rfl⟩
              have HLB := Aside0.mk hlb
              have hls : Op.bytesLess y.f0.toList x.f0.toList = lb := by rw [less_ltN, hlb]
              have HKM := Aside0.mk hkm; have HKL := Aside0.mk hkl
              clear hlb hkm hy
              cases lb with
              | true =>
                go_wp2_with fail
                go_quiet (fail)
                go_wp2_with fail
                go_roundw
                case rel => exact ⟨k + 1, m, by have := HKM.out; omega, by go_num, ⟨fun z hz => by
                  rw [HKT.out] at hz
                  rcases List.mem_append.1 hz with h | h
                  · exact HK.out z h
                  · obtain rfl := List.mem_singleton.1 h
                    exact of_decide_eq_true HLB.out.symm⟩, ⟨by repeat (first | (with_reducible first | exact HB3.out | apply pw_below_drewN | apply below_drew1) | exact HB3.out)⟩⟩
                case measure => (have := HKL.out; simp [intOf]; try omega)
              | false =>
                obtain ⟨eb, heb⟩ : ∃ b, b = (y.f0.toList == x.f0.toList) := ⟨_, rfl⟩
                have HEB := Aside0.mk heb
                have heb2 := heb.symm
                clear heb
                go_wp2_with fail
                go_quiet (fail)
                go_wp2_with fail
                go_quiet (fail)
                cases eb with
                | true =>
                  go_wp2_with fail
                  go_ret2
                  exact ⟨by repeat (first | (with_reducible first | exact (below_then HB2.out HB2.out.size HB3.out) | apply pw_below_drewN | apply below_drew1) | exact (below_then HB2.out HB2.out.size HB3.out)), .inr ⟨HGOOD.out, .inl ⟨dup_not HLT.out (HP.out.mem_iff.1 (List.mem_of_getElem? HYK.out)) (by rw [← HX.out]; exact beq_iff_eq.1 HEB.out.symm), rfl⟩⟩⟩
                | false =>
                  have HK2 : Aside0 (∀ y, out[k]? = some y → ltN x y) := ⟨fun z h => by
                    rw [HYK.out] at h
                    obtain rfl := Option.some.inj h
                    exact ltN_trich (of_decide_eq_false HLB.out.symm) (beq_eq_false_iff_ne.1 HEB.out.symm)⟩
                  obtain ⟨O, hO⟩ : ∃ o, o = out.take k ++ [x] ++ out.drop k := ⟨_, rfl⟩
                  have HO := Aside0.mk hO
                  clear hO
                  obtain ⟨AD, cd, hsf, hcd⟩ := cut_from (some ay) c5 out k (by omega) hoc
                  obtain ⟨hst, hct⟩ := cut_to (some ay) c5 out k (by omega) hoc
                  have HSFR := Aside0.mk hsf; have HSTO := Aside0.mk hst
                  have HCT : Aside0 (∀ W', Below wr.heap.size wr W' → Kd.C k47 W' (some ay) (out.take k).length (out.take k)) := ⟨fun W' h => hct _ (Kd.C_below (Kd.C_below HC.out HB3.out) h)⟩
                  have HCD : Aside0 (∀ W', Below wr.heap.size wr W' → Kd.C k47 W' AD (out.drop k).length (out.drop k)) := ⟨fun W' h => hcd _ (Kd.C_below (Kd.C_below HC.out HB3.out) h)⟩
                  clear hsf hst hcd hct
                  go_upto_region 15 with (fail)
                  obtain ⟨Jnv, hJnv⟩ : ∃ J : World → Prop, J = fun W' => Below wr.heap.size wr W' := ⟨_, rfl⟩
                  have HJD : Aside0 (∀ W', Jnv W' → Below wr.heap.size wr W') := ⟨fun W' h => by rw [hJnv] at h; exact h⟩
                  have HDJ : Aside0 (∀ W', Below wr.heap.size wr W' → Jnv W') := ⟨fun W' h => by rw [hJnv]; exact h⟩
                  have HJA : Aside0 (∀ W' o, Jnv W' → Jnv (W'.alloc o)) := ⟨fun W' o h => HDJ.out _ (below_alloc (HJD.out _ h) o)⟩
                  have HRF : Aside0 (∀ W : World, Below W.heap.size W W) := ⟨fun W => Below.refl _ _⟩
                  have SF : Aside0 (∀ W', Jnv W' → W'.cell? (ad.add (i * 2)) = some (.string x.f0) ∧ W'.cell? ⟨(ad.add (i * 2)).block, (ad.add (i * 2)).off + 1, none⟩ = some (.string x.f1)) := ⟨fun W' hW => ⟨pw_cell_below (HJD.out W' hW) hx0, pw_cell_below (HJD.out W' hW) hx1⟩⟩
                  clear hJnv hx0 hx1
                  refine wp_region_any (by kernel_rfl) ?_
                  refine wpAny_flow3 (by kernel_rfl) Jnv (fun W W' => Below W.heap.size W W') (fun _ _ => True) 10 (fun k => k == 0 || k == 4 || k == 9) HRF.out (fun _ => trivial) ?hS (by kernel_rfl) [(0, (fun u => ∃ b : Nat, u = Value.slice (some ⟨b, 0, none⟩) 0 0), (fun u W => ∃ b : Nat, u = Value.slice (some ⟨b, 0, none⟩) 0 0 ∧ wr.heap.size ≤ b ∧ W.heap[b]? = some (Obj.cells #[] 47 (0, 0)))), (1, (fun u => u = Value.slice (some ay) out.length c5), (fun _ _ => True)), (2, (fun u => u = Value.int .i64 (k : Int)), (fun _ _ => True)), (3, (fun u => u = Value.slice (some ay) (out.take k).length c5), (fun _ _ => True)), (4, (fun _ => True), (fun u W => Kd.R k47 47 W wr.heap.size (fun _ => True) u (out.take k))), (5, (fun u => u = Value.slice (some ad) l.length c), (fun _ _ => True)), (6, (fun u => u = Value.int .i64 (i : Int)), (fun _ _ => True)), (7, (fun u => u = Value.pointer (some (ad.add (i * 2)))), (fun _ _ => True)), (8, (fun u => u = Value.agg #[.string x.f0, .string x.f1]), (fun _ _ => True)), (9, (fun u => ∃ b : Nat, u = Value.slice (some ⟨b, 0, none⟩) 1 1), (fun u W => ∃ b : Nat, u = Value.slice (some ⟨b, 0, none⟩) 1 1 ∧ Kd.C k47 W (some ⟨b, 0, none⟩) 1 [x])), (10, (fun _ => True), (fun u W => Kd.R k47 47 W wr.heap.size (fun _ => True) u (out.take k ++ [x]))), (11, (fun u => u = Value.slice (some ay) out.length c5), (fun _ _ => True)), (12, (fun u => u = Value.int .i64 (k : Int)), (fun _ _ => True)), (13, (fun u => u = Value.slice AD (out.drop k).length cd), (fun _ _ => True))] ?_
                  case hS => exact HDJ.out _ (below_drew (pw_below_drewN (pw_below_drewN (Below.refl _ _) _) _))
                  refine Flow3.op _ 0 (some 62) (Op.buildSlice 22 0 #[]) 22 (none) [] _ _ rfl (by kernel_rfl) (by kernel_rfl) (by kernel_rfl) (by rfl) ⟨_, 0, rfl⟩ ?_ ?_ (by rfl) ?_ ?_
                  · rintro u W W' hu ⟨q, hv, hq, hb⟩; exact ⟨q, hv, hq, blk_below hb hu⟩
                  · intro hd; exact absurd hd (by decide)
                  · rw [upOf_ne (by decide)]; intro W hW hK; exact .inl ⟨_, _, ⟨_, rfl⟩, HJA.out _ _ hW, below_alloc (Below.refl _ _) _, ⟨_, rfl, (HJD.out _ hW).size, blk_new W _⟩, exec_build0L⟩
                  rintro u0 ⟨q0, rfl⟩
                  try simp only [Act.put, List.setIfInBounds_toArray, List.set_cons_zero, List.set_cons_succ]
                  refine Flow3.val _ 1 (some 63) (Op.move (Operand.tmp 5)) 22 (none) [] _ rfl (by kernel_rfl) (by kernel_rfl) (by kernel_rfl) (by rfl) (by rfl) ?_ ?_ HRF.out (fun _ => trivial)
                  · (intro W hW hK; go_simp; first | done | with_reducible rfl)
                  try simp only [Act.put, List.setIfInBounds_toArray, List.set_cons_zero, List.set_cons_succ]
                  refine Flow3.val _ 2 (some 64) (Op.move (Operand.tmp 7)) 3 (none) [] _ rfl (by kernel_rfl) (by kernel_rfl) (by kernel_rfl) (by rfl) (by rfl) ?_ ?_ HRF.out (fun _ => trivial)
                  · (intro W hW hK; go_simp; first | done | with_reducible rfl)
                  try simp only [Act.put, List.setIfInBounds_toArray, List.set_cons_zero, List.set_cons_succ]
                  refine Flow3.val _ 3 (some 65) (Op.slice 22 (Operand.tmp 63) none (some (Operand.tmp 64)) none) 22 (none) [] _ rfl (by kernel_rfl) (by kernel_rfl) (by kernel_rfl) (by rfl) (by rfl) ?_ ?_ HRF.out (fun _ => trivial)
                  · (intro W hW hK; exact HSTO.out _ W _ _ _ _ (by rfl) (by rfl))
                  try simp only [Act.put, List.setIfInBounds_toArray, List.set_cons_zero, List.set_cons_succ]
                  refine Flow3.op _ 4 (some 66) (Op.call { callee := Callee.builtin Builtin.append, args := #[Operand.tmp 62, Operand.tmp 65], argTypes := #[22, 22] }) 22 (none) [0] _ _ rfl (by kernel_rfl) (by kernel_rfl) (by kernel_rfl) (by rfl) ⟨undef, trivial⟩ ?_ ?_ (by rfl) ?_ ?_
                  · intro u W W' hu hr; exact Kd.R_below hr hu
                  · intro hd; exact absurd hd (by decide)
                  · rw [upOf_ne (by decide)]
                    intro W hW hK
                    have h0 := hK 0 (by simp)
                    simp [updK] at h0
                    obtain ⟨hq, hb⟩ := h0
                    obtain ⟨v1, W1, hr, hR, hB⟩ := append_emptyL W wr.heap.size 22 q0 (out.take k) (some ay) c5 hb hq (HJD.out _ hW).size (HCT.out _ (HJD.out _ hW)) (by have := HOL.out; have := List.length_take_le k out; omega)
                    exact .inl ⟨v1, W1, trivial, HDJ.out _ (below_then (HJD.out _ hW) (HJD.out _ hW).size hB), hB, hR, exec_appendL (by rfl) (by rfl) hr⟩
                  intro u4 _
                  try simp only [Act.put, List.setIfInBounds_toArray, List.set_cons_zero, List.set_cons_succ]
                  refine Flow3.val _ 5 (some 67) (Op.move (Operand.tmp 0)) 22 (none) [] _ rfl (by kernel_rfl) (by kernel_rfl) (by kernel_rfl) (by rfl) (by rfl) ?_ ?_ HRF.out (fun _ => trivial)
                  · (intro W hW hK; go_simp; first | done | with_reducible rfl)
                  try simp only [Act.put, List.setIfInBounds_toArray, List.set_cons_zero, List.set_cons_succ]
                  refine Flow3.val _ 6 (some 68) (Op.move (Operand.tmp 6)) 3 (none) [] _ rfl (by kernel_rfl) (by kernel_rfl) (by kernel_rfl) (by rfl) (by rfl) ?_ ?_ HRF.out (fun _ => trivial)
                  · (intro W hW hK; go_simp; first | done | with_reducible rfl)
                  try simp only [Act.put, List.setIfInBounds_toArray, List.set_cons_zero, List.set_cons_succ]
                  refine Flow3.val _ 7 (some 69) (Op.indexAddr 22 (Operand.tmp 67) (Operand.tmp 68)) 0 (none) [] _ rfl (by kernel_rfl) (by kernel_rfl) (by kernel_rfl) (by rfl) (by rfl) ?_ ?_ HRF.out (fun _ => trivial)
                  · (intro W hW hK; have hF := SF.out W hW; go_simp; first | done | with_reducible rfl)
                  try simp only [Act.put, List.setIfInBounds_toArray, List.set_cons_zero, List.set_cons_succ]
                  refine Flow3.val _ 8 (some 70) (Op.load 47 (Operand.tmp 69)) 47 (none) [] _ rfl (by kernel_rfl) (by kernel_rfl) (by kernel_rfl) (by rfl) (by rfl) ?_ ?_ HRF.out (fun _ => trivial)
                  · (intro W hW hK; have hF := SF.out W hW; go_simp; first | done | with_reducible rfl)
                  try simp only [Act.put, List.setIfInBounds_toArray, List.set_cons_zero, List.set_cons_succ]
                  refine Flow3.op _ 9 (some 71) (Op.buildSlice 22 1 #[(0, Operand.tmp 70)]) 22 (none) [] _ _ rfl (by kernel_rfl) (by kernel_rfl) (by kernel_rfl) (by rfl) ⟨_, 0, rfl⟩ ?_ ?_ (by rfl) ?_ ?_
                  · rintro u W W' hu ⟨q, hv, hq⟩; exact ⟨q, hv, Kd.C_below hq hu⟩
                  · intro hd; exact absurd hd (by decide)
                  · rw [upOf_ne (by decide)]; intro W hW hK; exact .inl ⟨_, _, ⟨_, rfl⟩, HJA.out _ _ hW, below_alloc (Below.refl _ _) _, ⟨_, rfl, row_one_any W x⟩, exec_build1L (by rfl)⟩
                  rintro u9 ⟨q9, rfl⟩
                  try simp only [Act.put, List.setIfInBounds_toArray, List.set_cons_zero, List.set_cons_succ]
                  refine Flow3.op _ 10 (some 72) (Op.call { callee := Callee.builtin Builtin.append, args := #[Operand.tmp 66, Operand.tmp 71], argTypes := #[22, 22] }) 22 (none) [4, 9] _ _ rfl (by kernel_rfl) (by kernel_rfl) (by kernel_rfl) (by rfl) ⟨undef, trivial⟩ ?_ ?_ (by rfl) ?_ ?_
                  · intro u W W' hu hr; exact Kd.R_below hr hu
                  · intro _ hd; exact absurd rfl hd
                  · rw [upOf_eq]
                    intro W hW hK
                    have h4 := hK 4 (by simp)
                    have h9 := hK 9 (by simp)
                    simp [updK, -List.take_length] at h4 h9
                    obtain ⟨v1, W1, hr, hR, hG, _⟩ := append_runL W wr.heap.size 22 u4 (out.take k) [x] (some ⟨q9, 0, none⟩) 1 h4 h9 (HJD.out _ hW).size (by have := HOL.out; have := List.length_take_le k out; simp; omega)
                    exact .inl ⟨v1, W1, trivial, HDJ.out _ (below_grown (HJD.out _ hW) hG (fun k hk => own_base h4.2.choose_spec.1 k hk)), trivial, hR, exec_appendL (by rfl) (by rfl) hr⟩
                  intro u10 _
                  try simp only [Act.put, List.setIfInBounds_toArray, List.set_cons_zero, List.set_cons_succ]
                  refine Flow3.val _ 11 (some 73) (Op.move (Operand.tmp 5)) 22 (none) [] _ rfl (by kernel_rfl) (by kernel_rfl) (by kernel_rfl) (by rfl) (by rfl) ?_ ?_ HRF.out (fun _ => trivial)
                  · (intro W hW hK; go_simp; first | done | with_reducible rfl)
                  try simp only [Act.put, List.setIfInBounds_toArray, List.set_cons_zero, List.set_cons_succ]
                  refine Flow3.val _ 12 (some 74) (Op.move (Operand.tmp 7)) 3 (none) [] _ rfl (by kernel_rfl) (by kernel_rfl) (by kernel_rfl) (by rfl) (by rfl) ?_ ?_ HRF.out (fun _ => trivial)
                  · (intro W hW hK; go_simp; first | done | with_reducible rfl)
                  try simp only [Act.put, List.setIfInBounds_toArray, List.set_cons_zero, List.set_cons_succ]
                  refine Flow3.val _ 13 (some 75) (Op.slice 22 (Operand.tmp 73) (some (Operand.tmp 74)) none none) 22 (none) [] _ rfl (by kernel_rfl) (by kernel_rfl) (by kernel_rfl) (by rfl) (by rfl) ?_ ?_ HRF.out (fun _ => trivial)
                  · (intro W hW hK; exact HSFR.out _ W _ _ _ _ (by rfl) (by rfl))
                  try simp only [Act.put, List.setIfInBounds_toArray, List.set_cons_zero, List.set_cons_succ]
                  refine Flow3.lastRun _ 14 (some 76) (Op.call { callee := Callee.builtin Builtin.append, args := #[Operand.tmp 72, Operand.tmp 75], argTypes := #[22, 22] }) 22 (none) rfl 12 (by kernel_rfl) (by kernel_rfl) (by rfl) ?_
                  intro W hW hK
                  have h10 := hK 10 (by decide) (fun h => absurd h (by decide))
                  simp [updK, -List.take_length] at h10
                  obtain ⟨v1, w1, hrun, hR1, hG1, -⟩ := append_runL W wr.heap.size 22 u10 (out.take k ++ [x]) (out.drop k) AD cd h10 (HCD.out _ (HJD.out _ hW)) (HJD.out _ hW).size (by have := HOL.out; have := List.length_take_le k out; simp; omega)
                  obtain ⟨A9, c9, rfl, hc9, hC9⟩ := Kd.R_reads hR1
                  rw [← HO.out] at hc9 hC9 hrun
                  refine ⟨_, w1, exec_appendL (by rfl) (by rfl) hrun, ?_⟩
                  have HBX1 : Aside0 (Below wr.heap.size wr w1) := ⟨below_grown (HJD.out _ hW) hG1 (fun k hk => own_base h10.2.choose_spec.1 k hk)⟩
                  have HC9 := Aside0.mk hC9; have HN9 := Aside0.mk hc9
                  clear hrun hR1 hG1 h10 hK hC9 hc9
                  refine wpAny_flow3 (by kernel_rfl) (fun W => W = w1) (fun W W' => W' = W) (fun W W' => W' = W) 14 (fun _ => false) (fun _ => rfl) (fun _ => rfl) rfl (by kernel_rfl) [(15, (fun u => u = Value.slice A9 O.length c9), (fun _ _ => True))] ?_
                  try simp only [Act.put, List.setIfInBounds_toArray, List.set_cons_zero, List.set_cons_succ]
                  refine Flow3.val _ 15 (some 5) (Op.assign (Operand.tmp 76)) 22 (none) [] _ rfl (by kernel_rfl) (by kernel_rfl) (by kernel_rfl) (by rfl) (by rfl) ?_ ?_ (fun _ => rfl) (fun _ => rfl)
                  · (intro W hW hK; go_simp; first | done | with_reducible rfl)
                  try simp only [Act.put, List.setIfInBounds_toArray, List.set_cons_zero, List.set_cons_succ]
                  refine Flow3.done _ (by kernel_rfl) ?_
                  intro W5 hW5 hK5
                  subst hW5
                  clear hW hK5
                  have HBW := Aside0.mk (below_then (below_then HB2.out HB2.out.size HB3.out) (Nat.le_trans HB2.out.size HB3.out.size) HBX1.out)
                  have HPO : Aside0 (O.Perm (l.take (i + 1))) := ⟨by rw [HO.out, HTK.out]; exact ins_perm HP.out⟩
                  have HWO : Aside0 (O.Pairwise ltN) := ⟨by rw [HO.out]; exact ins_pair HW.out HK.out HK2.out⟩
                  clear HSFR HSTO HCT HCD HJD HDJ HJA HRF SF
                  go_wp2_with fail
                  go_roundw
                  case rel => exact ⟨A9, c9, O, i + 1, n, by have := HIN.out; omega, rfl, HN9.out, by go_num, HPO, HWO, HC9, HBW⟩
                  case measure => (have := HLT.out; simp [intOf]; try omega)
theorem small_l0 (l : List S47) (hl : l.length ≤ 9223372036854775807) : ∀ (n i k : Nat) (x3 : Int), i + n = l.length → 2 * n + 2 ≤ k → ∃ b, klaxonlaw09_small.l0 k l x3 (i : Int) = some b ∧ (b = true → l.length ≤ 60)
  | 0, i, k, x3, hi, hk => by
    obtain ⟨k, rfl⟩ : ∃ j, k = j + 2 := ⟨k - 2, by omega⟩
    unfold klaxonlaw09_small.l0
    rw [if_neg (by omega)]
    unfold klaxonlaw09_small.j1
    rw [if_neg (by simp)]
    by_cases h : (l.length : Int) ≤ 60
    · rw [if_pos h]; exact ⟨_, rfl, fun _ => by omega⟩
    · rw [if_neg h]; exact ⟨_, rfl, fun h => by cases h⟩
  | n + 1, i, k, x3, hi, hk => by
    obtain ⟨k, rfl⟩ : ∃ j, k = j + 2 := ⟨k - 2, by omega⟩
    unfold klaxonlaw09_small.l0
    rw [if_pos (by omega)]
    unfold klaxonlaw09_small.j1
    by_cases h6 : (i : Int) ≤ 60
    · rw [if_pos (decide_eq_true h6), if_pos (by omega), if_pos (by omega), show wrap64 ((i : Int) + 1) = ((i + 1 : Nat) : Int) by unfold wrap64; omega]
      exact small_l0 l hl n (i + 1) k _ (by omega) (by omega)
    · rw [if_neg (by simp; omega)]
      rw [if_neg (by omega)]
      exact ⟨_, rfl, fun h => by cases h⟩
theorem own_f (l : List S47) (h : l.length ≤ 60) : klaxonlaw09_own.f l = some l := by
  unfold klaxonlaw09_own.f
  rw [Option.bind_some, if_pos (by simp; omega), List.nil_append]
theorem own_calls (A : Option Addr) (c : Nat) (l : List S47) (w : World) (hr : Kd.C k47 w A l.length l) (hc : l.length ≤ c) (h : l.length ≤ 60) :
    Calls Tryz.prog 13 #[.slice A l.length c] w fun e w' => ∃ A' c', e = .returned (.slice A' l.length c') ∧ l.length ≤ c' ∧ Kd.C k47 w' A' l.length l ∧ Below w.heap.size w w' :=
  (klaxonlaw09_own.calls A c l l w hr hc (own_f l h)).mono fun e w' ⟨v, he, hR, hb⟩ => by
    obtain ⟨A', c', rfl, hc', hC'⟩ := Kd.R_reads hR
    exact ⟨A', c', he, hc', hC', hb⟩
theorem made_form {w w' : World} {l : List S47} {e : Ending} (h : MadeG w l e w') : ∃ A n c r, e = .returned (.tuple #[.slice A n c, .int .i64 r]) := by
  obtain ⟨-, h⟩ := h
  rcases h with ⟨-, rfl⟩ | ⟨-, S, -, -, h⟩
  · exact ⟨_, _, _, _, rfl⟩
  · rcases h with ⟨-, rfl⟩ | ⟨-, -, rfl⟩ | ⟨-, -, A, c, rfl, -⟩
    · exact ⟨_, _, _, _, rfl⟩
    · exact ⟨_, _, _, _, rfl⟩
    · exact ⟨_, _, _, _, rfl⟩
theorem madeR_form {w w' : World} {l : List S47} {e : Ending} (h : MadeR w l e w') : ∃ A n c r, e = .returned (.tuple #[.slice A n c, .int .i64 r]) := by
  obtain ⟨-, h⟩ := h
  rcases h with ⟨-, rfl⟩ | ⟨-, h⟩
  · exact ⟨_, _, _, _, rfl⟩
  · rcases h with ⟨-, rfl⟩ | ⟨S, -, -, -, rfl⟩ | ⟨S, -, -, -, A, c, rfl, -⟩
    · exact ⟨_, _, _, _, rfl⟩
    · exact ⟨_, _, _, _, rfl⟩
    · exact ⟨_, _, _, _, rfl⟩
set_option maxHeartbeats 2000000 in
set_option maxRecDepth 100000 in
theorem lmake_calls (A : Option Addr) (c : Nat) (l : List S47) (w : World) (hr : Kd.C k47 w A l.length l) (hc : l.length ≤ c) (hsz : ∀ x ∈ l, x.f0.size ≤ 140737488351232 ∧ x.f1.size ≤ 140737488351232) :
    Calls Tryz.prog 3 #[.slice A l.length c] w fun e w' => e = .returned (.bool true) ∧ Below w.heap.size w w' := by
  obtain ⟨b, hb, hbl⟩ := small_l0 l hr.2.1 l.length 0 (2 * l.length + 2) 0 (by omega) (Nat.le_refl _)
  have HR := Aside0.mk hr; have HC := Aside0.mk hc; have HSZ := Aside0.mk hsz; have HBL := Aside0.mk hbl
  have HSM : Aside0 (Calls Tryz.prog 10 #[.slice A l.length c] w fun e w' => e = .returned (.bool b) ∧ Below w.heap.size w w') := ⟨(klaxonlaw09_small.calls _ A c l b w hr hc hb).mono fun e w' h => ⟨h.1, h.2.below⟩⟩
  have HNM : Aside0 (∀ W (r : Int), Calls Tryz.prog 16 #[.int .i64 r] W fun e w' => e = .returned (.int .i64 r) ∧ Below W.heap.size W w') := ⟨fun W r => (klaxonlaw09_num.calls r r W rfl).mono fun e w' h => ⟨h.1, h.2.below⟩⟩
  clear hr hc hsz hb hbl
  go_enter Tryz.func3, Tryz.ntmps3
  go_wp2_with fail
  refine HSM.out.mono ?_
  rintro e w1 ⟨rfl, hb1⟩
  have HB1 := Aside0.mk hb1
  clear hb1
  cases b with
  | false =>
    go_wp2_with fail
    refine (live_calls w1).mono ?_
    rintro e w2 ⟨rfl, hb2⟩
    have HB2 := Aside0.mk (below_step HB1.out hb2)
    clear hb2
    go_wp2_with fail
    go_ret
    exact ⟨rfl, HB2.out⟩
  | true =>
    have H60 : Aside0 (l.length ≤ 60) := ⟨HBL.out rfl⟩
    go_wp2_with fail
    refine (own_calls A c l w1 (Kd.C_below HR.out HB1.out) HC.out H60.out).mono ?_
    rintro e w2 ⟨A2, c2, rfl, hc2, hC2, hb2⟩
    have HB2 := Aside0.mk (below_step HB1.out hb2)
    have HC2 := Aside0.mk hC2
    clear hb2 hC2 hc2
    go_wp2_with fail
    refine (makeG_calls A2 c2 l w2 HC2.out H60.out (fun x hx => by have := HSZ.out x hx; omega)).mono ?_
    intro e w3 hM
    obtain ⟨A3, n3, c3, r3, rfl⟩ := made_form hM
    have HB3 := Aside0.mk (below_step HB2.out hM.1)
    have HM3 := Aside0.mk hM
    clear hM
    go_wp2_with fail
    refine (rmake_calls A c l w3 (Kd.C_below HR.out HB3.out) H60.out HSZ.out).mono ?_
    intro e w4 hM
    obtain ⟨A4, n4, c4, r4, rfl⟩ := madeR_form hM
    have HB4 := Aside0.mk (below_step HB3.out hM.1)
    obtain ⟨S, A5, B5, c5, d5, r5, he, he2, hc5, hd5, hC5, hD5⟩ := made_both HM3.out hM
    simp only [Ending.returned.injEq, Value.tuple.injEq, Array.mk.injEq, List.cons.injEq, Value.slice.injEq, Value.int.injEq, and_true, true_and] at he he2
    obtain ⟨⟨rfl, rfl, rfl⟩, rfl⟩ := he
    obtain ⟨⟨rfl, rfl, rfl⟩, rfl⟩ := he2
    have HSA : Aside0 (Calls Tryz.prog 15 #[.slice A3 S.length c3, .slice A4 S.length c4] w4 fun e w' => e = .returned (.bool true) ∧ Below w4.heap.size w4 w') := ⟨(klaxonref09_Same.calls _ A3 c3 S A4 c4 S true w4 (Kd.C_below hC5 hM.1) hc5 hD5 hd5 (same_f S hC5.2.1)).mono fun e w' h => ⟨h.1, h.2.below⟩⟩
    clear hM hc5 hd5 hC5 hD5 HM3
    go_wp2_with fail
    refine HSA.out.mono ?_
    rintro e w5 ⟨rfl, hb5⟩
    have HB5 := Aside0.mk (below_step HB4.out hb5)
    clear hb5
    go_wp2_with fail
    refine (HNM.out w5 _).mono ?_
    rintro e w6 ⟨rfl, hb6⟩
    have HB6 := Aside0.mk (below_step HB5.out hb6)
    clear hb6
    go_wp2_with fail
    refine (live_calls w6).mono ?_
    rintro e w7 ⟨rfl, hb7⟩
    have HB7 := Aside0.mk (below_step HB6.out hb7)
    clear hb7
    go_wp2_with fail
    go_ret
    exact ⟨rfl, HB7.out⟩
end Go.Proofs.YtjhgckpcadngaaaGreatK
