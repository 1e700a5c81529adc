/- Labels: appends of matchers, Check on both sides, the reference's Get and Match. -/
import Derived.Test.YtjhgckpcadngaaaGreatPLAx0
import Derived.Test.YtjhgckpcadngaaaGreatPLAx1
import Derived.Test.YtjhgckpcadngaaaGreatPLAx2
import Derived.Test.YtjhgckpcadngaaaGreatPLAx3
import Derived.Test.YtjhgckpcadngaaaGreatKFlow3
import Derived.Test.YtjhgckpcadngaaaGreatKFlow4
import Derived.Test.YtjhgckpcadngaaaGreatKJoin
import Derived.Test.YtjhgckpcadngaaaGreatKEv
import Derived.Test.YtjhgckpcadngaaaGreatKOpen
import Derived.Lib.SlBytesConst
import Derived.Lib.Bytes
import Derived.Deep.RegionWith
import Derived.Deep.QuietTactic
import Derived.Deep.RegionHeld3
import Derived.BigQuiet
import Derived.Outline
import Derived.Deep.WholeRow
import Derived.Lib.SliceRun
import Derived.Lib.LazyBuf
import Derived.Lib.ConvBytes
import Derived.Laws.Cover1
import Derived.Laws.CopyOwn
import Derived.Lib.Strings
import Derived.Lib.Slices
import Derived.Lib.Walk
import Derived.Lib.Bytealg
import Derived.Tactics
import Derived.Tactics2
import Derived.Defers
import Derived.Laws.Pointers
import Derived.Laws.LoneSync
import Derived.RegionTactic
import Derived.RegionCalls
import Derived.ChangeAlike
import Derived.Test.YtjhgckpcadngaaaGreatKLabA
import Derived.Test.YtjhgckpcadngaaaGreatKLabB
import Derived.Test.YtjhgckpcadngaaaGreatKLabC
import Derived.Test.YtjhgckpcadngaaaGreatKFrm
import Derived.Test.YtjhgckpcadngaaaGreatKSrt
import Derived.Test.YtjhgckpcadngaaaGreatKSrtN
import Derived.Test.YtjhgckpcadngaaaGreatKLabF
import Derived.Test.YtjhgckpcadngaaaGreatKLabG
import Derived.Test.YtjhgckpcadngaaaGreatKLabH
import Derived.Test.YtjhgckpcadngaaaGreatKLabI
import Derived.Test.YtjhgckpcadngaaaGreatKLabJ
import Derived.Test.YtjhgckpcadngaaaGreatKLabK
import Derived.Test.YtjhgckpcadngaaaGreatKLabL
import Derived.Test.YtjhgckpcadngaaaGreatKLabM
import Derived.Test.YtjhgckpcadngaaaGreatKLabN
import Derived.Test.YtjhgckpcadngaaaGreatPLAx6
import Derived.Test.YtjhgckpcadngaaaGreatPLAx4
import Derived.Test.YtjhgckpcadngaaaGreatKLabE
namespace Go.Proofs.YtjhgckpcadngaaaGreatK
open Go.RowKit Go.Proofs.YtjhgckpcadngaaaGreatW.PrintWords Go.Proofs.YtjhgckpcadngaaaGreatW.PrintLast Go.Proofs.YtjhgckpcadngaaaGreatW.PrintMore
open Go.Proofs.YtjhgckpcadngaaaGreat.PLA Go.Proofs.YtjhgckpcadngaaaGreat Go.Proofs.YtjhgckpcadngaaaGreatSrt
attribute [local go_sem] max2_int min2_int max_two min_two max_three min_three max_four min_four
set_option linter.unusedVariables false
set_option linter.unusedSimpArgs false
theorem info35L : (Tryz.prog.info? 35).map (fun i => (i.zero, i.size, i.bytes)) = some (some (.agg #[.string ⟨#[]⟩, .string ⟨#[]⟩, .string ⟨#[]⟩]), 3, 48) := by kernel_rfl
theorem append_runM (W : World) (base : Nat) (ty : TypeId) (v : Value) (xs ys : List S35) (A : Option Addr) (c : Nat) (HO : Kd.R k35 35 W base (fun _ => True) v xs) (HR : Kd.C k35 W A ys.length ys) (hbase : base ≤ W.heap.size) (hl : (xs.length + ys.length) * 48 ≤ 140737488355328) :
    ∃ v1 w1, (Builtin.append_ #[33, 33] ty #[v, .slice A ys.length c]).run Tryz.prog W = .ok v1 w1 ∧ Kd.R k35 35 w1 base (fun _ => True) v1 (xs ++ ys) ∧ W.grownBy w1 v.ownBlock ∧ (v1.ownBlock = v.ownBlock ∨ ∃ b, v1.ownBlock = some b ∧ W.heap.size ≤ b) := by
  have h := Kd.R_append_rows_step (P := Tryz.prog) (ops := #[]) (o := { dst := some 0, op := .call { callee := .builtin .append, args := #[.tmp 0, .tmp 1], argTypes := #[33, 33] }, type := ty, pos := "", after := #[], guard := none }) (a := { tmps := #[v, .slice A ys.length c], defers := [] }) (Q := fun _ _ _ => False)
    (Kc := fun a' w1 => ∃ v1, a'.tmps[0]? = some v1 ∧ Kd.R k35 35 w1 base (fun _ => True) v1 (xs ++ ys) ∧ W.grownBy w1 v.ownBlock ∧ (v1.ownBlock = v.ownBlock ∨ ∃ b, v1.ownBlock = some b ∧ W.heap.size ≤ b))
    k35 (w0 := W) base rfl (.tmp 0) (.tmp 1) 33 35 (.agg #[.string ⟨#[]⟩, .string ⟨#[]⟩, .string ⟨#[]⟩]) 48 rfl Tryz.underlying33 info35L rfl (by decide) (by decide) v xs ys A ys.length c (fun _ => True) (fun _ => False) rfl rfl HO HR (fun _ _ h => h) (fun _ hk => hk.elim) (fun _ _ => trivial) ((Below.refl _ _).mono hbase) hbase (by omega)
    (fun v1 w1 h1 h2 h3 h4 => ⟨v1, rfl, h1, h3, h4⟩)
  rw [if_pos (show Region.wanted _ _ = true from rfl)] at h
  unfold Oper.wp at h
  obtain ⟨a, ha⟩ : ∃ a : Act, a = { tmps := #[v, .slice A ys.length c], defers := [] } := ⟨_, rfl⟩
  have e0 : a.eval (.tmp 0) = v := by rw [ha]; rfl
  have e1 : a.eval (.tmp 1) = .slice A ys.length c := by rw [ha]; rfl
  have e2 : ∀ u : Value, (a.put (some 0) u).tmps[0]? = some u := fun u => by rw [ha]; rfl
  rw [← ha] at h
  clear ha
  cases hb : (Builtin.append_ #[33, 33] ty #[v, .slice A ys.length c]).run Tryz.prog W with
  | ok v1 w1 =>
    have he : ∀ o : Oper, o.op = .call { callee := .builtin .append, args := #[.tmp 0, .tmp 1], argTypes := #[33, 33] } → o.type = ty → (execOp a.eval o).run Tryz.prog W = .ok (.value v1) w1 := fun o h1 h2 => by
      simp [execOp, resolve, invoke, builtin, h1, h2, e0, e1, hb]
    rw [he _ rfl rfl, Oper.upon_value] at h
    obtain ⟨u, hu, h1, h2, h3⟩ := h
    obtain rfl : v1 = u := Option.some.inj ((e2 v1).symm.trans hu)
    exact ⟨_, _, rfl, h1, h2, h3⟩
  | halt hh w1 =>
    exfalso
    have he : ∀ o : Oper, o.op = .call { callee := .builtin .append, args := #[.tmp 0, .tmp 1], argTypes := #[33, 33] } → o.type = ty → (execOp a.eval o).run Tryz.prog W = .halt hh w1 := fun o h1 h2 => by
      simp [execOp, resolve, invoke, builtin, h1, h2, e0, e1, hb]
    rw [he _ rfl rfl] at h
    cases hh <;> simp [Oper.upon, LetsOut] at h
theorem append_nothingM (W : World) (ty : TypeId) (g : Nat) (A : Option Addr) (c : Nat) : (Builtin.append_ #[33, 33] ty #[.slice (some ⟨g, 0, none⟩) 0 0, .slice A 0 c]).run Tryz.prog W = .ok (.slice (some ⟨g, 0, none⟩) 0 0) W := by
  obtain ⟨i, hi, hzz⟩ := Option.map_eq_some_iff.1 info35L
  cases A <;> simp [Builtin.append_, run_underlying Tryz.underlying33, sizeOf, typeInfo, hi, storeCells, loadCellsFrom, Builtin.lenOf, Builtin.firstCells, loadCells]
theorem empty_RM {W : World} {g base : Nat} (h : W.heap[g]? = some (.cells #[] 35 (0, 0))) (hb : base ≤ g) : Kd.R k35 35 W base (fun _ => True) (.slice (some ⟨g, 0, none⟩) 0 0) [] :=
  ⟨fun k hk => trivial, [], ⟨rfl, .inr ⟨g, 0, #[], rfl, hb, h, Nat.le_refl _, by simp [maxLen], rfl, rfl⟩⟩, Reps.none _ _⟩
theorem append_emptyM (W : World) (base : Nat) (ty : TypeId) (g : Nat) (ys : List S35) (A : Option Addr) (c : Nat) (h0 : W.heap[g]? = some (.cells #[] 35 (0, 0))) (hg : base ≤ g) (hbase : base ≤ W.heap.size) (HR : Kd.C k35 W A ys.length ys) (hl : ys.length ≤ 1000000) :
    ∃ v1 w1, (Builtin.append_ #[33, 33] ty #[.slice (some ⟨g, 0, none⟩) 0 0, .slice A ys.length c]).run Tryz.prog W = .ok v1 w1 ∧ Kd.R k35 35 w1 base (fun _ => True) v1 ys ∧ Below W.heap.size W w1 := by
  by_cases hy : ys.length = 0
  · obtain rfl := List.length_eq_zero_iff.1 hy
    exact ⟨_, _, append_nothingM W ty g A c, empty_RM h0 hg, Below.refl _ _⟩
  obtain ⟨v1, w1, h1, h2, _, _⟩ := append_runM W base ty (.slice (some ⟨g, 0, none⟩) 0 0) [] ys A c (empty_RM h0 hg) HR hbase (by simp; omega)
  obtain ⟨i, hi, hzz⟩ := Option.map_eq_some_iff.1 info35L
  simp only [Prod.mk.injEq] at hzz
  obtain ⟨hz, hsz, hby⟩ := hzz
  obtain ⟨ad, rfl, -⟩ := HR.2.2 (by omega)
  obtain ⟨inner, hrep, hcell⟩ := ReadsRow.inner_ HR
  have hr := run_append_grow (P := Tryz.prog) W 33 ty 35 i (.agg #[.string ⟨#[]⟩, .string ⟨#[]⟩, .string ⟨#[]⟩]) Tryz.underlying33 hi hz ⟨g, 0, none⟩ 0 0 [] (by simp) (by intro j v hj; simp at hj) ad ys.length c inner (by rw [hrep.1, hsz]; rfl)
    hcell (by omega) (by omega) (growslice_fits (by omega) (by rw [hby]; omega))
  rw [h1] at hr
  injection hr with e1 e2
  refine ⟨v1, w1, h1, by simpa using h2, ?_⟩
  rw [e2]
  exact below_alloc (below_drew (Below.refl _ _)) _
theorem exec_appendM {ρ : Operand → Value} {s x : Nat} {ty : TypeId} {g : Option (Nat × Bool)} {v u v1 : Value} {w w1 : World} (hs : ρ (.tmp s) = v) (hx : ρ (.tmp x) = u) (h : (Builtin.append_ #[33, 33] ty #[v, u]).run Tryz.prog w = .ok v1 w1) :
    (execOp ρ (opOf (.call { callee := .builtin .append, args := #[.tmp s, .tmp x], argTypes := #[33, 33] }) ty g)).run Tryz.prog w = .ok (.value v1) w1 := by
  simp [execOp, resolve, invoke, builtin, opOf, hs, hx, h]
theorem exec_build0M {ρ : Operand → Value} {ty : TypeId} {g : Option (Nat × Bool)} {w : World} :
    (execOp ρ (opOf (.buildSlice 33 0 #[]) ty g)).run Tryz.prog w = .ok (.value (.slice (some ⟨w.heap.size, 0, none⟩) 0 0)) (w.alloc (.cells #[] 35)) := by
  have h5 := Tryz.underlying33
  obtain ⟨i, hi, hzz⟩ := Option.map_eq_some_iff.1 info35L
  simp only [Prod.mk.injEq] at hzz
  obtain ⟨hz, hsz, hby⟩ := hzz
  simp [execOp, opOf, Instr.buildSlice, go_sem, h5, hi, hz, hsz, newRow]
theorem opens_L : Opens Tryz.prog k47 (fun x => x.f0.size ≤ 140737488351232 ∧ x.f1.size ≤ 140737488351232) 47 :=
  opens_struct (fun x : S47 => (x.f0, x.f1)) (fun p => ⟨p.1, p.2⟩) (fun _ => rfl) (opensL_cons 9 0 1 (opens_string Tryz.underlying9 (by kernel_rfl)) rfl (opensL_one 9 1 (opens_string Tryz.underlying9 (by kernel_rfl)))) Tryz.underlying47 (by kernel_rfl) rfl
theorem opens_M : Opens Tryz.prog k35 (fun x => x.f0.size ≤ 140737488351232 ∧ x.f1.size ≤ 140737488351232 ∧ x.f2.size ≤ 140737488351232) 35 :=
  opens_struct (fun x : S35 => (x.f0, x.f1, x.f2)) (fun p => ⟨p.1, p.2.1, p.2.2⟩) (fun _ => rfl) (opensL_cons 9 0 1 (opens_string Tryz.underlying9 (by kernel_rfl)) rfl (opensL_cons 9 1 2 (opens_string Tryz.underlying9 (by kernel_rfl)) rfl (opensL_one 9 2 (opens_string Tryz.underlying9 (by kernel_rfl))))) Tryz.underlying35 (by kernel_rfl) rfl
theorem idx_l0 (l : List ByteArray) (o : ByteArray) (hl : l.length ≤ 4611686018427387904) : ∀ (n i k : Nat), i + n = l.length → n + 1 ≤ k → ∃ r, slices_Index_string_string.l0 k l o (l.length : Int) (i : Int) = some r ∧ decide (r ≥ 0) = (l.drop i).any (seq o)
  | 0, i, k, hi, hk => by
    obtain ⟨k, rfl⟩ : ∃ j, k = j + 1 := ⟨k - 1, by omega⟩
    refine ⟨-1, ?_, ?_⟩
    · unfold slices_Index_string_string.l0
      rw [if_neg (by omega)]
    · rw [List.drop_of_length_le (by omega)]; rfl
  | n + 1, i, k, hi, hk => by
    obtain ⟨k, rfl⟩ : ∃ j, k = j + 1 := ⟨k - 1, by omega⟩
    obtain ⟨r, h1, h2⟩ := idx_l0 l o hl n (i + 1) k (by omega) (by omega)
    have hlt : i < l.length := by omega
    unfold slices_Index_string_string.l0
    rw [if_pos (by omega), if_pos (by omega), if_pos (by omega), show wrap64 ((i : Int) + 1) = ((i + 1 : Nat) : Int) by unfold wrap64; omega, h1, List.drop_eq_getElem_cons hlt, List.any_cons,
      show rdOf ByteArray.empty l (i : Int) = l[i] by simp [rdOf, List.getD_eq_getElem?_getD, List.getElem?_eq_getElem hlt]]
    by_cases e : o.toList = l[i].toList
    · rw [if_pos e]; exact ⟨_, rfl, by unfold seq; rw [e]; simp⟩
    · rw [if_neg e]; exact ⟨r, rfl, by rw [h2]; unfold seq; simp [e]⟩
theorem contains_f (l : List ByteArray) (o : ByteArray) (hl : l.length ≤ 4611686018427387904) (k : Nat) (hk : l.length + 1 ≤ k) : slices_Contains_string_string.f k l o = some (l.any (seq o)) := by
  unfold slices_Contains_string_string.f slices_Index_string_string.f
  obtain ⟨r, h1, h2⟩ := idx_l0 l o hl l.length 0 k (by omega) hk
  rw [show ((0 : Nat) : Int) = 0 from rfl] at h1
  rw [h1, Option.bind_some, h2, List.drop_zero]
theorem getL_size {l : List S47} (h : ∀ x ∈ l, x.f1.size ≤ 140737488351232) (nm : ByteArray) : (getL l nm).size ≤ 140737488351232 := by
  unfold getL
  cases hf : l.find? (fun x => seq x.f0 nm) with
  | some x => exact h x (List.mem_of_find?_eq_some hf)
  | none => decide
def okOp (o : ByteArray) : Bool := [(⟨#[61]⟩ : ByteArray), ⟨#[33, 61]⟩, ⟨#[94, 61]⟩, ⟨#[33, 94]⟩].any (seq o)
def badM (m : S35) : Bool := !(nmOK m.f0) || !(okOp m.f1) || decide (128 < m.f2.size)
def chkL (ms : List S35) : Int := if 16 < ms.length then 6 else if ms.any badM then 90 else 0
theorem rdM (l : List S35) (i : Nat) (hi : i < l.length) : rd_T35 l (i : Int) = l[i] := by simp [rd_T35, List.getD_eq_getElem?_getD, List.getElem?_eq_getElem hi]
theorem big_eq (x : ByteArray) : decide ((x.size : Int) > 128) = decide (128 < x.size) := decide_eq_decide.2 (by omega)
theorem lchk_l0 (ms : List S35) (hl : ms.length ≤ 4611686018427387904) (hs : ∀ m ∈ ms, m.f0.size ≤ 140737488351232) : ∀ (n i k : Nat), i + n = ms.length → 2 * n + 600000000000000 ≤ k → labels_Check.l0 k ms (ms.length : Int) (i : Int) = some (if (ms.drop i).any badM then 90 else 0)
  | 0, i, k, hi, hk => by
    obtain ⟨k, rfl⟩ : ∃ j, k = j + 1 := ⟨k - 1, by omega⟩
    unfold labels_Check.l0
    rw [if_neg (by omega), List.drop_of_length_le (by omega)]; rfl
  | n + 1, i, k, hi, hk => by
    obtain ⟨k, rfl⟩ : ∃ j, k = j + 2 := ⟨k - 2, by omega⟩
    have ih := lchk_l0 ms hl hs n (i + 1) k (by omega) (by omega)
    have hlt : i < ms.length := by omega
    have hj : ∀ b : Bool, labels_Check.j1 (k + 1) ms (ms.length : Int) (i : Int) b = some (if b || (ms.drop (i + 1)).any badM then 90 else 0) := fun b => by
      unfold labels_Check.j1
      cases b
      · rw [if_neg (by simp), show wrap64 ((i : Int) + 1) = ((i + 1 : Nat) : Int) by unfold wrap64; omega, ih]; simp
      · rw [if_pos rfl]; simp
    have h0 := hs ms[i] (List.getElem_mem hlt)
    have hnm : labels_nameOK.f (k + 1) ms[i].f0 = some (nmOK ms[i].f0) := nameOK_l0 ms[i].f0 (by omega) ms[i].f0.size 0 _ (by omega) (by omega)
    have hco : slices_Contains_string_string.f (k + 1) [(⟨#[61]⟩ : ByteArray), ⟨#[33, 61]⟩, ⟨#[94, 61]⟩, ⟨#[33, 94]⟩] ms[i].f1 = some (okOp ms[i].f1) := contains_f _ _ (by decide) _ (by show 4 + 1 ≤ _; omega)
    unfold labels_Check.l0
    rw [if_pos (by omega), if_pos (by omega), if_pos (by omega), rdM ms i hlt, hnm, Option.bind_some, List.drop_eq_getElem_cons hlt, List.any_cons, hco, Option.bind_some, big_eq]
    simp only [hj]
    unfold badM
    cases nmOK ms[i].f0 <;> cases okOp ms[i].f1 <;> simp
theorem lchk_f (ms : List S35) (hl : ms.length ≤ 4611686018427387904) (hs : ∀ m ∈ ms, m.f0.size ≤ 140737488351232) : labels_Check.f (2 * ms.length + 600000000000000) ms = some (chkL ms) := by
  unfold labels_Check.f chkL
  by_cases h : 16 < ms.length
  · rw [if_pos (by omega), if_pos h]
  · have := lchk_l0 ms hl hs ms.length 0 _ (by omega) (Nat.le_refl _)
    rw [show ((0 : Nat) : Int) = 0 from rfl, List.drop_zero] at this
    rw [if_neg (by omega), if_neg h, this]
theorem okOp_eq (o : ByteArray) : okOp o = (o.toList == [61] || (o.toList == [33, 61] || (o.toList == [94, 61] || o.toList == [33, 94]))) := by
  unfold okOp seq
  rw [List.any_cons, List.any_cons, List.any_cons, List.any_cons, List.any_nil, Bool.or_false, show (⟨#[61]⟩ : ByteArray).toList = [61] by decide +kernel, show (⟨#[33, 61]⟩ : ByteArray).toList = [33, 61] by decide +kernel, show (⟨#[94, 61]⟩ : ByteArray).toList = [94, 61] by decide +kernel, show (⟨#[33, 94]⟩ : ByteArray).toList = [33, 94] by decide +kernel]
theorem rchk_l0 (ms : List S35) (hl : ms.length ≤ 4611686018427387904) (hs : ∀ m ∈ ms, m.f0.size ≤ 140737488351232) : ∀ (n i k : Nat), i + n = ms.length → 2 * n + 600000000000000 ≤ k → klaxonref09_Check.l0 k ms (i : Int) = some (if (ms.drop i).any badM then 90 else 0)
  | 0, i, k, hi, hk => by
    obtain ⟨k, rfl⟩ : ∃ j, k = j + 1 := ⟨k - 1, by omega⟩
    unfold klaxonref09_Check.l0
    rw [if_neg (by omega), List.drop_of_length_le (by omega)]; rfl
  | n + 1, i, k, hi, hk => by
    obtain ⟨k, rfl⟩ : ∃ j, k = j + 2 := ⟨k - 2, by omega⟩
    have ih := rchk_l0 ms hl hs n (i + 1) k (by omega) (by omega)
    have hlt : i < ms.length := by omega
    have hj : ∀ b : Bool, klaxonref09_Check.j1 (k + 1) ms (i : Int) b = some (if b || (ms.drop (i + 1)).any badM then 90 else 0) := fun b => by
      unfold klaxonref09_Check.j1
      cases b
      · rw [if_neg (by simp), show wrap64 ((i : Int) + 1) = ((i + 1 : Nat) : Int) by unfold wrap64; omega, ih]; simp
      · rw [if_pos rfl]; simp
    have h0 := hs ms[i] (List.getElem_mem hlt)
    have hnm : klaxonref09_Name.f (k + 1) ms[i].f0 = some (nmOK ms[i].f0) := nameR_f ms[i].f0 (by omega) _ (by omega)
    unfold klaxonref09_Check.l0
    rw [if_pos (by omega), if_pos (by omega), rdM ms i hlt, hnm, Option.bind_some, List.drop_eq_getElem_cons hlt, List.any_cons, big_eq]
    simp only [hj]
    unfold badM
    rw [okOp_eq]
    obtain ⟨o, ho⟩ : ∃ o, o = ms[i].f1.toList := ⟨_, rfl⟩
    rw [← ho]
    cases nmOK ms[i].f0
    · simp
    · by_cases e1 : o = [61]
      · simp [e1]
      · by_cases e2 : o = [33, 61]
        · simp [e2]
        · by_cases e3 : o = [94, 61]
          · simp [e3]
          · by_cases e4 : o = [33, 94]
            · simp [e4]
            · simp [e1, e2, e3, e4]
theorem rchk_f (ms : List S35) (hl : ms.length ≤ 4611686018427387904) (hs : ∀ m ∈ ms, m.f0.size ≤ 140737488351232) : klaxonref09_Check.f (2 * ms.length + 600000000000000) ms = some (chkL ms) := by
  unfold klaxonref09_Check.f chkL
  by_cases h : 16 < ms.length
  · rw [if_pos (by omega), if_pos h]
  · have := rchk_l0 ms hl hs ms.length 0 _ (by omega) (Nat.le_refl _)
    rw [show ((0 : Nat) : Int) = 0 from rfl, List.drop_zero] at this
    rw [if_neg (by omega), if_neg h, this]
theorem rget_l0 (l : List S47) (nm : ByteArray) (hl : l.length ≤ 9223372036854775807) : ∀ (n i k : Nat), i + n = l.length → n + 1 ≤ k → klaxonref09_Get.l0 k l nm (i : Int) = some (getL (l.drop i) nm)
  | 0, i, k, hi, hk => by
    obtain ⟨k, rfl⟩ : ∃ j, k = j + 1 := ⟨k - 1, by omega⟩
    unfold klaxonref09_Get.l0
    rw [if_neg (by omega), List.drop_of_length_le (by omega)]; rfl
  | n + 1, i, k, hi, hk => by
    obtain ⟨k, rfl⟩ : ∃ j, k = j + 1 := ⟨k - 1, by omega⟩
    have ih := rget_l0 l nm hl n (i + 1) k (by omega) (by omega)
    have hlt : i < l.length := by omega
    unfold klaxonref09_Get.l0
    rw [if_pos (by omega), if_pos (by omega), rdT l i hlt, show wrap64 ((i : Int) + 1) = ((i + 1 : Nat) : Int) by unfold wrap64; omega, ih, List.drop_eq_getElem_cons hlt]
    unfold getL
    rw [List.find?_cons]
    unfold seq
    by_cases e : l[i].f0.toList = nm.toList
    · rw [if_pos e, e]; simp
    · have e' : (l[i].f0.toList == nm.toList) = false := beq_eq_false_iff_ne.2 e
      rw [if_neg e]; simp only [e']
theorem rget_f (l : List S47) (nm : ByteArray) (hl : l.length ≤ 9223372036854775807) : klaxonref09_Get.f (l.length + 1) l nm = some (getL l nm) := by
  have := rget_l0 l nm hl l.length 0 _ (by omega) (Nat.le_refl _)
  rw [List.drop_zero] at this
  exact this
theorem seq_61 (m1 : ByteArray) : seq m1 ⟨#[61]⟩ = (m1.toList == [61]) := by unfold seq; rw [show (⟨#[61]⟩ : ByteArray).toList = [61] by decide +kernel]
theorem seq_3361 (m1 : ByteArray) : seq m1 ⟨#[33, 61]⟩ = (m1.toList == [33, 61]) := by unfold seq; rw [show (⟨#[33, 61]⟩ : ByteArray).toList = [33, 61] by decide +kernel]
theorem seq_9461 (m1 : ByteArray) : seq m1 ⟨#[94, 61]⟩ = (m1.toList == [94, 61]) := by unfold seq; rw [show (⟨#[94, 61]⟩ : ByteArray).toList = [94, 61] by decide +kernel]
theorem seq_3394 (m1 : ByteArray) : seq m1 ⟨#[33, 94]⟩ = (m1.toList == [33, 94]) := by unfold seq; rw [show (⟨#[33, 94]⟩ : ByteArray).toList = [33, 94] by decide +kernel]
theorem rget_calls (A : Option Addr) (c : Nat) (l : List S47) (nm : ByteArray) (w : World) (hr : Kd.C k47 w A l.length l) (hc : l.length ≤ c) : Calls Tryz.prog 31 #[.slice A l.length c, .string nm] w fun e w' => e = .returned (.string (getL l nm)) ∧ Below w.heap.size w w' :=
  (klaxonref09_Get.calls _ A c l nm _ w hr hc (rget_f l nm (by have := hr.2.1; omega))).mono fun e w' h => ⟨h.1, h.2.below⟩
theorem matchL_drop (l : List S47) (ms : List S35) (i : Nat) (h : i < ms.length) : matchL l (ms.drop i) = (mtch (getL l ms[i].f0) ms[i] && matchL l (ms.drop (i + 1))) := by
  unfold matchL; rw [List.drop_eq_getElem_cons h, List.all_cons]
set_option maxHeartbeats 2000000 in
set_option maxRecDepth 100000 in
theorem rmatch_calls (A : Option Addr) (c : Nat) (l : List S47) (A2 : Option Addr) (c2 : Nat) (ms : List S35) (w : World) (hr : Kd.C k47 w A l.length l) (hc : l.length ≤ c) (hr2 : Kd.C k35 w A2 ms.length ms) (hsz : ∀ m ∈ ms, m.f2.size ≤ 140737488351232) (hszl : ∀ x ∈ l, x.f1.size ≤ 140737488351232) :
    Calls Tryz.prog 21 #[.slice A l.length c, .slice A2 ms.length c2] w fun e w' => e = .returned (.bool (matchL l ms)) ∧ Below w.heap.size w w' := by
  have hlm : ms.length ≤ 9223372036854775807 := hr2.2.1
  have HG : Aside0 (∀ W, Below w.heap.size w W → ∀ nm, Calls Tryz.prog 31 #[.slice A l.length c, .string nm] W fun e w' => e = .returned (.string (getL l nm)) ∧ Below W.heap.size W w') := ⟨fun W hb nm => rget_calls A c l nm W (Kd.C_below hr hb) hc⟩
  have HR2 := Aside0.mk hr2
  have HSZ := Aside0.mk hsz; have HSZL := Aside0.mk hszl
  clear hr hr2 hsz hszl hc
  go_enter Tryz.func21, Tryz.ntmps21
  go_wp2_with fail
  go_loopw [5] (fun x wr => ∃ i n : Nat, i + n = ms.length ∧ x = .int .i64 i ∧ Aside0 (matchL l (ms.drop i) = matchL l ms) ∧ Aside0 (Below w.heap.size w wr)) (fun x _ => ms.length - (intOf x).toNat)
  case atStart => exact ⟨0, ms.length, by omega, rfl, ⟨rfl⟩, ⟨Below.refl _ _⟩⟩
  case round =>
    obtain ⟨i, n, hin, rfl, HS, HB⟩ := hrel
    cases n with
    | zero =>
      obtain rfl : i = ms.length := by omega
      have hkk : ¬ ((ms.length : Int) < (ms.length : Int)) := by omega
      have HE : Aside0 (matchL l ms = true) := ⟨by rw [← HS.out, List.drop_length]; rfl⟩
      go_wp2_with fail
      go_ret
      refine ⟨?_, HB.out⟩
      show Ending.returned (.bool true) = _
      rw [HE.out]
    | succ n =>
      have hlt : i < ms.length := by omega
      obtain ⟨ad, rfl, h0, h1, h2⟩ := at_T35 (Kd.C_below HR2.out HB.out) (i : Int) (by omega) (by omega)
      rw [rdM ms i hlt, Int.toNat_natCast] at h0 h1 h2
      obtain ⟨m, hm⟩ : ∃ m, m = ms[i] := ⟨_, rfl⟩
      have HD : Aside0 (matchL l ms = (mtch (getL l m.f0) m && matchL l (ms.drop (i + 1)))) := ⟨by rw [← HS.out, matchL_drop l ms i hlt, hm]⟩
      have hmz : m.f2.size ≤ 140737488351232 := HSZ.out m (by rw [hm]; exact List.getElem_mem hlt)
      rw [← hm] at h0 h1 h2
      obtain ⟨v, hv⟩ : ∃ v, v = getL l m.f0 := ⟨_, rfl⟩
      have hvz : v.size ≤ 140737488351232 := by rw [hv]; exact getL_size HSZL.out m.f0
      have hki : (i : Int) < (ms.length : Int) := by omega
      have hki0 : (0 : Int) ≤ (i : Int) := by omega
      obtain ⟨Jnv, hJnv⟩ : ∃ J : World → Prop, J = fun W' => Below wr.heap.size wr W' := ⟨_, rfl⟩
      have HJD : Aside0 (∀ W', Jnv W' → Below wr.heap.size wr W') := ⟨fun W' h => by rw [hJnv] at h; exact h⟩
      have HDJ : Aside0 (∀ W', Below wr.heap.size wr W' → Jnv W') := ⟨fun W' h => by rw [hJnv]; exact h⟩
      have HRF : Aside0 (∀ W : World, Below W.heap.size W W) := ⟨fun W => Below.refl _ _⟩
      have HIN := Aside0.mk hin; have HLT := Aside0.mk hlt
      have HCG : Aside0 (∀ W', Jnv W' → Calls Tryz.prog 31 #[.slice A l.length c, .string m.f0] W' fun e w' => e = .returned (.string v) ∧ Jnv w' ∧ Below W'.heap.size W' w') := ⟨fun W' hW => by
        refine (HG.out W' (below_step HB.out (HJD.out _ hW)) m.f0).mono ?_
        rintro e w' ⟨he, hb⟩
        exact ⟨by rw [he, hv], HDJ.out _ (below_step (HJD.out _ hW) hb), hb⟩⟩
      have SF : Aside0 (∀ W', Jnv W' → W'.cell? (ad.add (i * 3)) = some (.string m.f0) ∧ W'.cell? ⟨(ad.add (i * 3)).block, (ad.add (i * 3)).off + 1, none⟩ = some (.string m.f1) ∧ W'.cell? ⟨(ad.add (i * 3)).block, (ad.add (i * 3)).off + 2, none⟩ = some (.string m.f2)) := ⟨fun W' hW => ⟨pw_cell_below (HJD.out W' hW) h0, pw_cell_below (HJD.out W' hW) h1, pw_cell_below (HJD.out W' hW) h2⟩⟩
      rw [← hv] at HD
      obtain ⟨m0, m1, m2⟩ := m
      obtain ⟨q, hq⟩ : ∃ q, q = mtch v ⟨m0, m1, m2⟩ := ⟨_, rfl⟩
      rw [← hq] at HD
      have HQ := Aside0.mk hq
      have hmz2 : m2.size ≤ 140737488351232 := hmz
      clear hJnv hv hm h0 h1 h2 hq hmz
      go_upto_region 4 with (fail)
      refine' wp_region_flow (by kernel_rfl) (by kernel_rfl) Jnv (fun W W' => Below W.heap.size W W') HRF.out (HDJ.out _ (below_drew1 (Below.refl _ _))) _ ?_
      rotate_left
      refine' Flow.val _ 0 (some 16) (Op.move (Operand.tmp 0)) 22 (none) [] _ rfl (by kernel_rfl) (by kernel_rfl) (by kernel_rfl) (by rfl) ?_ ?_ HRF.out
      rotate_left 2
      · (intro W hW hK; go_simp; first | done | with_reducible rfl)
      try simp only [Act.put, List.setIfInBounds_toArray, List.set_cons_zero, List.set_cons_succ]
      refine' Flow.val _ 1 (some 17) (Op.move (Operand.tmp 1)) 33 (none) [] _ rfl (by kernel_rfl) (by kernel_rfl) (by kernel_rfl) (by rfl) ?_ ?_ HRF.out
      rotate_left 2
      · (intro W hW hK; go_simp; first | done | with_reducible rfl)
      try simp only [Act.put, List.setIfInBounds_toArray, List.set_cons_zero, List.set_cons_succ]
      refine' Flow.val _ 2 (some 18) (Op.move (Operand.tmp 5)) 3 (none) [] _ rfl (by kernel_rfl) (by kernel_rfl) (by kernel_rfl) (by rfl) ?_ ?_ HRF.out
      rotate_left 2
      · (intro W hW hK; go_simp; first | done | with_reducible rfl)
      try simp only [Act.put, List.setIfInBounds_toArray, List.set_cons_zero, List.set_cons_succ]
      refine' Flow.val _ 3 (some 19) (Op.indexAddr 33 (Operand.tmp 17) (Operand.tmp 18)) 0 (none) [] _ rfl (by kernel_rfl) (by kernel_rfl) (by kernel_rfl) (by rfl) ?_ ?_ HRF.out
      rotate_left 2
      · (intro W hW hK; have hF := SF.out W hW; go_simp; first | done | with_reducible rfl)
      try simp only [Act.put, List.setIfInBounds_toArray, List.set_cons_zero, List.set_cons_succ]
      refine' Flow.val _ 4 (some 20) (Op.fieldAddr 35 (Operand.tmp 19) 0) 0 (none) [] _ rfl (by kernel_rfl) (by kernel_rfl) (by kernel_rfl) (by rfl) ?_ ?_ HRF.out
      rotate_left 2
      · (intro W hW hK; have hF := SF.out W hW; go_simp; first | done | with_reducible rfl)
      try simp only [Act.put, List.setIfInBounds_toArray, List.set_cons_zero, List.set_cons_succ]
      refine' Flow.val _ 5 (some 21) (Op.load 9 (Operand.tmp 20)) 9 (none) [] _ rfl (by kernel_rfl) (by kernel_rfl) (by kernel_rfl) (by rfl) ?_ ?_ HRF.out
      rotate_left 2
      · (intro W hW hK; have hF := SF.out W hW; go_simp; first | done | with_reducible rfl)
      try simp only [Act.put, List.setIfInBounds_toArray, List.set_cons_zero, List.set_cons_succ]
      refine' Flow.call _ 6 (some 22) (Op.call { callee := Callee.value (Operand.func 31), args := #[Operand.tmp 16, Operand.tmp 21], argTypes := #[22, 9] }) 9 (none) [] _ 31 _ rfl (by kernel_rfl) (by kernel_rfl) (by kernel_rfl) (by rfl) ?_ ?_ ?_
      rotate_left 3
      · (intro W; go_simp; first | done | with_reducible rfl)
      · (intro W hW hK; refine (HCG.out W hW).mono ?_; intro e w' h; exact h)
      try simp only [Act.put, List.setIfInBounds_toArray, List.set_cons_zero, List.set_cons_succ]
      refine' Flow.val _ 7 (some 23) (Op.move (Operand.tmp 1)) 33 (none) [] _ rfl (by kernel_rfl) (by kernel_rfl) (by kernel_rfl) (by rfl) ?_ ?_ HRF.out
      rotate_left 2
      · (intro W hW hK; go_simp; first | done | with_reducible rfl)
      try simp only [Act.put, List.setIfInBounds_toArray, List.set_cons_zero, List.set_cons_succ]
      refine' Flow.val _ 8 (some 24) (Op.move (Operand.tmp 5)) 3 (none) [] _ rfl (by kernel_rfl) (by kernel_rfl) (by kernel_rfl) (by rfl) ?_ ?_ HRF.out
      rotate_left 2
      · (intro W hW hK; go_simp; first | done | with_reducible rfl)
      try simp only [Act.put, List.setIfInBounds_toArray, List.set_cons_zero, List.set_cons_succ]
      refine' Flow.val _ 9 (some 25) (Op.indexAddr 33 (Operand.tmp 23) (Operand.tmp 24)) 0 (none) [] _ rfl (by kernel_rfl) (by kernel_rfl) (by kernel_rfl) (by rfl) ?_ ?_ HRF.out
      rotate_left 2
      · (intro W hW hK; have hF := SF.out W hW; go_simp; first | done | with_reducible rfl)
      try simp only [Act.put, List.setIfInBounds_toArray, List.set_cons_zero, List.set_cons_succ]
      refine' Flow.val _ 10 (some 26) (Op.fieldAddr 35 (Operand.tmp 25) 2) 0 (none) [] _ rfl (by kernel_rfl) (by kernel_rfl) (by kernel_rfl) (by rfl) ?_ ?_ HRF.out
      rotate_left 2
      · (intro W hW hK; have hF := SF.out W hW; go_simp; first | done | with_reducible rfl)
      try simp only [Act.put, List.setIfInBounds_toArray, List.set_cons_zero, List.set_cons_succ]
      refine' Flow.val _ 11 (some 27) (Op.load 9 (Operand.tmp 26)) 9 (none) [] _ rfl (by kernel_rfl) (by kernel_rfl) (by kernel_rfl) (by rfl) ?_ ?_ HRF.out
      rotate_left 2
      · (intro W hW hK; have hF := SF.out W hW; go_simp; first | done | with_reducible rfl)
      try simp only [Act.put, List.setIfInBounds_toArray, List.set_cons_zero, List.set_cons_succ]
      refine' Flow.val _ 12 (some 6) (Op.assign (Operand.tmp 22)) 9 (none) [] _ rfl (by kernel_rfl) (by kernel_rfl) (by kernel_rfl) (by rfl) ?_ ?_ HRF.out
      rotate_left 2
      · (intro W hW hK; go_simp; first | done | with_reducible rfl)
      try simp only [Act.put, List.setIfInBounds_toArray, List.set_cons_zero, List.set_cons_succ]
      refine' Flow.val _ 13 (some 7) (Op.assign (Operand.tmp 27)) 9 (none) [] _ rfl (by kernel_rfl) (by kernel_rfl) (by kernel_rfl) (by rfl) ?_ ?_ HRF.out
      rotate_left 2
      · (intro W hW hK; go_simp; first | done | with_reducible rfl)
      try simp only [Act.put, List.setIfInBounds_toArray, List.set_cons_zero, List.set_cons_succ]
      refine Flow.done _ (by kernel_rfl) ?_
      intro W5 hW hK
      have HB5 := Aside0.mk (below_step HB.out (HJD.out _ hW))
      have hF1 := (SF.out W5 hW).2.1
      clear hK hW SF HCG HJD HDJ HRF
      obtain ⟨H0, hH⟩ : ∃ b, b = hpf v m2 := ⟨_, rfl⟩
      have HH := Aside0.mk hH
      clear hH
      go_upto_region 5 with (fail)
      go_cut [8] from 10 to 67 (fun s wx => s = .bool H0 ∧ wx = W5)
      case first =>
        by_cases hle : (m2.size : Int) ≤ (v.size : Int)
        · go_wp2_with fail
          go_meet
          refine ⟨?_, rfl⟩
          rw [HH.out]
          unfold hpf
          rw [if_pos hle]
        · go_wp2_with fail
          go_meet
          refine ⟨?_, rfl⟩
          rw [HH.out]
          unfold hpf
          rw [if_neg (by omega)]
      case rest =>
      obtain ⟨rfl, hwc⟩ := hcut
      subst hwc
      have hl1 := seq_61 m1; have hl2 := seq_3361 m1; have hl3 := seq_9461 m1; have hl4 := seq_3394 m1
      cases h1 : seq m1 ⟨#[61]⟩ with
      | true =>
        have H1 := Aside0.mk h1
        have HQ2 : Aside0 (q = seq v m2) := ⟨by rw [HQ.out]; unfold mtch; simp only; rw [if_pos H1.out]⟩
        clear HH HQ
        rw [hl1] at h1
        clear hl1 hl2 hl3 hl4
        cases hb : (v.toList == m2.toList) with
        | true =>
          have HE : Aside0 (matchL l (ms.drop (i + 1)) = matchL l ms) := ⟨by have h := HD.out; rw [HQ2.out] at h; simpa [seq, hb] using h.symm⟩
          have hbn : (v.toList != m2.toList) = false := by simp [bne, hb]
          go_wp2_with fail
          go_roundw
          case rel => exact ⟨i + 1, n, by have := HIN.out; omega, by go_num, ⟨HE.out⟩, HB5⟩
          case measure => (have := HLT.out; simp [intOf]; try omega)
        | false =>
          have HE : Aside0 (matchL l ms = false) := ⟨by have h := HD.out; rw [HQ2.out] at h; simpa [seq, hb] using h⟩
          have hbn : (v.toList != m2.toList) = true := by simp [bne, hb]
          go_wp2_with fail
          go_ret
          refine ⟨?_, HB5.out⟩
          show Ending.returned (.bool false) = _
          rw [HE.out]
      | false =>
      cases h2 : seq m1 ⟨#[33, 61]⟩ with
      | true =>
        have H1 := Aside0.mk h1; have H2 := Aside0.mk h2
        have HQ2 : Aside0 (q = !(seq v m2)) := ⟨by rw [HQ.out]; unfold mtch; simp only; rw [if_neg (by rw [H1.out]; decide), if_pos H2.out]⟩
        clear HH HQ
        rw [hl1] at h1
        rw [hl2] at h2
        clear hl1 hl2 hl3 hl4
        cases hb : (v.toList == m2.toList) with
        | true =>
          have HE : Aside0 (matchL l ms = false) := ⟨by have h := HD.out; rw [HQ2.out] at h; simpa [seq, hb] using h⟩
          have hbn : (v.toList != m2.toList) = false := by simp [bne, hb]
          go_wp2_with fail
          go_ret
          refine ⟨?_, HB5.out⟩
          show Ending.returned (.bool false) = _
          rw [HE.out]
        | false =>
          have HE : Aside0 (matchL l (ms.drop (i + 1)) = matchL l ms) := ⟨by have h := HD.out; rw [HQ2.out] at h; simpa [seq, hb] using h.symm⟩
          have hbn : (v.toList != m2.toList) = true := by simp [bne, hb]
          go_wp2_with fail
          go_roundw
          case rel => exact ⟨i + 1, n, by have := HIN.out; omega, by go_num, ⟨HE.out⟩, HB5⟩
          case measure => (have := HLT.out; simp [intOf]; try omega)
      | false =>
      cases h3 : seq m1 ⟨#[94, 61]⟩ with
      | true =>
        have H1 := Aside0.mk h1; have H2 := Aside0.mk h2; have H3 := Aside0.mk h3
        have HQ2 : Aside0 (q = H0) := ⟨by rw [HQ.out]; unfold mtch; simp only; rw [if_neg (by rw [H1.out]; decide), if_neg (by rw [H2.out]; decide), if_pos H3.out, HH.out]⟩
        clear HH HQ
        rw [hl1] at h1
        rw [hl2] at h2
        rw [hl3] at h3
        clear hl1 hl2 hl3 hl4
        cases H0 with
        | true =>
          have HE : Aside0 (matchL l (ms.drop (i + 1)) = matchL l ms) := ⟨by have h := HD.out; rw [HQ2.out] at h; simpa [HQ2] using h.symm⟩
          go_wp2_with fail
          go_roundw
          case rel => exact ⟨i + 1, n, by have := HIN.out; omega, by go_num, ⟨HE.out⟩, HB5⟩
          case measure => (have := HLT.out; simp [intOf]; try omega)
        | false =>
          have HE : Aside0 (matchL l ms = false) := ⟨by have h := HD.out; rw [HQ2.out] at h; simpa [HQ2] using h⟩
          go_wp2_with fail
          go_ret
          refine ⟨?_, HB5.out⟩
          show Ending.returned (.bool false) = _
          rw [HE.out]
      | false =>
      cases h4 : seq m1 ⟨#[33, 94]⟩ with
      | true =>
        have H1 := Aside0.mk h1; have H2 := Aside0.mk h2; have H3 := Aside0.mk h3; have H4 := Aside0.mk h4
        have HQ2 : Aside0 (q = !H0) := ⟨by rw [HQ.out]; unfold mtch; simp only; rw [if_neg (by rw [H1.out]; decide), if_neg (by rw [H2.out]; decide), if_neg (by rw [H3.out]; decide), if_pos H4.out, HH.out]⟩
        clear HH HQ
        rw [hl1] at h1
        rw [hl2] at h2
        rw [hl3] at h3
        rw [hl4] at h4
        clear hl1 hl2 hl3 hl4
        cases H0 with
        | true =>
          have HE : Aside0 (matchL l ms = false) := ⟨by have h := HD.out; rw [HQ2.out] at h; simpa [HQ2] using h⟩
          go_wp2_with fail
          go_ret
          refine ⟨?_, HB5.out⟩
          show Ending.returned (.bool false) = _
          rw [HE.out]
        | false =>
          have HE : Aside0 (matchL l (ms.drop (i + 1)) = matchL l ms) := ⟨by have h := HD.out; rw [HQ2.out] at h; simpa [HQ2] using h.symm⟩
          go_wp2_with fail
          go_roundw
          case rel => exact ⟨i + 1, n, by have := HIN.out; omega, by go_num, ⟨HE.out⟩, HB5⟩
          case measure => (have := HLT.out; simp [intOf]; try omega)
      | false =>
        have H1 := Aside0.mk h1; have H2 := Aside0.mk h2; have H3 := Aside0.mk h3; have H4 := Aside0.mk h4
        have HQ2 : Aside0 (q = false) := ⟨by rw [HQ.out]; unfold mtch; simp only; rw [if_neg (by rw [H1.out]; decide), if_neg (by rw [H2.out]; decide), if_neg (by rw [H3.out]; decide), if_neg (by rw [H4.out]; decide)]⟩
        clear HH HQ
        rw [hl1] at h1
        rw [hl2] at h2
        rw [hl3] at h3
        rw [hl4] at h4
        clear hl1 hl2 hl3 hl4
        have HE : Aside0 (matchL l ms = false) := ⟨by have h := HD.out; rw [HQ2.out] at h; simpa [HQ2] using h⟩
        go_wp2_with fail
        go_ret
        refine ⟨?_, HB5.out⟩
        show Ending.returned (.bool false) = _
        rw [HE.out]
theorem wp_append_emptyM {ops : Array Oper} {rest : List Oper} {o : Oper} {a : Act} {Q : Exit → Act → World → Prop} (W : World) (hw : Region.wanted o (yielded ops a.tmps) = true) (s x : Tmp) (ho : o.op = .call { callee := .builtin .append, args := #[.tmp s, .tmp x], argTypes := #[33, 33] })
    (g : Nat) (ys : List S35) (A : Option Addr) (c : Nat) (hs : a.eval (.tmp s) = .slice (some ⟨g, 0, none⟩) 0 0) (hx : a.eval (.tmp x) = .slice A ys.length c) (h0 : W.heap[g]? = some (.cells #[] 35 (0, 0))) (HR : Kd.C k35 W A ys.length ys) (hl : ys.length ≤ 1000000)
    (h : ∀ A9 c9 w1, Kd.C k35 w1 A9 ys.length ys → ys.length ≤ c9 → Below W.heap.size W w1 → wpList Tryz.prog ops Q rest (a.put o.dst (.slice A9 ys.length c9)) w1) : wpList Tryz.prog ops Q (o :: rest) a W := by
  refine gate_guard hw ?_
  have hg : g ≤ W.heap.size := by
    obtain ⟨h1, -⟩ := Array.getElem?_eq_some_iff.1 h0
    omega
  obtain ⟨v1, w1, hr, hR, hB⟩ := append_emptyM W g o.type g ys A c h0 (Nat.le_refl _) hg HR hl
  obtain ⟨A9, c9, rfl, hc9, hC9⟩ := Kd.R_reads hR
  refine Kd.event_run rfl ?_ (h A9 c9 w1 hC9 hc9 hB)
  simp [execOp, resolve, invoke, builtin, ho, hs, hx, hr]
set_option maxHeartbeats 2000000 in
set_option maxRecDepth 100000 in
theorem lmatch_calls (A : Option Addr) (c : Nat) (l : List S47) (A2 : Option Addr) (c2 : Nat) (ms : List S35) (w : World) (hr : Kd.C k47 w A l.length l) (hc : l.length ≤ c) (hr2 : Kd.C k35 w A2 ms.length ms) (hc2 : ms.length ≤ c2)
    (hsz : ∀ x ∈ l, x.f0.size ≤ 140737488351232 ∧ x.f1.size ≤ 140737488351232) (hszm : ∀ m ∈ ms, m.f0.size ≤ 140737488351232 ∧ m.f1.size ≤ 140737488351232 ∧ m.f2.size ≤ 140737488351232) :
    Calls Tryz.prog 4 #[.slice A l.length c, .slice A2 ms.length c2] w fun e w' => e = .returned (.bool true) ∧ Below w.heap.size w w' := by
  have hlm : ms.length ≤ 9223372036854775807 := hr2.2.1
  have HR := Aside0.mk hr; have HR2 := Aside0.mk hr2
  have HSET : Aside0 (∀ W, Below w.heap.size w W → Calls Tryz.prog 17 #[.slice A l.length c] W fun e w' => e = .returned (.bool (setB l)) ∧ Below W.heap.size W w') := ⟨fun W hb => set_calls A c l hsz W (Kd.C_below hr hb)⟩
  have HLC : Aside0 (∀ W A9 c9, ms.length ≤ c9 → Kd.C k35 W A9 ms.length ms → ms.length ≤ 60 → Calls Tryz.prog 18 #[.slice A9 ms.length c9] W fun e w' => e = .returned (.int .i64 (chkL ms)) ∧ Below W.heap.size W w') := ⟨fun W A9 c9 h9 hC h6 => labels_Check.calls _ A9 c9 ms _ W hC h9 (lchk_f ms (by omega) (fun m hm => (hszm m hm).1))⟩
  have HRC : Aside0 (∀ W A9 c9, ms.length ≤ c9 → Kd.C k35 W A9 ms.length ms → ms.length ≤ 60 → Calls Tryz.prog 19 #[.slice A9 ms.length c9] W fun e w' => e = .returned (.int .i64 (chkL ms)) ∧ Below W.heap.size W w') := ⟨fun W A9 c9 h9 hC h6 => klaxonref09_Check.calls _ A9 c9 ms _ W hC h9 (rchk_f ms (by omega) (fun m hm => (hszm m hm).1))⟩
  have HNM : Aside0 (∀ W (r : Int), Calls Tryz.prog 16 #[.int .i64 r] W fun e w' => e = .returned (.int .i64 r) ∧ Below W.heap.size W w') := ⟨fun W r => (klaxonlaw09_num.calls r r W rfl).mono fun e w' h => ⟨h.1, h.2.below⟩⟩
  have HLM : Aside0 (∀ W A9 c9, Below w.heap.size w W → Kd.C k35 W A9 ms.length ms → Calls Tryz.prog 20 #[.slice A l.length c, .slice A9 ms.length c9] W fun e w' => e = .returned (.bool (matchL l ms)) ∧ Below W.heap.size W w') := ⟨fun W A9 c9 hb hC => match_calls A c l A9 c9 ms W (Kd.C_below hr hb) hC⟩
  have HRM : Aside0 (∀ W, Below w.heap.size w W → Calls Tryz.prog 21 #[.slice A l.length c, .slice A2 ms.length c2] W fun e w' => e = .returned (.bool (matchL l ms)) ∧ Below W.heap.size W w') := ⟨fun W hb => rmatch_calls A c l A2 c2 ms W (Kd.C_below hr hb) hc (Kd.C_below hr2 hb) (fun m hm => (hszm m hm).2.2) (fun x hx => (hsz x hx).2)⟩
  obtain ⟨sb, hsb⟩ : ∃ b, b = setB l := ⟨_, rfl⟩
  obtain ⟨mb, hmb⟩ : ∃ b, b = matchL l ms := ⟨_, rfl⟩
  obtain ⟨cb, hcb⟩ : ∃ b, b = chkL ms := ⟨_, rfl⟩
  rw [← hsb] at HSET
  rw [← hcb] at HLC HRC
  rw [← hmb] at HLM HRM
  have HSZM : Aside0 (∀ m ∈ ms, m.f0.size ≤ 140737488351232 ∧ m.f1.size ≤ 140737488351232 ∧ m.f2.size ≤ 140737488351232) := ⟨hszm⟩
  have HC2 := Aside0.mk hc2
  clear hr hr2 hsz hszm hsb hmb hcb hc hc2
  go_enter Tryz.func4, Tryz.ntmps4
  go_wp2_with fail
  go_loopw [5, 6] (fun x y wr => ∃ (N : Int) (i n : Nat), i + n = ms.length ∧ x = .int .i64 N ∧ y = .int .i64 i ∧ Aside0 (Below w.heap.size w wr)) (fun _ y _ => ms.length - (intOf y).toNat)
  case atStart => exact ⟨0, 0, ms.length, by omega, rfl, rfl, ⟨Below.refl _ _⟩⟩
  case round =>
    obtain ⟨N, i, n, hin, rfl, rfl, HB⟩ := hrel
    cases n with
    | zero =>
      obtain rfl : i = ms.length := by omega
      have hkk : ¬ ((ms.length : Int) < (ms.length : Int)) := by omega
      go_wp2_with fail
      refine (HSET.out wr HB.out).mono ?_
      rintro e w1 ⟨rfl, hb1⟩
      have HB1 := Aside0.mk (below_step HB.out hb1)
      clear hb1
      cases sb with
      | false =>
        go_wp2_with fail
        refine (live_calls w1).mono ?_
        rintro e w2 ⟨rfl, hb2⟩
        have HB2 := Aside0.mk (below_step HB1.out hb2)
        clear hb2
        go_wp2_with fail
        go_ret
        exact ⟨rfl, HB2.out⟩
      | true =>
        by_cases h60 : ms.length ≤ 60
        · have hgt : decide ((60 : Int) < (ms.length : Int)) = false := decide_eq_false (by omega)
          obtain ⟨nb, hnb⟩ : ∃ b, b = decide ((20000 : Int) < N) := ⟨_, rfl⟩
          have hnb2 := hnb.symm
          have HNB := Aside0.mk hnb
          clear hnb
          cases nb with
          | true =>
            go_wp2_with fail
            refine (live_calls w1).mono ?_
            rintro e w2 ⟨rfl, hb2⟩
            have HB2 := Aside0.mk (below_step HB1.out hb2)
            clear hb2
            go_wp2_with fail
            go_ret
            exact ⟨rfl, HB2.out⟩
          | false =>
            go_wp2_with ((with_reducible refine gate_builtin (b := .append) (xs := #[.tmp 52, .tmp 53]) rfl ?_); at_builtin; refine wp_append_emptyM _ (by rfl) 52 53 rfl _ ms A2 c2 (by rfl) (by rfl) ?h0 ?hR ?hl ?_; (case h0 => exact blk_new _ _); (case hR => exact Kd.C_alloc (Kd.C_below HR2.out HB1.out) _); (case hl => omega); intro A9 c9 w3 hC9 hc9 hb9; have HB3 := Aside0.mk (below_step (below_alloc HB1.out _) hb9); have HC9 := Aside0.mk hC9; have HN9 := Aside0.mk hc9; clear hC9 hc9 hb9)
            refine (HLC.out w3 A9 c9 HN9.out HC9.out h60).mono ?_
            rintro e w4 ⟨rfl, hb4⟩
            have HB4 := Aside0.mk (below_step HB3.out hb4)
            clear hb4
            go_wp2_with fail
            refine (HNM.out w4 cb).mono ?_
            rintro e w5 ⟨rfl, hb5⟩
            have HB5 := Aside0.mk (below_step HB4.out hb5)
            clear hb5
            go_wp2_with fail
            refine (HRC.out w5 A2 c2 HC2.out (Kd.C_below HR2.out HB5.out) h60).mono ?_
            rintro e w6 ⟨rfl, hb6⟩
            have HB6 := Aside0.mk (below_step HB5.out hb6)
            clear hb6 HB3 HC9 HN9 HB4 HB5
            go_wp2_with ((with_reducible refine gate_builtin (b := .append) (xs := #[.tmp 62, .tmp 63]) rfl ?_); at_builtin; refine wp_append_emptyM _ (by rfl) 62 63 rfl _ ms A2 c2 (by rfl) (by rfl) ?h0 ?hR ?hl ?_; (case h0 => exact blk_new _ _); (case hR => exact Kd.C_alloc (Kd.C_below HR2.out HB6.out) _); (case hl => omega); intro A8 c8 w7 hC8 hc8 hb8; have HB7 := Aside0.mk (below_step (below_alloc HB6.out _) hb8); have HC8 := Aside0.mk hC8; clear hC8 hc8 hb8)
            refine (HLM.out w7 A8 c8 HB7.out HC8.out).mono ?_
            rintro e w8 ⟨rfl, hb8⟩
            have HB8 := Aside0.mk (below_step HB7.out hb8)
            clear hb8
            go_wp2_with fail
            refine (HRM.out w8 HB8.out).mono ?_
            rintro e w9 ⟨rfl, hb9⟩
            have HB9 := Aside0.mk (below_step HB8.out hb9)
            clear hb9
            go_wp2_with fail
            refine (live_calls w9).mono ?_
            rintro e w10 ⟨rfl, hb10⟩
            have HB10 := Aside0.mk (below_step HB9.out hb10)
            clear hb10
            go_wp2_with fail
            go_ret
            exact ⟨rfl, HB10.out⟩
        · have hgt : decide ((60 : Int) < (ms.length : Int)) = true := decide_eq_true (by omega)
          go_wp2_with fail
          refine (live_calls w1).mono ?_
          rintro e w2 ⟨rfl, hb2⟩
          have HB2 := Aside0.mk (below_step HB1.out hb2)
          clear hb2
          go_wp2_with fail
          go_ret
          exact ⟨rfl, HB2.out⟩
    | succ n =>
      have hlt : i < ms.length := by omega
      have hki : (i : Int) < (ms.length : Int) := by omega
      have hki0 : (0 : Int) ≤ (i : Int) := by omega
      by_cases h60 : (i : Int) ≤ 60
      · have hle : decide ((i : Int) ≤ 60) = true := decide_eq_true h60
        obtain ⟨ad, rfl, h0, h1, h2⟩ := at_T35 (Kd.C_below HR2.out HB.out) (i : Int) (by omega) (by omega)
        rw [rdM ms i hlt, Int.toNat_natCast] at h0 h1 h2
        obtain ⟨m, hm⟩ : ∃ m, m = ms[i] := ⟨_, rfl⟩
        rw [← hm] at h0 h1 h2
        obtain ⟨m0, m1, m2⟩ := m
        have HIN := Aside0.mk hin; have HLT := Aside0.mk hlt
        clear hm
        go_wp2_with fail
        go_quiet (fail)
        go_wp2_with fail
        go_roundw
        case rel => exact ⟨_, i + 1, n, by have := HIN.out; omega, rfl, by go_num, ⟨by first | exact pw_below_drewN HB.out _ | exact below_drew1 HB.out⟩⟩
        case measure => (have := HLT.out; simp [intOf]; try omega)
      · have hle : decide ((i : Int) ≤ 60) = false := decide_eq_false h60
        go_wp2_with fail
        refine (HSET.out wr HB.out).mono ?_
        rintro e w1 ⟨rfl, hb1⟩
        have HB1 := Aside0.mk (below_step HB.out hb1)
        clear hb1
        have hgt : decide ((60 : Int) < (ms.length : Int)) = true := decide_eq_true (by omega)
        cases sb
        all_goals go_wp2_with fail
        all_goals refine (live_calls w1).mono ?_
        all_goals rintro e w2 ⟨rfl, hb2⟩
        all_goals have HB2 := Aside0.mk (below_step HB1.out hb2)
        all_goals clear hb2
        all_goals go_wp2_with fail
        all_goals go_ret
        all_goals exact ⟨rfl, HB2.out⟩
end Go.Proofs.YtjhgckpcadngaaaGreatK
