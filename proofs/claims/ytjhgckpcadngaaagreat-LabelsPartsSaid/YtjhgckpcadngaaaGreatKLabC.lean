/- Labels: strings.NewReplacer at four texts, strings.Compare, byName, insertionSortCmpFunc in general. -/
import Derived.Test.YtjhgckpcadngaaaGreatPLAx0
import Derived.Test.YtjhgckpcadngaaaGreatPLAx1
import Derived.Test.YtjhgckpcadngaaaGreatPLAx2
import Derived.Test.YtjhgckpcadngaaaGreatPLAx3
import Derived.Test.YtjhgckpcadngaaaGreatKFlow3
import Derived.Test.YtjhgckpcadngaaaGreatKEv
import Derived.Test.YtjhgckpcadngaaaGreatKOpen
import Derived.Lib.SlBytesConst
import Derived.Lib.Bytes
import Derived.Deep.RegionWith
import Derived.Deep.QuietTactic
import Derived.Deep.RegionHeld3
import Derived.BigQuiet
import Derived.Lib.Strings
import Derived.Lib.Slices
import Derived.Lib.Walk
import Derived.Lib.Bytealg
import Derived.Tactics
import Derived.Tactics2
import Derived.Defers
import Derived.Laws.Pointers
import Derived.Laws.LoneSync
import Derived.RegionTactic
import Derived.RegionCalls
import Derived.ChangeAlike
import Derived.Test.YtjhgckpcadngaaaGreatKLabA
import Derived.Test.YtjhgckpcadngaaaGreatKLabB
import Derived.Test.YtjhgckpcadngaaaGreatKFrm
namespace Go.Proofs.YtjhgckpcadngaaaGreatK
open Go.RowKit Go.Proofs.YtjhgckpcadngaaaGreatW.PrintWords Go.Proofs.YtjhgckpcadngaaaGreatW.PrintLast Go.Proofs.YtjhgckpcadngaaaGreatW.PrintMore
open Go.Proofs.YtjhgckpcadngaaaGreat.PLA Go.Proofs.YtjhgckpcadngaaaGreat
attribute [local go_sem] max2_int min2_int max_two min_two max_three min_three max_four min_four
set_option linter.unusedVariables false
set_option linter.unusedSimpArgs false
theorem own_row {w' : World} {base : Nat} {v : Value} {xs : List ByteArray} (h : Kd.R Kd.string 9 w' base (fun _ => True) v xs) (h0 : 0 < xs.length) : ∃ g cap cur, v = .slice (some ⟨g, 0, none⟩) xs.length cap ∧ base ≤ g ∧ w'.heap[g]? = some (.cells cur 9 (0, 0)) := by
  obtain ⟨A, c, hv, hc, hC⟩ := Kd.R_reads h
  obtain ⟨_, inner, hown, _⟩ := h
  rcases hown.2 with ⟨rfl, hz⟩ | ⟨g, cap, cur, rfl, hbase, hgb, r1, r2, r3, r4⟩
  · omega
  · exact ⟨g, cap, cur, rfl, hbase, hgb⟩
def NewRep (w : World) (l : List ByteArray) (e : Ending) (w' : World) : Prop := ∃ r q cap cur, e = .returned (.pointer (some ⟨r, 0, none⟩)) ∧ w'.heap[r]? = some (.cells #[.int .u32 0, .int .i32 0, .int .u32 0, .nilIface, .slice (some ⟨q, 0, none⟩) 4 cap] 93 (0, 0)) ∧ w.heap.size ≤ r ∧ w.heap.size ≤ q ∧ w'.heap[q]? = some (.cells cur 9 (0, 0)) ∧ Kd.C Kd.string w' (some ⟨q, 0, none⟩) 4 l ∧ Below w.heap.size w w'
set_option maxHeartbeats 1000000 in
set_option maxRecDepth 100000 in
theorem newrep_calls (A : Option Addr) (c : Nat) (l : List ByteArray) (w : World) (hr : Kd.C Kd.string w A l.length l) (hl : l.length = 4) :
    Calls Tryz.prog 53 #[.slice A 4 c] w (NewRep w l) := by
  have HR := Aside0.mk hr; have HL := Aside0.mk hl
  have hrm : Int.tmod 4 2 = 0 := by decide
  clear hr hl
  go_enter Tryz.func53, Tryz.ntmps53
  go_wp2_with ((with_reducible refine gate_builtin (b := .append) (xs := #[.const (.slice none 0 0), .tmp 8]) rfl ?_); at_builtin; go_loud (refine Kd.R_append_rows Kd.string (Rr := fun (x : ByteArray) (c : List Value) => c = [.string x]) (w0 := w) w.heap.size rfl (.const (.slice none 0 0)) (.tmp 8) 41 9 (.string ⟨#[]⟩) 16 rfl Tryz.underlying41 info9 rfl (by decide) (by decide) (.slice none 0 0) [] l A 4 c (fun _ => True) (fun _ => False) rfl rfl (Kd.R_nil _ _ _ _ _) (by have := HR.out; rwa [HL.out] at this) (fun _ _ h => h) (fun _ hk => hk.elim) (fun _ _ => trivial) (Below.refl _ _) (Nat.le_refl _) (by decide) ?_; intro v1 w1 hr hb hg hat; rw [List.nil_append] at hr; obtain ⟨q, cap, cur, rfl, hq, hqb⟩ := own_row hr (by rw [HL.out]; decide); obtain ⟨_, _, hC⟩ := Kd.R_reads' hr; have HC1 := Aside0.mk hC; have HB1 := Aside0.mk hb; have HQ1 := Aside0.mk (And.intro hq hqb); clear hr hb hg hat hC hq hqb; rw [HL.out]))
  go_ret
  have hba := below_alloc (Below.refl w1.heap.size w1) (.cells #[.int .u32 0, .int .i32 0, .int .u32 0, .nilIface, .slice (some ⟨q, 0, none⟩) 4 cap] 93)
  refine ⟨w1.heap.size, q, cap, cur, rfl, blk_new w1 _, HB1.out.size, HQ1.out.1, blk_below HQ1.out.2 hba, ?_, below_step HB1.out hba⟩
  have := Kd.C_below HC1.out hba
  rwa [HL.out] at this
set_option maxHeartbeats 1000000 in
set_option maxRecDepth 100000 in
theorem cmpstring_calls (a b : ByteArray) (w : World) :
    Calls Tryz.prog 70 #[.string a, .string b] w fun e w' => e = .returned (.int .i64 (Lib.compareBytes a.data.toList b.data.toList)) ∧ w' = w := by
  go_enter Tryz.func70, Tryz.ntmps70
  go_wp2
  rw [run_callFunc_extern Tryz.func80 (by kernel_rfl) (by kernel_rfl) (by kernel_rfl) (e := Extern.BytealgCompare.compare) (by kernel_rfl), Lib.run_compareString]
  simp only [Result.andThen]
  rw [Oper.upon_value]
  go_wp2
  go_ret
  exact ⟨rfl, rfl⟩
set_option maxHeartbeats 1000000 in
theorem compare_calls (a b : ByteArray) (w : World) :
    Calls Tryz.prog 58 #[.string a, .string b] w fun e w' => e = .returned (.int .i64 (Lib.compareBytes a.data.toList b.data.toList)) ∧ w' = w := by
  go_enter Tryz.func58, Tryz.ntmps58
  go_wp2_with (go_at_call 70; refine (cmpstring_calls _ _ _).mono ?_; rintro e w' ⟨rfl, rfl⟩)
  go_ret
  exact ⟨rfl, rfl⟩
def cmpN (x y : S47) : Int := Lib.compareBytes x.f0.data.toList y.f0.data.toList
set_option maxHeartbeats 1000000 in
theorem byname_calls (x y : S47) (w : World) : Calls Tryz.prog 41 #[.agg #[.string x.f0, .string x.f1], .agg #[.string y.f0, .string y.f1]] w fun e w' => e = .returned (.int .i64 (cmpN x y)) ∧ Below w.heap.size w w' := by
  obtain ⟨x0, x1⟩ := x
  obtain ⟨y0, y1⟩ := y
  go_enter Tryz.func41, Tryz.ntmps41
  go_wp2_with (go_at_call 58; refine (compare_calls _ _ _).mono ?_; rintro e w' ⟨rfl, rfl⟩)
  go_ret
  exact ⟨rfl, below_alloc (below_alloc (Below.refl _ _) _) _⟩
/-- A row of labels in a block. -/
def RowL (W : World) (g : Nat) (L : List S47) : Prop := ∃ cur : Array Value, W.heap[g]? = some (.cells cur 47 (0, 0)) ∧ ∀ i (h : i < L.length), cur[i * 2]? = some (.string L[i].f0) ∧ cur[i * 2 + 1]? = some (.string L[i].f1)
theorem RowL.below {W W' : World} {g : Nat} {L : List S47} (h : RowL W g L) (hb : Below W.heap.size W W') : RowL W' g L := by
  obtain ⟨cur, h1, h2⟩ := h; exact ⟨cur, blk_below h1 hb, h2⟩
theorem RowL.cell {W : World} {g : Nat} {L : List S47} (h : RowL W g L) {i : Nat} (hi : i < L.length) : W.cell? ((⟨g, 0, none⟩ : Addr).add (i * 2)) = some (.string L[i].f0) ∧ W.cell? ⟨((⟨g, 0, none⟩ : Addr).add (i * 2)).block, ((⟨g, 0, none⟩ : Addr).add (i * 2)).off + 1, none⟩ = some (.string L[i].f1) ∧ W.frozen? ((⟨g, 0, none⟩ : Addr).add (i * 2)) = false ∧ W.frozen? ⟨((⟨g, 0, none⟩ : Addr).add (i * 2)).block, ((⟨g, 0, none⟩ : Addr).add (i * 2)).off + 1, none⟩ = false := by
  obtain ⟨cur, h1, h2⟩ := h
  rw [add_plain]
  exact ⟨by rw [blk_cell h1]; exact (h2 i hi).1, by rw [blk_cell h1]; exact (h2 i hi).2, blk_frozen h1 _, blk_frozen h1 _⟩
/-- Two neighbours change places. -/
def swp (L : List S47) (j : Nat) : List S47 := match L[j]?, L[j + 1]? with | some x, some y => (L.set j y).set (j + 1) x | _, _ => L
def bub : Nat → List S47 → List S47
  | 0, L => L
  | j + 1, L => match L[j]?, L[j + 1]? with | some x, some y => if cmpN y x < 0 then bub j (swp L j) else L | _, _ => L
theorem RowL.cell2 {W : World} {g : Nat} {L : List S47} (h : RowL W g L) {i : Nat} (hi : i < L.length) : W.cell? ⟨g, i * 2, none⟩ = some (.string L[i].f0) ∧ W.cell? ⟨g, i * 2 + 1, none⟩ = some (.string L[i].f1) ∧ W.frozen? ⟨g, i * 2, none⟩ = false ∧ W.frozen? ⟨g, i * 2 + 1, none⟩ = false := by
  obtain ⟨cur, h1, h2⟩ := h
  exact ⟨by rw [blk_cell h1]; exact (h2 i hi).1, by rw [blk_cell h1]; exact (h2 i hi).2, blk_frozen h1 _, blk_frozen h1 _⟩
def insr : Nat → List S47 → List S47
  | 0, L => L
  | i + 1, L => bub (i + 1) (insr i L)
theorem swp_length (L : List S47) (j : Nat) : (swp L j).length = L.length := by unfold swp; split <;> simp
theorem bub_length : ∀ (j : Nat) (L : List S47), (bub j L).length = L.length
  | 0, L => rfl
  | j + 1, L => by
    unfold bub
    split
    · split
      · rw [bub_length j, swp_length]
      · rfl
    · rfl
theorem insr_length : ∀ (i : Nat) (L : List S47), (insr i L).length = L.length
  | 0, L => rfl
  | i + 1, L => by rw [insr, bub_length, insr_length i]
theorem RowL.set1 {W : World} {g : Nat} {L : List S47} (h : RowL W g L) {j : Nat} (hj : j < L.length) (x : S47) : RowL ((W.setCell ⟨g, j * 2, none⟩ (.string x.f0)).setCell ⟨g, j * 2 + 1, none⟩ (.string x.f1)) g (L.set j x) := by
  obtain ⟨cur, h1, h2⟩ := h
  have b1 := blk_set h1 (j * 2) (.string x.f0)
  have b2 := blk_set b1 (j * 2 + 1) (.string x.f1)
  refine ⟨_, b2, fun i hi => ?_⟩
  rw [List.length_set] at hi
  have hs : j * 2 + 1 < cur.size := (Array.getElem?_eq_some_iff.1 (h2 j hj).2).1
  by_cases e : i = j
  · subst e
    simp only [List.getElem_set_self]
    constructor
    · simp [Array.getElem?_setIfInBounds]; omega
    · simp [Array.getElem?_setIfInBounds]; omega
  · have h3 := h2 i hi
    rw [List.getElem_set_ne (fun h => e h.symm)]
    constructor
    · rw [Array.getElem?_setIfInBounds, if_neg (by omega), Array.getElem?_setIfInBounds, if_neg (by omega)]; exact h3.1
    · rw [Array.getElem?_setIfInBounds, if_neg (by omega), Array.getElem?_setIfInBounds, if_neg (by omega)]; exact h3.2
theorem RowL.swap {W : World} {g : Nat} {L : List S47} (h : RowL W g L) {q : Nat} (hq : q + 1 < L.length) {x y : S47} (hx : x = L[q + 1]) (hy : y = L[q]) :
    RowL ((((W.setCell ⟨g, (q + 1) * 2, none⟩ (.string y.f0)).setCell ⟨g, (q + 1) * 2 + 1, none⟩ (.string y.f1)).setCell ⟨g, q * 2, none⟩ (.string x.f0)).setCell ⟨g, q * 2 + 1, none⟩ (.string x.f1)) g (swp L q) := by
  have h1 := h.set1 hq y
  have h2 := h1.set1 (j := q) (by rw [List.length_set]; omega) x
  have e : swp L q = (L.set (q + 1) y).set q x := by
    unfold swp
    rw [List.getElem?_eq_getElem (by omega : q < L.length), List.getElem?_eq_getElem hq, hx, hy]
    exact List.set_comm _ _ (by omega)
  rw [e]; exact h2
set_option maxHeartbeats 2000000 in
set_option maxRecDepth 100000 in
theorem ins_calls (g cap : Nat) (L0 : List S47) (n : Nat) (hn : n = L0.length) (hn2 : n ≤ 1000) (w : World) (h : RowL w g L0) :
    Calls Tryz.prog 72 #[.slice (some ⟨g, 0, none⟩) n cap, .int .i64 0, .int .i64 n, .func (.func 41) #[] #[]] w fun e w' => e = .returned (.tuple #[]) ∧ RowL w' g (insr (n - 1) L0) ∧ Frm (fun k => k = g) w w' := by
  have H := Aside0.mk h; have HN := Aside0.mk hn
  clear h hn
  go_enter Tryz.func72, Tryz.ntmps72
  go_wp2
  go_loopw [8] (fun i wr => ∃ k : Nat, 1 ≤ k ∧ i = .int .i64 k ∧ Aside0 (k ≤ n ∨ k = 1) ∧ Aside0 (RowL wr g (insr (k - 1) L0)) ∧ Aside0 (Frm (fun k => k = g) w wr)) (fun i _ => n - (intOf i).toNat)
  case atStart => exact ⟨1, Nat.le_refl _, rfl, ⟨.inr rfl⟩, H, ⟨Frm.refl _ _⟩⟩
  case round =>
    obtain ⟨k, hk, rfl, HK, HR, HF⟩ := hrel
    by_cases hlt : k < n
    · have hki : (k : Int) < (n : Int) := by omega
      obtain ⟨L1, hL1⟩ : ∃ L, L = insr (k - 1) L0 := ⟨_, rfl⟩
      have hl1 : L1.length = n := by rw [hL1, insr_length, HN.out]
      rw [← hL1] at HR
      have HL1 := Aside0.mk hL1; have HLL := Aside0.mk hl1; have HLT := Aside0.mk hlt
      clear hL1 hl1 hlt
      go_wp2_with fail
      go_loopw [9] (fun j wq => ∃ (q : Nat) (Lq : List S47), q ≤ k ∧ j = .int .i64 q ∧ Aside0 (Lq.length = n ∧ bub q Lq = bub k L1) ∧ Aside0 (RowL wq g Lq) ∧ Aside0 (Frm (fun k => k = g) w wq)) (fun j _ => (intOf j).toNat)
      case atStart => exact ⟨k, L1, Nat.le_refl _, rfl, ⟨HLL.out, rfl⟩, HR, HF⟩
      case round =>
        obtain ⟨q, Lq, hq, rfl, HQ, HRq, HFq⟩ := hrel
        cases q with
        | zero =>
          have HFIN : Aside0 (RowL wr g (insr k L0)) := ⟨by
            have h1 := HQ.out.2
            rw [show bub 0 Lq = Lq from rfl, HL1.out] at h1
            have h2 := HRq.out
            rw [h1] at h2
            rw [show k = (k - 1) + 1 by omega, insr, show (k - 1) + 1 = k by omega]; exact h2⟩
          go_wp2_with fail
          go_quiet (fail)
          go_wp2_with fail
          go_roundw
          case rel => exact ⟨k + 1, by omega, by go_num, ⟨.inl (by have := HLT.out; omega)⟩, by rw [Nat.add_sub_cancel]; exact HFIN, ⟨HFq.out.then_ (Frm.of_below (pw_below_drewN (Below.refl _ _) _)) (fun _ h => .inl h)⟩⟩
          case measure => (have := HLT.out; simp [intOf]; try omega)
        | succ q =>
          have hqn : q + 1 < Lq.length := by have h1 := HQ.out.1; have h2 := HLT.out; omega
          obtain ⟨x, hx⟩ : ∃ x, x = Lq[q + 1] := ⟨_, rfl⟩
          obtain ⟨y, hy⟩ : ∃ y, y = Lq[q] := ⟨_, rfl⟩
          have hbq : bub (q + 1) Lq = if cmpN x y < 0 then bub q (swp Lq q) else Lq := by
            rw [bub, List.getElem?_eq_getElem (by omega : q < Lq.length), List.getElem?_eq_getElem hqn, hx, hy]
          have hc1 := HRq.out.cell2 hqn
          have hc0 := HRq.out.cell2 (i := q) (by omega)
          rw [← hx] at hc1
          rw [← hy] at hc0
          have HBQ := Aside0.mk hbq; have HQN := Aside0.mk hqn; have HX := Aside0.mk hx; have HY := Aside0.mk hy
          obtain ⟨cv, hcv⟩ : ∃ v, v = cmpN x y := ⟨_, rfl⟩
          have HCV := Aside0.mk hcv
          obtain ⟨Jnv, hJnv⟩ : ∃ J : World → Prop, J = fun W' => Below wr.heap.size wr W' := ⟨_, rfl⟩
          have HJD : Aside0 (∀ W', Jnv W' → Below wr.heap.size wr W') := ⟨fun W' h => by rw [hJnv] at h; exact h⟩
          have HDJ : Aside0 (∀ W', Below wr.heap.size wr W' → Jnv W') := ⟨fun W' h => by rw [hJnv]; exact h⟩
          have HRF : Aside0 (∀ W : World, Below W.heap.size W W) := ⟨fun W => Below.refl _ _⟩
          have SF : Aside0 (∀ W', Jnv W' → W'.cell? ⟨g, (q + 1) * 2, none⟩ = some (.string x.f0) ∧ W'.cell? ⟨g, (q + 1) * 2 + 1, none⟩ = some (.string x.f1) ∧ W'.cell? ⟨g, q * 2, none⟩ = some (.string y.f0) ∧ W'.cell? ⟨g, q * 2 + 1, none⟩ = some (.string y.f1)) := ⟨fun W' hW => by
            have hb := HJD.out W' hW
            exact ⟨pw_cell_below hb hc1.1, pw_cell_below hb hc1.2.1, pw_cell_below hb hc0.1, pw_cell_below hb hc0.2.1⟩⟩
          have HCMP : Aside0 (∀ W', Jnv W' → Calls Tryz.prog 41 #[.agg #[.string x.f0, .string x.f1], .agg #[.string y.f0, .string y.f1]] W' fun e w' => e = .returned (.int .i64 cv) ∧ Jnv w' ∧ Below W'.heap.size W' w') := ⟨fun W' hW => by
            refine (byname_calls x y W').mono ?_
            rintro e w' ⟨he, hb⟩
            exact ⟨by rw [he, hcv], HDJ.out _ (below_step (HJD.out _ hW) hb), hb⟩⟩
          have HGO : Aside0 (∀ (args : Array Value) (W : World), (callFunc 41 args).run Tryz.prog W = .ok (.enter 41 args) W) := ⟨enters Tryz.func41 (by kernel_rfl) rfl⟩
          have hgt : decide ((0 : Int) < ((q : Int) + 1)) = true := decide_eq_true (by omega)
          have hge : (0 : Int) ≤ (q : Int) + 1 := by omega
          have hlt1 : (q : Int) + 1 < (n : Int) := by have := HLT.out; omega
          have hlt0 : (q : Int) < (n : Int) := by omega
          have hew : IntKind.i64.wrap (q : Int) = (q : Int) := IntWalk.i64_in _ (by omega)
          have hg0 : (0 : Int) ≤ (q : Int) := by omega
          clear hJnv hc1 hc0 hbq hx hy hcv
          go_upto_region 4 with (fail)
          refine' wp_region_flow (by kernel_rfl) (by kernel_rfl) Jnv (fun W W' => Below W.heap.size W W') HRF.out (HDJ.out _ (below_drew1 (Below.refl _ _))) _ ?_
          rotate_left
          refine' Flow.val _ 0 (some 18) (Op.move (Operand.tmp 9)) 3 (none) [] _ rfl (by kernel_rfl) (by kernel_rfl) (by kernel_rfl) (by rfl) ?_ ?_ HRF.out
          rotate_left 2
          · (intro W hW hK; go_simp; first | done | with_reducible rfl)
          try simp only [Act.put, List.setIfInBounds_toArray, List.set_cons_zero, List.set_cons_succ]
          refine' Flow.val _ 1 (some 19) (Op.move (Operand.tmp 1)) 3 (none) [] _ rfl (by kernel_rfl) (by kernel_rfl) (by kernel_rfl) (by rfl) ?_ ?_ HRF.out
          rotate_left 2
          · (intro W hW hK; go_simp; first | done | with_reducible rfl)
          try simp only [Act.put, List.setIfInBounds_toArray, List.set_cons_zero, List.set_cons_succ]
          refine' Flow.val _ 2 (some 20) (Op.binOp BinOp.gtr 3 (Operand.tmp 18) (Operand.tmp 19) 3) 4 (none) [] _ rfl (by kernel_rfl) (by kernel_rfl) (by kernel_rfl) (by rfl) ?_ ?_ HRF.out
          rotate_left 2
          · (intro W hW hK; go_simp; first | done | with_reducible rfl)
          try simp only [Act.put, List.setIfInBounds_toArray, List.set_cons_zero, List.set_cons_succ]
          refine' Flow.val _ 3 (some 21) (Op.move (Operand.tmp 20)) 4 (none) [] _ rfl (by kernel_rfl) (by kernel_rfl) (by kernel_rfl) (by rfl) ?_ ?_ HRF.out
          rotate_left 2
          · (intro W hW hK; go_simp; first | done | with_reducible rfl)
          try simp only [Act.put, List.setIfInBounds_toArray, List.set_cons_zero, List.set_cons_succ]
          refine' Flow.val _ 4 (some 22) (Op.move (Operand.tmp 3)) 59 (some (3, true)) [] _ rfl (by kernel_rfl) (by kernel_rfl) (by kernel_rfl) (by rfl) ?_ ?_ HRF.out
          rotate_left 2
          · (intro W hW hK; go_simp; first | done | with_reducible rfl)
          try simp only [Act.put, List.setIfInBounds_toArray, List.set_cons_zero, List.set_cons_succ]
          refine' Flow.val _ 5 (some 23) (Op.move (Operand.tmp 0)) 22 (some (3, true)) [] _ rfl (by kernel_rfl) (by kernel_rfl) (by kernel_rfl) (by rfl) ?_ ?_ HRF.out
          rotate_left 2
          · (intro W hW hK; go_simp; first | done | with_reducible rfl)
          try simp only [Act.put, List.setIfInBounds_toArray, List.set_cons_zero, List.set_cons_succ]
          refine' Flow.val _ 6 (some 24) (Op.move (Operand.tmp 9)) 3 (some (3, true)) [] _ rfl (by kernel_rfl) (by kernel_rfl) (by kernel_rfl) (by rfl) ?_ ?_ HRF.out
          rotate_left 2
          · (intro W hW hK; go_simp; first | done | with_reducible rfl)
          try simp only [Act.put, List.setIfInBounds_toArray, List.set_cons_zero, List.set_cons_succ]
          refine' Flow.val _ 7 (some 25) (Op.indexAddr 22 (Operand.tmp 23) (Operand.tmp 24)) 0 (some (3, true)) [] _ rfl (by kernel_rfl) (by kernel_rfl) (by kernel_rfl) (by rfl) ?_ ?_ HRF.out
          rotate_left 2
          · (intro W hW hK; have hF := SF.out W hW; go_simp; first | done | with_reducible rfl)
          try simp only [Act.put, List.setIfInBounds_toArray, List.set_cons_zero, List.set_cons_succ]
          refine' Flow.val _ 8 (some 26) (Op.load 47 (Operand.tmp 25)) 47 (some (3, true)) [] _ rfl (by kernel_rfl) (by kernel_rfl) (by kernel_rfl) (by rfl) ?_ ?_ HRF.out
          rotate_left 2
          · (intro W hW hK; have hF := SF.out W hW; go_simp; first | done | with_reducible rfl)
          try simp only [Act.put, List.setIfInBounds_toArray, List.set_cons_zero, List.set_cons_succ]
          refine' Flow.val _ 9 (some 27) (Op.move (Operand.tmp 0)) 22 (some (3, true)) [] _ rfl (by kernel_rfl) (by kernel_rfl) (by kernel_rfl) (by rfl) ?_ ?_ HRF.out
          rotate_left 2
          · (intro W hW hK; go_simp; first | done | with_reducible rfl)
          try simp only [Act.put, List.setIfInBounds_toArray, List.set_cons_zero, List.set_cons_succ]
          refine' Flow.val _ 10 (some 28) (Op.move (Operand.tmp 9)) 3 (some (3, true)) [] _ rfl (by kernel_rfl) (by kernel_rfl) (by kernel_rfl) (by rfl) ?_ ?_ HRF.out
          rotate_left 2
          · (intro W hW hK; go_simp; first | done | with_reducible rfl)
          try simp only [Act.put, List.setIfInBounds_toArray, List.set_cons_zero, List.set_cons_succ]
          refine' Flow.val _ 11 (some 29) (Op.binOp BinOp.sub 3 (Operand.tmp 28) (Operand.const (Value.int IntKind.i64 1)) 3) 3 (some (3, true)) [] _ rfl (by kernel_rfl) (by kernel_rfl) (by kernel_rfl) (by rfl) ?_ ?_ HRF.out
          rotate_left 2
          · (intro W hW hK; go_simp; first | done | with_reducible rfl)
          try simp only [Act.put, List.setIfInBounds_toArray, List.set_cons_zero, List.set_cons_succ]
          refine' Flow.val _ 12 (some 30) (Op.indexAddr 22 (Operand.tmp 27) (Operand.tmp 29)) 0 (some (3, true)) [] _ rfl (by kernel_rfl) (by kernel_rfl) (by kernel_rfl) (by rfl) ?_ ?_ HRF.out
          rotate_left 2
          · (intro W hW hK; have hF := SF.out W hW; go_simp; first | done | with_reducible rfl)
          try simp only [Act.put, List.setIfInBounds_toArray, List.set_cons_zero, List.set_cons_succ]
          refine' Flow.val _ 13 (some 31) (Op.load 47 (Operand.tmp 30)) 47 (some (3, true)) [] _ rfl (by kernel_rfl) (by kernel_rfl) (by kernel_rfl) (by rfl) ?_ ?_ HRF.out
          rotate_left 2
          · (intro W hW hK; have hF := SF.out W hW; go_simp; first | done | with_reducible rfl)
          try simp only [Act.put, List.setIfInBounds_toArray, List.set_cons_zero, List.set_cons_succ]
          refine' Flow.call _ 14 (some 32) (Op.call { callee := Callee.value (Operand.tmp 22), args := #[Operand.tmp 26, Operand.tmp 31], argTypes := #[47, 47] }) 3 (some (3, true)) [] _ 41 _ rfl (by kernel_rfl) (by kernel_rfl) (by kernel_rfl) (by rfl) ?_ ?_ ?_
          rotate_left 3
          · (intro W; go_simp; first | done | with_reducible rfl)
          · (intro W hW hK; refine (HCMP.out W hW).mono ?_; intro e w' h; exact h)
          try simp only [Act.put, List.setIfInBounds_toArray, List.set_cons_zero, List.set_cons_succ]
          refine' Flow.val _ 15 (some 33) (Op.binOp BinOp.lss 3 (Operand.tmp 32) (Operand.const (Value.int IntKind.i64 0)) 3) 4 (some (3, true)) [] _ rfl (by kernel_rfl) (by kernel_rfl) (by kernel_rfl) (by rfl) ?_ ?_ HRF.out
          rotate_left 2
          · (intro W hW hK; go_simp; first | done | with_reducible rfl)
          try simp only [Act.put, List.setIfInBounds_toArray, List.set_cons_zero, List.set_cons_succ]
          refine' Flow.val _ 16 (some 34) (Op.pick (Operand.tmp 21) (Operand.tmp 33) (Operand.const (Value.bool false))) 4 (none) [] _ rfl (by kernel_rfl) (by kernel_rfl) (by kernel_rfl) (by rfl) ?_ ?_ HRF.out
          rotate_left 2
          · (intro W hW hK; go_simp; first | done | with_reducible rfl)
          try simp only [Act.put, List.setIfInBounds_toArray, List.set_cons_zero, List.set_cons_succ]
          refine Flow.done _ (by kernel_rfl) ?_
          intro W5 hW hK
          have hb5 := HJD.out _ hW
          have hr5 := HRq.out.below hb5
          have HR5 := Aside0.mk hr5
          have HF5 : Aside0 (Frm (fun k => k = g) w W5) := ⟨HFq.out.then_ (Frm.of_below hb5) (fun _ h => .inl h)⟩
          clear hK hW SF HCMP HGO HJD HDJ HRF hb5
          by_cases hc : cv < 0
          · have dc : decide (cv < 0) = true := decide_eq_true hc
            have HC := Aside0.mk hc
            have hx5 := hr5.cell2 HQN.out
            have hy5 := hr5.cell2 (i := q) (by have := HQN.out; omega)
            rw [← HX.out] at hx5
            rw [← HY.out] at hy5
            obtain ⟨x5, x6, z5, z6⟩ := hx5
            obtain ⟨y5, y6, z7, z8⟩ := hy5
            clear hr5
            go_upto_region 6 with (fail)
            go_region
            have HSW : Aside0 (RowL ((((W5.setCell ⟨g, (q + 1) * 2, none⟩ (.string y.f0)).setCell ⟨g, (q + 1) * 2 + 1, none⟩ (.string y.f1)).setCell ⟨g, q * 2, none⟩ (.string x.f0)).setCell ⟨g, q * 2 + 1, none⟩ (.string x.f1)).drew g (swp Lq q)) := ⟨by
              obtain ⟨cur, h1, h2⟩ := HR5.out.swap HQN.out HX.out HY.out
              exact ⟨cur, h1, h2⟩⟩
            have HFS : Aside0 (Frm (fun k => k = g) w ((((W5.setCell ⟨g, (q + 1) * 2, none⟩ (.string y.f0)).setCell ⟨g, (q + 1) * 2 + 1, none⟩ (.string y.f1)).setCell ⟨g, q * 2, none⟩ (.string x.f0)).setCell ⟨g, q * 2 + 1, none⟩ (.string x.f1)).drew) := ⟨Frm.drew (Frm.set (Frm.set (Frm.set (Frm.set HF5.out (p := ⟨g, (q + 1) * 2, none⟩) (.inl rfl) _) (p := ⟨g, (q + 1) * 2 + 1, none⟩) (.inl rfl) _) (p := ⟨g, q * 2, none⟩) (.inl rfl) _) (p := ⟨g, q * 2 + 1, none⟩) (.inl rfl) _)⟩
            have HQ2 : Aside0 ((swp Lq q).length = n ∧ bub q (swp Lq q) = bub k L1) := ⟨by rw [swp_length]; exact HQ.out.1, by rw [← HQ.out.2, HBQ.out, if_pos (by rw [← HCV.out]; exact HC.out)]⟩
            clear x5 x6 z5 z6 y5 y6 z7 z8
            go_wp2_with fail
            go_roundw
            case rel => exact ⟨q, swp Lq q, by omega, by go_num, HQ2, HSW, HFS⟩
            case measure => (simp [intOf]; try omega)
          · have dc : decide (cv < 0) = false := decide_eq_false hc
            have HFIN : Aside0 (RowL W5 g (insr k L0)) := ⟨by
              have h1 := HQ.out.2
              rw [HBQ.out, if_neg (by rw [← HCV.out]; exact hc), HL1.out] at h1
              have h2 := HR5.out
              rw [h1] at h2
              rw [show k = (k - 1) + 1 by omega, insr, show (k - 1) + 1 = k by omega]; exact h2⟩
            clear hr5
            go_wp2_with fail
            go_roundw
            case rel => exact ⟨k + 1, by omega, by go_num, ⟨.inl (by have := HLT.out; omega)⟩, by rw [Nat.add_sub_cancel]; exact HFIN, HF5⟩
            case measure => (have := HLT.out; simp [intOf]; try omega)
    · have hke : k - 1 = n - 1 ∨ (k = 1 ∧ n = 0) := by rcases HK.out with h | h <;> omega
      have hkf : ¬ ((k : Int) < (n : Int)) := by omega
      have HE := Aside0.mk hke
      clear hlt hke
      go_wp2_with fail
      go_end0
      refine ⟨rfl, ?_, HF.out⟩
      have := HR.out
      rcases HE.out with h | ⟨h, h2⟩
      · rwa [h] at this
      · subst h h2; exact this
end Go.Proofs.YtjhgckpcadngaaaGreatK
