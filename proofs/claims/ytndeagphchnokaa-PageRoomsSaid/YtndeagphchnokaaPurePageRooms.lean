/- The pure statement of the law klaxonlaw03.PageRooms: plain Lean over the printed functions. -/
import Derived.Test.YtndeagphchnokaaSPageRooms
import Derived.Test.YtndeagphchnokaaKEv
namespace Go.Proofs.Ytndeagphchnokaa.Pure
open Go.RowKit Go.Crc Go.Proofs.YtndeagphchnokaaW.PrintWords Go.Proofs.YtndeagphchnokaaW.PrintLast Go.Proofs.Ytndeagphchnokaa.PPage Go.Proofs.YtndeagphchnokaaK
set_option linter.unusedVariables false
set_option linter.unusedSimpArgs false
theorem live_ev : Ev (fun _ => (klaxonlaw03_live.f).bind fun t => some t) true := Ev.now _
theorem room_ev (s : Int) (h0 : -9223372036854775808 ≤ s) (h1 : s ≤ 9223372036854775807) : Ev (fun k => page_Room.f k s) (room s) := by
  unfold page_Room.f room
  have j0t : Ev (fun k => page_Room.j0 k s true) (0 : Int) := Ev.step (fun k => by rw [page_Room.j0]) (Ev.pos_ rfl (Ev.now _))
  by_cases h : s < 64
  · rw [if_pos (Or.inl h)]
    exact Ev.pos_ h j0t
  · refine Ev.neg_ h ?_
    by_cases h2 : 8192 < s
    · rw [if_pos (Or.inr h2), decide_eq_true h2]; exact j0t
    · rw [if_neg (by omega), decide_eq_false h2]
      have e : wrap64 (s - 11) = s - 11 := wrap64_id (by omega) (by omega)
      have := Ev.now (some (s - 11)) 
      exact Ev.step (fun k => by rw [page_Room.j0, e]) (Ev.neg_ (by decide) (Ev.now _))
theorem wf_i64 {y : Int} (h : (Lit.int .i64 y).wf = true) : -9223372036854775808 ≤ y ∧ y ≤ 9223372036854775807 := by
  simp [Lit.wf, IntKind.min, IntKind.max, IntKind.bits, IntKind.signed] at h; omega
theorem wf_u8 {y : Int} (h : (Lit.int .u8 y).wf = true) : 0 ≤ y ∧ y < 256 := by
  simp [Lit.wf, IntKind.min, IntKind.max, IntKind.bits, IntKind.signed] at h; omega
theorem wf_u32 {y : Int} (h : (Lit.int .u32 y).wf = true) : 0 ≤ y ∧ y < 4294967296 := by
  simp [Lit.wf, IntKind.min, IntKind.max, IntKind.bits, IntKind.signed] at h; omega
theorem put_eq {s kind id : Int} {L : List Int} (hk : 0 ≤ kind ∧ kind < 256) (hi : 0 ≤ id ∧ id < 4294967296) (hL : Bytes L) : page_Put.f s kind id L = some (putF s kind id L) := by
  unfold page_Put.f; rw [if_pos ⟨hk.1, hk.2, hi.1, hi.2, bytesB_of hL⟩]
theorem PageRooms : klaxonlaw03_PageRooms.PureS := by
  intro s n hs hn
  have hs := wf_i64 hs
  have hn := wf_i64 hn
  apply Ev.at_
  unfold klaxonlaw03_PageRooms.f
  have j0t : Ev (fun k => klaxonlaw03_PageRooms.j0 k s n true) true := Ev.step (fun k => by rw [klaxonlaw03_PageRooms.j0]) (Ev.pos_ rfl live_ev)
  refine Ev.ite_ (fun _ => j0t) fun n0 => ?_
  by_cases n1 : n > 20000
  · rw [decide_eq_true n1]; exact j0t
  rw [decide_eq_false n1]
  refine Ev.step (fun k => by rw [klaxonlaw03_PageRooms.j0]) (Ev.neg_ (by decide) (Ev.pos_ (by omega) (Ev.pos_ (by omega) ?_)))
  have hL : Bytes (List.replicate n.toNat (0 : Int)) := by
    intro x hx; rw [(List.mem_replicate.mp hx).2]; omega
  refine Ev.some_bind (put_eq (by omega) (by omega) hL) ?_
  refine Ev.bind_ (room_ev s hs.1 hs.2) ?_
  have hlen : ((List.replicate n.toNat (0 : Int)).length : Int) = n := by rw [List.length_replicate]; omega
  by_cases h0 : room s = 0
  · have he : putE s 1 (List.replicate n.toNat 0) = 2 := by rw [putE, if_pos (.inl h0)]
    refine Ev.pos_ h0 (Ev.some_bind (a := 2) (by unfold klaxonlaw03_num.f putF; rw [he]) (Ev.pos_ rfl (Ev.pos_ ?_ live_ev)))
    unfold putF; rw [he]; rfl
  · have hr : room s = s - 11 ∧ 64 ≤ s ∧ s ≤ 8192 := by unfold room at h0 ⊢; split at h0 <;> (first | omega | (rw [if_neg (by assumption)]; omega))
    have e : wrap64 (s - 11) = s - 11 := wrap64_id (by omega) (by omega)
    have hp : putE s 1 (List.replicate n.toNat 0) = if room s < n then 1 else 0 := by
      rw [putE, if_neg (by omega), hlen]
    refine Ev.neg_ h0 (Ev.pos_ (by rw [e]; exact hr.1) (Ev.some_bind (a := putE s 1 (List.replicate n.toNat 0)) rfl (Ev.pos_ ?_ (Ev.some_bind (a := putE s 1 (List.replicate n.toNat 0)) rfl (Ev.pos_ ?_ live_ev)))))
    · rw [hp]
      by_cases h : room s < n
      · rw [if_pos h, decide_eq_false (by omega)]; rfl
      · rw [if_neg h, decide_eq_true (by omega)]; rfl
    · unfold putF
      rw [hp]
      by_cases h : room s < n
      · rw [if_pos h, if_neg (by decide)]
        simp; omega
      · have := putB_length s.toNat 1 0 (List.replicate n.toNat 0) (by rw [List.length_replicate]; omega)
        rw [if_neg h, if_pos rfl, this]
        simp; omega
end Go.Proofs.Ytndeagphchnokaa.Pure
