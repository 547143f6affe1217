/- Next. -/
import Derived.Test.YtijplicijmpknaaDg6
namespace Go.Proofs.Ytijplicijmpknaa
open Go.RowKit
attribute [local irreducible] Gives RT CT QT Spec Wants Reads Src Ent OT RQ AnyT AnyOp Again Code.wp Post
attribute [local irreducible] vcells

theorem vget_at {l : List Vx} (nd : ((l.map vent).map (·.1)).Nodup) {j : Nat} (h : j < l.length) : vget l l[j].v.id = l[j] := by
  induction l generalizing j with
  | nil => simp at h
  | cons x l ih =>
    simp only [List.map_cons, List.nodup_cons] at nd
    unfold vget
    rw [List.find?_cons]
    cases j with
    | zero => simp
    | succ j =>
      have hj : j < l.length := by simpa using h
      have hne : x.v.id ≠ l[j].v.id := fun e => nd.1 (by
        refine List.mem_map.2 ⟨vent l[j], List.mem_map_of_mem (List.getElem_mem hj), ?_⟩
        exact e.symm)
      simp only [List.getElem_cons_succ, decide_eq_false hne]
      exact ih nd.2 hj
def nextS (s : DS) : Option V := s.waits.find? fun v => readyS s v
def nextV (s : DS) : V := (nextS s).getD vx0.v
theorem next_at {s : DS} {j : Nat} (h : j < s.waits.length) (hp : readyS s s.waits[j] = true) (hq : ∀ v ∈ s.waits.take j, readyS s v = false) : nextS s = some s.waits[j] := by
  unfold nextS
  rw [List.find?_eq_some_iff_append]
  refine ⟨hp, s.waits.take j, s.waits.drop (j + 1), ?_, fun v hv => by rw [hq v hv]; rfl⟩
  rw [← List.drop_eq_getElem_cons h, List.take_append_drop]
theorem next_none {s : DS} (hq : ∀ v ∈ s.waits, readyS s v = false) : nextS s = none := by
  unfold nextS
  exact List.find?_eq_none.2 fun v hv => by rw [hq v hv]; simp
theorem dagO_mk {d : Nat} {s : DS} {i : DI} {R : HP} : Ent (Blk d [.int .i64 s.room, .map (some i.p1), .map (some i.p2), .map (some i.p3), .slice i.ad s.waits.length i.cap] 78 * (MapK hkey i.p1 (i.hv.map vent) * (MapK hkey i.p2 (s.heads.map hent) * (MapK hkey i.p3 (i.wv.map vent) * (Arr 32 32 i.ad i.cap s.waits.length (s.old.flatMap hc) * (i.X * R)))))) (DagO d s i * R) := by
  unfold DagO
  exact En.ent
theorem next_spec (R : HP) (d : Nat) (s : DS) (ks : List Vx) :
    Spec Try.prog 35 [.pointer (some ⟨d, 0, none⟩)] (IsDag d s ks * R)
      (fun i : Option Addr × Nat => .tuple #[.agg (vcells ⟨nextV s, i.1, i.2⟩).toArray, .bool (nextS s).isSome]) (fun i => IsDag d s ks * (Arr 32 32 i.1 i.2 (nextV s).par.length ((nextV s).par.flatMap hc) * R)) := by
  refine spec_of Try.func35 rfl Try.ntmps35 rfl fun W0 => ?_
  refine ct_ex fun i => ?_
  refine ct_ent ?_ (Ent.assoc _ _ _)
  refine ct_pr fun ok => ?_
  refine ct_nodup i.p3 fun nd => ?_
  have hzv := vcells_len vx0
  have hnw := ok.nw
  have hvl : i.wv.length = s.waits.length := by rw [← ok.hw, List.length_map]
  focus
    refine ct_seq ?_
    (refine ct_region' rfl ?_; simp only [List.map, lite])
    (refine rt_op (wants_none rfl) (o_alloc (zc := vcells vx0) rfl (by kernel_rfl) fun b2 => ?_))
    (refine rg rfl (g_assign (by conv => lhs; whnf)) rfl rfl ?_)
    refine rt_nil ?_
    refine q_then ?_
    refine ct_seq ?_
    refine ct_seq ?_
    (refine ct_region' rfl ?_; simp only [List.map, lite])
    (refine rg rfl (g_move (by conv => lhs; whnf)) rfl rfl ?_)
    (refine rg rfl (g_nil rfl) rfl rfl ?_)
    (refine rg rfl (g_field0 rfl) rfl rfl ?_)
    (refine rg rfl (g_load rfl (by conv => lhs; whnf)) rfl rfl ?_)
    (refine rg rfl (g_len_slice rfl) rfl rfl ?_)
    (refine rg rfl (g_move (by conv => lhs; whnf)) rfl rfl ?_)
    refine rt_nil ?_
    refine q_then ?_
    refine ct_block ?_
    rotate_left
  refine ct_loop (ι := { j : Nat // j ≤ s.waits.length ∧ ∀ v ∈ s.waits.take j, readyS s v = false }) (fun j => [(0, .pointer (some ⟨d, 0, none⟩)), (2, .pointer (some ⟨b2, 0, none⟩)), (10, .slice i.ad s.waits.length i.cap), (11, .int .i64 (s.waits.length : Int)), (12, .int .i64 (j.1 : Int))]) (fun _ => (Blk b2 (vcells vx0) 36 * (Blk d [.int .i64 s.room, .map (some i.p1), .map (some i.p2), .map (some i.p3), .slice i.ad s.waits.length i.cap] 78 * (MapK hkey i.p1 (i.hv.map vent) * (MapK hkey i.p2 (s.heads.map hent) * (MapK hkey i.p3 (i.wv.map vent) * (Arr 32 32 i.ad i.cap s.waits.length ((s.waits.map V.id).flatMap hc) * i.X)))) * R))) (fun j => s.waits.length - j.1) ⟨0, by omega, by simp⟩ ⟨rfl, rfl, rfl, rfl, rfl, trivial⟩ (Ent.refl _) fun j ρ' => ?_
  obtain ⟨j, hj, hq⟩ := j
  dsimp only at hj ⊢
  by_cases h : j < s.waits.length
  · have hjw : j < i.wv.length := by omega
    have hwj : i.wv[j].v = s.waits[j] := by
      have e := List.getElem_of_eq ok.hw (i := j) (by rw [List.length_map]; exact hjw)
      rw [List.getElem_map] at e; exact e
    have hid : (s.waits.map V.id)[j]'(by rw [List.length_map]; exact h) = i.wv[j].v.id := by rw [hwj]; simp
    have hvg := vget_at nd hjw
    rw [← hid] at hvg
    have hml : (s.waits.map V.id).length = s.waits.length := List.length_map _
    focus
      refine ct_seq ?_
      (refine ct_region' rfl ?_; simp only [List.map, lite])
      (refine rg rfl (g_lssT rfl rfl ?_) rfl rfl ?_; (· (omega)))
      refine rt_nil ?_
      refine q_then ?_
      refine ct_seq ?_
      refine ct_true rfl ?_
      refine ct_skip ?_
      refine q_then ?_
      refine ct_seq ?_
      refine ct_block ?_
      refine ct_seq ?_
      (refine ct_region' rfl ?_; simp only [List.map, lite])
      (refine rg rfl (g_elemH rfl rfl ?_ ?_) rfl rfl ?_; (· (first | omega | decide)); (· (first | omega | decide | (exact pos_of_get (by assumption)) | (simp only [List.length_map, List.length_append, List.length_replicate, List.length_set, List.length_cons, List.length_nil]; omega) | (simp; omega))))
      (refine rg rfl (g_loadH rfl ?_) rfl rfl ?_; (· (first | omega | decide | (exact pos_of_get (by assumption)) | (simp only [List.length_map, List.length_append, List.length_replicate, List.length_set, List.length_cons, List.length_nil]; omega) | (simp; omega))))
      (refine rt_op (wants_none rfl) (o_alloc rfl (by conv => lhs; whnf) fun b5 => ?_))
      (refine rt_op (wants_none rfl) (o_storeAgg rfl (by conv => lhs; whnf) (by first | exact List.toList_toArray | (conv => lhs; whnf)) (by first | rfl | exact bvsAll _ | exact wvs_all _ | assumption | exact vcells_one _) (by first | rfl | assumption | (simp; done) | (simp; omega) | exact vcells_len _ | exact hc_len _) (by first | rfl | assumption | (simp; done) | (simp; omega) | exact vcells_len _ | exact hc_len _) ?_))
      refine rt_nil ?_
      refine q_then ?_
      refine ct_seq ?_
      refine ct_anyA 7 ?_
      (refine any_take 0 rfl (by kernel_rfl) (by first | exact Ent.refl _ | exact En.ent) (wants_none rfl) (g_move (by conv => lhs; whnf)) rfl rfl ?_)
      (refine any_take 1 rfl (by kernel_rfl) (by first | exact Ent.refl _ | exact En.ent) (wants_none rfl) (g_nil rfl) rfl rfl ?_)
      (refine any_take 2 rfl (by kernel_rfl) (by first | exact Ent.refl _ | exact En.ent) (wants_none rfl) (g_field0 rfl) rfl rfl ?_)
      (refine any_take 3 rfl (by kernel_rfl) (by first | exact Ent.refl _ | exact En.ent) (wants_none rfl) (g_load rfl (by conv => lhs; whnf)) rfl rfl ?_)
      (refine any_take 4 rfl (by kernel_rfl) (by first | exact Ent.refl _ | exact En.ent) (wants_none rfl) (g_loadAgg_blk rfl (by first | rfl | assumption | (simp; done) | (simp; omega) | exact vcells_len _ | exact hc_len _)) rfl rfl ?_)
      (refine any_take 5 rfl (by kernel_rfl) (by first | exact Ent.refl _ | exact En.ent) (wants_none rfl) (g_lookV rfl rfl (by kernel_rfl)) rfl rfl ?_)
      (refine any_one 6 (by kernel_rfl) rfl (wants_none rfl) (o_alloc rfl (by conv => lhs; whnf) fun b6 => ⟨.inr (by first | exact Ent.refl _ | exact En.ent), ?_⟩))
      (refine any_one 7 (by kernel_rfl) rfl (wants_none rfl) (o_storeAgg rfl (by conv => lhs; whnf) (by first | exact List.toList_toArray | (conv => lhs; whnf)) (by first | rfl | exact bvsAll _ | exact wvs_all _ | assumption | exact vcells_one _) (by first | rfl | assumption | (simp; done) | (simp; omega) | exact vcells_len _ | exact hc_len _) (by first | rfl | assumption | (simp; done) | (simp; omega) | exact vcells_len _ | exact hc_len _) ⟨.inl rfl, ?_⟩))
      refine any_done (by kernel_rfl) ?_
      refine q_then ?_
      refine ct_seq ?_
      (refine ct_region' rfl ?_; simp only [List.map, lite])
      (refine rg rfl (g_move (by conv => lhs; whnf)) rfl rfl ?_)
      (refine rg rfl (g_loadAgg_blk rfl (by first | rfl | assumption | (simp; done) | (simp; omega) | exact vcells_len _ | exact hc_len _)) rfl rfl ?_)
      rotate_left
    rw [hvg]
    refine rt_ent ?_ (En.ent.trans (dagO_mk (d := d) (s := s) (i := i) (R := Blk b6 (vcells i.wv[j]) 36 * (Blk b2 (vcells vx0) 36 * R))))
    have hrd : Rd (DagO d s i) i.wv[j].ad (i.wv[j].v.par.flatMap hc) := dagO_rd ok (.inr (.inl (List.getElem_mem hjw)))
    have hpl : i.wv[j].v.par.length ≤ 64 := ok.np _ (.inr (by rw [hwj]; exact List.getElem_mem h))
    have hready := fun (R' : HP) => ready_specO R' d s ks i ok i.wv[j] hpl
    focus
      (refine rt_op (wants_none rfl) (o_callE rfl rfl (Ent.refl _) (hready _) fun i24 => ?_))
      refine rt_nil ?_
      refine q_then ?_
      refine ct_cond rfl (fun h24 => ?_) (fun h24 => ?_)
      refine ct_seq ?_
      (refine ct_region' rfl ?_; simp only [List.map, lite])
      (refine rg rfl (g_loadAgg_blk rfl (by first | rfl | assumption | (simp; done) | (simp; omega) | exact vcells_len _ | exact hc_len _)) rfl rfl ?_)
      (refine rt_op (wants_none rfl) (o_callE rfl rfl (Ent.refl _) (Go.Proofs.Ytijplicijmpknaa.own_spec _ _ ?_) fun i26 => ?_); (· (first | assumption | omega | rfl | decide | infer_instance | (simp; done) | (simp; omega) | (simp only [*]; done))))
      (refine rt_op (wants_none rfl) (o_storeAgg rfl (by conv => lhs; whnf) (by first | exact List.toList_toArray | (conv => lhs; whnf)) (by first | rfl | exact bvsAll _ | exact wvs_all _ | assumption | exact vcells_one _) (by first | rfl | assumption | (simp; done) | (simp; omega) | exact vcells_len _ | exact hc_len _) (by first | rfl | assumption | (simp; done) | (simp; omega) | exact vcells_len _ | exact hc_len _) ?_))
      (refine rg rfl (g_assign (by conv => lhs; whnf)) rfl rfl ?_)
      refine rt_nil ?_
      refine q_then ?_
      refine ct_ret ?_
      refine q_block_ret ?_
      refine q_then_ret ?_
      refine q_then_ret ?_
      refine q_block_ret ?_
      refine q_then_ret ?_
      rotate_left
      refine ct_skip ?_
      refine q_block ?_
      refine q_then ?_
      (refine ct_region' rfl ?_; simp only [List.map, lite])
      (refine rg rfl (g_addN rfl rfl ?_) rfl rfl ?_; (· (constructor <;> omega)))
      (refine rg rfl (g_move (by conv => lhs; whnf)) rfl rfl ?_)
      refine rt_nil ?_
      rotate_left
    · have hne := next_at h (by rw [← hwj]; exact h24) hq
      have hv : nextV s = i.wv[j].v := by unfold nextV; rw [hne, hwj]; rfl
      have hsm : (nextS s).isSome = true := by rw [hne]; rfl
      refine q_retCT rfl (cell_blk rfl (vcells_len _)) (by conv => lhs; whnf) i26 ?_ ?_
      · show _ = Value.tuple #[.agg (vcells ⟨nextV s, i26.1, i26.2⟩).toArray, .bool (nextS s).isSome]
        rw [hv, hsm]
      · show Ent _ (IsDag d s ks * (Arr 32 32 i26.1 i26.2 (nextV s).par.length ((nextV s).par.flatMap hc) * R))
        rw [hv]
        exact En.ent.trans (dagO_in (R := Arr 32 32 i26.1 i26.2 i.wv[j].v.par.length (i.wv[j].v.par.flatMap hc) * R) i ok)
    · refine q_again ⟨j + 1, by omega, fun v hv => ?_⟩ (by show s.waits.length - (j + 1) < s.waits.length - j; omega) ⟨rfl, rfl, rfl, rfl, rfl, trivial⟩ (by unfold DagO; exact En.ent)
      rw [List.take_add_one, List.mem_append, List.getElem?_eq_getElem h] at hv
      rcases hv with hv | hv
      · exact hq v hv
      · simp only [Option.toList_some, List.mem_singleton] at hv
        rw [hv, ← hwj]; exact h24
  · have hno := next_none (s := s) fun v hv => hq v (by rwa [List.take_of_length_le (by omega)])
    have hv : nextV s = vx0.v := by unfold nextV; rw [hno]; rfl
    focus
      refine ct_seq ?_
      (refine ct_region' rfl ?_; simp only [List.map, lite])
      (refine rg rfl (g_lssF rfl rfl ?_) rfl rfl ?_; (· (omega)))
      refine rt_nil ?_
      refine q_then ?_
      refine ct_seq ?_
      refine ct_false rfl ?_
      refine ct_exit ?_
      refine q_then_exit ?_
      refine q_then_exit ?_
      refine q_block_exit ?_
      refine q_then ?_
      refine ct_seq ?_
      (refine ct_region' rfl ?_; simp only [List.map, lite])
      (refine rg rfl (g_build (by simp only [ev, upd, updl, argl, nat_beq_def, Nat.reduceBEq, cond_true, cond_false, List.map_cons, List.map_nil]; rfl) (by simp [fillL, Value.cells]; rfl)) rfl rfl ?_)
      (refine rt_op (wants_none rfl) (o_storeAgg rfl (by conv => lhs; whnf) (by first | exact List.toList_toArray | (conv => lhs; whnf)) (by first | rfl | exact bvsAll _ | exact wvs_all _ | assumption | exact vcells_one _) (by first | rfl | assumption | (simp; done) | (simp; omega) | exact vcells_len _ | exact hc_len _) (by first | rfl | assumption | (simp; done) | (simp; omega) | exact vcells_len _ | exact hc_len _) ?_))
      (refine rg rfl (g_assign (by conv => lhs; whnf)) rfl rfl ?_)
      refine rt_nil ?_
      refine q_then ?_
      refine ct_ret ?_
      rotate_left
    refine q_retCT rfl (cell_blk rfl (by rfl)) (by conv => lhs; whnf) (none, 0) ?_ ?_
    · show _ = Value.tuple #[.agg (vcells ⟨nextV s, none, 0⟩).toArray, .bool (nextS s).isSome]
      rw [hv, hno]
      unfold vcells
      rfl
    · show Ent _ (IsDag d s ks * (Arr 32 32 none 0 (nextV s).par.length ((nextV s).par.flatMap hc) * R))
      rw [hv]
      exact (arr_nil _ 32 32).trans (En.ent.trans (isDag_in (R := Arr 32 32 none 0 0 [] * R) i ok))
end Go.Proofs.Ytijplicijmpknaa
