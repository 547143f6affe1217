/- takes, Fit. -/
import Derived.Test.YtijplicijmpknaaDg2
import Derived.Test.YtijplicijmpknaaC1
namespace Go.Proofs.Ytijplicijmpknaa
open Go.RowKit
attribute [local irreducible] Gives RT CT QT Spec Wants Reads Src Ent OT RQ AnyT AnyOp Again Code.wp Post
attribute [local irreducible] vcells

def clockS (l : List V) (h : Hs) : Int := ((l.find? fun v => decide (v.id = h)).getD vx0.v).clock
def topS (l : List V) (hs : List Hs) : Int := hs.foldl (fun c h => max c (clockS l h)) 0
def takesS (s : DS) (v : V) : Int := if v.clock ≠ topS s.held v.par + 1 then 51 else if 4096 ≤ s.held.length then 3 else 0
/-- clocks of those that are held stay small -/
def ClockOk (s : DS) : Prop := ∀ v ∈ s.held, 1 ≤ v.clock ∧ v.clock ≤ 4096
theorem clockS_range {s : DS} (hk : ClockOk s) (h : Hs) : 0 ≤ clockS s.held h ∧ clockS s.held h ≤ 4096 := by
  unfold clockS
  cases e : s.held.find? fun v => decide (v.id = h) with
  | none => exact ⟨Int.le_refl _, by decide⟩
  | some v => have := hk v (List.mem_of_find?_eq_some e); exact ⟨by simp; omega, by simp; omega⟩
theorem topS_range {s : DS} (hk : ClockOk s) (hs : List Hs) : 0 ≤ topS s.held hs ∧ topS s.held hs ≤ 4096 := by
  unfold topS
  have : ∀ (hs : List Hs) (c : Int), 0 ≤ c → c ≤ 4096 → 0 ≤ hs.foldl (fun c h => max c (clockS s.held h)) c ∧ hs.foldl (fun c h => max c (clockS s.held h)) c ≤ 4096 := by
    intro hs
    induction hs with
    | nil => intro c h1 h2; exact ⟨h1, h2⟩
    | cons x hs ih => intro c h1 h2; have := clockS_range hk x; exact ih _ (by show 0 ≤ max c (clockS s.held x); omega) (by show max c (clockS s.held x) ≤ 4096; omega)
  exact this hs 0 (by decide) (by decide)
theorem topS_take {l : List V} {hs : List Hs} {j : Nat} (h : j < hs.length) : topS l (hs.take (j + 1)) = max (topS l (hs.take j)) (clockS l hs[j]) := by
  unfold topS
  rw [List.take_add_one, List.getElem?_eq_getElem h, List.foldl_append]; rfl
theorem takes_spec (R : HP) (d : Nat) (s : DS) (ks : List Vx) (x : Vx) [hr : Rd R x.ad (x.v.par.flatMap hc)] (hl : x.v.par.length ≤ 64) (hk : ClockOk s) :
    Spec Try.prog 61 [.pointer (some ⟨d, 0, none⟩), .agg (vcells x).toArray] (IsDag d s ks * R) (fun _ : Unit => .int .i64 (takesS s x.v)) (fun _ => IsDag d s ks * R) := by
  refine spec_of Try.func61 rfl Try.ntmps61 rfl fun W0 => ?_
  have hln := vcells_len x
  refine ct_ex fun i => ?_
  refine ct_ent ?_ (Ent.assoc _ _ _)
  refine ct_pr fun ok => ?_
  have hlen : (((i.hv.map vent).length : Nat) : Int) = s.held.length := by rw [List.length_map, ← ok.hh, List.length_map]
  have hcl : ∀ h, (vget i.hv h).v.clock = clockS s.held h := fun h => by rw [vget_map, ok.hh]; rfl
  focus
    refine ct_seq ?_
    (refine ct_region' rfl ?_; simp only [List.map, lite])
    (refine rt_op (wants_none rfl) (o_box rfl (by conv => lhs; whnf) (by conv => lhs; whnf) fun b3 => ?_))
    (refine rg rfl (g_assign (by conv => lhs; whnf)) rfl rfl ?_)
    refine rt_nil ?_
    refine q_then ?_
    refine ct_seq ?_
    (refine ct_region' rfl ?_; simp only [List.map, lite])
    (refine rg rfl (g_assign (by conv => lhs; whnf)) rfl rfl ?_)
    refine rt_nil ?_
    refine q_then ?_
    refine ct_seq ?_
    refine ct_seq ?_
    (refine ct_region' rfl ?_; simp only [List.map, lite])
    (refine rg rfl (g_field0 rfl) rfl rfl ?_)
    (refine rg rfl (g_loadVp rfl) rfl rfl ?_)
    (refine rg rfl (g_len_slice rfl) rfl rfl ?_)
    (refine rg rfl (g_move (by conv => lhs; whnf)) rfl rfl ?_)
    refine rt_nil ?_
    refine q_then ?_
    refine ct_block ?_
    rotate_left
  refine ct_loop (ι := { j : Nat // j ≤ x.v.par.length }) (fun j => [(0, .pointer (some ⟨d, 0, none⟩)), (3, .pointer (some ⟨b3, 0, none⟩)), (5, .int .i64 (topS s.held (x.v.par.take j.1))), (9, .slice x.ad x.v.par.length x.cap), (10, .int .i64 (x.v.par.length : Int)), (11, .int .i64 (j.1 : Int))]) (fun _ => Blk b3 (vcells x) 36 * (Blk d [.int .i64 s.room, .map (some i.p1), .map (some i.p2), .map (some i.p3), .slice i.ad s.waits.length i.cap] 78 * (MapK hkey i.p1 (i.hv.map vent) * (MapK hkey i.p2 (s.heads.map hent) * (MapK hkey i.p3 (i.wv.map vent) * (Arr 32 32 i.ad i.cap s.waits.length (s.old.flatMap hc) * i.X)))) * R)) (fun j => x.v.par.length - j.1) ⟨0, by omega⟩ ⟨rfl, rfl, rfl, rfl, rfl, rfl, trivial⟩ (Ent.refl _) fun j ρ' => ?_
  obtain ⟨j, hj⟩ := j
  dsimp only at hj ⊢
  have ht := topS_range hk (x.v.par.take j)
  by_cases h : j < x.v.par.length
  · have hli := hc_len x.v.par[j]
    have hct := hcl x.v.par[j]
    have htt := topS_take (l := s.held) h
    focus
      refine ct_seq ?_
      (refine ct_region' rfl ?_; simp only [List.map, lite])
      (refine rg rfl (g_lssT rfl rfl ?_) rfl rfl ?_; (· (omega)))
      refine rt_nil ?_
      refine q_then ?_
      refine ct_seq ?_
      refine ct_true rfl ?_
      refine ct_skip ?_
      refine q_then ?_
      refine ct_seq ?_
      refine ct_block ?_
      refine ct_seq ?_
      (refine ct_region' rfl ?_; simp only [List.map, lite])
      (refine rg rfl (g_elemH rfl rfl ?_ ?_) rfl rfl ?_; (· (first | omega | decide)); (· (first | omega | decide | (exact pos_of_get (by assumption)) | (simp only [List.length_map, List.length_append, List.length_replicate, List.length_set, List.length_cons, List.length_nil]; omega) | (simp; omega))))
      (refine rg rfl (g_loadH rfl ?_) rfl rfl ?_; (· (first | omega | decide | (exact pos_of_get (by assumption)) | (simp only [List.length_map, List.length_append, List.length_replicate, List.length_set, List.length_cons, List.length_nil]; omega) | (simp; omega))))
      (refine rt_op (wants_none rfl) (o_alloc rfl (by conv => lhs; whnf) fun b7 => ?_))
      (refine rt_op (wants_none rfl) (o_storeAgg rfl (by conv => lhs; whnf) (by first | exact List.toList_toArray | (conv => lhs; whnf)) (by first | rfl | exact bvsAll _ | exact wvs_all _ | assumption | exact vcells_one _) (by first | rfl | assumption | (simp; done) | (simp; omega) | exact vcells_len _) (by first | rfl | assumption | (simp; done) | (simp; omega) | exact vcells_len _) ?_))
      refine rt_nil ?_
      refine q_then ?_
      refine ct_quiet (by kernel_rfl) rfl ?_
      simp only [List.map, lite]
      (refine qg rfl (g_move (by conv => lhs; whnf)) rfl rfl ?_)
      (refine qg rfl (g_move (by conv => lhs; whnf)) rfl rfl ?_)
      (refine qg rfl (g_nil rfl) rfl rfl ?_)
      (refine qg rfl (g_field0 rfl) rfl rfl ?_)
      (refine qg rfl (g_load rfl (by conv => lhs; whnf)) rfl rfl ?_)
      (refine qg rfl (g_loadAgg_blk rfl (by first | rfl | assumption | (simp; done) | (simp; omega) | exact vcells_len _)) rfl rfl ?_)
      (refine qg rfl (g_lookV rfl rfl (by kernel_rfl)) rfl rfl ?_)
      (refine qg rfl (g_fieldVc rfl) rfl rfl ?_)
      (refine qg rfl (g_max rfl rfl) rfl rfl ?_)
      (refine qg rfl (g_assign (by conv => lhs; whnf)) rfl rfl ?_)
      refine rq_nil ?_
      refine q_block ?_
      refine q_then ?_
      (refine ct_region' rfl ?_; simp only [List.map, lite])
      (refine rg rfl (g_addN rfl rfl ?_) rfl rfl ?_; (· (constructor <;> omega)))
      (refine rg rfl (g_move (by conv => lhs; whnf)) rfl rfl ?_)
      refine rt_nil ?_
      rotate_left
    exact q_again ⟨j + 1, by omega⟩ (by show x.v.par.length - (j + 1) < x.v.par.length - j; omega) ⟨rfl, rfl, congrArg (Value.int _) (by rw [hct, htt]), rfl, rfl, rfl, trivial⟩ En.ent
  · have hall : x.v.par.take j = x.v.par := List.take_of_length_le (by omega)
    rw [hall] at ht ⊢
    focus
      refine ct_seq ?_
      (refine ct_region' rfl ?_; simp only [List.map, lite])
      (refine rg rfl (g_lssF rfl rfl ?_) rfl rfl ?_; (· (omega)))
      refine rt_nil ?_
      refine q_then ?_
      refine ct_seq ?_
      refine ct_false rfl ?_
      refine ct_exit ?_
      refine q_then_exit ?_
      refine q_then_exit ?_
      refine q_block_exit ?_
      refine q_then ?_
      refine ct_seq ?_
      refine ct_block ?_
      refine ct_seq ?_
      (refine ct_region' rfl ?_; simp only [List.map, lite])
      (refine rg rfl (g_field0 rfl) rfl rfl ?_)
      (refine rg rfl (g_loadVc rfl) rfl rfl ?_)
      (refine rg rfl (g_move (by conv => lhs; whnf)) rfl rfl ?_)
      (refine rg rfl (g_addN rfl rfl ?_) rfl rfl ?_; (· (constructor <;> omega)))
      (refine rg rfl (g_neq rfl rfl) rfl rfl ?_)
      (refine rg rfl (g_assign (by conv => lhs; whnf)) rfl rfl ?_)
      refine rt_nil ?_
      refine q_then ?_
      refine ct_if rfl (fun h25 => ?_) (fun h25 => ?_)
      refine ct_seq ?_
      (refine ct_region' rfl ?_; simp only [List.map, lite])
      (refine rg rfl (g_assign (by conv => lhs; whnf)) rfl rfl ?_)
      refine rt_nil ?_
      refine q_then ?_
      refine ct_ret ?_
      refine q_block_ret ?_
      refine q_then_ret ?_
      rotate_left
      refine ct_seq ?_
      (refine ct_region' rfl ?_; simp only [List.map, lite])
      (refine rg rfl (g_move (by conv => lhs; whnf)) rfl rfl ?_)
      (refine rg rfl (g_nil rfl) rfl rfl ?_)
      (refine rg rfl (g_field0 rfl) rfl rfl ?_)
      (refine rg rfl (g_load rfl (by conv => lhs; whnf)) rfl rfl ?_)
      (refine rg rfl (g_lenMap rfl) rfl rfl ?_)
      (refine rg rfl (g_geq rfl rfl) rfl rfl ?_)
      (refine rg rfl (g_assign (by conv => lhs; whnf)) rfl rfl ?_)
      refine rt_nil ?_
      refine q_then ?_
      refine ct_if rfl (fun h31 => ?_) (fun h31 => ?_)
      refine ct_seq ?_
      (refine ct_region' rfl ?_; simp only [List.map, lite])
      (refine rg rfl (g_assign (by conv => lhs; whnf)) rfl rfl ?_)
      refine rt_nil ?_
      refine q_then ?_
      refine ct_ret ?_
      refine q_block_ret ?_
      refine q_then_ret ?_
      rotate_left
      refine ct_skip ?_
      refine q_block ?_
      refine q_then ?_
      refine ct_seq ?_
      (refine ct_region' rfl ?_; simp only [List.map, lite])
      (refine rg rfl (g_assign (by conv => lhs; whnf)) rfl rfl ?_)
      refine rt_nil ?_
      refine q_then ?_
      refine ct_ret ?_
      rotate_left
    · exact q_ret1 rfl (by conv => lhs; whnf) () (congrArg (Value.int _) (by rw [takesS, if_pos (by omega)])) (En.ent.trans (isDag_in i ok))
    · exact q_ret1 rfl (by conv => lhs; whnf) () (congrArg (Value.int _) (by rw [takesS, if_neg (by omega), if_pos (by omega)])) (En.ent.trans (isDag_in i ok))
    · exact q_ret1 rfl (by conv => lhs; whnf) () (congrArg (Value.int _) (by rw [takesS, if_neg (by omega), if_neg (by omega)])) (En.ent.trans (isDag_in i ok))
def fitS (s : DS) (v : V) : Int × Int :=
  if (hasS s.held v.id || hasS s.waits v.id) = true then (1, 0)
  else if 64 < v.par.length ∨ risingS v.par = false then (0, 52)
  else if v.clock < 1 ∨ 4096 < v.clock ∨ (decide (v.clock = 1) != decide ((v.par.length : Int) = 0)) = true then (0, 51)
  else if readyS s v = false then (3, 0)
  else if takesS s v ≠ 0 then (0, takesS s v) else (2, 0)
theorem fit_known {s : DS} {v : V} (h : hasS s.held v.id = true ∨ hasS s.waits v.id = true) : fitS s v = (1, 0) := by
  unfold fitS; rw [if_pos]; rcases h with h | h <;> rw [h] <;> simp
theorem fit_par {s : DS} {v : V} (h1 : hasS s.held v.id = false) (h2 : hasS s.waits v.id = false) (h : 64 < v.par.length ∨ risingS v.par = false) : fitS s v = (0, 52) := by
  unfold fitS; rw [if_neg (by rw [h1, h2]; simp), if_pos h]
theorem fit_clock {s : DS} {v : V} (h1 : hasS s.held v.id = false) (h2 : hasS s.waits v.id = false) (h3 : ¬ 64 < v.par.length) (h4 : risingS v.par = true)
    (h : v.clock < 1 ∨ 4096 < v.clock ∨ (decide (v.clock = 1) != decide ((v.par.length : Int) = 0)) = true) : fitS s v = (0, 51) := by
  unfold fitS; rw [if_neg (by rw [h1, h2]; simp), if_neg (by rw [h4]; simp; omega), if_pos h]
theorem fit_rest {s : DS} {v : V} (h1 : hasS s.held v.id = false) (h2 : hasS s.waits v.id = false) (h3 : ¬ 64 < v.par.length) (h4 : risingS v.par = true)
    (h5 : ¬ v.clock < 1) (h6 : ¬ 4096 < v.clock) (h7 : (decide (v.clock = 1) != decide ((v.par.length : Int) = 0)) = false) : fitS s v = if readyS s v = false then (3, 0) else if takesS s v ≠ 0 then (0, takesS s v) else (2, 0) := by
  unfold fitS; rw [if_neg (by rw [h1, h2]; simp), if_neg (by rw [h4]; simp; omega), if_neg (by rw [h7]; simp; omega)]
theorem not_false' {b : Bool} (h : (!b) = true) : b = false := by cases b <;> simp_all
theorem not_true' {b : Bool} (h : (!b) = false) : b = true := by cases b <;> simp_all
theorem fit_spec (R : HP) (d : Nat) (s : DS) (ks : List Vx) (x : Vx) [hr : Rd R x.ad (x.v.par.flatMap hc)] (hl : x.v.par.length ≤ 140737488351232) (hk : ClockOk s) :
    Spec Try.prog 24 [.pointer (some ⟨d, 0, none⟩), .agg (vcells x).toArray] (IsDag d s ks * R) (fun _ : Unit => .tuple #[.int .i64 (fitS s x.v).1, .int .i64 (fitS s x.v).2]) (fun _ => IsDag d s ks * R) := by
  refine spec_of Try.func24 rfl Try.ntmps24 rfl fun W0 => ?_
  have hln := vcells_len x
  have hlid := hc_len x.v.id
  focus
    refine ct_seq ?_
    (refine ct_region' rfl ?_; simp only [List.map, lite])
    (refine rt_op (wants_none rfl) (o_box rfl (by conv => lhs; whnf) (by conv => lhs; whnf) fun b3 => ?_))
    (refine rg rfl (g_assign (by conv => lhs; whnf)) rfl rfl ?_)
    (refine rg rfl (g_assign (by conv => lhs; whnf)) rfl rfl ?_)
    refine rt_nil ?_
    refine q_then ?_
    refine ct_seq ?_
    refine ct_block ?_
    refine ct_seq ?_
    (refine ct_region' rfl ?_; simp only [List.map, lite])
    (refine rg rfl (g_move (by conv => lhs; whnf)) rfl rfl ?_)
    (refine rg rfl (g_field0 rfl) rfl rfl ?_)
    (refine rg rfl (g_loadVid rfl) rfl rfl ?_)
    (refine rt_op (wants_none rfl) (o_callE rfl rfl (ent_right (Ent.refl _)) (Go.Proofs.Ytijplicijmpknaa.has_spec _ _ _ _ _) fun i11 => ?_))
    (refine rg rfl (g_move (by conv => lhs; whnf)) rfl rfl ?_)
    refine rt_splitB 12 rfl (fun h12 => ?_) (fun h12 => ?_)
    refine rgs rfl rfl rfl rfl rfl rfl ?_
    refine rgs rfl rfl rfl rfl rfl rfl ?_
    refine rgs rfl rfl rfl rfl rfl rfl ?_
    refine rgs rfl rfl rfl rfl rfl rfl ?_
    (refine rg rfl (g_pick_t rfl (by conv => lhs; whnf)) rfl rfl ?_)
    (refine rg rfl (g_assign (by conv => lhs; whnf)) rfl rfl ?_)
    refine rt_nil ?_
    refine q_then ?_
    refine ct_true rfl ?_
    refine ct_seq ?_
    (refine ct_region' rfl ?_; simp only [List.map, lite])
    (refine rg rfl (g_assign (by conv => lhs; whnf)) rfl rfl ?_)
    (refine rg rfl (g_assign (by conv => lhs; whnf)) rfl rfl ?_)
    refine rt_nil ?_
    refine q_then ?_
    refine ct_ret ?_
    refine q_block_ret ?_
    refine q_then_ret ?_
    rotate_left
    (refine rgw rfl rfl rfl rfl (g_move (by conv => lhs; whnf)) rfl rfl ?_)
    (refine rgw rfl rfl rfl rfl (g_field0 rfl) rfl rfl ?_)
    (refine rgw rfl rfl rfl rfl (g_loadVid rfl) rfl rfl ?_)
    (refine rt_op (wants_some rfl rfl rfl rfl) (o_callE rfl rfl (Ent.refl _) (Go.Proofs.Ytijplicijmpknaa.waits_spec _ _ _ _ _) fun i16 => ?_))
    (refine rg rfl (g_pick_f rfl (by conv => lhs; whnf)) rfl rfl ?_)
    (refine rg rfl (g_assign (by conv => lhs; whnf)) rfl rfl ?_)
    refine rt_nil ?_
    refine q_then ?_
    refine ct_cond rfl (fun h7 => ?_) (fun h7 => ?_)
    refine ct_seq ?_
    (refine ct_region' rfl ?_; simp only [List.map, lite])
    (refine rg rfl (g_assign (by conv => lhs; whnf)) rfl rfl ?_)
    (refine rg rfl (g_assign (by conv => lhs; whnf)) rfl rfl ?_)
    refine rt_nil ?_
    refine q_then ?_
    refine ct_ret ?_
    refine q_block_ret ?_
    refine q_then_ret ?_
    rotate_left
    refine ct_seq ?_
    (refine ct_region' rfl ?_; simp only [List.map, lite])
    (refine rg rfl (g_field0 rfl) rfl rfl ?_)
    (refine rg rfl (g_loadVp rfl) rfl rfl ?_)
    (refine rg rfl (g_len_slice rfl) rfl rfl ?_)
    (refine rg rfl (g_gtr rfl rfl) rfl rfl ?_)
    (refine rg rfl (g_move (by conv => lhs; whnf)) rfl rfl ?_)
    refine rt_split 23 rfl (fun h23 => ?_) (fun h23 => ?_)
    refine rgs rfl rfl rfl rfl rfl rfl ?_
    refine rgs rfl rfl rfl rfl rfl rfl ?_
    refine rgs rfl rfl rfl rfl rfl rfl ?_
    refine rgs rfl rfl rfl rfl rfl rfl ?_
    (refine rg rfl (g_pick_t rfl (by conv => lhs; whnf)) rfl rfl ?_)
    (refine rg rfl (g_assign (by conv => lhs; whnf)) rfl rfl ?_)
    refine rt_nil ?_
    refine q_then ?_
    refine ct_true rfl ?_
    refine ct_seq ?_
    (refine ct_region' rfl ?_; simp only [List.map, lite])
    (refine rg rfl (g_assign (by conv => lhs; whnf)) rfl rfl ?_)
    (refine rg rfl (g_assign (by conv => lhs; whnf)) rfl rfl ?_)
    refine rt_nil ?_
    refine q_then ?_
    refine ct_ret ?_
    refine q_block_ret ?_
    refine q_then_ret ?_
    rotate_left
    (refine rgw rfl rfl rfl rfl (g_field0 rfl) rfl rfl ?_)
    (refine rgw rfl rfl rfl rfl (g_loadVp rfl) rfl rfl ?_)
    (refine rt_op (wants_some rfl rfl rfl rfl) (o_callE rfl rfl (Ent.refl _) (Go.Proofs.Ytijplicijmpknaa.rising_spec _ _ _ _ ?_) fun i26 => ?_); (· (first | assumption | omega | rfl | decide | infer_instance | (simp; done) | (simp; omega) | (simp only [*]; done))))
    (refine rgw rfl rfl rfl rfl (g_not rfl) rfl rfl ?_)
    (refine rg rfl (g_pick_f rfl (by conv => lhs; whnf)) rfl rfl ?_)
    (refine rg rfl (g_assign (by conv => lhs; whnf)) rfl rfl ?_)
    refine rt_nil ?_
    refine q_then ?_
    refine ct_cond rfl (fun h18 => ?_) (fun h18 => ?_)
    refine ct_seq ?_
    (refine ct_region' rfl ?_; simp only [List.map, lite])
    (refine rg rfl (g_assign (by conv => lhs; whnf)) rfl rfl ?_)
    (refine rg rfl (g_assign (by conv => lhs; whnf)) rfl rfl ?_)
    refine rt_nil ?_
    refine q_then ?_
    refine ct_ret ?_
    refine q_block_ret ?_
    refine q_then_ret ?_
    rotate_left
    refine ct_seq ?_
    (refine ct_region' rfl ?_; simp only [List.map, lite])
    (refine rg rfl (g_field0 rfl) rfl rfl ?_)
    (refine rg rfl (g_loadVc rfl) rfl rfl ?_)
    (refine rg rfl (g_lss rfl rfl) rfl rfl ?_)
    (refine rg rfl (g_move (by conv => lhs; whnf)) rfl rfl ?_)
    refine rt_split 33 rfl (fun h33 => ?_) (fun h33 => ?_)
    refine rgs rfl rfl rfl rfl rfl rfl ?_
    refine rgs rfl rfl rfl rfl rfl rfl ?_
    refine rgs rfl rfl rfl rfl rfl rfl ?_
    (refine rg rfl (g_pick_t rfl (by conv => lhs; whnf)) rfl rfl ?_)
    (refine rg rfl (g_move (by conv => lhs; whnf)) rfl rfl ?_)
    refine rgs rfl rfl rfl rfl rfl rfl ?_
    refine rgs rfl rfl rfl rfl rfl rfl ?_
    refine rgs rfl rfl rfl rfl rfl rfl ?_
    refine rgs rfl rfl rfl rfl rfl rfl ?_
    refine rgs rfl rfl rfl rfl rfl rfl ?_
    refine rgs rfl rfl rfl rfl rfl rfl ?_
    refine rgs rfl rfl rfl rfl rfl rfl ?_
    refine rgs rfl rfl rfl rfl rfl rfl ?_
    (refine rg rfl (g_pick_t rfl (by conv => lhs; whnf)) rfl rfl ?_)
    (refine rg rfl (g_assign (by conv => lhs; whnf)) rfl rfl ?_)
    refine rt_nil ?_
    refine q_then ?_
    refine ct_true rfl ?_
    refine ct_seq ?_
    (refine ct_region' rfl ?_; simp only [List.map, lite])
    (refine rg rfl (g_assign (by conv => lhs; whnf)) rfl rfl ?_)
    (refine rg rfl (g_assign (by conv => lhs; whnf)) rfl rfl ?_)
    refine rt_nil ?_
    refine q_then ?_
    refine ct_ret ?_
    refine q_block_ret ?_
    refine q_then_ret ?_
    rotate_left
    (refine rgw rfl rfl rfl rfl (g_field0 rfl) rfl rfl ?_)
    (refine rgw rfl rfl rfl rfl (g_loadVc rfl) rfl rfl ?_)
    (refine rgw rfl rfl rfl rfl (g_gtr rfl rfl) rfl rfl ?_)
    (refine rg rfl (g_pick_f rfl (by conv => lhs; whnf)) rfl rfl ?_)
    (refine rg rfl (g_move (by conv => lhs; whnf)) rfl rfl ?_)
    refine rt_split 38 rfl (fun h38 => ?_) (fun h38 => ?_)
    refine rgs rfl rfl rfl rfl rfl rfl ?_
    refine rgs rfl rfl rfl rfl rfl rfl ?_
    refine rgs rfl rfl rfl rfl rfl rfl ?_
    refine rgs rfl rfl rfl rfl rfl rfl ?_
    refine rgs rfl rfl rfl rfl rfl rfl ?_
    refine rgs rfl rfl rfl rfl rfl rfl ?_
    refine rgs rfl rfl rfl rfl rfl rfl ?_
    refine rgs rfl rfl rfl rfl rfl rfl ?_
    (refine rg rfl (g_pick_t rfl (by conv => lhs; whnf)) rfl rfl ?_)
    (refine rg rfl (g_assign (by conv => lhs; whnf)) rfl rfl ?_)
    refine rt_nil ?_
    refine q_then ?_
    refine ct_true rfl ?_
    refine ct_seq ?_
    (refine ct_region' rfl ?_; simp only [List.map, lite])
    (refine rg rfl (g_assign (by conv => lhs; whnf)) rfl rfl ?_)
    (refine rg rfl (g_assign (by conv => lhs; whnf)) rfl rfl ?_)
    refine rt_nil ?_
    refine q_then ?_
    refine ct_ret ?_
    refine q_block_ret ?_
    refine q_then_ret ?_
    rotate_left
    (refine rgw rfl rfl rfl rfl (g_field0 rfl) rfl rfl ?_)
    (refine rgw rfl rfl rfl rfl (g_loadVc rfl) rfl rfl ?_)
    (refine rgw rfl rfl rfl rfl (g_eql rfl rfl) rfl rfl ?_)
    (refine rgw rfl rfl rfl rfl (g_field0 rfl) rfl rfl ?_)
    (refine rgw rfl rfl rfl rfl (g_loadVp rfl) rfl rfl ?_)
    (refine rgw rfl rfl rfl rfl (g_len_slice rfl) rfl rfl ?_)
    (refine rgw rfl rfl rfl rfl (g_eql rfl rfl) rfl rfl ?_)
    (refine rgw rfl rfl rfl rfl (g_neb rfl rfl) rfl rfl ?_)
    (refine rg rfl (g_pick_f rfl (by conv => lhs; whnf)) rfl rfl ?_)
    (refine rg rfl (g_assign (by conv => lhs; whnf)) rfl rfl ?_)
    refine rt_nil ?_
    refine q_then ?_
    refine ct_cond rfl (fun h29 => ?_) (fun h29 => ?_)
    refine ct_seq ?_
    (refine ct_region' rfl ?_; simp only [List.map, lite])
    (refine rg rfl (g_assign (by conv => lhs; whnf)) rfl rfl ?_)
    (refine rg rfl (g_assign (by conv => lhs; whnf)) rfl rfl ?_)
    refine rt_nil ?_
    refine q_then ?_
    refine ct_ret ?_
    refine q_block_ret ?_
    refine q_then_ret ?_
    rotate_left
    refine ct_seq ?_
    (refine ct_region' rfl ?_; simp only [List.map, lite])
    (refine rg rfl (g_move (by conv => lhs; whnf)) rfl rfl ?_)
    (refine rg rfl (g_loadAgg_blk rfl (by first | rfl | assumption | (simp; done) | (simp; omega) | exact vcells_len _)) rfl rfl ?_)
    (refine rt_op (wants_none rfl) (o_callE rfl rfl (Ent.refl _) (Go.Proofs.Ytijplicijmpknaa.ready_spec _ _ _ _ _ ?_) fun i51 => ?_); (· (first | assumption | omega | rfl | decide | infer_instance | (simp; done) | (simp; omega) | (simp only [*]; done))))
    (refine rg rfl (g_not rfl) rfl rfl ?_)
    (refine rg rfl (g_assign (by conv => lhs; whnf)) rfl rfl ?_)
    refine rt_nil ?_
    refine q_then ?_
    refine ct_cond rfl (fun h48 => ?_) (fun h48 => ?_)
    refine ct_seq ?_
    (refine ct_region' rfl ?_; simp only [List.map, lite])
    (refine rg rfl (g_assign (by conv => lhs; whnf)) rfl rfl ?_)
    (refine rg rfl (g_assign (by conv => lhs; whnf)) rfl rfl ?_)
    refine rt_nil ?_
    refine q_then ?_
    refine ct_ret ?_
    refine q_block_ret ?_
    refine q_then_ret ?_
    rotate_left
    refine ct_skip ?_
    refine q_block ?_
    refine q_then ?_
    refine ct_seq ?_
    refine ct_seq ?_
    (refine ct_region' rfl ?_; simp only [List.map, lite])
    (refine rg rfl (g_move (by conv => lhs; whnf)) rfl rfl ?_)
    (refine rg rfl (g_loadAgg_blk rfl (by first | rfl | assumption | (simp; done) | (simp; omega) | exact vcells_len _)) rfl rfl ?_)
    (refine rt_op (wants_none rfl) (o_callE rfl rfl (Ent.refl _) (Go.Proofs.Ytijplicijmpknaa.takes_spec _ _ _ _ _ ?_ ?_) fun i55 => ?_); (· (first | assumption | omega | rfl | decide | infer_instance | (simp; done) | (simp; omega) | (simp only [*]; done))); (· (first | assumption | omega | rfl | decide | infer_instance | (simp; done) | (simp; omega) | (simp only [*]; done))))
    (refine rg rfl (g_assign (by conv => lhs; whnf)) rfl rfl ?_)
    refine rt_nil ?_
    refine q_then ?_
    refine ct_seq ?_
    (refine ct_region' rfl ?_; simp only [List.map, lite])
    (refine rg rfl (g_move (by conv => lhs; whnf)) rfl rfl ?_)
    (refine rg rfl (g_neq rfl rfl) rfl rfl ?_)
    refine rt_nil ?_
    refine q_then ?_
    refine ct_if rfl (fun h57 => ?_) (fun h57 => ?_)
    refine ct_seq ?_
    (refine ct_region' rfl ?_; simp only [List.map, lite])
    (refine rg rfl (g_move (by conv => lhs; whnf)) rfl rfl ?_)
    (refine rg rfl (g_assign (by conv => lhs; whnf)) rfl rfl ?_)
    (refine rg rfl (g_assign (by conv => lhs; whnf)) rfl rfl ?_)
    refine rt_nil ?_
    refine q_then ?_
    refine ct_ret ?_
    refine q_then_ret ?_
    rotate_left
    refine ct_skip ?_
    refine q_then ?_
    refine ct_seq ?_
    (refine ct_region' rfl ?_; simp only [List.map, lite])
    (refine rg rfl (g_assign (by conv => lhs; whnf)) rfl rfl ?_)
    (refine rg rfl (g_assign (by conv => lhs; whnf)) rfl rfl ?_)
    refine rt_nil ?_
    refine q_then ?_
    refine ct_ret ?_
    rotate_left
  all_goals refine q_ret2 rfl (by conv => lhs; whnf) (by conv => lhs; whnf) () ?_ En.ent
  · simp only [fit_known (.inl h12)]
  · simp only [fit_known (.inr h7)]
  · simp only [fit_par h12 h7 (.inl (by omega))]
  · simp only [fit_par h12 h7 (.inr (not_false' h18))]
  · simp only [fit_clock h12 h7 (by omega) (not_true' h18) (.inl h33)]
  · simp only [fit_clock h12 h7 (by omega) (not_true' h18) (.inr (.inl h38))]
  · simp only [fit_clock h12 h7 (by omega) (not_true' h18) (.inr (.inr h29))]
  · simp only [fit_rest h12 h7 (by omega) (not_true' h18) h33 h38 h29, if_pos (not_false' h48)]
  · simp only [fit_rest h12 h7 (by omega) (not_true' h18) h33 h38 h29, not_true' h48, h57, Bool.true_eq_false, if_false, ne_eq, not_false_eq_true, if_true]
  · simp only [fit_rest h12 h7 (by omega) (not_true' h18) h33 h38 h29, not_true' h48, h57, Bool.true_eq_false, if_false, ne_eq, not_true_eq_false]
end Go.Proofs.Ytijplicijmpknaa
