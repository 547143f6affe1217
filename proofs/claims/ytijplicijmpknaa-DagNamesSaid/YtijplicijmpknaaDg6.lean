/- Add. -/
import Derived.Test.YtijplicijmpknaaDg5
import Derived.Test.YtijplicijmpknaaHl
namespace Go.Proofs.Ytijplicijmpknaa
open Go.RowKit
attribute [local irreducible] Gives RT CT QT Spec Wants Reads Src Ent OT RQ AnyT AnyOp Again Code.wp Post
attribute [local irreducible] vcells

theorem isDag_open {d : Nat} {s : DS} {ks : List Vx} {R C : HP} (h : ∀ i : DI, i.Ok s ks → Ent (Blk d [.int .i64 s.room, .map (some i.p1), .map (some i.p2), .map (some i.p3), .slice i.ad s.waits.length i.cap] 78 * (MapK hkey i.p1 (i.hv.map vent) * (MapK hkey i.p2 (s.heads.map hent) * (MapK hkey i.p3 (i.wv.map vent) * (Arr 32 32 i.ad i.cap s.waits.length (s.old.flatMap hc) * i.X)))) * R) C) : Ent (IsDag d s ks * R) C :=
  ent_exL fun i => (Ent.assoc _ _ _).trans (ent_prL fun ok => h i ok)
/-- a vertex' own row becomes the graph's -/
theorem isDag_take {d n : Nat} {s : DS} {ks : List Vx} {x : Vx} {R : HP} : Ent (IsDag d s ks * (Arr 32 32 x.ad x.cap n (x.v.par.flatMap hc) * R)) (IsDag d s (x :: ks) * R) := by
  refine isDag_open fun i ok => En.ent.trans (isDag_mk (n := s.waits.length) (room := s.room) (p1 := i.p1) (p2 := i.p2) (p3 := i.p3) (ad := i.ad) (cap := i.cap) (X := Arr 32 32 x.ad x.cap n (x.v.par.flatMap hc) * i.X) (hv := i.hv) (wv := i.wv) (waits := s.waits) (heads := s.heads) (held := s.held) ok.hh ok.hw (fun y hy => ?_) ok.np ok.nh ok.nw rfl)
  have old : ∀ y, y ∈ i.hv ∨ y ∈ i.wv ∨ y ∈ ks → Rd (Arr 32 32 x.ad x.cap n (x.v.par.flatMap hc) * i.X) y.ad (y.v.par.flatMap hc) := fun y hy => by
    have := ok.rd y hy
    exact Rd.right _ _ _ _
  rcases hy with hy | hy | hy
  · exact old y (.inl hy)
  · exact old y (.inr (.inl hy))
  · rcases List.mem_cons.1 hy with rfl | hy
    · exact Rd.left _ _ _ _
    · exact old y (.inr (.inr hy))
theorem isDag_drop {d : Nat} {s : DS} {ks : List Vx} {x : Vx} {R : HP} : Ent (IsDag d s (x :: ks) * R) (IsDag d s ks * R) := by
  refine isDag_open fun i ok => En.ent.trans (isDag_in i ⟨ok.hh, ok.hw, fun y hy => ok.rd y ?_, ok.np, ok.nh, ok.nw⟩)
  rcases hy with hy | hy | hy
  · exact .inl hy
  · exact .inr (.inl hy)
  · exact .inr (.inr (List.mem_cons_of_mem _ hy))

def addS (s : DS) (v : V) : DS × List Hs :=
  if (fitS s v).1 = 2 then (holdS s v, [])
  else if (fitS s v).1 = 3 then ({ s with waits := (s.waits ++ [v]).drop ((s.waits ++ [v]).length - s.room) }, ((s.waits ++ [v]).take ((s.waits ++ [v]).length - s.room)).map V.id)
  else (s, [])
theorem fit_two {s : DS} {v : V} (h : (fitS s v).1 = 2) : hasS s.held v.id = false ∧ v.par.length ≤ 64 ∧ s.held.length < 4096 := by
  unfold fitS at h
  by_cases c1 : (hasS s.held v.id || hasS s.waits v.id) = true
  · rw [if_pos c1] at h; exact absurd h (by simp)
  rw [if_neg c1] at h
  by_cases c2 : 64 < v.par.length ∨ risingS v.par = false
  · rw [if_pos c2] at h; exact absurd h (by simp)
  rw [if_neg c2] at h
  by_cases c3 : v.clock < 1 ∨ 4096 < v.clock ∨ (decide (v.clock = 1) != decide ((v.par.length : Int) = 0)) = true
  · rw [if_pos c3] at h; exact absurd h (by simp)
  rw [if_neg c3] at h
  by_cases c4 : readyS s v = false
  · rw [if_pos c4] at h; exact absurd h (by simp)
  rw [if_neg c4] at h
  by_cases c5 : takesS s v ≠ 0
  · rw [if_pos c5] at h; exact absurd h (by simp)
  have h1 : hasS s.held v.id = false := by cases e : hasS s.held v.id <;> simp_all
  refine ⟨h1, by omega, ?_⟩
  unfold takesS at c5
  by_cases c6 : v.clock ≠ topS s.held v.par + 1
  · rw [if_pos c6] at c5; exact absurd (by decide) c5
  · rw [if_neg c6] at c5
    by_cases c7 : 4096 ≤ s.held.length
    · rw [if_pos c7] at c5; exact absurd (by decide) c5
    · omega
theorem fit_three {s : DS} {v : V} (h : (fitS s v).1 = 3) : hasS s.held v.id = false ∧ hasS s.waits v.id = false ∧ v.par.length ≤ 64 := by
  unfold fitS at h
  by_cases c1 : (hasS s.held v.id || hasS s.waits v.id) = true
  · rw [if_pos c1] at h; exact absurd h (by simp)
  rw [if_neg c1] at h
  by_cases c2 : 64 < v.par.length ∨ risingS v.par = false
  · rw [if_pos c2] at h; exact absurd h (by simp)
  have h1 : hasS s.held v.id = false := by cases e : hasS s.held v.id <;> simp_all
  have h2 : hasS s.waits v.id = false := by cases e : hasS s.waits v.id <;> simp_all
  exact ⟨h1, h2, by omega⟩
theorem eraseP_head {l : List V} (h : 0 < l.length) : l.eraseP (fun v => decide (v.id = l[0].id)) = l.tail := by
  cases l with
  | nil => simp at h
  | cons v t => simp
theorem add_spec (R : HP) (d : Nat) (s : DS) (ks : List Vx) (x : Vx) [hr : Rd R x.ad (x.v.par.flatMap hc)] (hl : x.v.par.length ≤ 140737488351232) (hk : ClockOk s) (hw : s.waits.length ≤ 64) :
    Spec Try.prog 15 [.pointer (some ⟨d, 0, none⟩), .agg (vcells x).toArray] (IsDag d s ks * R)
      (fun i : Option Addr × Nat => .tuple #[.int .i64 (fitS s x.v).1, .slice i.1 (addS s x.v).2.length i.2, .int .i64 (fitS s x.v).2]) (fun i => IsDag d (addS s x.v).1 ks * (Arr 32 32 i.1 i.2 (addS s x.v).2.length ((addS s x.v).2.flatMap hc) * R)) := by
  refine spec_of Try.func15 rfl Try.ntmps15 rfl fun W0 => ?_
  have hln := vcells_len x
  by_cases c2 : (fitS s x.v).1 = 2
  · obtain ⟨t1, t2, t3⟩ := fit_two c2
    have ha : addS s x.v = (holdS s x.v, []) := by unfold addS; rw [if_pos c2]
    have hhold := fun (i : Option Addr × Nat) (R' : HP) => spec_conseq (ret' := fun _ : Unit => .tuple #[]) (B' := fun _ => IsDag d (holdS s x.v) ks * R') (hold_spec R' d s (⟨x.v, i.1, i.2⟩ :: ks) ⟨x.v, i.1, i.2⟩ (.head _) t1 t2 t3) (isDag_take (n := x.v.par.length)) (fun _ => ⟨(), rfl, isDag_drop⟩)
    focus
      refine ct_seq ?_
      (refine ct_region' rfl ?_; simp only [List.map, lite])
      (refine rt_op (wants_none rfl) (o_box rfl (by conv => lhs; whnf) (by conv => lhs; whnf) fun b3 => ?_))
      (refine rg rfl (g_assign (by conv => lhs; whnf)) rfl rfl ?_)
      (refine rg rfl (g_assign (by conv => lhs; whnf)) rfl rfl ?_)
      (refine rg rfl (g_assign (by conv => lhs; whnf)) rfl rfl ?_)
      refine rt_nil ?_
      refine q_then ?_
      refine ct_seq ?_
      (refine ct_region' rfl ?_; simp only [List.map, lite])
      (refine rg rfl (g_move (by conv => lhs; whnf)) rfl rfl ?_)
      (refine rg rfl (g_loadAgg_blk rfl (by first | rfl | assumption | (simp; done) | (simp; omega) | exact vcells_len _)) rfl rfl ?_)
      (refine rt_op (wants_none rfl) (o_callE rfl rfl (ent_right (Ent.refl _)) (Go.Proofs.Ytijplicijmpknaa.fit_spec _ _ _ _ _ ?_ ?_) fun i10 => ?_); (· (first | assumption | omega | rfl | decide | infer_instance | (simp; done) | (simp; omega) | (simp only [*]; done))); (· (first | assumption | omega | rfl | decide | infer_instance | (simp; done) | (simp; omega) | (simp only [*]; done))))
      (refine rg rfl (g_move (by conv => lhs; whnf)) rfl rfl ?_)
      (refine rg rfl (g_extract rfl (by conv => lhs; whnf)) rfl rfl ?_)
      (refine rg rfl (g_extract rfl (by conv => lhs; whnf)) rfl rfl ?_)
      (refine rg rfl (g_assign (by conv => lhs; whnf)) rfl rfl ?_)
      (refine rg rfl (g_assign (by conv => lhs; whnf)) rfl rfl ?_)
      refine rt_nil ?_
      refine q_then ?_
      refine ct_seq ?_
      refine ct_seq ?_
      (refine ct_region' rfl ?_; simp only [List.map, lite])
      (refine rg rfl (g_move (by conv => lhs; whnf)) rfl rfl ?_)
      refine rt_nil ?_
      refine q_then ?_
      refine ct_block ?_
      refine ct_seq ?_
      (refine ct_region' rfl ?_; simp only [List.map, lite])
      (refine rg rfl (g_eqlT rfl rfl ?_) rfl rfl ?_; (· (omega)))
      (refine rg rfl (g_assign (by conv => lhs; whnf)) rfl rfl ?_)
      refine rt_nil ?_
      refine q_then ?_
      refine ct_true rfl ?_
      (refine ct_region' rfl ?_; simp only [List.map, lite])
      (refine rg rfl (g_move (by conv => lhs; whnf)) rfl rfl ?_)
      (refine rg rfl (g_loadAgg_blk rfl (by first | rfl | assumption | (simp; done) | (simp; omega) | exact vcells_len _)) rfl rfl ?_)
      (refine rt_op (wants_none rfl) (o_callE rfl rfl (Ent.refl _) (Go.Proofs.Ytijplicijmpknaa.own_spec _ _ ?_) fun i18 => ?_); (· (first | assumption | omega | rfl | decide | infer_instance | (simp; done) | (simp; omega) | (simp only [*]; done))))
      (refine rt_op (wants_none rfl) (o_callE rfl rfl ((ent_right (Ent.refl _)).trans (Ent.mul (Ent.refl _) (Ent.refl _))) (hhold _ _) fun i19 => ?_))
      refine rt_nil ?_
      refine q_block ?_
      refine q_then ?_
      refine ct_seq ?_
      (refine ct_region' rfl ?_; simp only [List.map, lite])
      (refine rg rfl (g_move (by conv => lhs; whnf)) rfl rfl ?_)
      (refine rg rfl (g_move (by conv => lhs; whnf)) rfl rfl ?_)
      (refine rg rfl (g_move (by conv => lhs; whnf)) rfl rfl ?_)
      (refine rg rfl (g_assign (by conv => lhs; whnf)) rfl rfl ?_)
      (refine rg rfl (g_assign (by conv => lhs; whnf)) rfl rfl ?_)
      (refine rg rfl (g_assign (by conv => lhs; whnf)) rfl rfl ?_)
      refine rt_nil ?_
      refine q_then ?_
      refine ct_ret ?_
      rotate_left
    refine q_ret3 rfl rfl rfl rfl (none, 0) (by rw [ha]; rfl) ?_
    rw [ha]
    show Ent _ (IsDag d (holdS s x.v) ks * (Arr 32 32 none 0 0 [] * R))
    exact (arr_nil _ 32 32).trans En.ent
  · by_cases c3 : (fitS s x.v).1 = 3
    · obtain ⟨t1, t2, t3⟩ := fit_three c3
      have hpl : x.v.par.length * 32 ≤ 140737488355328 := by omega
      focus
        refine ct_seq ?_
        (refine ct_region' rfl ?_; simp only [List.map, lite])
        (refine rt_op (wants_none rfl) (o_box rfl (by conv => lhs; whnf) (by conv => lhs; whnf) fun b3 => ?_))
        (refine rg rfl (g_assign (by conv => lhs; whnf)) rfl rfl ?_)
        (refine rg rfl (g_assign (by conv => lhs; whnf)) rfl rfl ?_)
        (refine rg rfl (g_assign (by conv => lhs; whnf)) rfl rfl ?_)
        refine rt_nil ?_
        refine q_then ?_
        refine ct_seq ?_
        (refine ct_region' rfl ?_; simp only [List.map, lite])
        (refine rg rfl (g_move (by conv => lhs; whnf)) rfl rfl ?_)
        (refine rg rfl (g_loadAgg_blk rfl (by first | rfl | assumption | (simp; done) | (simp; omega) | exact vcells_len _)) rfl rfl ?_)
        (refine rt_op (wants_none rfl) (o_callE rfl rfl (ent_right (Ent.refl _)) (Go.Proofs.Ytijplicijmpknaa.fit_spec _ _ _ _ _ ?_ ?_) fun i10 => ?_); (· (first | assumption | omega | rfl | decide | infer_instance | (simp; done) | (simp; omega) | (simp only [*]; done))); (· (first | assumption | omega | rfl | decide | infer_instance | (simp; done) | (simp; omega) | (simp only [*]; done))))
        (refine rg rfl (g_move (by conv => lhs; whnf)) rfl rfl ?_)
        (refine rg rfl (g_extract rfl (by conv => lhs; whnf)) rfl rfl ?_)
        (refine rg rfl (g_extract rfl (by conv => lhs; whnf)) rfl rfl ?_)
        (refine rg rfl (g_assign (by conv => lhs; whnf)) rfl rfl ?_)
        (refine rg rfl (g_assign (by conv => lhs; whnf)) rfl rfl ?_)
        refine rt_nil ?_
        refine q_then ?_
        refine ct_seq ?_
        refine ct_seq ?_
        (refine ct_region' rfl ?_; simp only [List.map, lite])
        (refine rg rfl (g_move (by conv => lhs; whnf)) rfl rfl ?_)
        refine rt_nil ?_
        refine q_then ?_
        refine ct_block ?_
        refine ct_seq ?_
        (refine ct_region' rfl ?_; simp only [List.map, lite])
        (refine rg rfl (g_eqlF rfl rfl ?_) rfl rfl ?_; (· (omega)))
        (refine rg rfl (g_assign (by conv => lhs; whnf)) rfl rfl ?_)
        refine rt_nil ?_
        refine q_then ?_
        refine ct_false rfl ?_
        refine ct_seq ?_
        (refine ct_region' rfl ?_; simp only [List.map, lite])
        (refine rg rfl (g_eqlT rfl rfl ?_) rfl rfl ?_; (· (omega)))
        (refine rg rfl (g_assign (by conv => lhs; whnf)) rfl rfl ?_)
        refine rt_nil ?_
        refine q_then ?_
        refine ct_true rfl ?_
        refine ct_seq ?_
        rotate_left
      refine ct_ex fun i => ?_
      refine ct_ent ?_ (Ent.assoc _ _ _)
      refine ct_pr fun ok => ?_
      have hmp : ∀ (ad : Option Addr) (cap : Nat), mput (i.wv.map vent) x.v.id (.agg (vcells ⟨x.v, ad, cap⟩).toArray) = (i.wv ++ [(⟨x.v, ad, cap⟩ : Vx)]).map vent := fun ad cap => mput_vent (l := i.wv) (x := ⟨x.v, ad, cap⟩) (by rw [ok.hw]; exact t2)
      focus
        refine ct_any (Blk d [.int .i64 s.room, .map (some i.p1), .map (some i.p2), .map (some i.p3), .slice i.ad s.waits.length i.cap] 78 * Blk b3 (vcells x) 36) 8 ?_
        (refine any_take 0 rfl (by kernel_rfl) (by first | exact Ent.refl _ | exact En.ent) (wants_none rfl) (g_move (by conv => lhs; whnf)) rfl rfl ?_)
        (refine any_take 1 rfl (by kernel_rfl) (by first | exact Ent.refl _ | exact En.ent) (wants_none rfl) (g_nil rfl) rfl rfl ?_)
        (refine any_take 2 rfl (by kernel_rfl) (by first | exact Ent.refl _ | exact En.ent) (wants_none rfl) (g_field0 rfl) rfl rfl ?_)
        (refine any_take 3 rfl (by kernel_rfl) (by first | exact Ent.refl _ | exact En.ent) (wants_none rfl) (g_load rfl (by conv => lhs; whnf)) rfl rfl ?_)
        (refine any_take 4 rfl (by kernel_rfl) (by first | exact Ent.refl _ | exact En.ent) (wants_none rfl) (g_field0 rfl) rfl rfl ?_)
        (refine any_take 5 rfl (by kernel_rfl) (by first | exact Ent.refl _ | exact En.ent) (wants_none rfl) (g_loadVid rfl) rfl rfl ?_)
        (refine any_take 6 rfl (by kernel_rfl) (by first | exact Ent.refl _ | exact En.ent) (wants_none rfl) (g_loadAgg_blk rfl (by first | rfl | assumption | (simp; done) | (simp; omega) | exact vcells_len _)) rfl rfl ?_)
        (refine any_one 7 (by kernel_rfl) rfl (wants_none rfl) (o_callE rfl rfl (Ent.refl _) (Go.Proofs.Ytijplicijmpknaa.own_spec _ _ ?_) fun i29 => ⟨.inr (by first | exact Ent.refl _ | exact En.ent), ?_⟩); (· (first | assumption | omega | rfl | decide | infer_instance | (simp; done) | (simp; omega) | (simp only [*]; done))))
        (refine any_one 8 (by kernel_rfl) rfl (wants_none rfl) (o_mapset (enc := hkey) rfl rfl (by conv => lhs; whnf) rfl ⟨.inl rfl, ?_⟩))
        refine any_done (by kernel_rfl) ?_
        refine q_then ?_
        refine ct_seq ?_
        refine ct_any (Blk d [.int .i64 s.room, .map (some i.p1), .map (some i.p2), .map (some i.p3), .slice i.ad s.waits.length i.cap] 78 * Blk b3 (vcells x) 36) 11 ?_
        (refine any_take 0 rfl (by kernel_rfl) (by first | exact Ent.refl _ | exact En.ent) (wants_none rfl) (g_move (by conv => lhs; whnf)) rfl rfl ?_)
        (refine any_take 1 rfl (by kernel_rfl) (by first | exact Ent.refl _ | exact En.ent) (wants_none rfl) (g_move (by conv => lhs; whnf)) rfl rfl ?_)
        (refine any_take 2 rfl (by kernel_rfl) (by first | exact Ent.refl _ | exact En.ent) (wants_none rfl) (g_nil rfl) rfl rfl ?_)
        (refine any_take 3 rfl (by kernel_rfl) (by first | exact Ent.refl _ | exact En.ent) (wants_none rfl) (g_field0 rfl) rfl rfl ?_)
        (refine any_take 4 rfl (by kernel_rfl) (by first | exact Ent.refl _ | exact En.ent) (wants_none rfl) (g_load rfl (by conv => lhs; whnf)) rfl rfl ?_)
        (refine any_take 5 rfl (by kernel_rfl) (by first | exact Ent.refl _ | exact En.ent) (wants_none rfl) (g_field0 rfl) rfl rfl ?_)
        (refine any_take 6 rfl (by kernel_rfl) (by first | exact Ent.refl _ | exact En.ent) (wants_none rfl) (g_loadVid rfl) rfl rfl ?_)
        (refine any_one 7 (by kernel_rfl) rfl (wants_none rfl) (o_buildH rfl (by conv => lhs; whnf) fun b37 => ⟨.inr (by first | exact Ent.refl _ | exact En.ent), ?_⟩))
        (refine any_one 8 (by kernel_rfl) rfl (wants_none rfl) (o_appH rfl rfl rfl rfl (by rfl) ?_ (by first | with_reducible exact Nat.zero_add _ | exact rfl) rfl fun ad38 cap38 hc38 hn38 => ⟨.inr (by first | exact Ent.refl _ | exact En.ent), ?_⟩); (· (first | omega | decide)))
        (refine any_one 9 (by kernel_rfl) rfl (wants_none rfl) (o_give (g_nil rfl) rfl rfl ⟨.inr (by first | exact Ent.refl _ | exact En.ent), ?_⟩))
        (refine any_take 10 rfl (by kernel_rfl) (by first | exact Ent.refl _ | exact En.ent) (wants_none rfl) (g_field0 rfl) rfl rfl ?_)
        (refine any_one 11 (by kernel_rfl) rfl (wants_none rfl) (o_store rfl (by conv => lhs; whnf) rfl rfl (by first | (simp only [List.set_cons_zero, List.set_cons_succ]; exact rfl) | exact rfl) ⟨.inl rfl, ?_⟩))
        refine any_done (by kernel_rfl) ?_
        refine q_then ?_
        refine ct_block ?_
        rotate_left
      rw [hmp]
      have hwl : (s.waits ++ [x.v]).length = s.waits.length + 1 := by rw [List.length_append]; rfl
      have hwm : (s.waits ++ [x.v]).map V.id = s.old ++ [x.v.id] := by rw [List.map_append]; rfl
      have hnp : ∀ v, v ∈ s.held ∨ v ∈ s.waits ++ [x.v] → v.par.length ≤ 64 := fun v hv => by
        rcases hv with hv | hv
        · exact ok.np v (.inl hv)
        · rcases List.mem_append.1 hv with hv | hv
          · exact ok.np v (.inr hv)
          · rw [List.mem_singleton.1 hv]; exact t3
      have hin : ∀ R' : HP, Ent (Blk d [.int .i64 s.room, .map (some i.p1), .map (some i.p2), .map (some i.p3), .slice ad38 (s.waits.length + 1) cap38] 78 * (MapK hkey i.p1 (i.hv.map vent) * (MapK hkey i.p2 (s.heads.map hent) * (MapK hkey i.p3 ((i.wv ++ [(⟨x.v, i29.1, i29.2⟩ : Vx)]).map vent) * (Arr 32 32 ad38 cap38 (s.waits.length + 1) ((s.old ++ [x.v.id]).flatMap hc) * ((Arr 32 32 i29.1 i29.2 x.v.par.length (x.v.par.flatMap hc) * i.X) * R')))))) (IsDag d ⟨s.room, s.held, s.heads, s.waits ++ [x.v]⟩ ks * R') := fun R' => by
        rw [← hwm]
        refine isDag_mk (X := Arr 32 32 i29.1 i29.2 x.v.par.length (x.v.par.flatMap hc) * i.X) ok.hh (by rw [List.map_append, ok.hw]; rfl) (fun y hy => ?_) hnp ok.nh (by omega) hwl
        have old : ∀ y, y ∈ i.hv ∨ y ∈ i.wv ∨ y ∈ ks → Rd (Arr 32 32 i29.1 i29.2 x.v.par.length (x.v.par.flatMap hc) * i.X) y.ad (y.v.par.flatMap hc) := fun y hy => by
          have := ok.rd y hy
          exact Rd.right _ _ _ _
        rcases hy with hy | hy | hy
        · exact old y (.inl hy)
        · rcases List.mem_append.1 hy with hy | hy
          · exact old y (.inr (.inl hy))
          · rw [List.mem_singleton.1 hy]; exact Rd.left _ _ _ _
        · exact old y (.inr (.inr hy))
      refine ct_ent ?_ (En.ent.trans (hin (Blk b3 (vcells x) 36 * R)))
      clear hin hmp ok hnp
      refine ct_loop (ι := { p : Nat × Option Addr × Nat // p.1 ≤ (s.waits ++ [x.v]).length - s.room }) (fun p => [(0, .pointer (some ⟨d, 0, none⟩)), (3, .pointer (some ⟨b3, 0, none⟩)), (4, .int .i64 (fitS s x.v).1), (5, .slice p.1.2.1 p.1.1 p.1.2.2), (6, .int .i64 (fitS s x.v).2)])
        (fun p => IsDag d ⟨s.room, s.held, s.heads, (s.waits ++ [x.v]).drop p.1.1⟩ ks * (Arr 32 32 p.1.2.1 p.1.2.2 p.1.1 ((((s.waits ++ [x.v]).take p.1.1).map V.id).flatMap hc) * (Blk b3 (vcells x) 36 * R))) (fun p => (s.waits ++ [x.v]).length - p.1.1) ⟨(0, none, 0), Nat.zero_le _⟩ ⟨rfl, rfl, rfl, rfl, rfl, trivial⟩ ?_ fun p ρ' => ?_
      · show Ent _ (IsDag d ⟨s.room, s.held, s.heads, (s.waits ++ [x.v]).drop 0⟩ ks * (Arr 32 32 none 0 0 [] * (Blk b3 (vcells x) 36 * R)))
        rw [List.drop_zero]
        exact (arr_nil _ 32 32).trans En.ent
      obtain ⟨⟨j, a, c⟩, hj⟩ := p
      dsimp only at hj ⊢
      have hdl : ((s.waits ++ [x.v]).drop j).length = s.waits.length + 1 - j := by rw [List.length_drop, hwl]
      have htl : (((s.waits ++ [x.v]).take j).map V.id).length = j := by rw [List.length_map, List.length_take]; omega
      generalize hwj : (s.waits ++ [x.v]).drop j = wj at hdl ⊢
      refine ct_ex fun i2 => ?_
      refine ct_ent ?_ (Ent.assoc _ _ _)
      refine ct_pr fun ok2 => ?_
      dsimp only [DS.old]
      by_cases h : s.room < wj.length
      · have hw0 : 0 < wj.length := by omega
        have hj1 : j < (s.waits ++ [x.v]).length := by omega
        have hf : forgetS ⟨s.room, s.held, s.heads, wj⟩ wj[0].id = ⟨s.room, s.held, s.heads, (s.waits ++ [x.v]).drop (j + 1)⟩ := by
          unfold forgetS eraseV
          congr 1
          rw [eraseP_head hw0, ← List.drop_one, ← hwj, List.drop_drop]
        have ht : ((s.waits ++ [x.v]).take (j + 1)).map V.id = ((s.waits ++ [x.v]).take j).map V.id ++ [wj[0].id] := by
          rw [List.take_add_one, List.map_append, List.getElem?_eq_getElem hj1]
          congr 1
          subst hwj
          simp
        have hm0 : (wj.map V.id)[0]'(by rw [List.length_map]; exact hw0) = wj[0].id := List.getElem_map _
        focus
          refine ct_seq ?_
          refine ct_seq ?_
          refine ct_quiet (by kernel_rfl) rfl ?_
          simp only [List.map, lite]
          (refine qg rfl (g_move (by conv => lhs; whnf)) rfl rfl ?_)
          (refine qg rfl (g_nil rfl) rfl rfl ?_)
          (refine qg rfl (g_field0 rfl) rfl rfl ?_)
          (refine qg rfl (g_load rfl (by conv => lhs; whnf)) rfl rfl ?_)
          (refine qg rfl (g_len_slice rfl) rfl rfl ?_)
          (refine qg rfl (g_move (by conv => lhs; whnf)) rfl rfl ?_)
          (refine qg rfl (g_nil rfl) rfl rfl ?_)
          (refine qg rfl (g_field0 rfl) rfl rfl ?_)
          (refine qg rfl (g_load rfl (by conv => lhs; whnf)) rfl rfl ?_)
          (refine qg rfl (g_gtrT rfl rfl ?_) rfl rfl ?_; (· (omega)))
          refine rq_nil ?_
          refine q_then ?_
          refine ct_true rfl ?_
          refine ct_skip ?_
          refine q_then ?_
          refine ct_block ?_
          refine ct_seq ?_
          (refine ct_region' rfl ?_; simp only [List.map, lite])
          (refine rg rfl (g_move (by conv => lhs; whnf)) rfl rfl ?_)
          (refine rg rfl (g_move (by conv => lhs; whnf)) rfl rfl ?_)
          (refine rg rfl (g_nil rfl) rfl rfl ?_)
          (refine rg rfl (g_field0 rfl) rfl rfl ?_)
          (refine rg rfl (g_load rfl (by conv => lhs; whnf)) rfl rfl ?_)
          (refine rg rfl (g_elemH rfl rfl ?_ ?_) rfl rfl ?_; (· (first | omega | decide)); (· (first | omega | decide | (exact pos_of_get (by assumption)) | (simp only [List.length_map, List.length_append, List.length_replicate, List.length_set, List.length_cons, List.length_nil]; omega) | (simp; omega))))
          (refine rg rfl (g_loadH rfl ?_) rfl rfl ?_; (· (first | omega | decide | (exact pos_of_get (by assumption)) | (simp only [List.length_map, List.length_append, List.length_replicate, List.length_set, List.length_cons, List.length_nil]; omega) | (simp; omega))))
          (refine rt_op (wants_none rfl) (o_buildH rfl (by conv => lhs; whnf) fun b58 => ?_))
          (refine rt_op (wants_none rfl) (o_appH rfl rfl rfl rfl (by rfl) ?_ (by first | with_reducible exact Nat.zero_add _ | exact rfl) rfl fun ad59 cap59 hc59 hn59 => ?_); (· (first | omega | decide)))
          (refine rg rfl (g_assign (by conv => lhs; whnf)) rfl rfl ?_)
          refine rt_nil ?_
          refine q_then ?_
          (refine ct_region' rfl ?_; simp only [List.map, lite])
          (refine rg rfl (g_move (by conv => lhs; whnf)) rfl rfl ?_)
          (refine rg rfl (g_move (by conv => lhs; whnf)) rfl rfl ?_)
          (refine rg rfl (g_nil rfl) rfl rfl ?_)
          (refine rg rfl (g_field0 rfl) rfl rfl ?_)
          (refine rg rfl (g_load rfl (by conv => lhs; whnf)) rfl rfl ?_)
          (refine rg rfl (g_elemH rfl rfl ?_ ?_) rfl rfl ?_; (· (first | omega | decide)); (· (first | omega | decide | (exact pos_of_get (by assumption)) | (simp only [List.length_map, List.length_append, List.length_replicate, List.length_set, List.length_cons, List.length_nil]; omega) | (simp; omega))))
          (refine rg rfl (g_loadH rfl ?_) rfl rfl ?_; (· (first | omega | decide | (exact pos_of_get (by assumption)) | (simp only [List.length_map, List.length_append, List.length_replicate, List.length_set, List.length_cons, List.length_nil]; omega) | (simp; omega))))
          rotate_left
        refine rt_ent ?_ (En.ent.trans (isDag_mk (d := d) (ks := ks) (R := Arr 32 32 ad59 cap59 (j + 1) ((((s.waits ++ [x.v]).take j).map V.id ++ [(wj.map V.id)[0]'(by rw [List.length_map]; exact hw0)]).flatMap hc) * (Blk b3 (vcells x) 36 * R)) (n := wj.length) (room := s.room) (p1 := i2.p1) (p2 := i2.p2) (p3 := i2.p3) (ad := i2.ad) (cap := i2.cap) (X := i2.X) (hv := i2.hv) (wv := i2.wv) (waits := wj) (heads := s.heads) (held := s.held) ok2.hh ok2.hw ok2.rd ok2.np ok2.nh ok2.nw rfl))
        rw [hm0]
        focus
          (refine rt_op (wants_none rfl) (o_callE rfl rfl (Ent.refl _) (Go.Proofs.Ytijplicijmpknaa.forget_spec _ _ _ _ _) fun i67 => ?_))
          refine rt_nil ?_
          refine q_block ?_
          rotate_left
        refine q_again ⟨(j + 1, ad59, cap59), by show j + 1 ≤ _; omega⟩ (by show _ - (j + 1) < _ - j; omega) ⟨rfl, rfl, rfl, rfl, rfl, trivial⟩ ?_
        show Ent _ (IsDag d ⟨s.room, s.held, s.heads, (s.waits ++ [x.v]).drop (j + 1)⟩ ks * (Arr 32 32 ad59 cap59 (j + 1) ((((s.waits ++ [x.v]).take (j + 1)).map V.id).flatMap hc) * (Blk b3 (vcells x) 36 * R)))
        rw [← hf, ht]
        exact En.ent
      · have hje : j = (s.waits ++ [x.v]).length - s.room := by omega
        have ha : addS s x.v = (⟨s.room, s.held, s.heads, wj⟩, ((s.waits ++ [x.v]).take j).map V.id) := by
          unfold addS; rw [if_neg c2, if_pos c3, ← hje, hwj]
        focus
          refine ct_seq ?_
          refine ct_seq ?_
          refine ct_quiet (by kernel_rfl) rfl ?_
          simp only [List.map, lite]
          (refine qg rfl (g_move (by conv => lhs; whnf)) rfl rfl ?_)
          (refine qg rfl (g_nil rfl) rfl rfl ?_)
          (refine qg rfl (g_field0 rfl) rfl rfl ?_)
          (refine qg rfl (g_load rfl (by conv => lhs; whnf)) rfl rfl ?_)
          (refine qg rfl (g_len_slice rfl) rfl rfl ?_)
          (refine qg rfl (g_move (by conv => lhs; whnf)) rfl rfl ?_)
          (refine qg rfl (g_nil rfl) rfl rfl ?_)
          (refine qg rfl (g_field0 rfl) rfl rfl ?_)
          (refine qg rfl (g_load rfl (by conv => lhs; whnf)) rfl rfl ?_)
          (refine qg rfl (g_gtrF rfl rfl ?_) rfl rfl ?_; (· (omega)))
          refine rq_nil ?_
          refine q_then ?_
          refine ct_false rfl ?_
          refine ct_exit ?_
          refine q_then_exit ?_
          refine q_then_exit ?_
          refine q_block_exit ?_
          refine q_block ?_
          refine q_then ?_
          refine ct_seq ?_
          (refine ct_region' rfl ?_; simp only [List.map, lite])
          (refine rg rfl (g_move (by conv => lhs; whnf)) rfl rfl ?_)
          (refine rg rfl (g_move (by conv => lhs; whnf)) rfl rfl ?_)
          (refine rg rfl (g_move (by conv => lhs; whnf)) rfl rfl ?_)
          (refine rg rfl (g_assign (by conv => lhs; whnf)) rfl rfl ?_)
          (refine rg rfl (g_assign (by conv => lhs; whnf)) rfl rfl ?_)
          (refine rg rfl (g_assign (by conv => lhs; whnf)) rfl rfl ?_)
          refine rt_nil ?_
          refine q_then ?_
          refine ct_ret ?_
          rotate_left
        refine q_ret3 rfl rfl rfl rfl (a, c) ?_ ?_
        · rw [ha]; show _ = Value.tuple #[_, .slice a (((s.waits ++ [x.v]).take j).map V.id).length c, _]; rw [htl]; rfl
        · rw [ha]
          show Ent _ (IsDag d ⟨s.room, s.held, s.heads, wj⟩ ks * (Arr 32 32 a c (((s.waits ++ [x.v]).take j).map V.id).length ((((s.waits ++ [x.v]).take j).map V.id).flatMap hc) * R))
          rw [htl]
          exact En.ent.trans (isDag_mk (n := wj.length) (room := s.room) (p1 := i2.p1) (p2 := i2.p2) (p3 := i2.p3) (ad := i2.ad) (cap := i2.cap) (X := i2.X) (hv := i2.hv) (wv := i2.wv) (waits := wj) (heads := s.heads) (held := s.held) ok2.hh ok2.hw ok2.rd ok2.np ok2.nh ok2.nw rfl)
    · have ha : addS s x.v = (s, []) := by unfold addS; rw [if_neg c2, if_neg c3]
      focus
        refine ct_seq ?_
        (refine ct_region' rfl ?_; simp only [List.map, lite])
        (refine rt_op (wants_none rfl) (o_box rfl (by conv => lhs; whnf) (by conv => lhs; whnf) fun b3 => ?_))
        (refine rg rfl (g_assign (by conv => lhs; whnf)) rfl rfl ?_)
        (refine rg rfl (g_assign (by conv => lhs; whnf)) rfl rfl ?_)
        (refine rg rfl (g_assign (by conv => lhs; whnf)) rfl rfl ?_)
        refine rt_nil ?_
        refine q_then ?_
        refine ct_seq ?_
        (refine ct_region' rfl ?_; simp only [List.map, lite])
        (refine rg rfl (g_move (by conv => lhs; whnf)) rfl rfl ?_)
        (refine rg rfl (g_loadAgg_blk rfl (by first | rfl | assumption | (simp; done) | (simp; omega) | exact vcells_len _)) rfl rfl ?_)
        (refine rt_op (wants_none rfl) (o_callE rfl rfl (ent_right (Ent.refl _)) (Go.Proofs.Ytijplicijmpknaa.fit_spec _ _ _ _ _ ?_ ?_) fun i10 => ?_); (· (first | assumption | omega | rfl | decide | infer_instance | (simp; done) | (simp; omega) | (simp only [*]; done))); (· (first | assumption | omega | rfl | decide | infer_instance | (simp; done) | (simp; omega) | (simp only [*]; done))))
        (refine rg rfl (g_move (by conv => lhs; whnf)) rfl rfl ?_)
        (refine rg rfl (g_extract rfl (by conv => lhs; whnf)) rfl rfl ?_)
        (refine rg rfl (g_extract rfl (by conv => lhs; whnf)) rfl rfl ?_)
        (refine rg rfl (g_assign (by conv => lhs; whnf)) rfl rfl ?_)
        (refine rg rfl (g_assign (by conv => lhs; whnf)) rfl rfl ?_)
        refine rt_nil ?_
        refine q_then ?_
        refine ct_seq ?_
        refine ct_seq ?_
        (refine ct_region' rfl ?_; simp only [List.map, lite])
        (refine rg rfl (g_move (by conv => lhs; whnf)) rfl rfl ?_)
        refine rt_nil ?_
        refine q_then ?_
        refine ct_block ?_
        refine ct_seq ?_
        (refine ct_region' rfl ?_; simp only [List.map, lite])
        (refine rg rfl (g_eqlF rfl rfl ?_) rfl rfl ?_; (· (omega)))
        (refine rg rfl (g_assign (by conv => lhs; whnf)) rfl rfl ?_)
        refine rt_nil ?_
        refine q_then ?_
        refine ct_false rfl ?_
        refine ct_seq ?_
        (refine ct_region' rfl ?_; simp only [List.map, lite])
        (refine rg rfl (g_eqlF rfl rfl ?_) rfl rfl ?_; (· (omega)))
        (refine rg rfl (g_assign (by conv => lhs; whnf)) rfl rfl ?_)
        refine rt_nil ?_
        refine q_then ?_
        refine ct_false rfl ?_
        refine ct_skip ?_
        refine q_block ?_
        refine q_then ?_
        refine ct_seq ?_
        (refine ct_region' rfl ?_; simp only [List.map, lite])
        (refine rg rfl (g_move (by conv => lhs; whnf)) rfl rfl ?_)
        (refine rg rfl (g_move (by conv => lhs; whnf)) rfl rfl ?_)
        (refine rg rfl (g_move (by conv => lhs; whnf)) rfl rfl ?_)
        (refine rg rfl (g_assign (by conv => lhs; whnf)) rfl rfl ?_)
        (refine rg rfl (g_assign (by conv => lhs; whnf)) rfl rfl ?_)
        (refine rg rfl (g_assign (by conv => lhs; whnf)) rfl rfl ?_)
        refine rt_nil ?_
        refine q_then ?_
        refine ct_ret ?_
        rotate_left
      refine q_ret3 rfl rfl rfl rfl (none, 0) (by rw [ha]; rfl) ?_
      rw [ha]
      show Ent _ (IsDag d s ks * (Arr 32 32 none 0 0 [] * R))
      exact (arr_nil _ 32 32).trans En.ent
end Go.Proofs.Ytijplicijmpknaa
