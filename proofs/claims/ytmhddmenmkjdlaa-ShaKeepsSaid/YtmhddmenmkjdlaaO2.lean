/- ShaKeeps: the walk. -/
import Derived.Test.YtmhddmenmkjdlaaC2
import Derived.Test.YtmhddmenmkjdlaaC3
import Derived.Test.YtmhddmenmkjdlaaHl
import Derived.Test.YtmhddmenmkjdlaaH1
namespace Go.Proofs.Ytmhddmenmkjdlaa
open Go.RowKit
attribute [local irreducible] Gives RT CT QT Spec Wants Reads Src Ent OT RQ AnyT AnyOp Again Code.wp Post

theorem hs32 (h : Hs) : h.1.length = 32 := h.2
set_option maxRecDepth 100000 in
set_option maxHeartbeats 8000000 in
theorem shaKeeps_spec (R : HP) (a : Option Addr) (c : Nat) (xs : List UInt8) (b : Option Addr) (c' : Nat) (l : List Hs) [hrx : Rd R a (xs.map bv)] (hx : xs.length ≤ 140737488351232) (hxc : xs.length ≤ c) (hxa : a = none → c = 0) [hr : Rd R b (l.flatMap hc)] (hl : l.length * 32 ≤ 140737488351232) (hcc : l.length ≤ c') (hna : b = none → c' = 0) :
    Spec Try.prog 7 [.slice a xs.length c, .slice b l.length c'] R (fun _ : Unit => .bool true) (fun _ => R) := by
  refine spec_of Try.func7 rfl Try.ntmps7 rfl fun W0 => ?_
  have hfix := fun (R' : HP) => fixed_spec R'
  focus
    refine ct_seq ?_
    (refine ct_region' rfl ?_; simp only [List.map, lite])
    (refine rg rfl (g_assign (by conv => lhs; whnf)) rfl rfl ?_)
    refine rt_nil ?_
    refine q_then ?_
    refine ct_seq ?_
    (refine ct_region' rfl ?_; simp only [List.map, lite])
    (refine rg rfl (g_move (by conv => lhs; whnf)) rfl rfl ?_)
    (refine rt_op (wants_none rfl) (o_appR rfl rfl rfl (by first | rfl | assumption | simp | (simp; omega)) (by first | rfl | exact bvsAll _ | exact wvs_all _ | assumption) (by rfl) (by rfl) ?_ (by first | with_reducible exact Nat.zero_add _ | exact rfl) (by first | with_reducible exact List.nil_append _ | exact List.map_append.symm | exact rfl) fun ad21 cap21 hc21 hn21 => ?_); (· (first | omega | decide)))
    (refine rt_op (wants_none rfl) (o_buildN rfl (by simp only [ev, upd, updl, argl, nat_beq_def, Nat.reduceBEq, cond_true, cond_false, List.map_cons, List.map_nil]; rfl) rfl (by rfl) (by simp [fillL, Value.cells, List.range, List.range.loop]; rfl) fun b22 => ?_))
    (refine rt_op (wants_none rfl) (o_appR rfl rfl rfl (by first | rfl | assumption | simp | (simp; omega)) (by first | rfl | exact bvsAll _ | exact wvs_all _ | assumption) (by rfl) (by rfl) ?_ (by first | with_reducible exact Nat.zero_add _ | exact rfl) (by first | with_reducible exact List.nil_append _ | exact List.map_append.symm | exact rfl) fun ad23 cap23 hc23 hn23 => ?_); (· (first | omega | decide)))
    (refine rg rfl (g_assign (by conv => lhs; whnf)) rfl rfl ?_)
    refine rt_nil ?_
    refine q_then ?_
    refine ct_seq ?_
    (refine ct_region' rfl ?_; simp only [List.map, lite])
    (refine rg rfl (g_move (by conv => lhs; whnf)) rfl rfl ?_)
    (refine rg rfl (g_move (by conv => lhs; whnf)) rfl rfl ?_)
    (refine rg rfl (g_len_slice rfl) rfl rfl ?_)
    (refine rg rfl (g_cut_hi rfl rfl ?_ ?_ (by exact Int.toNat_natCast _)) rfl rfl ?_; (· (omega)); (· (omega)))
    (refine rg rfl (g_assign (by conv => lhs; whnf)) rfl rfl ?_)
    refine rt_nil ?_
    refine q_then ?_
    refine ct_seq ?_
    (refine ct_region' rfl ?_; simp only [List.map, lite])
    (refine rg rfl (g_move (by conv => lhs; whnf)) rfl rfl ?_)
    rotate_left
  have e0 : xs.map bv ++ [Value.int .u8 161, .int .u8 162, .int .u8 163] = (xs ++ [0xA1, 0xA2, 0xA3]).map bv := by rw [List.map_append]; rfl
  rw [e0]
  refine rt_ar ad23 fun _ n1 n2 _ => ?_
  have n3 : ad23 = none → cap23 = 0 := fun h => (n1 h).2
  have hof := fun (R' : HP) [h : Rd R' ad23 ((xs ++ [0xA1, 0xA2, 0xA3]).map bv)] => @of_spec R' ad23 cap23 xs h.preB (by omega) (by omega) n3
  have hoa := fun (R' : HP) (g : Addr) (c' : Nat) [hg : Rd R' (some g) [.slice ad23 xs.length cap23]] [h : Rd R' ad23 ((xs ++ [0xA1, 0xA2, 0xA3]).map bv)] => @ofAll_one R' g c' ad23 cap23 xs hg h.preB (by omega) (by omega) n3
  have hmk : (mkH [(1, 0x77)]).1.length = 32 := (mkH [(1, 0x77)]).2
  have hsl := shaOf_len xs
  have hml : (hc (mkH [(1, 0x77)])).length = 32 := hc_len _
  have hln := hs_len l
  have hone := hs_one l
  focus
    (refine rt_op (wants_none rfl) (o_callE rfl rfl (Ent.refl _) (hof _) fun i29 => ?_))
    (refine rt_op (wants_none rfl) (o_alloc rfl (by conv => lhs; whnf) fun b7 => ?_))
    (refine rt_op (wants_none rfl) (o_storeAgg rfl (by conv => lhs; whnf) (by first | exact List.toList_toArray | (conv => lhs; whnf)) (by first | rfl | exact bvsAll _ | exact wvs_all _ | assumption) (by first | rfl | assumption | (simp; done) | (simp; omega)) (by first | rfl | assumption | (simp; done) | (simp; omega)) ?_))
    refine rt_nil ?_
    refine q_then ?_
    refine ct_seq ?_
    (refine ct_region' rfl ?_; simp only [List.map, lite])
    (refine rg rfl (g_move (by conv => lhs; whnf)) rfl rfl ?_)
    (refine rt_op (wants_none rfl) (o_build1 rfl (by conv => lhs; whnf) (by rfl) (by rfl) (by rfl) (by conv => lhs; whnf) fun b31 => ?_))
    (refine rt_op (wants_none rfl) (o_callE rfl rfl (Ent.refl _) (hoa _ _ _) fun i32 => ?_))
    (refine rt_op (wants_none rfl) (o_alloc rfl (by conv => lhs; whnf) fun b8 => ?_))
    (refine rt_op (wants_none rfl) (o_storeAgg rfl (by conv => lhs; whnf) (by first | exact List.toList_toArray | (conv => lhs; whnf)) (by first | rfl | exact bvsAll _ | exact wvs_all _ | assumption) (by first | rfl | assumption | (simp; done) | (simp; omega)) (by first | rfl | assumption | (simp; done) | (simp; omega)) ?_))
    refine rt_nil ?_
    refine q_then ?_
    refine ct_seq ?_
    (refine ct_region' rfl ?_; simp only [List.map, lite])
    (refine rg rfl (g_buildHash (ws := [(1, 0x77)]) rfl rfl (by decide)) rfl rfl ?_)
    (refine rt_op (wants_none rfl) (o_alloc rfl (by conv => lhs; whnf) fun b9 => ?_))
    (refine rt_op (wants_none rfl) (o_storeAgg rfl (by conv => lhs; whnf) (by first | exact List.toList_toArray | (conv => lhs; whnf)) (by first | rfl | exact bvsAll _ | exact wvs_all _ | assumption) (by first | rfl | assumption | (simp; done) | (simp; omega)) (by first | rfl | assumption | (simp; done) | (simp; omega)) ?_))
    refine rt_nil ?_
    refine q_then ?_
    refine ct_seq ?_
    rotate_left
  have hl2 : ([mkH [(1, 0x77)], mkH [(1, 0x77)]] : List Hs).length = 2 := rfl
  refine ct_join (fun i : Option Addr × Nat => [(0, .slice a xs.length c), (1, .slice b l.length c'), (5, .slice ad23 (xs.length + 3) cap23), (6, .slice ad23 xs.length cap23), (7, .pointer (some ⟨b7, 0, none⟩)), (8, .pointer (some ⟨b8, 0, none⟩)), (9, .pointer (some ⟨b9, 0, none⟩)), (10, .slice i.1 (l.length + 2) i.2)]) (fun i => Arr 23 32 i.1 i.2 (l.length + 2) ((l ++ [mkH [(1, 0x77)], mkH [(1, 0x77)]]).flatMap hc) * (Arr 5 1 ad23 cap23 (xs.length + 3) ((xs ++ [0xA1, 0xA2, 0xA3]).map bv) * (Blk b9 (hc (mkH [(1, 119)])) 23 * (Blk b8 ((shaOf xs).map bv) 23 * (Blk b7 ((shaOf xs).map bv) 23 * R))))) ?_ ?_
  · focus
      refine ct_anyA 6 ?_
      (refine any_take 0 rfl (by kernel_rfl) (by first | exact Ent.refl _ | exact En.ent) (wants_none rfl) (g_move (by conv => lhs; whnf)) rfl rfl ?_)
      (refine any_take 2 rfl (by kernel_rfl) (by first | exact Ent.refl _ | exact En.ent) (wants_none rfl) (g_loadAgg_blk rfl (by first | rfl | assumption | (simp; done) | (simp; omega))) rfl rfl ?_)
      (refine any_take 3 rfl (by kernel_rfl) (by first | exact Ent.refl _ | exact En.ent) (wants_none rfl) (g_loadAgg_blk rfl (by first | rfl | assumption | (simp; done) | (simp; omega))) rfl rfl ?_)
      refine any_two 1 4 (by kernel_rfl) (any_op rfl (wants_none rfl) ?_) (any_op rfl (wants_none rfl) ?_)
      (refine o_appR rfl rfl rfl (by first | rfl | assumption | simp | (simp; omega)) (by first | rfl | exact bvsAll _ | exact wvs_all _ | assumption) (by rfl) (by rfl) ?_ (by first | with_reducible exact Nat.zero_add _ | exact rfl) (by first | with_reducible exact List.nil_append _ | exact List.map_append.symm | exact rfl) fun ad35 cap35 hc35 hn35 => ⟨(by first | exact .inl rfl | exact .inr (Ent.refl _) | exact .inr En.ent), ?_⟩; (· (first | omega | decide)))
      (refine any_one 4 (by kernel_rfl) rfl (wants_none rfl) (o_buildH2 rfl (by conv => lhs; whnf) (by conv => lhs; whnf) (by rfl) fun b38 => ⟨.inr (by first | exact Ent.refl _ | exact En.ent), ?_⟩))
      (refine any_one 5 (by kernel_rfl) rfl (wants_none rfl) (o_appHs rfl rfl rfl (by first | rfl | assumption | (simp; done) | (simp; omega)) (by rfl) ?_ (by first | with_reducible exact Nat.zero_add _ | exact rfl) rfl fun ad39 cap39 hc39 hn39 => ⟨.inr (by first | exact Ent.refl _ | exact En.ent), ?_⟩); (· (first | omega | decide)))
      (refine any_one 6 (by kernel_rfl) rfl (wants_none rfl) (o_give (g_assign (by conv => lhs; whnf)) rfl rfl ⟨.inl rfl, ?_⟩))
      refine any_done (by kernel_rfl) ?_
      rotate_left
      (refine o_buildH2 rfl (by conv => lhs; whnf) (by conv => lhs; whnf) (by rfl) fun b38 => ⟨(by first | exact .inl rfl | exact .inr (Ent.refl _) | exact .inr En.ent), ?_⟩)
      (refine any_one 1 (by kernel_rfl) rfl (wants_none rfl) (o_appR rfl rfl rfl (by first | rfl | assumption | simp | (simp; omega)) (by first | rfl | exact bvsAll _ | exact wvs_all _ | assumption) (by rfl) (by rfl) ?_ (by first | with_reducible exact Nat.zero_add _ | exact rfl) (by first | with_reducible exact List.nil_append _ | exact List.map_append.symm | exact rfl) fun ad35 cap35 hc35 hn35 => ⟨.inr (by first | exact Ent.refl _ | exact En.ent), ?_⟩); (· (first | omega | decide)))
      (refine any_one 5 (by kernel_rfl) rfl (wants_none rfl) (o_appHs rfl rfl rfl (by first | rfl | assumption | (simp; done) | (simp; omega)) (by rfl) ?_ (by first | with_reducible exact Nat.zero_add _ | exact rfl) rfl fun ad39 cap39 hc39 hn39 => ⟨.inr (by first | exact Ent.refl _ | exact En.ent), ?_⟩); (· (first | omega | decide)))
      (refine any_one 6 (by kernel_rfl) rfl (wants_none rfl) (o_give (g_assign (by conv => lhs; whnf)) rfl rfl ⟨.inl rfl, ?_⟩))
      refine any_done (by kernel_rfl) ?_
      rotate_left
    all_goals exact q_cut (ad39, cap39) ⟨rfl, rfl, rfl, rfl, rfl, rfl, rfl, rfl, trivial⟩ (by exact En.ent)
  · rintro ⟨ad39, cap39⟩ ρ'
    dsimp only
    refine qt_ar ad39 fun _ m1 m2 _ => ?_
    have hm1 := m1
    have hss := sortS_len l
    have hso := fun (R' : HP) [h : Rd R' ad39 ((l ++ [mkH [(1, 0x77)], mkH [(1, 0x77)]]).flatMap hc)] => @sort_spec R' ad39 cap39 l h.preH hl
    have hof2 := fun (R' : HP) [Rd R' a (xs.map bv)] => ofR_spec R' a c xs (by omega)
    have hwr := fun (R' : HP) [Rd R' b (l.flatMap hc)] => sortR_spec R' b c' l hl hcc hna
    focus
      refine q_then ?_
      refine ct_seq ?_
      (refine ct_region' rfl ?_; simp only [List.map, lite])
      (refine rg rfl (g_move (by conv => lhs; whnf)) rfl rfl ?_)
      (refine rg rfl (g_move (by conv => lhs; whnf)) rfl rfl ?_)
      (refine rg rfl (g_len_slice rfl) rfl rfl ?_)
      (refine rg rfl (g_cut_hi rfl rfl ?_ ?_ (by exact Int.toNat_natCast _)) rfl rfl ?_; (· (omega)); (· (omega)))
      (refine rg rfl (g_assign (by conv => lhs; whnf)) rfl rfl ?_)
      refine rt_nil ?_
      refine q_then ?_
      refine ct_seq ?_
      (refine ct_region' rfl ?_; simp only [List.map, lite])
      (refine rg rfl (g_move (by conv => lhs; whnf)) rfl rfl ?_)
      (refine rt_op (wants_none rfl) (o_callE rfl rfl (Ent.refl _) (hso _) fun i45 => ?_))
      (refine rg rfl (g_assign (by conv => lhs; whnf)) rfl rfl ?_)
      refine rt_nil ?_
      refine q_then ?_
      refine ct_seq ?_
      (refine ct_region' rfl ?_; simp only [List.map, lite])
      (refine rg rfl (g_move (by conv => lhs; whnf)) rfl rfl ?_)
      (refine rt_op (wants_none rfl) (o_callE rfl rfl (Ent.refl _) (hso _) fun i47 => ?_))
      (refine rg rfl (g_assign (by conv => lhs; whnf)) rfl rfl ?_)
      refine rt_nil ?_
      refine q_then ?_
      refine ct_seq ?_
      (refine ct_region' rfl ?_; simp only [List.map, lite])
      (refine rg rfl (g_move (by conv => lhs; whnf)) rfl rfl ?_)
      (refine rt_op (wants_none rfl) (o_callE rfl rfl (Ent.refl _) (hwr _) fun i49 => ?_))
      (refine rg rfl (g_assign (by conv => lhs; whnf)) rfl rfl ?_)
      refine rt_nil ?_
      refine q_then ?_
      rotate_left
    obtain ⟨⟨xa, xc⟩, ⟨xr, hxr⟩⟩ := i45
    obtain ⟨⟨ya, yc⟩, ⟨yr, hyr⟩⟩ := i47
    obtain ⟨wa, wc⟩ := i49
    dsimp only at hxr hyr ⊢
    have s1 := fun (R' : HP) [h : Rd R' xa ((sortS l ++ xr).flatMap hc)] [Rd R' wa ((sortS l).flatMap hc)] => @same_spec R' xa wa (sortS l).length wc (sortS l) (sortS l) h.preH _ (by omega) (by omega)
    have s2 := fun (R' : HP) [h : Rd R' ya ((sortS l ++ yr).flatMap hc)] [Rd R' wa ((sortS l).flatMap hc)] => @same_spec R' ya wa (sortS l).length wc (sortS l) (sortS l) h.preH _ (by omega) (by omega)
    have s3 := fun (R' : HP) [h : Rd R' ad39 ((l ++ [mkH [(1, 0x77)], mkH [(1, 0x77)]]).flatMap hc)] [Rd R' b (l.flatMap hc)] => @same_spec R' ad39 b cap39 c' l l h.preH _ (by omega) (by omega)
    simp only [decide_true] at s1 s2 s3
    focus
      refine ct_seq ?_
      refine ct_seq ?_
      refine ct_quiet (by kernel_rfl) rfl ?_
      simp only [List.map, lite]
      (refine qg rfl (g_loadAgg_blk rfl (by first | rfl | assumption | (simp; done) | (simp; omega))) rfl rfl ?_)
      (refine qg rfl (g_move (by conv => lhs; whnf)) rfl rfl ?_)
      (refine rq_callE (wants_none rfl) rfl rfl (Ent.refl _) (hof2 _) (fun _ => rfl) (fun _ => En.ent) ?_)
      (refine qg rfl (g_neHF rfl rfl (by kernel_rfl) (by first | rfl | assumption | (simp; done) | (simp; omega)) ?_) rfl rfl ?_; (· (first | rfl | assumption)))
      (refine qg rfl (g_move (by conv => lhs; whnf)) rfl rfl ?_)
      (refine qgw rfl rfl rfl rfl (g_loadAgg_blk rfl (by first | rfl | assumption | (simp; done) | (simp; omega))) rfl rfl ?_)
      (refine qgw rfl rfl rfl rfl (g_loadAgg_blk rfl (by first | rfl | assumption | (simp; done) | (simp; omega))) rfl rfl ?_)
      (refine qgw rfl rfl rfl rfl (g_neHF rfl rfl (by kernel_rfl) (by first | rfl | assumption | (simp; done) | (simp; omega)) ?_) rfl rfl ?_; (· (first | rfl | assumption)))
      (refine qg rfl (g_pick_f rfl (by conv => lhs; whnf)) rfl rfl ?_)
      (refine qg rfl (g_move (by conv => lhs; whnf)) rfl rfl ?_)
      (refine qgw rfl rfl rfl rfl (g_move (by conv => lhs; whnf)) rfl rfl ?_)
      (refine qgw rfl rfl rfl rfl (g_move (by conv => lhs; whnf)) rfl rfl ?_)
      (refine rq_callE (wants_some rfl rfl rfl rfl) rfl rfl (Ent.refl _) (s1 _) (fun _ => rfl) (fun _ => En.ent) ?_)
      (refine qgw rfl rfl rfl rfl (g_notT rfl) rfl rfl ?_)
      (refine qg rfl (g_pick_f rfl (by conv => lhs; whnf)) rfl rfl ?_)
      (refine qg rfl (g_move (by conv => lhs; whnf)) rfl rfl ?_)
      (refine qgw rfl rfl rfl rfl (g_move (by conv => lhs; whnf)) rfl rfl ?_)
      (refine qgw rfl rfl rfl rfl (g_move (by conv => lhs; whnf)) rfl rfl ?_)
      (refine rq_callE (wants_some rfl rfl rfl rfl) rfl rfl (Ent.refl _) (s2 _) (fun _ => rfl) (fun _ => En.ent) ?_)
      (refine qgw rfl rfl rfl rfl (g_notT rfl) rfl rfl ?_)
      (refine qg rfl (g_pick_f rfl (by conv => lhs; whnf)) rfl rfl ?_)
      refine rq_nil ?_
      refine q_then ?_
      refine ct_false rfl ?_
      refine ct_skip ?_
      refine q_then ?_
      refine ct_seq ?_
      refine ct_seq ?_
      (refine ct_region' rfl ?_; simp only [List.map, lite])
      (refine rg rfl (g_assign (by conv => lhs; whnf)) rfl rfl ?_)
      refine rt_nil ?_
      refine q_then ?_
      refine ct_block ?_
      rotate_left
    refine ct_loop (ι := { t : Nat × List Hs // t.1 ≤ (sortS l).length ∧ t.2.length = l.length }) (fun t => [(0, .slice a xs.length c), (1, .slice b l.length c'), (5, .slice ad23 (xs.length + 3) cap23), (6, .slice ad23 xs.length cap23), (9, .pointer (some ⟨b9, 0, none⟩)), (10, .slice ad39 (l.length + 2) cap39), (11, .slice ad39 l.length cap39), (12, .slice xa (sortS l).length (sortS l).length), (13, .slice ya (sortS l).length (sortS l).length), (14, .slice wa (sortS l).length wc), (15, .int .i64 (t.1.1 : Int))])
      (fun t => Arr 23 32 wa wc (sortS l).length ((sortS l).flatMap hc) * (Arr 23 32 ya yc l.length ((sortS l ++ yr).flatMap hc) * (Arr 23 32 xa xc l.length (t.1.2.flatMap hc) * (Arr 23 32 ad39 cap39 (l.length + 2) ((l ++ [mkH [(1, 119)], mkH [(1, 119)]]).flatMap hc) * (Arr 5 1 ad23 cap23 (xs.length + 3) ((xs ++ [0xA1, 0xA2, 0xA3]).map bv) * (Blk b9 (hc (mkH [(1, 119)])) 23 * R)))))) (fun t => (sortS l).length - t.1.1)
      ⟨(0, sortS l ++ xr), Nat.zero_le _, by rw [List.length_append]; exact hxr⟩ ⟨rfl, rfl, rfl, rfl, rfl, rfl, rfl, rfl, rfl, rfl, rfl, trivial⟩ (by exact En.ent) fun t ρ' => ?_
    obtain ⟨⟨i, zs⟩, hi, hzl⟩ := t
    dsimp only at hi hzl ⊢
    by_cases hlt : i < (sortS l).length
    · focus
        refine ct_seq ?_
        refine ct_seq ?_
        (refine ct_region' rfl ?_; simp only [List.map, lite])
        (refine rg rfl (g_move (by conv => lhs; whnf)) rfl rfl ?_)
        (refine rg rfl (g_move (by conv => lhs; whnf)) rfl rfl ?_)
        (refine rg rfl (g_len_slice rfl) rfl rfl ?_)
        (refine rg rfl (g_lssT rfl rfl ?_) rfl rfl ?_; (· (omega)))
        refine rt_nil ?_
        refine q_then ?_
        refine ct_true rfl ?_
        refine ct_skip ?_
        refine q_then ?_
        refine ct_seq ?_
        refine ct_block ?_
        (refine ct_region' rfl ?_; simp only [List.map, lite])
        (refine rg rfl (g_move (by conv => lhs; whnf)) rfl rfl ?_)
        (refine rg rfl (g_move (by conv => lhs; whnf)) rfl rfl ?_)
        (refine rg rfl (g_move (by conv => lhs; whnf)) rfl rfl ?_)
        (refine rg rfl (g_convI8 rfl) rfl rfl ?_)
        (refine rg rfl (g_buildHash (ws := [(0, UInt8.ofNat i), (5, 0x55)]) rfl rfl (by simp)) rfl rfl ?_)
        (refine rg rfl (g_elemH rfl rfl ?_ ?_) rfl rfl ?_; (· (first | omega | decide)); (· (first | omega | decide | (exact pos_of_get (by assumption)) | (simp only [List.length_map, List.length_append, List.length_replicate, List.length_set, List.length_cons, List.length_nil]; omega) | (simp; omega))))
        (refine rt_op (wants_none rfl) (o_storeH rfl (by conv => lhs; whnf) ?_ rfl ?_); (· (first | omega | decide)))
        refine rt_nil ?_
        refine q_block ?_
        refine q_then ?_
        (refine ct_region' rfl ?_; simp only [List.map, lite])
        (refine rg rfl (g_move (by conv => lhs; whnf)) rfl rfl ?_)
        (refine rg rfl (g_addN rfl rfl ?_) rfl rfl ?_; (· (constructor <;> omega)))
        (refine rg rfl (g_assign (by conv => lhs; whnf)) rfl rfl ?_)
        refine rt_nil ?_
        rotate_left
      exact q_again ⟨(i + 1, zs.set i (mkH [(0, UInt8.ofNat i), (5, 0x55)])), by dsimp only; omega, by rw [List.length_set]; exact hzl⟩ (by show (sortS l).length - (i + 1) < (sortS l).length - i; omega) ⟨rfl, rfl, rfl, rfl, rfl, rfl, rfl, rfl, rfl, rfl, rfl, trivial⟩ (by exact En.ent)
    · focus
        refine ct_seq ?_
        refine ct_seq ?_
        (refine ct_region' rfl ?_; simp only [List.map, lite])
        (refine rg rfl (g_move (by conv => lhs; whnf)) rfl rfl ?_)
        (refine rg rfl (g_move (by conv => lhs; whnf)) rfl rfl ?_)
        (refine rg rfl (g_len_slice rfl) rfl rfl ?_)
        (refine rg rfl (g_lssF rfl rfl ?_) rfl rfl ?_; (· (omega)))
        refine rt_nil ?_
        refine q_then ?_
        refine ct_false rfl ?_
        refine ct_exit ?_
        refine q_then_exit ?_
        refine q_then_exit ?_
        refine q_block_exit ?_
        refine q_then ?_
        refine ct_seq ?_
        refine ct_seq ?_
        (refine ct_region' rfl ?_; simp only [List.map, lite])
        (refine rg rfl (g_assign (by conv => lhs; whnf)) rfl rfl ?_)
        refine rt_nil ?_
        refine q_then ?_
        refine ct_block ?_
        rotate_left
      obtain rfl : i = (sortS l).length := by omega
      have htk : (zs.take (sortS l).length).length = (sortS l).length := by rw [List.length_take]; omega
      have hrt : Rd (Arr 23 32 xa xc l.length (zs.flatMap hc)) xa ((zs.take (sortS l).length).flatMap hc) := Rd.htake inferInstance _
      refine ct_loop (ι := Option { t : Nat × Addr × Nat × List Hs // 0 < t.1 ∧ t.1 ≤ 20 ∧ t.2.2.2.length = (sortS l).length + t.1 })
        (fun t => (match t with | none => [(12, .slice xa (sortS l).length (sortS l).length), (16, .int .i64 (0 : Int))] | some t => [(12, .slice (some t.1.2.1) ((sortS l).length + t.1.1) t.1.2.2.1), (16, .int .i64 (t.1.1 : Int))]) ++ [(0, .slice a xs.length c), (1, .slice b l.length c'), (5, .slice ad23 (xs.length + 3) cap23), (6, .slice ad23 xs.length cap23), (9, .pointer (some ⟨b9, 0, none⟩)), (10, .slice ad39 (l.length + 2) cap39), (11, .slice ad39 l.length cap39), (13, .slice ya (sortS l).length (sortS l).length), (14, .slice wa (sortS l).length wc)])
        (fun t => (match t with | none => Arr 23 32 xa xc l.length (zs.flatMap hc) | some t => Arr 23 32 (some t.1.2.1) t.1.2.2.1 ((sortS l).length + t.1.1) (t.1.2.2.2.flatMap hc)) * (Arr 23 32 wa wc (sortS l).length ((sortS l).flatMap hc) * (Arr 23 32 ya yc l.length ((sortS l ++ yr).flatMap hc) * (Arr 23 32 ad39 cap39 (l.length + 2) ((l ++ [mkH [(1, 119)], mkH [(1, 119)]]).flatMap hc) * (Arr 5 1 ad23 cap23 (xs.length + 3) ((xs ++ [0xA1, 0xA2, 0xA3]).map bv) * (Blk b9 (hc (mkH [(1, 119)])) 23 * R)))))) (fun t => match t with | none => 21 | some t => 20 - t.1.1)
        none ⟨rfl, rfl, rfl, rfl, rfl, rfl, rfl, rfl, rfl, rfl, rfl, trivial⟩ (by exact En.ent) fun t ρ' => ?_
      cases t with
      | none =>
        dsimp only [List.cons_append, List.nil_append]
        focus
          refine ct_seq ?_
          refine ct_seq ?_
          (refine ct_region' rfl ?_; simp only [List.map, lite])
          (refine rg rfl (g_move (by conv => lhs; whnf)) rfl rfl ?_)
          (refine rg rfl (g_lssT rfl rfl ?_) rfl rfl ?_; (· (omega)))
          refine rt_nil ?_
          refine q_then ?_
          refine ct_true rfl ?_
          refine ct_skip ?_
          refine q_then ?_
          refine ct_seq ?_
          refine ct_block ?_
          (refine ct_region' rfl ?_; simp only [List.map, lite])
          (refine rg rfl (g_move (by conv => lhs; whnf)) rfl rfl ?_)
          (refine rg rfl (g_buildHash (ws := [(3, 0x33)]) rfl rfl (by simp)) rfl rfl ?_)
          (refine rt_op (wants_none rfl) (o_buildH rfl (by conv => lhs; whnf) fun b89 => ?_))
          (refine rt_op (wants_none rfl) (o_appHF rfl rfl rfl rfl htk (by rfl) (by omega) (by exact rfl) fun ad90 cap90 hc90 => ?_))
          (refine rg rfl (g_assign (by conv => lhs; whnf)) rfl rfl ?_)
          refine rt_nil ?_
          refine q_block ?_
          refine q_then ?_
          (refine ct_region' rfl ?_; simp only [List.map, lite])
          (refine rg rfl (g_move (by conv => lhs; whnf)) rfl rfl ?_)
          (refine rg rfl (g_addN rfl rfl ?_) rfl rfl ?_; (· (constructor <;> omega)))
          (refine rg rfl (g_assign (by conv => lhs; whnf)) rfl rfl ?_)
          refine rt_nil ?_
          rotate_left
        exact q_again (some ⟨(1, ad90, cap90, zs.take (sortS l).length ++ [mkH [(3, 0x33)]]), Nat.one_pos, (by omega : 1 ≤ 20), by dsimp only; rw [List.length_append, htk]; rfl⟩) (by show 20 - 1 < 21; omega) ⟨rfl, rfl, rfl, rfl, rfl, rfl, rfl, rfl, rfl, rfl, rfl, trivial⟩ (by exact En.ent)
      | some t =>
        obtain ⟨⟨j, g, gc, us⟩, hj0, hj, hul⟩ := t
        dsimp only [List.cons_append, List.nil_append] at hj0 hj hul ⊢
        by_cases hj20 : j < 20
        · focus
            refine ct_seq ?_
            refine ct_seq ?_
            (refine ct_region' rfl ?_; simp only [List.map, lite])
            (refine rg rfl (g_move (by conv => lhs; whnf)) rfl rfl ?_)
            (refine rg rfl (g_lssT rfl rfl ?_) rfl rfl ?_; (· (omega)))
            refine rt_nil ?_
            refine q_then ?_
            refine ct_true rfl ?_
            refine ct_skip ?_
            refine q_then ?_
            refine ct_seq ?_
            refine ct_block ?_
            (refine ct_region' rfl ?_; simp only [List.map, lite])
            (refine rg rfl (g_move (by conv => lhs; whnf)) rfl rfl ?_)
            (refine rg rfl (g_buildHash (ws := [(3, 0x33)]) rfl rfl (by simp)) rfl rfl ?_)
            (refine rt_op (wants_none rfl) (o_buildH rfl (by conv => lhs; whnf) fun b89 => ?_))
            (refine rt_op (wants_none rfl) (o_appH rfl rfl rfl rfl (by rfl) ?_ (by first | with_reducible exact Nat.zero_add _ | exact rfl) rfl fun ad90 cap90 hc90 hn90 => ?_); (· (first | omega | decide)))
            (refine rg rfl (g_assign (by conv => lhs; whnf)) rfl rfl ?_)
            refine rt_nil ?_
            refine q_block ?_
            refine q_then ?_
            (refine ct_region' rfl ?_; simp only [List.map, lite])
            (refine rg rfl (g_move (by conv => lhs; whnf)) rfl rfl ?_)
            (refine rg rfl (g_addN rfl rfl ?_) rfl rfl ?_; (· (constructor <;> omega)))
            (refine rg rfl (g_assign (by conv => lhs; whnf)) rfl rfl ?_)
            refine rt_nil ?_
            rotate_left
          cases ad90 with
          | none => exact absurd rfl hn90
          | some g2 =>
            exact q_again (some ⟨(j + 1, g2, cap90, us ++ [mkH [(3, 0x33)]]), by dsimp only; omega, by dsimp only; omega, by dsimp only; rw [List.length_append, hul]; rfl⟩) (by show 20 - (j + 1) < 20 - j; omega) ⟨rfl, rfl, rfl, rfl, rfl, rfl, rfl, rfl, rfl, rfl, rfl, trivial⟩ (by exact En.ent)
        · have k1 : ((l ++ [mkH [(1, 0x77)], mkH [(1, 0x77)]])[l.length]'(by simp)).1 = (mkH [(1, 0x77)]).1 := by rw [List.getElem_append_right (Nat.le_refl _)]; simp
          have k2 : ((l ++ [mkH [(1, 0x77)], mkH [(1, 0x77)]])[l.length + 1]'(by simp)).1 = (mkH [(1, 0x77)]).1 := by rw [List.getElem_append_right (by omega)]; simp
          have k3 : ((l ++ [mkH [(1, 0x77)], mkH [(1, 0x77)]])[l.length]'(by simp)).1.length = 32 := hs32 _
          have k4 : ((l ++ [mkH [(1, 0x77)], mkH [(1, 0x77)]])[l.length + 1]'(by simp)).1.length = 32 := hs32 _
          have k5 : (((xs ++ [0xA1, 0xA2, 0xA3]).map bv)[xs.length]?) = some (.int .u8 161) := by simp
          have k6 : (((xs ++ [0xA1, 0xA2, 0xA3]).map bv)[xs.length + 2]?) = some (.int .u8 163) := by simp
          focus
            refine ct_seq ?_
            refine ct_seq ?_
            (refine ct_region' rfl ?_; simp only [List.map, lite])
            (refine rg rfl (g_move (by conv => lhs; whnf)) rfl rfl ?_)
            (refine rg rfl (g_lssF rfl rfl ?_) rfl rfl ?_; (· (omega)))
            refine rt_nil ?_
            refine q_then ?_
            refine ct_false rfl ?_
            refine ct_exit ?_
            refine q_then_exit ?_
            refine q_then_exit ?_
            refine q_block_exit ?_
            refine q_then ?_
            refine ct_seq ?_
            refine ct_seq ?_
            refine ct_quiet (by kernel_rfl) rfl ?_
            simp only [List.map, lite]
            (refine qg rfl (g_move (by conv => lhs; whnf)) rfl rfl ?_)
            (refine qg rfl (g_move (by conv => lhs; whnf)) rfl rfl ?_)
            (refine rq_callE (wants_none rfl) rfl rfl (Ent.refl _) (s2 _) (fun _ => rfl) (fun _ => En.ent) ?_)
            (refine qg rfl (g_notT rfl) rfl rfl ?_)
            (refine qg rfl (g_move (by conv => lhs; whnf)) rfl rfl ?_)
            (refine qgw rfl rfl rfl rfl (g_move (by conv => lhs; whnf)) rfl rfl ?_)
            (refine qgw rfl rfl rfl rfl (g_move (by conv => lhs; whnf)) rfl rfl ?_)
            (refine rq_callE (wants_some rfl rfl rfl rfl) rfl rfl (Ent.refl _) (s3 _) (fun _ => rfl) (fun _ => En.ent) ?_)
            (refine qgw rfl rfl rfl rfl (g_notT rfl) rfl rfl ?_)
            (refine qg rfl (g_pick_f rfl (by conv => lhs; whnf)) rfl rfl ?_)
            (refine qg rfl (g_move (by conv => lhs; whnf)) rfl rfl ?_)
            (refine qgw rfl rfl rfl rfl (g_move (by conv => lhs; whnf)) rfl rfl ?_)
            (refine qgw rfl rfl rfl rfl (g_move (by conv => lhs; whnf)) rfl rfl ?_)
            (refine qgw rfl rfl rfl rfl (g_len_slice rfl) rfl rfl ?_)
            (refine qgw rfl rfl rfl rfl (g_elemH rfl rfl ?_ ?_) rfl rfl ?_; (· (first | omega | decide)); (· (first | omega | decide | (exact pos_of_get (by assumption)) | (simp only [List.length_map, List.length_append, List.length_replicate, List.length_set, List.length_cons, List.length_nil]; omega) | (simp; omega))))
            (refine qgw rfl rfl rfl rfl (g_loadH rfl ?_) rfl rfl ?_; (· (first | omega | decide | (exact pos_of_get (by assumption)) | (simp only [List.length_map, List.length_append, List.length_replicate, List.length_set, List.length_cons, List.length_nil]; omega) | (simp; omega))))
            (refine qgw rfl rfl rfl rfl (g_loadAgg_blk rfl (by first | rfl | assumption | (simp; done) | (simp; omega))) rfl rfl ?_)
            (refine qgw rfl rfl rfl rfl (g_neHF rfl rfl (by kernel_rfl) (by first | rfl | assumption | (simp; done) | (simp; omega)) ?_) rfl rfl ?_; (· (first | rfl | assumption)))
            (refine qg rfl (g_pick_f rfl (by conv => lhs; whnf)) rfl rfl ?_)
            (refine qg rfl (g_move (by conv => lhs; whnf)) rfl rfl ?_)
            (refine qgw rfl rfl rfl rfl (g_move (by conv => lhs; whnf)) rfl rfl ?_)
            (refine qgw rfl rfl rfl rfl (g_move (by conv => lhs; whnf)) rfl rfl ?_)
            (refine qgw rfl rfl rfl rfl (g_len_slice rfl) rfl rfl ?_)
            (refine qgw rfl rfl rfl rfl (g_addN rfl rfl ?_) rfl rfl ?_; (· (constructor <;> omega)))
            (refine qgw rfl rfl rfl rfl (g_elemH rfl rfl ?_ ?_) rfl rfl ?_; (· (first | omega | decide)); (· (first | omega | decide | (exact pos_of_get (by assumption)) | (simp only [List.length_map, List.length_append, List.length_replicate, List.length_set, List.length_cons, List.length_nil]; omega) | (simp; omega))))
            (refine qgw rfl rfl rfl rfl (g_loadH rfl ?_) rfl rfl ?_; (· (first | omega | decide | (exact pos_of_get (by assumption)) | (simp only [List.length_map, List.length_append, List.length_replicate, List.length_set, List.length_cons, List.length_nil]; omega) | (simp; omega))))
            (refine qgw rfl rfl rfl rfl (g_loadAgg_blk rfl (by first | rfl | assumption | (simp; done) | (simp; omega))) rfl rfl ?_)
            (refine qgw rfl rfl rfl rfl (g_neHF rfl rfl (by kernel_rfl) (by first | rfl | assumption | (simp; done) | (simp; omega)) ?_) rfl rfl ?_; (· (first | rfl | assumption)))
            (refine qg rfl (g_pick_f rfl (by conv => lhs; whnf)) rfl rfl ?_)
            (refine qg rfl (g_move (by conv => lhs; whnf)) rfl rfl ?_)
            (refine qgw rfl rfl rfl rfl (g_move (by conv => lhs; whnf)) rfl rfl ?_)
            (refine qgw rfl rfl rfl rfl (g_move (by conv => lhs; whnf)) rfl rfl ?_)
            (refine qgw rfl rfl rfl rfl (g_len_slice rfl) rfl rfl ?_)
            (refine qgw rfl rfl rfl rfl (g_elemO1 rfl rfl ?_ ?_) rfl rfl ?_; (· (first | omega | decide)); (· (first | omega | decide | (exact pos_of_get (by assumption)) | (simp only [List.length_map, List.length_append, List.length_replicate, List.length_set, List.length_cons, List.length_nil]; omega) | (simp; omega))))
            (refine qgw rfl rfl rfl rfl (g_load_rd rfl (by assumption)) rfl rfl ?_)
            (refine qgw rfl rfl rfl rfl (g_neqF rfl rfl ?_) rfl rfl ?_; (· (omega)))
            (refine qg rfl (g_pick_f rfl (by conv => lhs; whnf)) rfl rfl ?_)
            (refine qg rfl (g_move (by conv => lhs; whnf)) rfl rfl ?_)
            (refine qgw rfl rfl rfl rfl (g_move (by conv => lhs; whnf)) rfl rfl ?_)
            (refine qgw rfl rfl rfl rfl (g_move (by conv => lhs; whnf)) rfl rfl ?_)
            (refine qgw rfl rfl rfl rfl (g_len_slice rfl) rfl rfl ?_)
            (refine qgw rfl rfl rfl rfl (g_addN rfl rfl ?_) rfl rfl ?_; (· (constructor <;> omega)))
            (refine qgw rfl rfl rfl rfl (g_elemO1 rfl rfl ?_ ?_) rfl rfl ?_; (· (first | omega | decide)); (· (first | omega | decide | (exact pos_of_get (by assumption)) | (simp only [List.length_map, List.length_append, List.length_replicate, List.length_set, List.length_cons, List.length_nil]; omega) | (simp; omega))))
            (refine qgw rfl rfl rfl rfl (g_load_rd rfl (by assumption)) rfl rfl ?_)
            (refine qgw rfl rfl rfl rfl (g_neqF rfl rfl ?_) rfl rfl ?_; (· (omega)))
            (refine qg rfl (g_pick_f rfl (by conv => lhs; whnf)) rfl rfl ?_)
            refine rq_nil ?_
            refine q_then ?_
            refine ct_false rfl ?_
            refine ct_skip ?_
            refine q_then ?_
            refine ct_seq ?_
            (refine ct_region' rfl ?_; simp only [List.map, lite])
            (refine rg rfl (g_move (by conv => lhs; whnf)) rfl rfl ?_)
            (refine rt_op (wants_none rfl) (o_callE rfl rfl (Ent.refl _) (hso _) fun i138 => ?_))
            (refine rg rfl (g_assign (by conv => lhs; whnf)) rfl rfl ?_)
            refine rt_nil ?_
            refine q_then ?_
            refine ct_seq ?_
            refine ct_seq ?_
            (refine ct_region' rfl ?_; simp only [List.map, lite])
            (refine rg rfl (g_move (by conv => lhs; whnf)) rfl rfl ?_)
            (refine rg rfl (g_convRd rfl ?_ (by first | exact List.take_length | exact List.take_left | exact rfl)) rfl rfl ?_; (· (first | omega | (simp; omega) | simp)))
            (refine rg rfl (g_move (by conv => lhs; whnf)) rfl rfl ?_)
            (refine rg rfl (g_convRd rfl ?_ (by first | exact List.take_length | exact List.take_left | exact rfl)) rfl rfl ?_; (· (first | omega | (simp; omega) | simp)))
            (refine rg rfl (g_nesF rfl rfl ?_) rfl rfl ?_; (· (first | rfl | assumption)))
            (refine rg rfl (g_move (by conv => lhs; whnf)) rfl rfl ?_)
            (refine rgw rfl rfl rfl rfl (g_move (by conv => lhs; whnf)) rfl rfl ?_)
            (refine rgw rfl rfl rfl rfl (g_move (by conv => lhs; whnf)) rfl rfl ?_)
            rotate_left
          obtain ⟨⟨za, zc⟩, ⟨zr, hzr⟩⟩ := i138
          dsimp only at hzr ⊢
          have s4 := fun (R' : HP) [h : Rd R' za ((sortS l ++ zr).flatMap hc)] [Rd R' wa ((sortS l).flatMap hc)] => @same_spec R' za wa (sortS l).length wc (sortS l) (sortS l) h.preH _ (by omega) (by omega)
          simp only [decide_true] at s4
          clear s1 s3 hof hoa hso
          focus
            (refine rt_op (wants_some rfl rfl rfl rfl) (o_callE rfl rfl (Ent.refl _) (s4 _) fun i147 => ?_))
            (refine rgw rfl rfl rfl rfl (g_notT rfl) rfl rfl ?_)
            (refine rg rfl (g_pick_f rfl (by conv => lhs; whnf)) rfl rfl ?_)
            refine rt_nil ?_
            refine q_then ?_
            refine ct_false rfl ?_
            refine ct_skip ?_
            refine q_then ?_
            refine ct_seq ?_
            refine ct_seq ?_
            (refine ct_region' rfl ?_; simp only [List.map, lite])
            (refine rg rfl (g_assign (by conv => lhs; whnf)) rfl rfl ?_)
            refine rt_nil ?_
            refine q_then ?_
            refine ct_block ?_
            rotate_left
          refine ct_loop (ι := { t : Nat × List UInt8 // t.1 ≤ xs.length ∧ t.2.length = xs.length + 3 }) (fun t => [(6, .slice ad23 xs.length cap23), (11, .slice ad39 l.length cap39), (13, .slice ya (sortS l).length (sortS l).length), (14, .slice wa (sortS l).length wc), (17, .slice za (sortS l).length (sortS l).length), (18, .int .i64 (t.1.1 : Int))])
            (fun t => Arr 23 32 za zc l.length ((sortS l ++ zr).flatMap hc) * (Arr 23 32 wa wc (sortS l).length ((sortS l).flatMap hc) * (Arr 23 32 ya yc l.length ((sortS l ++ yr).flatMap hc) * (Arr 23 32 ad39 cap39 (l.length + 2) ((l ++ [mkH [(1, 119)], mkH [(1, 119)]]).flatMap hc) * (Arr 5 1 ad23 cap23 (xs.length + 3) (t.1.2.map bv) * R))))) (fun t => xs.length - t.1.1)
            ⟨(0, xs ++ [0xA1, 0xA2, 0xA3]), Nat.zero_le _, by simp⟩ ⟨rfl, rfl, rfl, rfl, rfl, rfl, trivial⟩ (by exact En.ent) fun t ρ' => ?_
          obtain ⟨⟨i4, bs⟩, hi4, hbl⟩ := t
          dsimp only at hi4 hbl ⊢
          by_cases h4 : i4 < xs.length
          · have hb4 : (bs.map bv)[i4]? = some (bv (bs[i4]'(by omega))) := by rw [List.getElem?_map, List.getElem?_eq_getElem (by omega)]; rfl
            focus
              refine ct_seq ?_
              refine ct_seq ?_
              (refine ct_region' rfl ?_; simp only [List.map, lite])
              (refine rg rfl (g_move (by conv => lhs; whnf)) rfl rfl ?_)
              (refine rg rfl (g_move (by conv => lhs; whnf)) rfl rfl ?_)
              (refine rg rfl (g_len_slice rfl) rfl rfl ?_)
              (refine rg rfl (g_lssT rfl rfl ?_) rfl rfl ?_; (· (omega)))
              refine rt_nil ?_
              refine q_then ?_
              refine ct_true rfl ?_
              refine ct_skip ?_
              refine q_then ?_
              refine ct_seq ?_
              refine ct_block ?_
              (refine ct_region' rfl ?_; simp only [List.map, lite])
              (refine rg rfl (g_move (by conv => lhs; whnf)) rfl rfl ?_)
              (refine rg rfl (g_move (by conv => lhs; whnf)) rfl rfl ?_)
              (refine rg rfl (g_elemO1 rfl rfl ?_ ?_) rfl rfl ?_; (· (first | omega | decide)); (· (first | omega | decide | (exact pos_of_get (by assumption)) | (simp only [List.length_map, List.length_append, List.length_replicate, List.length_set, List.length_cons, List.length_nil]; omega) | (simp; omega))))
              (refine rg rfl (g_load_rd rfl (by assumption)) rfl rfl ?_)
              (refine rg rfl (g_xor8 (b := 0x3C) rfl rfl) rfl rfl ?_)
              (refine rg rfl (g_elemO1 rfl rfl ?_ ?_) rfl rfl ?_; (· (first | omega | decide)); (· (first | omega | decide | (exact pos_of_get (by assumption)) | (simp only [List.length_map, List.length_append, List.length_replicate, List.length_set, List.length_cons, List.length_nil]; omega) | (simp; omega))))
              (refine rt_op (wants_none rfl) (o_storeArr rfl (by conv => lhs; whnf) rfl ?_ (by first | (simp only [List.set_cons_zero, List.set_cons_succ]; exact rfl) | exact rfl) ?_); (· (first | omega | decide | (exact pos_of_get (by assumption)) | (simp only [List.length_map, List.length_append, List.length_replicate, List.length_set, List.length_cons, List.length_nil]; omega) | (simp; omega))))
              refine rt_nil ?_
              refine q_block ?_
              refine q_then ?_
              (refine ct_region' rfl ?_; simp only [List.map, lite])
              (refine rg rfl (g_move (by conv => lhs; whnf)) rfl rfl ?_)
              (refine rg rfl (g_addN rfl rfl ?_) rfl rfl ?_; (· (constructor <;> omega)))
              (refine rg rfl (g_assign (by conv => lhs; whnf)) rfl rfl ?_)
              refine rt_nil ?_
              rotate_left
            rw [← List.map_set]
            exact q_again ⟨(i4 + 1, bs.set i4 ((bs[i4]'(by omega)) ^^^ 0x3C)), by dsimp only; omega, by rw [List.length_set]; exact hbl⟩ (by show xs.length - (i4 + 1) < xs.length - i4; omega) ⟨rfl, rfl, rfl, rfl, rfl, rfl, trivial⟩ (by exact En.ent)
          · focus
              refine ct_seq ?_
              refine ct_seq ?_
              (refine ct_region' rfl ?_; simp only [List.map, lite])
              (refine rg rfl (g_move (by conv => lhs; whnf)) rfl rfl ?_)
              (refine rg rfl (g_move (by conv => lhs; whnf)) rfl rfl ?_)
              (refine rg rfl (g_len_slice rfl) rfl rfl ?_)
              (refine rg rfl (g_lssF rfl rfl ?_) rfl rfl ?_; (· (omega)))
              refine rt_nil ?_
              refine q_then ?_
              refine ct_false rfl ?_
              refine ct_exit ?_
              refine q_then_exit ?_
              refine q_then_exit ?_
              refine q_block_exit ?_
              refine q_then ?_
              refine ct_seq ?_
              refine ct_seq ?_
              (refine ct_region' rfl ?_; simp only [List.map, lite])
              (refine rg rfl (g_assign (by conv => lhs; whnf)) rfl rfl ?_)
              refine rt_nil ?_
              refine q_then ?_
              refine ct_block ?_
              rotate_left
            refine ct_loop (ι := { t : Nat × List Hs // t.1 ≤ l.length ∧ t.2.length = l.length + 2 }) (fun t => [(6, .slice ad23 xs.length cap23), (11, .slice ad39 l.length cap39), (13, .slice ya (sortS l).length (sortS l).length), (14, .slice wa (sortS l).length wc), (17, .slice za (sortS l).length (sortS l).length), (19, .int .i64 (t.1.1 : Int))])
              (fun t => Arr 23 32 za zc l.length ((sortS l ++ zr).flatMap hc) * (Arr 23 32 wa wc (sortS l).length ((sortS l).flatMap hc) * (Arr 23 32 ya yc l.length ((sortS l ++ yr).flatMap hc) * (Arr 23 32 ad39 cap39 (l.length + 2) (t.1.2.flatMap hc) * (Arr 5 1 ad23 cap23 (xs.length + 3) (bs.map bv) * R))))) (fun t => l.length - t.1.1)
              ⟨(0, l ++ [mkH [(1, 0x77)], mkH [(1, 0x77)]]), Nat.zero_le _, by simp⟩ ⟨rfl, rfl, rfl, rfl, rfl, rfl, trivial⟩ (by exact En.ent) fun t ρ' => ?_
            obtain ⟨⟨i6, vs⟩, hi6, hvl⟩ := t
            dsimp only at hi6 hvl ⊢
            by_cases h6 : i6 < l.length
            · have hb6 := flat_getB (l := vs) (i := i6) (j := 0) (by omega) (by omega)
              have hs6 := flat_setB vs i6 0 (((vs[i6]'(by omega)).1[0]'(by rw [hs32]; omega)) ^^^ UInt8.ofNat (7 * i6)) (by omega) (by omega)
              have hfl : i6 * 32 + 0 < (vs.flatMap hc).length := by rw [hs_len]; omega
              focus
                refine ct_seq ?_
                refine ct_seq ?_
                (refine ct_region' rfl ?_; simp only [List.map, lite])
                (refine rg rfl (g_move (by conv => lhs; whnf)) rfl rfl ?_)
                (refine rg rfl (g_move (by conv => lhs; whnf)) rfl rfl ?_)
                (refine rg rfl (g_len_slice rfl) rfl rfl ?_)
                (refine rg rfl (g_lssT rfl rfl ?_) rfl rfl ?_; (· (omega)))
                refine rt_nil ?_
                refine q_then ?_
                refine ct_true rfl ?_
                refine ct_skip ?_
                refine q_then ?_
                refine ct_seq ?_
                refine ct_block ?_
                refine ct_tail 11 (by kernel_rfl) rfl ?_
                simp only [List.map, lite, List.take, List.drop]
                (refine qg rfl (g_move (by conv => lhs; whnf)) rfl rfl ?_)
                (refine qg rfl (g_move (by conv => lhs; whnf)) rfl rfl ?_)
                (refine qg rfl (g_elemH rfl rfl ?_ ?_) rfl rfl ?_; (· (first | omega | decide)); (· (first | omega | decide | (exact pos_of_get (by assumption)) | (simp only [List.length_map, List.length_append, List.length_replicate, List.length_set, List.length_cons, List.length_nil]; omega) | (simp; omega))))
                (refine qg rfl (g_elemAR rfl rfl ?_) rfl rfl ?_; (· (first | omega | decide)))
                (refine qg rfl (g_load_rd rfl hb6) rfl rfl ?_)
                (refine qg rfl (g_move (by conv => lhs; whnf)) rfl rfl ?_)
                (refine qg rfl (g_mulN rfl rfl ?_) rfl rfl ?_; (· (constructor <;> omega)))
                (refine qg rfl (g_convI8 rfl) rfl rfl ?_)
                (refine qg rfl (g_xor8 rfl rfl) rfl rfl ?_)
                (refine qg rfl (g_elemH rfl rfl ?_ ?_) rfl rfl ?_; (· (first | omega | decide)); (· (first | omega | decide | (exact pos_of_get (by assumption)) | (simp only [List.length_map, List.length_append, List.length_replicate, List.length_set, List.length_cons, List.length_nil]; omega) | (simp; omega))))
                (refine qg rfl (g_elemAR rfl rfl ?_) rfl rfl ?_; (· (first | omega | decide)))
                refine rq_tail ?_
                (refine rt_op (wants_none rfl) (o_storeArr rfl rfl rfl hfl hs6 ?_))
                refine rt_nil ?_
                refine q_block ?_
                refine q_then ?_
                (refine ct_region' rfl ?_; simp only [List.map, lite])
                (refine rg rfl (g_move (by conv => lhs; whnf)) rfl rfl ?_)
                (refine rg rfl (g_addN rfl rfl ?_) rfl rfl ?_; (· (constructor <;> omega)))
                (refine rg rfl (g_assign (by conv => lhs; whnf)) rfl rfl ?_)
                refine rt_nil ?_
                rotate_left
              exact q_again ⟨(i6 + 1, vs.set i6 (setB (vs[i6]'(by omega)) 0 (((vs[i6]'(by omega)).1[0]'(by rw [hs32]; omega)) ^^^ UInt8.ofNat (7 * i6)))), by dsimp only; omega, by rw [List.length_set]; exact hvl⟩ (by show l.length - (i6 + 1) < l.length - i6; omega) ⟨rfl, rfl, rfl, rfl, rfl, rfl, trivial⟩ (by exact En.ent)
            · obtain ⟨y1, y2, rfl, hy1⟩ : ∃ y1 y2, bs = y1 ++ y2 ∧ y1.length = xs.length := ⟨bs.take xs.length, bs.drop xs.length, (List.take_append_drop ..).symm, by rw [List.length_take]; omega⟩
              obtain ⟨v1, v2, rfl, hv1⟩ : ∃ v1 v2, vs = v1 ++ v2 ∧ v1.length = l.length := ⟨vs.take l.length, vs.drop l.length, (List.take_append_drop ..).symm, by rw [List.length_take]; omega⟩
              have f1 := fun (R' : HP) [h : Rd R' ad23 ((y1 ++ y2).map bv)] => @of_spec R' ad23 cap23 y1 h.preB (by omega) (by omega) n3
              have f2 := fun (R' : HP) [h : Rd R' ad23 ((y1 ++ y2).map bv)] => @ofR_spec R' ad23 cap23 y1 h.preB (by omega)
              have f3 := fun (R' : HP) [h : Rd R' ad39 ((v1 ++ v2).flatMap hc)] => @sort_spec R' ad39 cap39 v1 h.preH (by omega)
              have f4 := fun (R' : HP) [h : Rd R' ad39 ((v1 ++ v2).flatMap hc)] => @sortR_spec R' ad39 cap39 v1 h.preH (by omega) (by omega) (fun h => (m1 h).2)
              have hsv := sortS_len v1
              have hsy := shaOf_len y1
              rw [hy1] at f1 f2
              rw [hv1] at f3 f4
              focus
                refine ct_seq ?_
                refine ct_seq ?_
                (refine ct_region' rfl ?_; simp only [List.map, lite])
                (refine rg rfl (g_move (by conv => lhs; whnf)) rfl rfl ?_)
                (refine rg rfl (g_move (by conv => lhs; whnf)) rfl rfl ?_)
                (refine rg rfl (g_len_slice rfl) rfl rfl ?_)
                (refine rg rfl (g_lssF rfl rfl ?_) rfl rfl ?_; (· (omega)))
                refine rt_nil ?_
                refine q_then ?_
                refine ct_false rfl ?_
                refine ct_exit ?_
                refine q_then_exit ?_
                refine q_then_exit ?_
                refine q_block_exit ?_
                refine q_then ?_
                refine ct_seq ?_
                (refine ct_region' rfl ?_; simp only [List.map, lite])
                (refine rg rfl (g_move (by conv => lhs; whnf)) rfl rfl ?_)
                (refine rt_op (wants_none rfl) (o_callE rfl rfl (Ent.refl _) (f1 _) fun i180 => ?_))
                (refine rg rfl (g_move (by conv => lhs; whnf)) rfl rfl ?_)
                (refine rt_op (wants_none rfl) (o_callE rfl rfl (Ent.refl _) (f2 _) fun i182 => ?_))
                (refine rg rfl (g_eqHT rfl rfl (by kernel_rfl) (by first | rfl | assumption | (simp; done) | (simp; omega)) ?_) rfl rfl ?_; (· (first | rfl | assumption)))
                (refine rg rfl (g_move (by conv => lhs; whnf)) rfl rfl ?_)
                (refine rgw rfl rfl rfl rfl (g_move (by conv => lhs; whnf)) rfl rfl ?_)
                (refine rt_op (wants_some rfl rfl rfl rfl) (o_callE rfl rfl (Ent.refl _) (f3 _) fun i186 => ?_))
                (refine rgw rfl rfl rfl rfl (g_move (by conv => lhs; whnf)) rfl rfl ?_)
                (refine rt_op (wants_some rfl rfl rfl rfl) (o_callE rfl rfl (Ent.refl _) (f4 _) fun i188 => ?_))
                rotate_left
              obtain ⟨⟨ua, uc⟩, ⟨ur, hur⟩⟩ := i186
              obtain ⟨qa, qc⟩ := i188
              dsimp only at hur ⊢
              have s5 := fun (R' : HP) [h : Rd R' ua ((sortS v1 ++ ur).flatMap hc)] [Rd R' qa ((sortS v1).flatMap hc)] => @same_spec R' ua qa (sortS v1).length qc (sortS v1) (sortS v1) h.preH _ (by omega) (by omega)
              simp only [decide_true] at s5
              focus
                (refine rt_op (wants_some rfl rfl rfl rfl) (o_callE rfl rfl (Ent.refl _) (s5 _) fun i189 => ?_))
                (refine rg rfl (g_pick_t rfl (by conv => lhs; whnf)) rfl rfl ?_)
                (refine rg rfl (g_move (by conv => lhs; whnf)) rfl rfl ?_)
                (refine rgw rfl rfl rfl rfl (g_move (by conv => lhs; whnf)) rfl rfl ?_)
                (refine rgw rfl rfl rfl rfl (g_move (by conv => lhs; whnf)) rfl rfl ?_)
                (refine rt_op (wants_some rfl rfl rfl rfl) (o_callE rfl rfl (Ent.refl _) (s2 _) fun i194 => ?_))
                (refine rg rfl (g_pick_t rfl (by conv => lhs; whnf)) rfl rfl ?_)
                (refine rg rfl (g_move (by conv => lhs; whnf)) rfl rfl ?_)
                (refine rgw rfl rfl rfl rfl (g_move (by conv => lhs; whnf)) rfl rfl ?_)
                (refine rgw rfl rfl rfl rfl (g_move (by conv => lhs; whnf)) rfl rfl ?_)
                (refine rt_op (wants_some rfl rfl rfl rfl) (o_callE rfl rfl (Ent.refl _) (s4 _) fun i199 => ?_))
                (refine rg rfl (g_pick_t rfl (by conv => lhs; whnf)) rfl rfl ?_)
                (refine rg rfl (g_move (by conv => lhs; whnf)) rfl rfl ?_)
                (refine rt_op (wants_some rfl rfl rfl rfl) (o_callE rfl rfl (Ent.refl _) (hfix _) fun i202 => ?_))
                (refine rg rfl (g_pick_t rfl (by conv => lhs; whnf)) rfl rfl ?_)
                (refine rg rfl (g_assign (by conv => lhs; whnf)) rfl rfl ?_)
                refine rt_nil ?_
                refine q_then ?_
                refine ct_ret ?_
                exact q_ret1 rfl rfl () rfl En.ent
end Go.Proofs.Ytmhddmenmkjdlaa
