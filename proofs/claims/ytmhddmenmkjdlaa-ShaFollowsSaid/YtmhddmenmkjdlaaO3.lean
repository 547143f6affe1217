/- ShaFollows: the walk. -/
import Derived.Test.YtmhddmenmkjdlaaC2
import Derived.Test.YtmhddmenmkjdlaaC3
import Derived.Test.YtmhddmenmkjdlaaHl
import Derived.Test.YtmhddmenmkjdlaaFp
import Derived.Test.YtmhddmenmkjdlaaD1
import Derived.Test.YtmhddmenmkjdlaaH1
namespace Go.Proofs.Ytmhddmenmkjdlaa
open Go.RowKit
attribute [local irreducible] Gives RT CT QT Spec Wants Reads Src Ent OT RQ AnyT AnyOp Again Code.wp Post

def rows2 (a : Option Addr) (c : Nat) (xs : List UInt8) (b : Option Addr) (c' : Nat) (ys : List UInt8) : List RowV := [⟨a, c, xs⟩, ⟨b, c', ys⟩]
theorem rows2_ok {R : HP} {g : Addr} {a : Option Addr} {c : Nat} {xs : List UInt8} {b : Option Addr} {c' : Nat} {ys : List UInt8} (hg : Rd R (some g) [.slice a xs.length c, .slice b ys.length c']) (h1 : Rd R a (xs.map bv)) (h2 : Rd R b (ys.map bv)) (hc : xs.length ≤ c) (hc' : ys.length ≤ c') (hn : a = none → c = 0) (hn' : b = none → c' = 0) : Rows R (some g) (rows2 a c xs b c' ys) := by
  refine ⟨hg, ?_, ?_, ?_, by show 2 ≤ 140737488351232; omega⟩
  all_goals
    intro o ho
    unfold rows2 at ho
    rcases List.mem_cons.1 ho with rfl | ho
  · exact h1
  · rw [List.mem_singleton] at ho; subst ho; exact h2
  · exact hc
  · rw [List.mem_singleton] at ho; subst ho; exact hc'
  · exact hn
  · rw [List.mem_singleton] at ho; subst ho; exact hn'
theorem cat_rows2 (a : Option Addr) (c : Nat) (xs : List UInt8) (b : Option Addr) (c' : Nat) (ys : List UInt8) : cat (rows2 a c xs b c' ys) = xs ++ ys := by simp [cat, rows2]
set_option maxRecDepth 100000 in
set_option maxHeartbeats 8000000 in
theorem shaFollows_spec (R : HP) (a : Option Addr) (c : Nat) (xs : List UInt8) (b : Option Addr) (c' : Nat) (ys : List UInt8) (la : Option Addr) (lc : Nat) (l : List Hs) [hrx : Rd R a (xs.map bv)] (hx : xs.length ≤ 140737488351232) (hxc : xs.length ≤ c) (hxa : a = none → c = 0) [hry : Rd R b (ys.map bv)] (hy : ys.length ≤ 140737488351232) (hyc : ys.length ≤ c') (hyb : b = none → c' = 0) [hr : Rd R la (l.flatMap hc)] (hl : l.length * 32 ≤ 140737488351232) :
    Spec Try.prog 9 [.slice a xs.length c, .slice b ys.length c', .slice la l.length lc] R (fun _ : Unit => .bool true) (fun _ => R) := by
  refine spec_of Try.func9 rfl Try.ntmps9 rfl fun W0 => ?_
  have hfix := fun (R' : HP) => fixed_spec R'
  have hbey := fun (R' : HP) (g : Addr) (k : Nat) [hg : Rd R' (some g) [.slice a xs.length c, .slice b ys.length c']] [h1 : Rd R' a (xs.map bv)] [h2 : Rd R' b (ys.map bv)] => (beyondR_spec R' (some g) k (rows2 a c xs b c' ys) (rows2_ok hg h1 h2 hxc hyc hxa hyb) (by
    intro o ho
    unfold rows2 at ho
    rcases List.mem_cons.1 ho with rfl | ho
    · exact hx
    · rw [List.mem_singleton] at ho; subst ho; exact hy))
  rw [cat_rows2, List.length_append] at hbey
  focus
    refine ct_seq ?_
    (refine ct_region' rfl ?_; simp only [List.map, lite])
    (refine rg rfl (g_assign (by conv => lhs; whnf)) rfl rfl ?_)
    refine rt_nil ?_
    refine q_then ?_
    refine ct_seq ?_
    refine ct_seq ?_
    (refine ct_region' rfl ?_; simp only [List.map, lite])
    (refine rg rfl (g_move (by conv => lhs; whnf)) rfl rfl ?_)
    (refine rg rfl (g_move (by conv => lhs; whnf)) rfl rfl ?_)
    (refine rt_op (wants_none rfl) (o_buildN rfl (by simp only [ev, upd, updl, argl, nat_beq_def, Nat.reduceBEq, cond_true, cond_false, List.map_cons, List.map_nil]; rfl) rfl (by rfl) (by simp [fillL, Value.cells, List.range, List.range.loop]; rfl) fun b22 => ?_))
    (refine rt_op (wants_none rfl) (o_callE rfl rfl (Ent.refl _) (hbey _ _ _) fun i23 => ?_))
    refine rt_nil ?_
    refine q_then ?_
    refine ct_if rfl (fun h23 => ?_) (fun h23 => ?_)
    refine ct_seq ?_
    (refine ct_region' rfl ?_; simp only [List.map, lite])
    (refine rt_op (wants_none rfl) (o_callE rfl rfl (Ent.refl _) (hfix _) fun i24 => ?_))
    (refine rg rfl (g_assign (by conv => lhs; whnf)) rfl rfl ?_)
    refine rt_nil ?_
    refine q_then ?_
    refine ct_ret ?_
    refine q_then_ret ?_
    exact q_ret1 rfl rfl () rfl En.ent
    refine ct_skip ?_
    refine q_then ?_
    refine ct_seq ?_
    (refine ct_region' rfl ?_; simp only [List.map, lite])
    (refine rg rfl (g_move (by conv => lhs; whnf)) rfl rfl ?_)
    (refine rt_op (wants_none rfl) (o_appR rfl rfl rfl (by first | rfl | assumption | simp | (simp; omega)) (by first | rfl | exact bvsAll _ | exact wvs_all _ | assumption) (by rfl) (by rfl) ?_ (by first | with_reducible exact Nat.zero_add _ | exact rfl) (by first | with_reducible exact List.nil_append _ | exact List.map_append.symm | exact rfl) fun ad26 cap26 hc26 hn26 => ?_); (· (first | omega | decide)))
    (refine rg rfl (g_move (by conv => lhs; whnf)) rfl rfl ?_)
    (refine rt_op (wants_none rfl) (o_appR rfl rfl rfl (by first | rfl | assumption | simp | (simp; omega)) (by first | rfl | exact bvsAll _ | exact wvs_all _ | assumption) (by rfl) (by rfl) ?_ (by first | with_reducible exact Nat.zero_add _ | exact rfl) (by first | with_reducible exact List.nil_append _ | exact List.map_append.symm | exact rfl) fun ad28 cap28 hc28 hn28 => ?_); (· (first | omega | decide)))
    (refine rg rfl (g_assign (by conv => lhs; whnf)) rfl rfl ?_)
    refine rt_nil ?_
    refine q_then ?_
    refine ct_seq ?_
    (refine ct_region' rfl ?_; simp only [List.map, lite])
    (refine rg rfl (g_move (by conv => lhs; whnf)) rfl rfl ?_)
    rotate_left
  refine rt_ar ad28 fun _ n1 n2 _ => ?_
  have hal : (xs ++ ys).length = xs.length + ys.length := List.length_append
  have hof := fun (R' : HP) [Rd R' ad28 ((xs ++ ys).map bv)] => of_spec R' ad28 cap28 (xs ++ ys) (by omega) (by omega) (fun h => (n1 h).2)
  rw [hal] at hof
  have hw1 := fun (R' : HP) (d : Nat) [Rd R' a (xs.map bv)] => write_spec R' d [] xs a c (by simp; omega) hxc hxa
  rw [List.nil_append] at hw1
  have hw2 := fun (R' : HP) (d : Nat) [Rd R' b (ys.map bv)] => write_spec R' d xs ys b c' (by omega) hyc hyb
  have hsl1 := shaOf_len (xs ++ ys)
  have hsl2 := shaOf_len xs
  have hofx := fun (R' : HP) [Rd R' a (xs.map bv)] => of_spec R' a c xs (by omega) hxc hxa
  have hsm1 := fun (R' : HP) (d : Nat) => sum_spec R' d xs (by omega)
  have hsm2 := fun (R' : HP) (d : Nat) => sum_spec R' d (xs ++ ys) (by omega)
  have hsm3 := fun (R' : HP) (d : Nat) => sum_spec R' d [] (by simp)
  have hln1 := fun (R' : HP) (d : Nat) => len_spec R' d xs (by omega)
  have hln3 : ∀ (R' : HP) (d : Nat), Spec Try.prog 22 [.pointer (some ⟨d, 0, none⟩)] (DigA d [] * R') (fun _ : Unit => .int .i64 0) (fun _ => DigA d [] * R') := fun R' d => len_spec R' d [] (by simp)
  have hof0 := fun (R' : HP) => ofAll_nil R'
  have hoa := fun (R' : HP) (g : Addr) (k : Nat) [hg : Rd R' (some g) [.slice a xs.length c, .slice b ys.length c']] [h1 : Rd R' a (xs.map bv)] [h2 : Rd R' b (ys.map bv)] => ofAll_spec R' (some g) k (rows2 a c xs b c' ys) (rows2_ok hg h1 h2 hxc hyc hxa hyb) (by rw [cat_rows2]; omega)
  rw [cat_rows2] at hoa
  focus
    (refine rt_op (wants_none rfl) (o_callE rfl rfl (Ent.refl _) (hof _) fun i30 => ?_))
    (refine rt_op (wants_none rfl) (o_alloc rfl (by conv => lhs; whnf) fun b8 => ?_))
    (refine rt_op (wants_none rfl) (o_storeAgg rfl (by conv => lhs; whnf) (by first | exact List.toList_toArray | (conv => lhs; whnf)) (by first | rfl | exact bvsAll _ | exact wvs_all _ | assumption) (by first | rfl | assumption | (simp; done) | (simp; omega)) (by first | rfl | assumption | (simp; done) | (simp; omega)) ?_))
    refine rt_nil ?_
    refine q_then ?_
    refine ct_seq ?_
    (refine ct_region' rfl ?_; simp only [List.map, lite])
    (refine rt_op (wants_none rfl) (o_callE rfl rfl (Ent.refl _) (Go.Proofs.Ytmhddmenmkjdlaa.new_spec _) fun i31 => ?_))
    (refine rg rfl (g_assign (by conv => lhs; whnf)) rfl rfl ?_)
    refine rt_nil ?_
    refine q_then ?_
    refine ct_seq ?_
    refine ct_seq ?_
    (refine ct_region' rfl ?_; simp only [List.map, lite])
    (refine rg rfl (g_move (by conv => lhs; whnf)) rfl rfl ?_)
    (refine rg rfl (g_ptr_eq rfl) rfl rfl ?_)
    refine rt_nil ?_
    refine q_then ?_
    refine ct_false rfl ?_
    refine ct_skip ?_
    refine q_then ?_
    refine ct_seq ?_
    (refine ct_region' rfl ?_; simp only [List.map, lite])
    (refine rg rfl (g_move (by conv => lhs; whnf)) rfl rfl ?_)
    (refine rg rfl (g_move (by conv => lhs; whnf)) rfl rfl ?_)
    (refine rt_op (wants_none rfl) (o_callE rfl rfl (Ent.refl _) (hw1 _ _) fun i36 => ?_))
    refine rt_nil ?_
    refine q_then ?_
    refine ct_seq ?_
    (refine ct_region' rfl ?_; simp only [List.map, lite])
    (refine rg rfl (g_move (by conv => lhs; whnf)) rfl rfl ?_)
    (refine rt_op (wants_none rfl) (o_callE rfl rfl (Ent.refl _) (hsm1 _ _) fun i38 => ?_))
    (refine rt_op (wants_none rfl) (o_alloc rfl (by conv => lhs; whnf) fun b10 => ?_))
    (refine rt_op (wants_none rfl) (o_storeAgg rfl (by conv => lhs; whnf) (by first | exact List.toList_toArray | (conv => lhs; whnf)) (by first | rfl | exact bvsAll _ | exact wvs_all _ | assumption) (by first | rfl | assumption | (simp; done) | (simp; omega)) (by first | rfl | assumption | (simp; done) | (simp; omega)) ?_))
    refine rt_nil ?_
    refine q_then ?_
    refine ct_seq ?_
    (refine ct_region' rfl ?_; simp only [List.map, lite])
    (refine rg rfl (g_move (by conv => lhs; whnf)) rfl rfl ?_)
    (refine rt_op (wants_none rfl) (o_callE rfl rfl (ent_right (Ent.refl _)) (Go.Proofs.Ytmhddmenmkjdlaa.copy_spec _ _ _) fun i40 => ?_))
    (refine rg rfl (g_assign (by conv => lhs; whnf)) rfl rfl ?_)
    refine rt_nil ?_
    refine q_then ?_
    refine ct_seq ?_
    refine ct_seq ?_
    refine ct_quiet (by kernel_rfl) rfl ?_
    simp only [List.map, lite]
    (refine qg rfl (g_move (by conv => lhs; whnf)) rfl rfl ?_)
    (refine qg rfl (g_ptr_eq rfl) rfl rfl ?_)
    (refine qg rfl (g_move (by conv => lhs; whnf)) rfl rfl ?_)
    (refine qgw rfl rfl rfl rfl (g_loadAgg_blk rfl (by first | rfl | assumption | (simp; done) | (simp; omega))) rfl rfl ?_)
    (refine qgw rfl rfl rfl rfl (g_move (by conv => lhs; whnf)) rfl rfl ?_)
    (refine rq_callE (wants_some rfl rfl rfl rfl) rfl rfl (Ent.refl _) (hofx _) (fun _ => rfl) (fun _ => En.ent) ?_)
    (refine qgw rfl rfl rfl rfl (g_neHF rfl rfl (by kernel_rfl) (by first | rfl | assumption | (simp; done) | (simp; omega)) ?_) rfl rfl ?_; (· (first | rfl | assumption)))
    (refine qg rfl (g_pick_f rfl (by conv => lhs; whnf)) rfl rfl ?_)
    (refine qg rfl (g_move (by conv => lhs; whnf)) rfl rfl ?_)
    (refine qgw rfl rfl rfl rfl (g_move (by conv => lhs; whnf)) rfl rfl ?_)
    (refine rq_callE (wants_some rfl rfl rfl rfl) rfl rfl (ent_right (Ent.refl _)) (hln1 _ _) (fun _ => rfl) (fun _ => En.ent) ?_)
    (refine qgw rfl rfl rfl rfl (g_move (by conv => lhs; whnf)) rfl rfl ?_)
    (refine qgw rfl rfl rfl rfl (g_len_slice rfl) rfl rfl ?_)
    (refine qgw rfl rfl rfl rfl (g_neqF rfl rfl ?_) rfl rfl ?_; (· (omega)))
    (refine qg rfl (g_pick_f rfl (by conv => lhs; whnf)) rfl rfl ?_)
    refine rq_nil ?_
    refine q_then ?_
    refine ct_false rfl ?_
    refine ct_skip ?_
    refine q_then ?_
    refine ct_seq ?_
    (refine ct_region' rfl ?_; simp only [List.map, lite])
    (refine rg rfl (g_move (by conv => lhs; whnf)) rfl rfl ?_)
    (refine rg rfl (g_move (by conv => lhs; whnf)) rfl rfl ?_)
    (refine rt_op (wants_none rfl) (o_callE rfl rfl (ent_right (Ent.refl _)) (hw2 _ _) fun i58 => ?_))
    refine rt_nil ?_
    refine q_then ?_
    refine ct_seq ?_
    refine ct_seq ?_
    rotate_left
  refine ct_any (DigA i31 (xs ++ ys) * (DigA i40 xs * (Blk b10 ((shaOf xs).map bv) 23 * (Blk b8 ((shaOf (xs ++ ys)).map bv) 23 * R)))) 18 ?_
  focus
    (refine any_take 0 rfl (by kernel_rfl) (by first | exact Ent.refl _ | exact En.ent) (wants_none rfl) (g_move (by conv => lhs; whnf)) rfl rfl ?_)
    (refine any_take 2 rfl (by kernel_rfl) (by first | exact Ent.refl _ | exact En.ent) (wants_none rfl) (g_loadAgg_blk rfl (by first | rfl | assumption | (simp; done) | (simp; omega))) rfl rfl ?_)
    (refine any_one 1 (by kernel_rfl) rfl (wants_none rfl) (o_callE rfl rfl (Ent.refl _) (hsm2 _ _) fun i60 => ⟨.inr (by first | exact Ent.refl _ | exact En.ent), ?_⟩))
    (refine any_take 3 rfl (by kernel_rfl) (by first | exact Ent.refl _ | exact En.ent) (wants_none rfl) (g_neHF rfl rfl (by kernel_rfl) (by first | rfl | assumption | (simp; done) | (simp; omega)) ?_) rfl rfl ?_; (· (first | rfl | assumption)))
    (refine any_take 4 rfl (by kernel_rfl) (by first | exact Ent.refl _ | exact En.ent) (wants_none rfl) (g_move (by conv => lhs; whnf)) rfl rfl ?_)
    (refine any_take 5 rfl (by kernel_rfl) (by first | exact Ent.refl _ | exact En.ent) (wants_some rfl rfl rfl rfl) (g_move (by conv => lhs; whnf)) rfl rfl ?_)
    (refine any_take 6 rfl (by kernel_rfl) (by first | exact Ent.refl _ | exact En.ent) (wants_some rfl rfl rfl rfl) (g_move (by conv => lhs; whnf)) rfl rfl ?_)
    (refine any_take 9 rfl (by kernel_rfl) (by first | exact Ent.refl _ | exact En.ent) (wants_some rfl rfl rfl rfl) (g_loadAgg_blk rfl (by first | rfl | assumption | (simp; done) | (simp; omega))) rfl rfl ?_)
    (refine any_one 7 (by kernel_rfl) rfl (wants_some rfl rfl rfl rfl) (o_buildN rfl (by simp only [ev, upd, updl, argl, nat_beq_def, Nat.reduceBEq, cond_true, cond_false, List.map_cons, List.map_nil]; rfl) rfl (by rfl) (by simp [fillL, Value.cells, List.range, List.range.loop]; rfl) fun b66 => ⟨.inr (by first | exact Ent.refl _ | exact En.ent), ?_⟩))
    (refine any_one 8 (by kernel_rfl) rfl (wants_some rfl rfl rfl rfl) (o_callE rfl rfl (Ent.refl _) (hoa _ _ _) fun i67 => ⟨.inr (by first | exact Ent.refl _ | exact En.ent), ?_⟩))
    (refine any_take 10 rfl (by kernel_rfl) (by first | exact Ent.refl _ | exact En.ent) (wants_some rfl rfl rfl rfl) (g_neHF rfl rfl (by kernel_rfl) (by first | rfl | assumption | (simp; done) | (simp; omega)) ?_) rfl rfl ?_; (· (first | rfl | assumption)))
    (refine any_take 11 rfl (by kernel_rfl) (by first | exact Ent.refl _ | exact En.ent) (wants_none rfl) (g_pick_f rfl (by conv => lhs; whnf)) rfl rfl ?_)
    (refine any_take 12 rfl (by kernel_rfl) (by first | exact Ent.refl _ | exact En.ent) (wants_none rfl) (g_move (by conv => lhs; whnf)) rfl rfl ?_)
    (refine any_take 13 rfl (by kernel_rfl) (by first | exact Ent.refl _ | exact En.ent) (wants_some rfl rfl rfl rfl) (g_move (by conv => lhs; whnf)) rfl rfl ?_)
    (refine any_take 15 rfl (by kernel_rfl) (by first | exact Ent.refl _ | exact En.ent) (wants_some rfl rfl rfl rfl) (g_loadAgg_blk rfl (by first | rfl | assumption | (simp; done) | (simp; omega))) rfl rfl ?_)
    (refine any_one 14 (by kernel_rfl) rfl (wants_some rfl rfl rfl rfl) (o_callE rfl rfl (ent_right (ent_right (Ent.refl _))) (hsm1 _ _) fun i73 => ⟨.inr (by first | exact Ent.refl _ | exact En.ent), ?_⟩))
    (refine any_take 16 rfl (by kernel_rfl) (by first | exact Ent.refl _ | exact En.ent) (wants_some rfl rfl rfl rfl) (g_neHF rfl rfl (by kernel_rfl) (by first | rfl | assumption | (simp; done) | (simp; omega)) ?_) rfl rfl ?_; (· (first | rfl | assumption)))
    (refine any_take 17 rfl (by kernel_rfl) (by first | exact Ent.refl _ | exact En.ent) (wants_none rfl) (g_pick_f rfl (by conv => lhs; whnf)) rfl rfl ?_)
    refine any_done (by kernel_rfl) ?_
    refine q_then ?_
    refine ct_false rfl ?_
    refine ct_skip ?_
    refine q_then ?_
    refine ct_seq ?_
    (refine ct_region' rfl ?_; simp only [List.map, lite])
    (refine rg rfl (g_move (by conv => lhs; whnf)) rfl rfl ?_)
    (refine rg rfl (g_move (by conv => lhs; whnf)) rfl rfl ?_)
    (refine rt_op (wants_none rfl) (o_callE rfl rfl (Ent.refl _) (hw2 _ _) fun i79 => ?_))
    refine rt_nil ?_
    refine q_then ?_
    refine ct_seq ?_
    (refine ct_region' rfl ?_; simp only [List.map, lite])
    (refine rg rfl (g_move (by conv => lhs; whnf)) rfl rfl ?_)
    (refine rt_op (wants_none rfl) (o_callE rfl rfl (ent_right (ent_right (Ent.refl _))) (Go.Proofs.Ytmhddmenmkjdlaa.reset_spec _ _ _) fun i81 => ?_))
    refine rt_nil ?_
    refine q_then ?_
    refine ct_seq ?_
    refine ct_seq ?_
    refine ct_quiet (by kernel_rfl) rfl ?_
    simp only [List.map, lite]
    (refine qg rfl (g_move (by conv => lhs; whnf)) rfl rfl ?_)
    (refine rq_callE (wants_none rfl) rfl rfl (ent_right (Ent.refl _)) (hsm2 _ _) (fun _ => rfl) (fun _ => En.ent) ?_)
    (refine qg rfl (g_loadAgg_blk rfl (by first | rfl | assumption | (simp; done) | (simp; omega))) rfl rfl ?_)
    (refine qg rfl (g_neHF rfl rfl (by kernel_rfl) (by first | rfl | assumption | (simp; done) | (simp; omega)) ?_) rfl rfl ?_; (· (first | rfl | assumption)))
    (refine qg rfl (g_move (by conv => lhs; whnf)) rfl rfl ?_)
    (refine qgw rfl rfl rfl rfl (g_move (by conv => lhs; whnf)) rfl rfl ?_)
    (refine rq_callE (wants_some rfl rfl rfl rfl) rfl rfl (Ent.refl _) (hln3 _ _) (fun _ => rfl) (fun _ => En.ent) ?_)
    (refine qgw rfl rfl rfl rfl (g_neqF rfl rfl ?_) rfl rfl ?_; (· (omega)))
    (refine qg rfl (g_pick_f rfl (by conv => lhs; whnf)) rfl rfl ?_)
    (refine qg rfl (g_move (by conv => lhs; whnf)) rfl rfl ?_)
    (refine qgw rfl rfl rfl rfl (g_move (by conv => lhs; whnf)) rfl rfl ?_)
    (refine rq_callE (wants_some rfl rfl rfl rfl) rfl rfl (Ent.refl _) (hsm3 _ _) (fun _ => rfl) (fun _ => En.ent) ?_)
    (refine rq_callE (wants_some rfl rfl rfl rfl) rfl rfl (Ent.refl _) (hof0 _) (fun _ => rfl) (fun _ => En.ent) ?_)
    (refine qgw rfl rfl rfl rfl (g_neHF rfl rfl (by kernel_rfl) (by first | rfl | assumption | (simp; done) | (simp; omega)) ?_) rfl rfl ?_; (· (first | rfl | assumption)))
    (refine qg rfl (g_pick_f rfl (by conv => lhs; whnf)) rfl rfl ?_)
    refine rq_nil ?_
    refine q_then ?_
    refine ct_false rfl ?_
    refine ct_skip ?_
    refine q_then ?_
    refine ct_seq ?_
    (refine ct_region' rfl ?_; simp only [List.map, lite])
    (refine rg rfl (g_loadAgg_blk rfl (by first | rfl | assumption | (simp; done) | (simp; omega))) rfl rfl ?_)
    (refine rg rfl (g_loadAgg_blk rfl (by first | rfl | assumption | (simp; done) | (simp; omega))) rfl rfl ?_)
    (refine rt_op (wants_none rfl) (o_buildH2 (h := ⟨shaOf (xs ++ ys), shaOf_len _⟩) (g := ⟨shaOf xs, shaOf_len _⟩) rfl rfl rfl rfl fun b99 => ?_))
    (refine rg rfl (g_move (by conv => lhs; whnf)) rfl rfl ?_)
    rotate_left
  refine rt_ent (B := Arr 23 32 (some ⟨b99, 0, none⟩) 2 2 (([⟨shaOf (xs ++ ys), shaOf_len _⟩, ⟨shaOf xs, shaOf_len _⟩] : List Hs).flatMap hc) * R) ?_ ((Ent.mul (blk_arr 32 2 (hs_len _) (by decide)) (Ent.refl _)).trans (by exact En.ent))
  focus
    (refine rt_op (wants_none rfl) (o_appHs rfl rfl rfl (by first | rfl | assumption | (simp; done) | (simp; omega)) (by rfl) ?_ (by first | with_reducible exact Nat.zero_add _ | exact rfl) rfl fun ad101 cap101 hc101 hn101 => ?_); (· (first | omega | decide)))
    (refine rg rfl (g_assign (by conv => lhs; whnf)) rfl rfl ?_)
    refine rt_nil ?_
    refine q_then ?_
    refine ct_seq ?_
    (refine ct_region' rfl ?_; simp only [List.map, lite])
    (refine rg rfl (g_move (by conv => lhs; whnf)) rfl rfl ?_)
    rotate_left
  generalize hLe : ([⟨shaOf (xs ++ ys), shaOf_len _⟩, ⟨shaOf xs, shaOf_len _⟩] ++ l : List Hs) = L
  have hL : L.length = 2 + l.length := by rw [← hLe]; simp; omega
  rw [← hL]
  clear hLe hof hw1 hw2 hofx hsm1 hsm2 hsm3 hln1 hln3 hof0 hoa hbey
  have hso := fun (R' : HP) [Rd R' ad101 (L.flatMap hc)] => sort_spec R' ad101 cap101 L (by omega)
  have hsn := sortS_len L
  focus
    (refine rt_op (wants_none rfl) (o_callE rfl rfl (Ent.refl _) (hso _) fun i103 => ?_))
    (refine rg rfl (g_assign (by conv => lhs; whnf)) rfl rfl ?_)
    refine rt_nil ?_
    refine q_then ?_
    refine ct_seq ?_
    refine ct_seq ?_
    (refine ct_region' rfl ?_; simp only [List.map, lite])
    (refine rg rfl (g_move (by conv => lhs; whnf)) rfl rfl ?_)
    rotate_left
  obtain ⟨⟨sa, sc⟩, ⟨sr, hsr⟩⟩ := i103
  dsimp only at hsr ⊢
  have hri : ∀ (R' : HP) [h : Rd R' sa ((sortS L ++ sr).flatMap hc)], Spec Try.prog 32 [.slice sa (sortS L).length (sortS L).length] R' (fun _ : Unit => .bool true) (fun _ => R') := fun R' h => by
    have := @rising_spec R' sa (sortS L).length (sortS L) h.preH (by omega)
    rwa [(rises_iff _).2 (sortS_rises L)] at this
  focus
    (refine rt_op (wants_none rfl) (o_callE rfl rfl (Ent.refl _) (hri _) fun i105 => ?_))
    (refine rg rfl (g_notT rfl) rfl rfl ?_)
    (refine rg rfl (g_move (by conv => lhs; whnf)) rfl rfl ?_)
    (refine rgw rfl rfl rfl rfl (g_move (by conv => lhs; whnf)) rfl rfl ?_)
    (refine rgw rfl rfl rfl rfl (g_len_slice rfl) rfl rfl ?_)
    (refine rgw rfl rfl rfl rfl (g_move (by conv => lhs; whnf)) rfl rfl ?_)
    (refine rgw rfl rfl rfl rfl (g_len_slice rfl) rfl rfl ?_)
    (refine rgw rfl rfl rfl rfl (g_gtrF rfl rfl ?_) rfl rfl ?_; (· (omega)))
    (refine rg rfl (g_pick_f rfl (by conv => lhs; whnf)) rfl rfl ?_)
    refine rt_nil ?_
    refine q_then ?_
    refine ct_false rfl ?_
    refine ct_skip ?_
    refine q_then ?_
    refine ct_seq ?_
    refine ct_seq ?_
    (refine ct_region' rfl ?_; simp only [List.map, lite])
    (refine rg rfl (g_assign (by conv => lhs; whnf)) rfl rfl ?_)
    refine rt_nil ?_
    refine q_then ?_
    refine ct_block ?_
    rotate_left
  have hix : ∀ (R' : HP) (x : Hs) [h : Rd R' sa ((sortS L ++ sr).flatMap hc)], Spec Try.prog 36 [.slice sa (sortS L).length (sortS L).length, .agg (hc x).toArray] R' (fun i : { i : Int // IdxH (sortS L) x i } => .int .i64 i.1) (fun _ => R') := fun R' x h => @indexR_spec R' sa (sortS L).length (sortS L) x h.preH (by omega)
  refine ct_loop (ι := { i : Nat // i ≤ L.length }) (fun i => [(2, .slice ad101 L.length cap101), (12, .slice sa (sortS L).length (sortS L).length), (13, .int .i64 (i.1 : Int))]) (fun _ => Arr 23 32 sa sc L.length ((sortS L ++ sr).flatMap hc) * (Arr 23 32 ad101 cap101 L.length (L.flatMap hc) * R)) (fun i => L.length - i.1) ⟨0, Nat.zero_le _⟩ ⟨rfl, rfl, rfl, trivial⟩ (Ent.refl _) fun i ρ' => ?_
  obtain ⟨i, hi⟩ := i
  dsimp only at hi ⊢
  by_cases h : i < L.length
  · have e1 : L[i].1.length = 32 := L[i].2
    have e0 : (L[0]'(by omega)).1.length = 32 := (L[0]'(by omega)).2
    have hps : ∀ (R' : HP), Spec Try.prog 23 [.string ⟨(printS L[i].1).toArray⟩] R' (fun _ : Unit => .tuple #[.agg (hc L[i]).toArray, .int .i64 0]) (fun _ => R') := fun R' => by
      have := parse_spec R' ⟨(printS L[i].1).toArray⟩
      have e : parseS (ByteArray.mk (printS L[i].1).toArray).data.toList = (L[i].1, 0) := parse_print L[i].1 e1
      rwa [e] at this
    have c1 := fun (R' : HP) => compare_spec R' L[i] (L[0]'(by omega))
    have c2 := fun (R' : HP) => compare_spec R' (L[0]'(by omega)) L[i]
    have cn := cmpH_neg L[i] (L[0]'(by omega))
    have cr : -1 ≤ cmpH L[i] (L[0]'(by omega)) ∧ cmpH L[i] (L[0]'(by omega)) ≤ 1 := by rcases cmpH_range L[i] (L[0]'(by omega)) with e | e | e <;> omega
    rw [cn] at c2
    have hml := (mem_sortS L L[i]).2 (List.getElem_mem h)
    focus
      refine ct_seq ?_
      refine ct_seq ?_
      (refine ct_region' rfl ?_; simp only [List.map, lite])
      (refine rg rfl (g_move (by conv => lhs; whnf)) rfl rfl ?_)
      (refine rg rfl (g_move (by conv => lhs; whnf)) rfl rfl ?_)
      (refine rg rfl (g_len_slice rfl) rfl rfl ?_)
      (refine rg rfl (g_lssT rfl rfl ?_) rfl rfl ?_; (· (omega)))
      refine rt_nil ?_
      refine q_then ?_
      refine ct_true rfl ?_
      refine ct_skip ?_
      refine q_then ?_
      refine ct_seq ?_
      refine ct_block ?_
      refine ct_seq ?_
      (refine ct_region' rfl ?_; simp only [List.map, lite])
      (refine rg rfl (g_move (by conv => lhs; whnf)) rfl rfl ?_)
      (refine rg rfl (g_move (by conv => lhs; whnf)) rfl rfl ?_)
      (refine rg rfl (g_elemH rfl rfl ?_ ?_) rfl rfl ?_; (· (first | omega | decide)); (· (first | omega | decide | (exact pos_of_get (by assumption)) | (simp only [List.length_map, List.length_append, List.length_replicate, List.length_set, List.length_cons, List.length_nil]; omega) | (simp; omega))))
      (refine rg rfl (g_loadH rfl ?_) rfl rfl ?_; (· (first | omega | decide | (exact pos_of_get (by assumption)) | (simp only [List.length_map, List.length_append, List.length_replicate, List.length_set, List.length_cons, List.length_nil]; omega) | (simp; omega))))
      (refine rt_op (wants_none rfl) (o_callE rfl rfl (Ent.refl _) (Go.Proofs.Ytmhddmenmkjdlaa.print_spec _ _ ?_) fun i124 => ?_); (· (first | assumption | omega | rfl | decide | infer_instance | (simp; done) | (simp; omega) | (simp only [*]; done))))
      (refine rg rfl (g_assign (by conv => lhs; whnf)) rfl rfl ?_)
      refine rt_nil ?_
      refine q_then ?_
      refine ct_seq ?_
      (refine ct_region' rfl ?_; simp only [List.map, lite])
      (refine rg rfl (g_move (by conv => lhs; whnf)) rfl rfl ?_)
      (refine rg rfl (g_elemH rfl rfl ?_ ?_) rfl rfl ?_; (· (first | omega | decide)); (· (first | omega | decide | (exact pos_of_get (by assumption)) | (simp only [List.length_map, List.length_append, List.length_replicate, List.length_set, List.length_cons, List.length_nil]; omega) | (simp; omega))))
      (refine rg rfl (g_loadH rfl ?_) rfl rfl ?_; (· (first | omega | decide | (exact pos_of_get (by assumption)) | (simp only [List.length_map, List.length_append, List.length_replicate, List.length_set, List.length_cons, List.length_nil]; omega) | (simp; omega))))
      (refine rt_op (wants_none rfl) (o_callE rfl rfl (Ent.refl _) (Go.Proofs.Ytmhddmenmkjdlaa.print_spec _ _ ?_) fun i128 => ?_); (· (first | assumption | omega | rfl | decide | infer_instance | (simp; done) | (simp; omega) | (simp only [*]; done))))
      (refine rg rfl (g_assign (by conv => lhs; whnf)) rfl rfl ?_)
      refine rt_nil ?_
      refine q_then ?_
      refine ct_seq ?_
      (refine ct_region' rfl ?_; simp only [List.map, lite])
      (refine rg rfl (g_move (by conv => lhs; whnf)) rfl rfl ?_)
      (refine rt_op (wants_none rfl) (o_callE rfl rfl (Ent.refl _) (hps _) fun i131 => ?_))
      (refine rg rfl (g_move (by conv => lhs; whnf)) rfl rfl ?_)
      (refine rg rfl (g_extract rfl (by conv => lhs; whnf)) rfl rfl ?_)
      (refine rg rfl (g_extract rfl (by conv => lhs; whnf)) rfl rfl ?_)
      (refine rt_op (wants_none rfl) (o_alloc rfl (by conv => lhs; whnf) fun b16 => ?_))
      (refine rt_op (wants_none rfl) (o_storeAgg rfl (by conv => lhs; whnf) (by first | exact List.toList_toArray | (conv => lhs; whnf)) (by first | rfl | exact bvsAll _ | exact wvs_all _ | assumption) (by first | rfl | assumption | (simp; done) | (simp; omega)) (by first | rfl | assumption | (simp; done) | (simp; omega)) ?_))
      (refine rg rfl (g_assign (by conv => lhs; whnf)) rfl rfl ?_)
      refine rt_nil ?_
      refine q_then ?_
      refine ct_seq ?_
      refine ct_quiet (by kernel_rfl) rfl ?_
      simp only [List.map, lite]
      (refine qg rfl (g_move (by conv => lhs; whnf)) rfl rfl ?_)
      (refine qg rfl (g_move (by conv => lhs; whnf)) rfl rfl ?_)
      (refine qg rfl (g_elemH rfl rfl ?_ ?_) rfl rfl ?_; (· (first | omega | decide)); (· (first | omega | decide | (exact pos_of_get (by assumption)) | (simp only [List.length_map, List.length_append, List.length_replicate, List.length_set, List.length_cons, List.length_nil]; omega) | (simp; omega))))
      (refine qg rfl (g_loadH rfl ?_) rfl rfl ?_; (· (first | omega | decide | (exact pos_of_get (by assumption)) | (simp only [List.length_map, List.length_append, List.length_replicate, List.length_set, List.length_cons, List.length_nil]; omega) | (simp; omega))))
      (refine qg rfl (g_move (by conv => lhs; whnf)) rfl rfl ?_)
      (refine qg rfl (g_elemH rfl rfl ?_ ?_) rfl rfl ?_; (· (first | omega | decide)); (· (first | omega | decide | (exact pos_of_get (by assumption)) | (simp only [List.length_map, List.length_append, List.length_replicate, List.length_set, List.length_cons, List.length_nil]; omega) | (simp; omega))))
      (refine qg rfl (g_loadH rfl ?_) rfl rfl ?_; (· (first | omega | decide | (exact pos_of_get (by assumption)) | (simp only [List.length_map, List.length_append, List.length_replicate, List.length_set, List.length_cons, List.length_nil]; omega) | (simp; omega))))
      (refine rq_callE (wants_none rfl) rfl rfl (Ent.refl _) (c1 _) (fun _ => rfl) (fun _ => En.ent) ?_)
      (refine qg rfl (g_assign (by conv => lhs; whnf)) rfl rfl ?_)
      refine rq_nil ?_
      refine q_then ?_
      refine ct_seq ?_
      refine ct_tail 50 (by kernel_rfl) rfl ?_
      simp only [List.map, lite, List.take, List.drop]
      (refine qg rfl (g_move (by conv => lhs; whnf)) rfl rfl ?_)
      (refine qg rfl (g_neqF rfl rfl ?_) rfl rfl ?_; (· (omega)))
      (refine qg rfl (g_move (by conv => lhs; whnf)) rfl rfl ?_)
      (refine qgw rfl rfl rfl rfl (g_loadAgg_blk rfl (by first | rfl | assumption | (simp; done) | (simp; omega))) rfl rfl ?_)
      (refine qgw rfl rfl rfl rfl (g_move (by conv => lhs; whnf)) rfl rfl ?_)
      (refine qgw rfl rfl rfl rfl (g_move (by conv => lhs; whnf)) rfl rfl ?_)
      (refine qgw rfl rfl rfl rfl (g_elemH rfl rfl ?_ ?_) rfl rfl ?_; (· (first | omega | decide)); (· (first | omega | decide | (exact pos_of_get (by assumption)) | (simp only [List.length_map, List.length_append, List.length_replicate, List.length_set, List.length_cons, List.length_nil]; omega) | (simp; omega))))
      (refine qgw rfl rfl rfl rfl (g_loadH rfl ?_) rfl rfl ?_; (· (first | omega | decide | (exact pos_of_get (by assumption)) | (simp only [List.length_map, List.length_append, List.length_replicate, List.length_set, List.length_cons, List.length_nil]; omega) | (simp; omega))))
      (refine qgw rfl rfl rfl rfl (g_neHF rfl rfl (by kernel_rfl) (by first | rfl | assumption | (simp; done) | (simp; omega)) ?_) rfl rfl ?_; (· (first | rfl | assumption)))
      (refine qg rfl (g_pick_f rfl (by conv => lhs; whnf)) rfl rfl ?_)
      (refine qg rfl (g_move (by conv => lhs; whnf)) rfl rfl ?_)
      (refine qgw rfl rfl rfl rfl (g_move (by conv => lhs; whnf)) rfl rfl ?_)
      (refine qgw rfl rfl rfl rfl (g_move (by conv => lhs; whnf)) rfl rfl ?_)
      (refine qgw rfl rfl rfl rfl (g_elemH rfl rfl ?_ ?_) rfl rfl ?_; (· (first | omega | decide)); (· (first | omega | decide | (exact pos_of_get (by assumption)) | (simp only [List.length_map, List.length_append, List.length_replicate, List.length_set, List.length_cons, List.length_nil]; omega) | (simp; omega))))
      (refine qgw rfl rfl rfl rfl (g_loadH rfl ?_) rfl rfl ?_; (· (first | omega | decide | (exact pos_of_get (by assumption)) | (simp only [List.length_map, List.length_append, List.length_replicate, List.length_set, List.length_cons, List.length_nil]; omega) | (simp; omega))))
      (refine qgw rfl rfl rfl rfl (g_move (by conv => lhs; whnf)) rfl rfl ?_)
      (refine qgw rfl rfl rfl rfl (g_move (by conv => lhs; whnf)) rfl rfl ?_)
      (refine qgw rfl rfl rfl rfl (g_elemH rfl rfl ?_ ?_) rfl rfl ?_; (· (first | omega | decide)); (· (first | omega | decide | (exact pos_of_get (by assumption)) | (simp only [List.length_map, List.length_append, List.length_replicate, List.length_set, List.length_cons, List.length_nil]; omega) | (simp; omega))))
      (refine qgw rfl rfl rfl rfl (g_loadH rfl ?_) rfl rfl ?_; (· (first | omega | decide | (exact pos_of_get (by assumption)) | (simp only [List.length_map, List.length_append, List.length_replicate, List.length_set, List.length_cons, List.length_nil]; omega) | (simp; omega))))
      (refine rq_callE (wants_some rfl rfl rfl rfl) rfl rfl (Ent.refl _) (c2 _) (fun _ => rfl) (fun _ => En.ent) ?_)
      (refine qgw rfl rfl rfl rfl (g_negN rfl ?_) rfl rfl ?_; (· (constructor <;> omega)))
      (refine qgw rfl rfl rfl rfl (g_neqF rfl rfl ?_) rfl rfl ?_; (· (omega)))
      (refine qg rfl (g_pick_f rfl (by conv => lhs; whnf)) rfl rfl ?_)
      (refine qg rfl (g_move (by conv => lhs; whnf)) rfl rfl ?_)
      (refine qgw rfl rfl rfl rfl (g_move (by conv => lhs; whnf)) rfl rfl ?_)
      (refine qgw rfl rfl rfl rfl (g_lss rfl rfl) rfl rfl ?_)
      (refine qgw rfl rfl rfl rfl (g_move (by conv => lhs; whnf)) rfl rfl ?_)
      (refine qgw rfl rfl rfl rfl (g_move (by conv => lhs; whnf)) rfl rfl ?_)
      (refine qgw rfl rfl rfl rfl (g_lssPrint rfl rfl (by rw [e1, e0])) rfl rfl ?_)
      (refine qgw rfl rfl rfl rfl (g_neb rfl rfl) rfl rfl ?_)
      (refine qg rfl (g_pick_f rfl (by conv => lhs; whnf)) rfl rfl ?_)
      (refine qg rfl (g_move (by conv => lhs; whnf)) rfl rfl ?_)
      refine rq_splitB 173 rfl (fun h173 => ?_) (fun h173 => ?_)
      refine qgs rfl rfl rfl rfl rfl rfl ?_
      refine qgs rfl rfl rfl rfl rfl rfl ?_
      refine qgs rfl rfl rfl rfl rfl rfl ?_
      refine qgs rfl rfl rfl rfl rfl rfl ?_
      refine qgs rfl rfl rfl rfl rfl rfl ?_
      refine qgs rfl rfl rfl rfl rfl rfl ?_
      refine qgs rfl rfl rfl rfl rfl rfl ?_
      refine qgs rfl rfl rfl rfl rfl rfl ?_
      refine qgs rfl rfl rfl rfl rfl rfl ?_
      refine qgs rfl rfl rfl rfl rfl rfl ?_
      refine qgs rfl rfl rfl rfl rfl rfl ?_
      (refine qg rfl (g_pick_t rfl (by conv => lhs; whnf)) rfl rfl ?_)
      (refine qg rfl (g_move (by conv => lhs; whnf)) rfl rfl ?_)
      refine qgs rfl rfl rfl rfl rfl rfl ?_
      refine qgs rfl rfl rfl rfl rfl rfl ?_
      refine qgs rfl rfl rfl rfl rfl rfl ?_
      refine qgs rfl rfl rfl rfl rfl rfl ?_
      refine qgs rfl rfl rfl rfl rfl rfl ?_
      refine rq_tail ?_
      refine rgs rfl rfl rfl rfl rfl rfl ?_
      refine rgs rfl rfl rfl rfl rfl rfl ?_
      (refine rg rfl (g_pick_t rfl (by conv => lhs; whnf)) rfl rfl ?_)
      refine rt_nil ?_
      refine q_then ?_
      refine ct_true rfl ?_
      refine ct_seq ?_
      (refine ct_region' rfl ?_; simp only [List.map, lite])
      (refine rg rfl (g_assign (by conv => lhs; whnf)) rfl rfl ?_)
      refine rt_nil ?_
      refine q_then ?_
      refine ct_ret ?_
      refine q_block_ret ?_
      refine q_then_ret ?_
      refine q_then_ret ?_
      refine q_block_ret ?_
      refine q_then_ret ?_
      rotate_left
      (refine qgw rfl rfl rfl rfl (g_move (by conv => lhs; whnf)) rfl rfl ?_)
      (refine qgw rfl rfl rfl rfl (g_eql rfl rfl) rfl rfl ?_)
      (refine qgw rfl rfl rfl rfl (g_move (by conv => lhs; whnf)) rfl rfl ?_)
      (refine qgw rfl rfl rfl rfl (g_move (by conv => lhs; whnf)) rfl rfl ?_)
      (refine qgw rfl rfl rfl rfl (g_elemH rfl rfl ?_ ?_) rfl rfl ?_; (· (first | omega | decide)); (· (first | omega | decide | (exact pos_of_get (by assumption)) | (simp only [List.length_map, List.length_append, List.length_replicate, List.length_set, List.length_cons, List.length_nil]; omega) | (simp; omega))))
      (refine qgw rfl rfl rfl rfl (g_loadH rfl ?_) rfl rfl ?_; (· (first | omega | decide | (exact pos_of_get (by assumption)) | (simp only [List.length_map, List.length_append, List.length_replicate, List.length_set, List.length_cons, List.length_nil]; omega) | (simp; omega))))
      (refine qgw rfl rfl rfl rfl (g_move (by conv => lhs; whnf)) rfl rfl ?_)
      (refine qgw rfl rfl rfl rfl (g_elemH rfl rfl ?_ ?_) rfl rfl ?_; (· (first | omega | decide)); (· (first | omega | decide | (exact pos_of_get (by assumption)) | (simp only [List.length_map, List.length_append, List.length_replicate, List.length_set, List.length_cons, List.length_nil]; omega) | (simp; omega))))
      (refine qgw rfl rfl rfl rfl (g_loadH rfl ?_) rfl rfl ?_; (· (first | omega | decide | (exact pos_of_get (by assumption)) | (simp only [List.length_map, List.length_append, List.length_replicate, List.length_set, List.length_cons, List.length_nil]; omega) | (simp; omega))))
      (refine qgw rfl rfl rfl rfl (g_eqH rfl rfl (by kernel_rfl) (by first | rfl | assumption | (simp; done) | (simp; omega)) (by first | rfl | assumption | (simp; done) | (simp; omega))) rfl rfl ?_)
      (refine qgw rfl rfl rfl rfl (g_neb rfl rfl) rfl rfl ?_)
      (refine qg rfl (g_pick_f rfl (by conv => lhs; whnf)) rfl rfl ?_)
      (refine qg rfl (g_move (by conv => lhs; whnf)) rfl rfl ?_)
      refine rq_splitB 186 rfl (fun h186 => ?_) (fun h186 => ?_)
      refine qgs rfl rfl rfl rfl rfl rfl ?_
      refine qgs rfl rfl rfl rfl rfl rfl ?_
      refine qgs rfl rfl rfl rfl rfl rfl ?_
      refine qgs rfl rfl rfl rfl rfl rfl ?_
      refine qgs rfl rfl rfl rfl rfl rfl ?_
      refine rq_tail ?_
      refine rgs rfl rfl rfl rfl rfl rfl ?_
      refine rgs rfl rfl rfl rfl rfl rfl ?_
      (refine rg rfl (g_pick_t rfl (by conv => lhs; whnf)) rfl rfl ?_)
      refine rt_nil ?_
      refine q_then ?_
      refine ct_true rfl ?_
      refine ct_seq ?_
      (refine ct_region' rfl ?_; simp only [List.map, lite])
      (refine rg rfl (g_assign (by conv => lhs; whnf)) rfl rfl ?_)
      refine rt_nil ?_
      refine q_then ?_
      refine ct_ret ?_
      refine q_block_ret ?_
      refine q_then_ret ?_
      refine q_then_ret ?_
      refine q_block_ret ?_
      refine q_then_ret ?_
      rotate_left
      (refine qgw rfl rfl rfl rfl (g_move (by conv => lhs; whnf)) rfl rfl ?_)
      (refine qgw rfl rfl rfl rfl (g_move (by conv => lhs; whnf)) rfl rfl ?_)
      (refine qgw rfl rfl rfl rfl (g_move (by conv => lhs; whnf)) rfl rfl ?_)
      (refine qgw rfl rfl rfl rfl (g_elemH rfl rfl ?_ ?_) rfl rfl ?_; (· (first | omega | decide)); (· (first | omega | decide | (exact pos_of_get (by assumption)) | (simp only [List.length_map, List.length_append, List.length_replicate, List.length_set, List.length_cons, List.length_nil]; omega) | (simp; omega))))
      (refine qgw rfl rfl rfl rfl (g_loadH rfl ?_) rfl rfl ?_; (· (first | omega | decide | (exact pos_of_get (by assumption)) | (simp only [List.length_map, List.length_append, List.length_replicate, List.length_set, List.length_cons, List.length_nil]; omega) | (simp; omega))))
      refine rq_tail ?_
      (refine rt_op (wants_some rfl rfl rfl rfl) (o_callE rfl rfl (Ent.refl _) (hix _ _) fun i192 => ?_))
      (refine rgw rfl rfl rfl rfl (g_lss rfl rfl) rfl rfl ?_)
      (refine rg rfl (g_pick_f rfl (by conv => lhs; whnf)) rfl rfl ?_)
      refine rt_nil ?_
      refine q_then ?_
      refine ct_if rfl (fun h194 => ?_) (fun h194 => ?_)
      refine ct_seq ?_
      (refine ct_region' rfl ?_; simp only [List.map, lite])
      (refine rg rfl (g_assign (by conv => lhs; whnf)) rfl rfl ?_)
      refine rt_nil ?_
      refine q_then ?_
      refine ct_ret ?_
      refine q_block_ret ?_
      refine q_then_ret ?_
      refine q_then_ret ?_
      refine q_block_ret ?_
      refine q_then_ret ?_
      rotate_left
      refine ct_skip ?_
      refine q_block ?_
      refine q_then ?_
      (refine ct_region' rfl ?_; simp only [List.map, lite])
      (refine rg rfl (g_move (by conv => lhs; whnf)) rfl rfl ?_)
      (refine rg rfl (g_addN rfl rfl ?_) rfl rfl ?_; (· (constructor <;> omega)))
      (refine rg rfl (g_assign (by conv => lhs; whnf)) rfl rfl ?_)
      refine rt_nil ?_
      rotate_left
    · exact absurd h173 (by show ¬ ((decide (cmpH L[i] (L[0]'(by omega)) < 0) != decide (cmpH L[i] (L[0]'(by omega)) < 0)) = true); simp)
    · refine absurd h186 ?_
      by_cases e : cmpH L[i] (L[0]'(by omega)) = 0
      · have e2 := cmpH_eq e
        rw [e2, cmpH_self]; simp
      · have e2 : ¬ (L[i]).1 = (L[0]'(by omega)).1 := fun e2 => e (by rw [hc_inj e2, cmpH_self])
        simp [e, e2]
    · exact absurd (i192.2.2.2.1.2 hml) (by omega)
    · exact q_again ⟨i + 1, by omega⟩ (by show L.length - (i + 1) < L.length - i; omega) ⟨rfl, rfl, rfl, trivial⟩ (by exact En.ent)
  · focus
      refine ct_seq ?_
      refine ct_seq ?_
      (refine ct_region' rfl ?_; simp only [List.map, lite])
      (refine rg rfl (g_move (by conv => lhs; whnf)) rfl rfl ?_)
      (refine rg rfl (g_move (by conv => lhs; whnf)) rfl rfl ?_)
      (refine rg rfl (g_len_slice rfl) rfl rfl ?_)
      (refine rg rfl (g_lssF rfl rfl ?_) rfl rfl ?_; (· (omega)))
      refine rt_nil ?_
      refine q_then ?_
      refine ct_false rfl ?_
      refine ct_exit ?_
      refine q_then_exit ?_
      refine q_then_exit ?_
      refine q_block_exit ?_
      refine q_then ?_
      refine ct_seq ?_
      refine ct_seq ?_
      (refine ct_region' rfl ?_; simp only [List.map, lite])
      (refine rg rfl (g_assign (by conv => lhs; whnf)) rfl rfl ?_)
      refine rt_nil ?_
      refine q_then ?_
      refine ct_block ?_
      rotate_left
    have hix2 := fun (R' : HP) (x : Hs) [Rd R' ad101 (L.flatMap hc)] => indexR_spec R' ad101 cap101 L x (by omega)
    refine ct_loop (ι := { i : Nat // i ≤ (sortS L).length }) (fun i => [(2, .slice ad101 L.length cap101), (12, .slice sa (sortS L).length (sortS L).length), (19, .int .i64 (i.1 : Int))]) (fun _ => Arr 23 32 sa sc L.length ((sortS L ++ sr).flatMap hc) * (Arr 23 32 ad101 cap101 L.length (L.flatMap hc) * R)) (fun i => (sortS L).length - i.1) ⟨0, Nat.zero_le _⟩ ⟨rfl, rfl, rfl, trivial⟩ (Ent.refl _) fun j ρ' => ?_
    obtain ⟨j, hj⟩ := j
    dsimp only at hj ⊢
    by_cases hjl : j < (sortS L).length
    · have hgj : (sortS L ++ sr)[j]'(by rw [List.length_append]; omega) ∈ L := by
        rw [List.getElem_append_left hjl]
        exact (mem_sortS L _).1 (List.getElem_mem hjl)
      focus
        refine ct_seq ?_
        refine ct_seq ?_
        (refine ct_region' rfl ?_; simp only [List.map, lite])
        (refine rg rfl (g_move (by conv => lhs; whnf)) rfl rfl ?_)
        (refine rg rfl (g_move (by conv => lhs; whnf)) rfl rfl ?_)
        (refine rg rfl (g_len_slice rfl) rfl rfl ?_)
        (refine rg rfl (g_lssT rfl rfl ?_) rfl rfl ?_; (· (omega)))
        refine rt_nil ?_
        refine q_then ?_
        refine ct_true rfl ?_
        refine ct_skip ?_
        refine q_then ?_
        refine ct_seq ?_
        refine ct_block ?_
        refine ct_seq ?_
        (refine ct_region' rfl ?_; simp only [List.map, lite])
        (refine rg rfl (g_move (by conv => lhs; whnf)) rfl rfl ?_)
        (refine rg rfl (g_move (by conv => lhs; whnf)) rfl rfl ?_)
        (refine rg rfl (g_move (by conv => lhs; whnf)) rfl rfl ?_)
        (refine rg rfl (g_elemH rfl rfl ?_ ?_) rfl rfl ?_; (· (first | omega | decide)); (· (first | omega | decide | (exact pos_of_get (by assumption)) | (simp only [List.length_map, List.length_append, List.length_replicate, List.length_set, List.length_cons, List.length_nil]; omega) | (simp; omega))))
        (refine rg rfl (g_loadH rfl ?_) rfl rfl ?_; (· (first | omega | decide | (exact pos_of_get (by assumption)) | (simp only [List.length_map, List.length_append, List.length_replicate, List.length_set, List.length_cons, List.length_nil]; omega) | (simp; omega))))
        (refine rt_op (wants_none rfl) (o_callE rfl rfl (Ent.refl _) (hix2 _ _) fun i206 => ?_))
        (refine rg rfl (g_lss rfl rfl) rfl rfl ?_)
        refine rt_nil ?_
        refine q_then ?_
        refine ct_if rfl (fun h207 => ?_) (fun h207 => ?_)
        refine ct_seq ?_
        (refine ct_region' rfl ?_; simp only [List.map, lite])
        (refine rg rfl (g_assign (by conv => lhs; whnf)) rfl rfl ?_)
        refine rt_nil ?_
        refine q_then ?_
        refine ct_ret ?_
        refine q_block_ret ?_
        refine q_then_ret ?_
        refine q_then_ret ?_
        refine q_block_ret ?_
        refine q_then_ret ?_
        rotate_left
        refine ct_skip ?_
        refine q_block ?_
        refine q_then ?_
        (refine ct_region' rfl ?_; simp only [List.map, lite])
        (refine rg rfl (g_move (by conv => lhs; whnf)) rfl rfl ?_)
        (refine rg rfl (g_addN rfl rfl ?_) rfl rfl ?_; (· (constructor <;> omega)))
        (refine rg rfl (g_assign (by conv => lhs; whnf)) rfl rfl ?_)
        refine rt_nil ?_
        rotate_left
      · exact absurd (i206.2.2.2.1.2 hgj) (by omega)
      · exact q_again ⟨j + 1, by omega⟩ (by show (sortS L).length - (j + 1) < (sortS L).length - j; omega) ⟨rfl, rfl, rfl, trivial⟩ (by exact En.ent)
    · focus
        refine ct_seq ?_
        refine ct_seq ?_
        (refine ct_region' rfl ?_; simp only [List.map, lite])
        (refine rg rfl (g_move (by conv => lhs; whnf)) rfl rfl ?_)
        (refine rg rfl (g_move (by conv => lhs; whnf)) rfl rfl ?_)
        (refine rg rfl (g_len_slice rfl) rfl rfl ?_)
        (refine rg rfl (g_lssF rfl rfl ?_) rfl rfl ?_; (· (omega)))
        refine rt_nil ?_
        refine q_then ?_
        refine ct_false rfl ?_
        refine ct_exit ?_
        refine q_then_exit ?_
        refine q_then_exit ?_
        refine q_block_exit ?_
        refine q_then ?_
        refine ct_seq ?_
        (refine ct_region' rfl ?_; simp only [List.map, lite])
        (refine rt_op (wants_none rfl) (o_callE rfl rfl (Ent.refl _) (hfix _) fun i208 => ?_))
        (refine rg rfl (g_assign (by conv => lhs; whnf)) rfl rfl ?_)
        refine rt_nil ?_
        refine q_then ?_
        refine ct_ret ?_
        exact q_ret1 rfl rfl () rfl En.ent
end Go.Proofs.Ytmhddmenmkjdlaa
