/- sha: the calls whose answers are fixed; ShaNames. -/
import Derived.Test.YtmhddmenmkjdlaaT1
namespace Go.Proofs.Ytmhddmenmkjdlaa
open Go.RowKit
attribute [local irreducible] Gives RT CT QT Spec Wants Reads Src Ent OT RQ AnyT AnyOp Again Code.wp Post

def abc : List UInt8 := [0xba,0x78,0x16,0xbf,0x8f,0x01,0xcf,0xea,0x41,0x41,0x40,0xde,0x5d,0xae,0x22,0x23,0xb0,0x03,0x61,0xa3,0x96,0x17,0x7a,0x9c,0xb4,0x10,0xff,0x61,0xf2,0x00,0x15,0xad]
theorem abc_of : shaOf [97, 98, 99] = abc := by decide +kernel
def txt : ByteArray := ⟨#[98, 97, 55, 56, 49, 54, 98, 102, 56, 102, 48, 49, 99, 102, 101, 97, 52, 49, 52, 49, 52, 48, 100, 101, 53, 100, 97, 101, 50, 50, 50, 51, 98, 48, 48, 51, 54, 49, 97, 51, 57, 54, 49, 55, 55, 97, 57, 99, 98, 52, 49, 48, 102, 102, 54, 49, 102, 50, 48, 48, 49, 53, 97, 100]⟩
theorem txt_of : parseS txt.data.toList = (abc, 0) := by decide +kernel
theorem parse_txt (R : HP) : Spec Try.prog 23 [.string txt] R (fun _ : Unit => .tuple #[.agg (abc.map bv).toArray, .int .i64 0]) (fun _ => R) := by
  have := parse_spec R txt
  rw [txt_of] at this
  exact this
theorem of_abc (R : HP) (g : Addr) (c : Nat) (hc : 3 ≤ c) [hr : Rd R (some g) [.int .u8 97, .int .u8 98, .int .u8 99]] : Spec Try.prog 12 [.slice (some g) 3 c] R (fun _ : Unit => .agg (abc.map bv).toArray) (fun _ => R) := by
  have := @of_spec R (some g) c [97, 98, 99] hr (by simp) hc (fun h => by cases h)
  rw [abc_of] at this
  exact this
set_option maxRecDepth 100000 in
set_option maxHeartbeats 8000000 in
theorem fixed_spec (R : HP) : Spec Try.prog 10 [] R (fun _ : Unit => .bool true) (fun _ => R) := by
  refine spec_of Try.func10 rfl Try.ntmps10 rfl fun W0 => ?_
  have hp := fun (R' : HP) => parse_txt R'
  have ho := fun (R' : HP) (g : Addr) (c : Nat) (hc : 3 ≤ c) [Rd R' (some g) [.int .u8 97, .int .u8 98, .int .u8 99]] => of_abc R' g c hc
  focus
    refine ct_seq ?_
    (refine ct_region' rfl ?_; simp only [List.map, lite])
    (refine rg rfl (g_assign (by conv => lhs; whnf)) rfl rfl ?_)
    refine rt_nil ?_
    refine q_then ?_
    refine ct_seq ?_
    (refine ct_region' rfl ?_; simp only [List.map, lite])
    (refine rt_op (wants_none rfl) (o_callE rfl rfl (Ent.refl _) (hp _) fun i4 => ?_))
    (refine rg rfl (g_move (by conv => lhs; whnf)) rfl rfl ?_)
    (refine rg rfl (g_extract rfl (by conv => lhs; whnf)) rfl rfl ?_)
    (refine rg rfl (g_extract rfl (by conv => lhs; whnf)) rfl rfl ?_)
    (refine rt_op (wants_none rfl) (o_alloc rfl (by conv => lhs; whnf) fun b1 => ?_))
    (refine rt_op (wants_none rfl) (o_storeAgg rfl (by conv => lhs; whnf) (by first | exact List.toList_toArray | (conv => lhs; whnf)) (by first | rfl | exact bvsAll _ | exact wvs_all _ | assumption) (by first | rfl | assumption | (simp; done) | (simp; omega)) (by first | rfl | assumption | (simp; done) | (simp; omega)) ?_))
    (refine rg rfl (g_assign (by conv => lhs; whnf)) rfl rfl ?_)
    refine rt_nil ?_
    refine q_then ?_
    refine ct_seq ?_
    refine ct_anyA 18 ?_
    (refine any_take 0 rfl (by kernel_rfl) (by first | exact Ent.refl _ | exact En.ent) (wants_none rfl) (g_move (by conv => lhs; whnf)) rfl rfl ?_)
    (refine any_take 1 rfl (by kernel_rfl) (by first | exact Ent.refl _ | exact En.ent) (wants_none rfl) (g_eqlT rfl rfl ?_) rfl rfl ?_; (· (omega)))
    (refine any_take 2 rfl (by kernel_rfl) (by first | exact Ent.refl _ | exact En.ent) (wants_none rfl) (g_move (by conv => lhs; whnf)) rfl rfl ?_)
    (refine any_take 5 rfl (by kernel_rfl) (by first | exact Ent.refl _ | exact En.ent) (wants_some rfl rfl rfl rfl) (g_loadAgg_blk rfl (by first | rfl | assumption | (simp; done) | (simp; omega))) rfl rfl ?_)
    (refine any_one 3 (by kernel_rfl) rfl (wants_some rfl rfl rfl rfl) (o_buildN rfl (by simp only [ev, upd, updl, argl, nat_beq_def, Nat.reduceBEq, cond_true, cond_false, List.map_cons, List.map_nil]; rfl) rfl (by rfl) (by simp [fillL, Value.cells, List.range, List.range.loop]; rfl) fun b10 => ⟨.inr (by first | exact Ent.refl _ | exact En.ent), ?_⟩))
    (refine any_one 4 (by kernel_rfl) rfl (wants_some rfl rfl rfl rfl) (o_callE rfl rfl (Ent.refl _) (ho _ _ _ ?_) fun i11 => ⟨.inr (by first | exact Ent.refl _ | exact En.ent), ?_⟩); (· (first | assumption | omega | rfl | decide | infer_instance | (simp; done) | (simp; omega) | (simp only [*]; done))))
    (refine any_take 6 rfl (by kernel_rfl) (by first | exact Ent.refl _ | exact En.ent) (wants_some rfl rfl rfl rfl) (g_eqHT rfl rfl (by kernel_rfl) (by first | rfl | assumption | (simp; done) | (simp; omega)) ?_) rfl rfl ?_; (· (first | rfl | assumption)))
    (refine any_take 7 rfl (by kernel_rfl) (by first | exact Ent.refl _ | exact En.ent) (wants_none rfl) (g_pick_t rfl (by conv => lhs; whnf)) rfl rfl ?_)
    (refine any_take 8 rfl (by kernel_rfl) (by first | exact Ent.refl _ | exact En.ent) (wants_none rfl) (g_move (by conv => lhs; whnf)) rfl rfl ?_)
    (refine any_take 9 rfl (by kernel_rfl) (by first | exact Ent.refl _ | exact En.ent) (wants_some rfl rfl rfl rfl) (g_elemB1 rfl rfl ?_) rfl rfl ?_; (· (first | omega | decide)))
    (refine any_take 10 rfl (by kernel_rfl) (by first | exact Ent.refl _ | exact En.ent) (wants_some rfl rfl rfl rfl) (g_load rfl (by conv => lhs; whnf)) rfl rfl ?_)
    (refine any_take 11 rfl (by kernel_rfl) (by first | exact Ent.refl _ | exact En.ent) (wants_some rfl rfl rfl rfl) (g_eql rfl rfl) rfl rfl ?_)
    (refine any_take 12 rfl (by kernel_rfl) (by first | exact Ent.refl _ | exact En.ent) (wants_none rfl) (g_pick_t rfl (by conv => lhs; whnf)) rfl rfl ?_)
    (refine any_take 13 rfl (by kernel_rfl) (by first | exact Ent.refl _ | exact En.ent) (wants_none rfl) (g_move (by conv => lhs; whnf)) rfl rfl ?_)
    refine any_split 20 rfl (fun h20 => ?_) (fun h20 => ?_)
    (refine any_take 14 rfl (by kernel_rfl) (by first | exact Ent.refl _ | exact En.ent) (wants_some rfl rfl rfl rfl) (g_elemB1 rfl rfl ?_) rfl rfl ?_; (· (first | omega | decide)))
    (refine any_take 15 rfl (by kernel_rfl) (by first | exact Ent.refl _ | exact En.ent) (wants_some rfl rfl rfl rfl) (g_load rfl (by conv => lhs; whnf)) rfl rfl ?_)
    (refine any_take 16 rfl (by kernel_rfl) (by first | exact Ent.refl _ | exact En.ent) (wants_some rfl rfl rfl rfl) (g_eql rfl rfl) rfl rfl ?_)
    (refine any_take 17 rfl (by kernel_rfl) (by first | exact Ent.refl _ | exact En.ent) (wants_none rfl) (g_pick_t rfl (by conv => lhs; whnf)) rfl rfl ?_)
    (refine any_one 18 (by kernel_rfl) rfl (wants_none rfl) (o_give (g_assign (by conv => lhs; whnf)) rfl rfl ⟨.inl rfl, ?_⟩))
    refine any_done (by kernel_rfl) ?_
    refine q_then ?_
    refine ct_ret ?_
    exact q_ret1 rfl rfl () rfl En.ent
    refine any_skip 14 rfl (by kernel_rfl) (by first | exact Ent.refl _ | exact En.ent) rfl rfl rfl (.inl rfl) rfl rfl ?_
    refine any_skip 15 rfl (by kernel_rfl) (by first | exact Ent.refl _ | exact En.ent) rfl rfl rfl (.inl rfl) rfl rfl ?_
    refine any_skip 16 rfl (by kernel_rfl) (by first | exact Ent.refl _ | exact En.ent) rfl rfl rfl (.inl rfl) rfl rfl ?_
    (refine any_take 17 rfl (by kernel_rfl) (by first | exact Ent.refl _ | exact En.ent) (wants_none rfl) (g_pick_f rfl (by conv => lhs; whnf)) rfl rfl ?_)
    (refine any_one 18 (by kernel_rfl) rfl (wants_none rfl) (o_give (g_assign (by conv => lhs; whnf)) rfl rfl ⟨.inl rfl, ?_⟩))
    refine any_done (by kernel_rfl) ?_
    refine q_then ?_
    refine ct_ret ?_
    rotate_left
  exact absurd rfl h20
theorem shaNames_spec (R : HP) : Spec Try.prog 3 [] R (fun _ : Unit => .bool true) (fun _ => R) := by
  refine spec_of Try.func3 rfl Try.ntmps3 rfl fun W0 => ?_
  have hf := fun (R' : HP) => fixed_spec R'
  focus
    refine ct_seq ?_
    (refine ct_region' rfl ?_; simp only [List.map, lite])
    (refine rg rfl (g_assign (by conv => lhs; whnf)) rfl rfl ?_)
    refine rt_nil ?_
    refine q_then ?_
    refine ct_seq ?_
    (refine ct_region' rfl ?_; simp only [List.map, lite])
    (refine rg rfl (g_buildZ rfl) rfl rfl ?_)
    (refine rt_op (wants_none rfl) (o_alloc rfl (by conv => lhs; whnf) fun b1 => ?_))
    (refine rt_op (wants_none rfl) (o_storeAgg rfl (by conv => lhs; whnf) (by first | exact List.toList_toArray | (conv => lhs; whnf)) (by first | rfl | exact bvsAll _ | exact wvs_all _ | assumption) (by first | rfl | assumption | (simp; done) | (simp; omega)) (by first | rfl | assumption | (simp; done) | (simp; omega)) ?_))
    refine rt_nil ?_
    refine q_then ?_
    refine ct_seq ?_
    (refine ct_region' rfl ?_; simp only [List.map, lite])
    (refine rg rfl (g_move (by conv => lhs; whnf)) rfl rfl ?_)
    (refine rt_op (wants_some rfl rfl rfl rfl) (o_callE rfl rfl (Ent.refl _) (hf _) fun i4 => ?_))
    (refine rg rfl (g_pick_t rfl (by conv => lhs; whnf)) rfl rfl ?_)
    (refine rg rfl (g_assign (by conv => lhs; whnf)) rfl rfl ?_)
    refine rt_nil ?_
    refine q_then ?_
    refine ct_ret ?_
    exact q_ret1 rfl rfl () rfl En.ent
end Go.Proofs.Ytmhddmenmkjdlaa
