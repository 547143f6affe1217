/- The reference's Sort and Index. -/
import Derived.Test.YtmhddmenmkjdlaaMg
import Derived.Test.YtmhddmenmkjdlaaC1
import Derived.Test.YtmhddmenmkjdlaaStars
import Derived.Test.YtmhddmenmkjdlaaCp
import Derived.Test.YtmhddmenmkjdlaaArg
namespace Go.Proofs.Ytmhddmenmkjdlaa
open Go.RowKit
attribute [local irreducible] Gives RT CT QT Spec Wants Reads Src Ent OT RQ AnyT AnyOp Again Code.wp Post

/-- where the merge stands -/
structure MgSt (M : HP) (A B : List Hs) where
  (i j : Nat) (xa : Option Addr) (ca : Nat) (xb : Option Addr) (cb : Nat) (out : List Hs) (oa : Option Addr) (oc : Nat)
  hi : i ≤ A.length
  hj : j ≤ B.length
  ra : Rd M xa ((A.drop i).flatMap hc)
  rb : Rd M xb ((B.drop j).flatMap hc)
  la : A.length - i ≤ ca
  lb : B.length - j ≤ cb
  na : xa = none → ca = 0
  nb : xb = none → cb = 0
  ho : out ++ mg (A.drop i) (B.drop j) = mg A B
set_option maxRecDepth 100000 in
set_option maxHeartbeats 8000000 in
theorem sortR_all : ∀ (n : Nat) (R : HP) (a : Option Addr) (c : Nat) (l : List Hs) [hr : Rd R a (l.flatMap hc)], l.length ≤ n → l.length * 32 ≤ 140737488351232 → l.length ≤ c → (a = none → c = 0) →
    Spec Try.prog 28 [.slice a l.length c] R (fun i : Option Addr × Nat => .slice i.1 (sortS l).length i.2) (fun i => Arr 23 32 i.1 i.2 (sortS l).length ((sortS l).flatMap hc) * R) := by
  intro n
  induction n with
  | zero =>
    intro R a c l hr hn hl hcc hna
    refine spec_of Try.func28 rfl Try.ntmps28 rfl fun W0 => ?_
    have hln := hs_len l
    have hone := hs_one l
    have hss := sortS_small l (by omega)
    focus
      refine ct_seq ?_
      (refine ct_region' rfl ?_; simp only [List.map, lite])
      (refine rg rfl (g_assign (by conv => lhs; whnf)) rfl rfl ?_)
      refine rt_nil ?_
      refine q_then ?_
      refine ct_seq ?_
      refine ct_seq ?_
      (refine ct_region' rfl ?_; simp only [List.map, lite])
      (refine rg rfl (g_move (by conv => lhs; whnf)) rfl rfl ?_)
      (refine rg rfl (g_len_slice rfl) rfl rfl ?_)
      (refine rg rfl (g_lssT rfl rfl ?_) rfl rfl ?_; (· (omega)))
      refine rt_nil ?_
      refine q_then ?_
      refine ct_true rfl ?_
      refine ct_seq ?_
      (refine ct_region' rfl ?_; simp only [List.map, lite])
      (refine rg rfl (g_move (by conv => lhs; whnf)) rfl rfl ?_)
      (refine rt_op (wants_none rfl) (o_appR rfl rfl rfl (by first | rfl | assumption | simp | (simp; omega)) (by first | rfl | exact bvsAll _ | exact wvs_all _ | assumption) (by rfl) (by rfl) ?_ (by first | with_reducible exact Nat.zero_add _ | exact rfl) (by first | with_reducible exact List.nil_append _ | exact List.map_append.symm | exact rfl) fun ad11 cap11 hc11 hn11 => ?_); (· (first | omega | decide)))
      (refine rg rfl (g_assign (by conv => lhs; whnf)) rfl rfl ?_)
      refine rt_nil ?_
      refine q_then ?_
      refine ct_ret ?_
      refine q_then_ret ?_
      rotate_left
    exact q_ret1 rfl (by conv => lhs; whnf) (ad11, cap11) (by rw [hss]) (by rw [hss]; exact Ent.refl _)
  | succ n ih =>
    intro R a c l hr hn hl hcc hna
    refine spec_of Try.func28 rfl Try.ntmps28 rfl fun W0 => ?_
    have hln := hs_len l
    have hone := hs_one l
    obtain ⟨m, hm⟩ : ∃ m, m = l.length / 2 := ⟨_, rfl⟩
    have hm' : (l.length : Int) / 2 = (m : Int) := by omega
    have hlt : (l.take m).length = m := by rw [List.length_take]; omega
    have hld : (l.drop m).length = l.length - m := List.length_drop
    have hrt := hr.htake m
    have hrd := hr.hcut m hcc
    have hna2 : (a.map fun g => cutAt g c m 32) = none → c - m = 0 := fun h => by have := hna (Option.map_eq_none_iff.1 h); omega
    have h1 := fun (hsm : 2 ≤ l.length) (R' : HP) [Rd R' a ((l.take m).flatMap hc)] => ih R' a c (l.take m) (by omega) (by omega) (by omega) hna
    have h2 := fun (hsm : 2 ≤ l.length) (R' : HP) [Rd R' (a.map fun g => cutAt g c m 32) ((l.drop m).flatMap hc)] => ih R' (a.map fun g => cutAt g c m 32) (c - m) (l.drop m) (by omega) (by omega) (by omega) hna2
    rw [hlt] at h1
    rw [hld] at h2
    have hmg := mg_sortS l m
    have l1 := sortS_len (l.take m)
    have l2 := sortS_len (l.drop m)
    generalize sortS (l.take m) = A at h1 hmg l1
    generalize sortS (l.drop m) = B at h2 hmg l2
    focus
      refine ct_seq ?_
      (refine ct_region' rfl ?_; simp only [List.map, lite])
      (refine rg rfl (g_assign (by conv => lhs; whnf)) rfl rfl ?_)
      refine rt_nil ?_
      refine q_then ?_
      refine ct_seq ?_
      refine ct_seq ?_
      (refine ct_region' rfl ?_; simp only [List.map, lite])
      (refine rg rfl (g_move (by conv => lhs; whnf)) rfl rfl ?_)
      (refine rg rfl (g_len_slice rfl) rfl rfl ?_)
      (refine rg rfl (g_lss rfl rfl) rfl rfl ?_)
      refine rt_nil ?_
      refine q_then ?_
      refine ct_if rfl (fun h9 => ?_) (fun h9 => ?_)
      refine ct_seq ?_
      (refine ct_region' rfl ?_; simp only [List.map, lite])
      (refine rg rfl (g_move (by conv => lhs; whnf)) rfl rfl ?_)
      rotate_left
      refine ct_skip ?_
      refine q_then ?_
      refine ct_seq ?_
      (refine ct_region' rfl ?_; simp only [List.map, lite])
      (refine rg rfl (g_move (by conv => lhs; whnf)) rfl rfl ?_)
      (refine rg rfl (g_move (by conv => lhs; whnf)) rfl rfl ?_)
      (refine rg rfl (g_len_slice rfl) rfl rfl ?_)
      (refine rg rfl (g_as (congrArg (Value.int .i64) hm') (g_quoN rfl rfl ?_ ?_ ?_)) rfl rfl ?_; (· (omega)); (· (omega)); (· (constructor <;> omega)))
      (refine rg rfl (g_cut_hi rfl rfl ?_ ?_ (by exact Int.toNat_natCast _)) rfl rfl ?_; (· (omega)); (· (omega)))
      (refine rt_op (wants_none rfl) (o_callE rfl rfl (Ent.refl _) (h1 ?_ _) fun i17 => ?_); (· (first | assumption | omega | rfl | decide | infer_instance | (simp; done) | (simp; omega) | (simp only [*]; done))))
      (refine rg rfl (g_assign (by conv => lhs; whnf)) rfl rfl ?_)
      refine rt_nil ?_
      refine q_then ?_
      refine ct_seq ?_
      (refine ct_region' rfl ?_; simp only [List.map, lite])
      (refine rg rfl (g_move (by conv => lhs; whnf)) rfl rfl ?_)
      (refine rg rfl (g_move (by conv => lhs; whnf)) rfl rfl ?_)
      (refine rg rfl (g_len_slice rfl) rfl rfl ?_)
      (refine rg rfl (g_as (congrArg (Value.int .i64) hm') (g_quoN rfl rfl ?_ ?_ ?_)) rfl rfl ?_; (· (omega)); (· (omega)); (· (constructor <;> omega)))
      (refine rg rfl (g_cutLoN rfl rfl (by omega) hcc hna) rfl rfl ?_)
      (refine rt_op (wants_none rfl) (o_callE rfl rfl (Ent.refl _) (h2 ?_ _) fun i23 => ?_); (· (first | assumption | omega | rfl | decide | infer_instance | (simp; done) | (simp; omega) | (simp only [*]; done))))
      (refine rg rfl (g_assign (by conv => lhs; whnf)) rfl rfl ?_)
      refine rt_nil ?_
      refine q_then ?_
      refine ct_seq ?_
      (refine ct_region' rfl ?_; simp only [List.map, lite])
      (refine rt_op (wants_none rfl) (o_build0 rfl fun b24 => ?_))
      (refine rg rfl (g_assign (by conv => lhs; whnf)) rfl rfl ?_)
      refine rt_nil ?_
      refine q_then ?_
      refine ct_seq ?_
      refine ct_block ?_
      rotate_left
    · clear hrt hrd
      focus
        (refine rt_op (wants_none rfl) (o_appR rfl rfl rfl (by first | rfl | assumption | simp | (simp; omega)) (by first | rfl | exact bvsAll _ | exact wvs_all _ | assumption) (by rfl) (by rfl) ?_ (by first | with_reducible exact Nat.zero_add _ | exact rfl) (by first | with_reducible exact List.nil_append _ | exact List.map_append.symm | exact rfl) fun ad11 cap11 hc11 hn11 => ?_); (· (first | omega | decide)))
        (refine rg rfl (g_assign (by conv => lhs; whnf)) rfl rfl ?_)
        refine rt_nil ?_
        refine q_then ?_
        refine ct_ret ?_
        refine q_then_ret ?_
        rotate_left
      have hss := sortS_small l (by omega)
      exact q_ret1 rfl (by conv => lhs; whnf) (ad11, cap11) (by rw [hss]) (by rw [hss]; exact Ent.refl _)
    · refine ct_ar i17.1 fun _ n1 n2 _ => ct_ar i23.1 fun _ n3 n4 _ => ?_
      clear ih h1 h2 hrt hrd
      refine ct_loop (ι := MgSt (Arr 23 32 i23.fst i23.snd B.length (B.flatMap hc) * (Arr 23 32 i17.fst i17.snd A.length (A.flatMap hc) * R)) A B) (fun t => [(3, .slice t.xa (A.length - t.i) t.ca), (4, .slice t.xb (B.length - t.j) t.cb), (5, .slice t.oa t.out.length t.oc)]) (fun t => Arr 23 32 t.oa t.oc t.out.length (t.out.flatMap hc) * (Arr 23 32 i23.fst i23.snd B.length (B.flatMap hc) * (Arr 23 32 i17.fst i17.snd A.length (A.flatMap hc) * R))) (fun t => (A.length - t.i) + (B.length - t.j))
        ⟨0, 0, i17.1, i17.2, i23.1, i23.2, [], some ⟨b24, 0, none⟩, 0, by omega, by omega, inferInstance, inferInstance, n2, n4, fun h => (n1 h).2, fun h => (n3 h).2, rfl⟩ ⟨rfl, rfl, rfl, trivial⟩ (Ent.refl _) fun t ρ' => ?_
      obtain ⟨i, j, xa, ca, xb, cb, out, oa, oc, hi, hj, ra, rb, la, lb, na, nb, ho⟩ := t
      dsimp only
      have hol := congrArg List.length ho
      rw [List.length_append, hmg] at hol
      have hsl := sortS_len l
      by_cases hA : i < A.length
      · by_cases hB : j < B.length
        · have hA0 := List.drop_eq_getElem_cons hA
          have hB0 := List.drop_eq_getElem_cons hB
          have ra1 := ra.hcut (c := ca) 1 (by rw [List.length_drop]; exact la)
          have rb1 := rb.hcut (c := cb) 1 (by rw [List.length_drop]; exact lb)
          rw [List.drop_drop] at ra1 rb1
          rw [hA0, hB0, mg_cons] at ho
          rw [hA0] at ra
          rw [hB0] at rb
          have hcs := fun (R' : HP) => compareR_spec R' A[i] B[j]
          focus
            refine ct_seq ?_
            refine ct_seq ?_
            (refine ct_region' rfl ?_; simp only [List.map, lite])
            (refine rg rfl (g_move (by conv => lhs; whnf)) rfl rfl ?_)
            (refine rg rfl (g_len_slice rfl) rfl rfl ?_)
            (refine rg rfl (g_gtrT rfl rfl ?_) rfl rfl ?_; (· (omega)))
            (refine rg rfl (g_move (by conv => lhs; whnf)) rfl rfl ?_)
            (refine rgw rfl rfl rfl rfl (g_move (by conv => lhs; whnf)) rfl rfl ?_)
            (refine rgw rfl rfl rfl rfl (g_len_slice rfl) rfl rfl ?_)
            (refine rgw rfl rfl rfl rfl (g_gtrT rfl rfl ?_) rfl rfl ?_; (· (omega)))
            (refine rg rfl (g_pick_t rfl (by conv => lhs; whnf)) rfl rfl ?_)
            refine rt_nil ?_
            refine q_then ?_
            refine ct_true rfl ?_
            refine ct_skip ?_
            refine q_then ?_
            refine ct_block ?_
            refine ct_seq ?_
            refine ct_quiet (by kernel_rfl) rfl ?_
            simp only [List.map, lite]
            (refine qg rfl (g_move (by conv => lhs; whnf)) rfl rfl ?_)
            (refine qg rfl (g_elemH rfl rfl ?_ ?_) rfl rfl ?_; (· (first | omega | decide)); (· (first | omega | decide | (exact pos_of_get (by assumption)) | (simp only [List.length_map, List.length_append, List.length_replicate, List.length_set, List.length_cons, List.length_nil]; omega) | (simp; omega))))
            (refine qg rfl (g_loadH rfl ?_) rfl rfl ?_; (· (first | omega | decide | (exact pos_of_get (by assumption)) | (simp only [List.length_map, List.length_append, List.length_replicate, List.length_set, List.length_cons, List.length_nil]; omega) | (simp; omega))))
            (refine qg rfl (g_move (by conv => lhs; whnf)) rfl rfl ?_)
            (refine qg rfl (g_elemH rfl rfl ?_ ?_) rfl rfl ?_; (· (first | omega | decide)); (· (first | omega | decide | (exact pos_of_get (by assumption)) | (simp only [List.length_map, List.length_append, List.length_replicate, List.length_set, List.length_cons, List.length_nil]; omega) | (simp; omega))))
            (refine qg rfl (g_loadH rfl ?_) rfl rfl ?_; (· (first | omega | decide | (exact pos_of_get (by assumption)) | (simp only [List.length_map, List.length_append, List.length_replicate, List.length_set, List.length_cons, List.length_nil]; omega) | (simp; omega))))
            (refine rq_callE (wants_none rfl) rfl rfl (Ent.refl _) (hcs _) (fun _ => rfl) (fun _ => En.ent) ?_)
            (refine qg rfl (g_assign (by conv => lhs; whnf)) rfl rfl ?_)
            refine rq_nil ?_
            refine q_then ?_
            refine ct_seq ?_
            refine ct_seq ?_
            (refine ct_region' rfl ?_; simp only [List.map, lite])
            (refine rg rfl (g_move (by conv => lhs; whnf)) rfl rfl ?_)
            (refine rg rfl (g_leq rfl rfl) rfl rfl ?_)
            refine rt_nil ?_
            refine q_then ?_
            refine ct_if rfl (fun h41 => ?_) (fun h41 => ?_)
            refine ct_seq ?_
            (refine ct_region' rfl ?_; simp only [List.map, lite])
            (refine rg rfl (g_move (by conv => lhs; whnf)) rfl rfl ?_)
            (refine rg rfl (g_move (by conv => lhs; whnf)) rfl rfl ?_)
            (refine rg rfl (g_elemH rfl rfl ?_ ?_) rfl rfl ?_; (· (first | omega | decide)); (· (first | omega | decide | (exact pos_of_get (by assumption)) | (simp only [List.length_map, List.length_append, List.length_replicate, List.length_set, List.length_cons, List.length_nil]; omega) | (simp; omega))))
            (refine rg rfl (g_loadH rfl ?_) rfl rfl ?_; (· (first | omega | decide | (exact pos_of_get (by assumption)) | (simp only [List.length_map, List.length_append, List.length_replicate, List.length_set, List.length_cons, List.length_nil]; omega) | (simp; omega))))
            (refine rt_op (wants_none rfl) (o_buildH rfl (by conv => lhs; whnf) fun b46 => ?_))
            (refine rt_op (wants_none rfl) (o_appH rfl rfl rfl rfl (by rfl) ?_ (by first | with_reducible exact Nat.zero_add _ | exact rfl) rfl fun ad47 cap47 hc47 hn47 => ?_); (· (first | omega | decide)))
            (refine rg rfl (g_assign (by conv => lhs; whnf)) rfl rfl ?_)
            refine rt_nil ?_
            refine q_then ?_
            (refine ct_region' rfl ?_; simp only [List.map, lite])
            (refine rg rfl (g_move (by conv => lhs; whnf)) rfl rfl ?_)
            (refine rg rfl (g_cutLoN rfl rfl (by omega) la na) rfl rfl ?_)
            (refine rg rfl (g_assign (by conv => lhs; whnf)) rfl rfl ?_)
            refine rt_nil ?_
            refine q_then ?_
            refine ct_seq ?_
            (refine ct_region' rfl ?_; simp only [List.map, lite])
            (refine rg rfl (g_move (by conv => lhs; whnf)) rfl rfl ?_)
            (refine rg rfl (g_geq rfl rfl) rfl rfl ?_)
            refine rt_nil ?_
            refine q_then ?_
            refine ct_if rfl (fun h57 => ?_) (fun h57 => ?_)
            (refine ct_region' rfl ?_; simp only [List.map, lite])
            (refine rg rfl (g_move (by conv => lhs; whnf)) rfl rfl ?_)
            (refine rg rfl (g_cutLoN rfl rfl (by omega) lb nb) rfl rfl ?_)
            (refine rg rfl (g_assign (by conv => lhs; whnf)) rfl rfl ?_)
            refine rt_nil ?_
            refine q_block ?_
            rotate_left
            refine ct_skip ?_
            refine q_block ?_
            rotate_left
            (refine ct_region' rfl ?_; simp only [List.map, lite])
            (refine rg rfl (g_move (by conv => lhs; whnf)) rfl rfl ?_)
            (refine rg rfl (g_move (by conv => lhs; whnf)) rfl rfl ?_)
            (refine rg rfl (g_elemH rfl rfl ?_ ?_) rfl rfl ?_; (· (first | omega | decide)); (· (first | omega | decide | (exact pos_of_get (by assumption)) | (simp only [List.length_map, List.length_append, List.length_replicate, List.length_set, List.length_cons, List.length_nil]; omega) | (simp; omega))))
            (refine rg rfl (g_loadH rfl ?_) rfl rfl ?_; (· (first | omega | decide | (exact pos_of_get (by assumption)) | (simp only [List.length_map, List.length_append, List.length_replicate, List.length_set, List.length_cons, List.length_nil]; omega) | (simp; omega))))
            (refine rt_op (wants_none rfl) (o_buildH rfl (by conv => lhs; whnf) fun b54 => ?_))
            (refine rt_op (wants_none rfl) (o_appH rfl rfl rfl rfl (by rfl) ?_ (by first | with_reducible exact Nat.zero_add _ | exact rfl) rfl fun ad55 cap55 hc55 hn55 => ?_); (· (first | omega | decide)))
            (refine rg rfl (g_assign (by conv => lhs; whnf)) rfl rfl ?_)
            refine rt_nil ?_
            refine q_then ?_
            refine ct_seq ?_
            (refine ct_region' rfl ?_; simp only [List.map, lite])
            (refine rg rfl (g_move (by conv => lhs; whnf)) rfl rfl ?_)
            (refine rg rfl (g_geqT rfl rfl ?_) rfl rfl ?_; (· (omega)))
            refine rt_nil ?_
            refine q_then ?_
            refine ct_true rfl ?_
            (refine ct_region' rfl ?_; simp only [List.map, lite])
            (refine rg rfl (g_move (by conv => lhs; whnf)) rfl rfl ?_)
            (refine rg rfl (g_cutLoN rfl rfl (by omega) lb nb) rfl rfl ?_)
            (refine rg rfl (g_assign (by conv => lhs; whnf)) rfl rfl ?_)
            refine rt_nil ?_
            refine q_block ?_
            rotate_left
          · rw [if_neg (by omega), if_pos (by omega)] at ho
            refine q_again ⟨i + 1, j + 1, xa.map fun g => cutAt g ca 1 32, ca - 1, xb.map fun g => cutAt g cb 1 32, cb - 1, out ++ [A[i]], ad47, cap47, hA, hB, ra1, rb1, by omega, by omega, fun h => by have := na (Option.map_eq_none_iff.1 h); omega, fun h => by have := nb (Option.map_eq_none_iff.1 h); omega, by rw [List.append_assoc]; exact ho⟩ (by show (A.length - (i + 1)) + (B.length - (j + 1)) < (A.length - i) + (B.length - j); omega) ⟨?_, ?_, ?_, trivial⟩ (by dsimp only; rw [List.length_append]; exact Ent.refl _)
            · exact congrArg (fun n => Value.slice (xa.map fun g => cutAt g ca 1 32) n (ca - 1)) (by omega : A.length - i - 1 = A.length - (i + 1))
            · exact congrArg (fun n => Value.slice (xb.map fun g => cutAt g cb 1 32) n (cb - 1)) (by omega : B.length - j - 1 = B.length - (j + 1))
            · dsimp only; rw [List.length_append]; rfl
          · rw [if_pos (by omega)] at ho
            refine q_again ⟨i + 1, j, xa.map fun g => cutAt g ca 1 32, ca - 1, xb, cb, out ++ [A[i]], ad47, cap47, hA, hj, ra1, by rw [hB0]; exact rb, by omega, lb, fun h => by have := na (Option.map_eq_none_iff.1 h); omega, nb, by rw [List.append_assoc, hB0]; exact ho⟩ (by show (A.length - (i + 1)) + (B.length - j) < (A.length - i) + (B.length - j); omega) ⟨?_, rfl, ?_, trivial⟩ (by dsimp only; rw [List.length_append]; exact Ent.refl _)
            · exact congrArg (fun n => Value.slice (xa.map fun g => cutAt g ca 1 32) n (ca - 1)) (by omega : A.length - i - 1 = A.length - (i + 1))
            · dsimp only; rw [List.length_append]; rfl
          · rw [if_neg (by omega), if_neg (by omega)] at ho
            refine q_again ⟨i, j + 1, xa, ca, xb.map fun g => cutAt g cb 1 32, cb - 1, out ++ [B[j]], ad55, cap55, hi, hB, by rw [hA0]; exact ra, rb1, la, by omega, na, fun h => by have := nb (Option.map_eq_none_iff.1 h); omega, by rw [List.append_assoc, hA0]; exact ho⟩ (by show (A.length - i) + (B.length - (j + 1)) < (A.length - i) + (B.length - j); omega) ⟨rfl, ?_, ?_, trivial⟩ (by dsimp only; rw [List.length_append]; exact Ent.refl _)
            · exact congrArg (fun n => Value.slice (xb.map fun g => cutAt g cb 1 32) n (cb - 1)) (by omega : B.length - j - 1 = B.length - (j + 1))
            · dsimp only; rw [List.length_append]; rfl
        · have e0 : B.drop j = [] := List.drop_eq_nil_of_le (by omega)
          rw [e0] at rb ho
          rw [mg_nil'] at ho
          rw [e0, mg_nil', List.length_drop] at hol
          have hn1 := hs_len (A.drop i)
          rw [List.length_drop] at hn1
          have ho1 := hs_one (A.drop i)
          have hn2 : (([] : List Hs).flatMap hc).length = (B.length - j) * 32 := by rw [show B.length - j = 0 by omega]; rfl
          have ho2 := hs_one []
          focus
            refine ct_seq ?_
            refine ct_seq ?_
            (refine ct_region' rfl ?_; simp only [List.map, lite])
            (refine rg rfl (g_move (by conv => lhs; whnf)) rfl rfl ?_)
            (refine rg rfl (g_len_slice rfl) rfl rfl ?_)
            (refine rg rfl (g_gtrT rfl rfl ?_) rfl rfl ?_; (· (omega)))
            (refine rg rfl (g_move (by conv => lhs; whnf)) rfl rfl ?_)
            (refine rgw rfl rfl rfl rfl (g_move (by conv => lhs; whnf)) rfl rfl ?_)
            (refine rgw rfl rfl rfl rfl (g_len_slice rfl) rfl rfl ?_)
            (refine rgw rfl rfl rfl rfl (g_gtrF rfl rfl ?_) rfl rfl ?_; (· (omega)))
            (refine rg rfl (g_pick_t rfl (by conv => lhs; whnf)) rfl rfl ?_)
            refine rt_nil ?_
            refine q_then ?_
            refine ct_false rfl ?_
            refine ct_exit ?_
            refine q_then_exit ?_
            refine q_then_exit ?_
            refine q_block_exit ?_
            refine q_then ?_
            refine ct_seq ?_
            (refine ct_region' rfl ?_; simp only [List.map, lite])
            (refine rg rfl (g_move (by conv => lhs; whnf)) rfl rfl ?_)
            (refine rg rfl (g_move (by conv => lhs; whnf)) rfl rfl ?_)
            (refine rt_op (wants_none rfl) (o_appR rfl rfl rfl (by first | rfl | assumption | simp | (simp; omega)) (by first | rfl | exact bvsAll _ | exact wvs_all _ | assumption) (by rfl) (by rfl) ?_ (by first | with_reducible exact Nat.zero_add _ | exact rfl) (by first | with_reducible exact List.nil_append _ | exact List.map_append.symm | exact rfl) fun ad62 cap62 hc62 hn62 => ?_); (· (first | omega | decide)))
            (refine rg rfl (g_assign (by conv => lhs; whnf)) rfl rfl ?_)
            refine rt_nil ?_
            refine q_then ?_
            refine ct_seq ?_
            (refine ct_region' rfl ?_; simp only [List.map, lite])
            (refine rg rfl (g_move (by conv => lhs; whnf)) rfl rfl ?_)
            (refine rg rfl (g_move (by conv => lhs; whnf)) rfl rfl ?_)
            (refine rt_op (wants_none rfl) (o_appR rfl rfl rfl (by first | rfl | assumption | simp | (simp; omega)) (by first | rfl | exact bvsAll _ | exact wvs_all _ | assumption) (by rfl) (by rfl) ?_ (by first | with_reducible exact Nat.zero_add _ | exact rfl) (by first | with_reducible exact List.nil_append _ | exact List.map_append.symm | exact rfl) fun ad65 cap65 hc65 hn65 => ?_); (· (first | omega | decide)))
            (refine rg rfl (g_assign (by conv => lhs; whnf)) rfl rfl ?_)
            refine rt_nil ?_
            refine q_then ?_
            refine ct_ret ?_
            rotate_left
          have hlen : out.length + (A.length - i) + (B.length - j) = (sortS l).length := by omega
          have hfl : out.flatMap hc ++ (A.drop i).flatMap hc ++ ([] : List Hs).flatMap hc = (sortS l).flatMap hc := by
            rw [← hmg, ← ho, List.flatMap_append]; simp
          rw [hlen, hfl]
          exact q_ret1 rfl (by conv => lhs; whnf) (ad65, cap65) rfl (Ent.mul (Ent.refl _) (by exact En.ent))
      · have e0 : A.drop i = [] := List.drop_eq_nil_of_le (by omega)
        rw [e0] at ra ho
        rw [mg_nil] at ho
        rw [e0, mg_nil, List.length_drop] at hol
        have hn1 : (([] : List Hs).flatMap hc).length = (A.length - i) * 32 := by rw [show A.length - i = 0 by omega]; rfl
        have ho1 := hs_one (B.drop j)
        have hn2 := hs_len (B.drop j)
        rw [List.length_drop] at hn2
        have ho2 := hs_one []
        focus
          refine ct_seq ?_
          refine ct_seq ?_
          (refine ct_region' rfl ?_; simp only [List.map, lite])
          (refine rg rfl (g_move (by conv => lhs; whnf)) rfl rfl ?_)
          (refine rg rfl (g_len_slice rfl) rfl rfl ?_)
          (refine rg rfl (g_gtrF rfl rfl ?_) rfl rfl ?_; (· (omega)))
          (refine rg rfl (g_move (by conv => lhs; whnf)) rfl rfl ?_)
          refine rgs rfl rfl rfl rfl rfl rfl ?_
          refine rgs rfl rfl rfl rfl rfl rfl ?_
          refine rgs rfl rfl rfl rfl rfl rfl ?_
          (refine rg rfl (g_pick_f rfl (by conv => lhs; whnf)) rfl rfl ?_)
          refine rt_nil ?_
          refine q_then ?_
          refine ct_false rfl ?_
          refine ct_exit ?_
          refine q_then_exit ?_
          refine q_then_exit ?_
          refine q_block_exit ?_
          refine q_then ?_
          refine ct_seq ?_
          (refine ct_region' rfl ?_; simp only [List.map, lite])
          (refine rg rfl (g_move (by conv => lhs; whnf)) rfl rfl ?_)
          (refine rg rfl (g_move (by conv => lhs; whnf)) rfl rfl ?_)
          (refine rt_op (wants_none rfl) (o_appR rfl rfl rfl (by first | rfl | assumption | simp | (simp; omega)) (by first | rfl | exact bvsAll _ | exact wvs_all _ | assumption) (by rfl) (by rfl) ?_ (by first | with_reducible exact Nat.zero_add _ | exact rfl) (by first | with_reducible exact List.nil_append _ | exact List.map_append.symm | exact rfl) fun ad62 cap62 hc62 hn62 => ?_); (· (first | omega | decide)))
          (refine rg rfl (g_assign (by conv => lhs; whnf)) rfl rfl ?_)
          refine rt_nil ?_
          refine q_then ?_
          refine ct_seq ?_
          (refine ct_region' rfl ?_; simp only [List.map, lite])
          (refine rg rfl (g_move (by conv => lhs; whnf)) rfl rfl ?_)
          (refine rg rfl (g_move (by conv => lhs; whnf)) rfl rfl ?_)
          (refine rt_op (wants_none rfl) (o_appR rfl rfl rfl (by first | rfl | assumption | simp | (simp; omega)) (by first | rfl | exact bvsAll _ | exact wvs_all _ | assumption) (by rfl) (by rfl) ?_ (by first | with_reducible exact Nat.zero_add _ | exact rfl) (by first | with_reducible exact List.nil_append _ | exact List.map_append.symm | exact rfl) fun ad65 cap65 hc65 hn65 => ?_); (· (first | omega | decide)))
          (refine rg rfl (g_assign (by conv => lhs; whnf)) rfl rfl ?_)
          refine rt_nil ?_
          refine q_then ?_
          refine ct_ret ?_
          rotate_left
        have hlen : out.length + (A.length - i) + (B.length - j) = (sortS l).length := by omega
        have hfl : out.flatMap hc ++ ([] : List Hs).flatMap hc ++ (B.drop j).flatMap hc = (sortS l).flatMap hc := by
          rw [← hmg, ← ho, List.flatMap_append]; simp
        rw [hlen, hfl]
        exact q_ret1 rfl (by conv => lhs; whnf) (ad65, cap65) rfl (Ent.mul (Ent.refl _) (by exact En.ent))
theorem sortR_spec (R : HP) (a : Option Addr) (c : Nat) (l : List Hs) [hr : Rd R a (l.flatMap hc)] (hl : l.length * 32 ≤ 140737488351232) (hcc : l.length ≤ c) (hna : a = none → c = 0) :
    Spec Try.prog 28 [.slice a l.length c] R (fun i : Option Addr × Nat => .slice i.1 (sortS l).length i.2) (fun i => Arr 23 32 i.1 i.2 (sortS l).length ((sortS l).flatMap hc) * R) :=
  sortR_all l.length R a c l (Nat.le_refl _) hl hcc hna
/-- the first place of a hash in a list; -1: it isn't there -/
def IdxH (l : List Hs) (x : Hs) (i : Int) : Prop := -1 ≤ i ∧ i < l.length ∧ (0 ≤ i ↔ x ∈ l) ∧ ∀ j : Nat, (j : Int) = i → l[j]? = some x ∧ ∀ k, k < j → l[k]? ≠ some x
theorem indexR_spec (R : HP) (a : Option Addr) (c : Nat) (l : List Hs) (x : Hs) [hr : Rd R a (l.flatMap hc)] (hl : l.length ≤ 140737488351232) :
    Spec Try.prog 36 [.slice a l.length c, .agg (hc x).toArray] R (fun i : { i : Int // IdxH l x i } => .int .i64 i.1) (fun _ => R) := by
  refine spec_of Try.func36 rfl Try.ntmps36 rfl fun W0 => ?_
  have hx : (x.1.map bv).length = 32 := hc_len x
  have hx2 := x.2
  focus
    refine ct_seq ?_
    (refine ct_region' rfl ?_; simp only [List.map, lite])
    (refine rt_op (wants_none rfl) (o_box rfl (by conv => lhs; whnf) (by conv => lhs; whnf) fun b3 => ?_))
    (refine rg rfl (g_assign (by conv => lhs; whnf)) rfl rfl ?_)
    refine rt_nil ?_
    refine q_then ?_
    refine ct_seq ?_
    refine ct_seq ?_
    (refine ct_region' rfl ?_; simp only [List.map, lite])
    (refine rg rfl (g_assign (by conv => lhs; whnf)) rfl rfl ?_)
    refine rt_nil ?_
    refine q_then ?_
    refine ct_block ?_
    rotate_left
  refine ct_loop (ι := { i : Nat // i ≤ l.length ∧ ∀ k, k < i → l[k]? ≠ some x }) (fun i => [(0, .slice a l.length c), (3, .pointer (some ⟨b3, 0, none⟩)), (5, .int .i64 (i.1 : Int))]) (fun _ => Blk b3 (x.1.map bv) 23 * R) (fun i => l.length - i.1) ⟨0, by omega, fun k hk => by omega⟩ ⟨rfl, rfl, rfl, trivial⟩ (Ent.refl _) fun i ρ' => ?_
  obtain ⟨i, hi, hq⟩ := i
  dsimp only at hi ⊢
  by_cases h : i < l.length
  · have hli := (l[i]).2
    focus
      refine ct_seq ?_
      refine ct_seq ?_
      (refine ct_region' rfl ?_; simp only [List.map, lite])
      (refine rg rfl (g_move (by conv => lhs; whnf)) rfl rfl ?_)
      (refine rg rfl (g_move (by conv => lhs; whnf)) rfl rfl ?_)
      (refine rg rfl (g_len_slice rfl) rfl rfl ?_)
      (refine rg rfl (g_lssT rfl rfl ?_) rfl rfl ?_; (· (omega)))
      refine rt_nil ?_
      refine q_then ?_
      refine ct_true rfl ?_
      refine ct_skip ?_
      refine q_then ?_
      refine ct_seq ?_
      refine ct_block ?_
      refine ct_seq ?_
      refine ct_quiet (by kernel_rfl) rfl ?_
      simp only [List.map, lite]
      (refine qg rfl (g_move (by conv => lhs; whnf)) rfl rfl ?_)
      (refine qg rfl (g_move (by conv => lhs; whnf)) rfl rfl ?_)
      (refine qg rfl (g_elemH rfl rfl ?_ ?_) rfl rfl ?_; (· (first | omega | decide)); (· (first | omega | decide | (exact pos_of_get (by assumption)) | (simp only [List.length_map, List.length_append, List.length_replicate, List.length_set, List.length_cons, List.length_nil]; omega) | (simp; omega))))
      (refine qg rfl (g_loadH rfl ?_) rfl rfl ?_; (· (first | omega | decide | (exact pos_of_get (by assumption)) | (simp only [List.length_map, List.length_append, List.length_replicate, List.length_set, List.length_cons, List.length_nil]; omega) | (simp; omega))))
      (refine qg rfl (g_loadAgg_blk rfl (by first | rfl | assumption | (simp; done) | (simp; omega))) rfl rfl ?_)
      (refine qg rfl (g_eqH rfl rfl (by kernel_rfl) (by first | rfl | assumption | (simp; done) | (simp; omega)) (by first | rfl | assumption | (simp; done) | (simp; omega))) rfl rfl ?_)
      refine rq_nil ?_
      refine q_then ?_
      refine ct_if rfl (fun h17 => ?_) (fun h17 => ?_)
      refine ct_seq ?_
      (refine ct_region' rfl ?_; simp only [List.map, lite])
      (refine rg rfl (g_move (by conv => lhs; whnf)) rfl rfl ?_)
      (refine rg rfl (g_assign (by conv => lhs; whnf)) rfl rfl ?_)
      refine rt_nil ?_
      refine q_then ?_
      refine ct_ret ?_
      refine q_block_ret ?_
      refine q_then_ret ?_
      refine q_then_ret ?_
      refine q_block_ret ?_
      refine q_then_ret ?_
      rotate_left
      refine ct_skip ?_
      refine q_block ?_
      refine q_then ?_
      (refine ct_region' rfl ?_; simp only [List.map, lite])
      (refine rg rfl (g_move (by conv => lhs; whnf)) rfl rfl ?_)
      (refine rg rfl (g_addN rfl rfl ?_) rfl rfl ?_; (· (constructor <;> omega)))
      (refine rg rfl (g_assign (by conv => lhs; whnf)) rfl rfl ?_)
      refine rt_nil ?_
      rotate_left
    · have he : l[i] = x := hc_inj h17
      refine q_ret1 rfl (by conv => lhs; whnf) ⟨(i : Int), by omega, by omega, ⟨fun _ => he ▸ List.getElem_mem h, fun _ => by omega⟩, fun j hj => ?_⟩ rfl (by exact En.ent)
      have : j = i := by omega
      subst this
      exact ⟨by rw [List.getElem?_eq_getElem h, he], hq⟩
    · refine q_again ⟨i + 1, by omega, fun k hk => ?_⟩ (by show l.length - (i + 1) < l.length - i; omega) ⟨rfl, rfl, rfl, trivial⟩ (Ent.refl _)
      by_cases e : k = i
      · subst e
        rw [List.getElem?_eq_getElem h]
        exact fun e => h17 (congrArg Subtype.val (Option.some.inj e))
      · exact hq k (by omega)
  · focus
      refine ct_seq ?_
      refine ct_seq ?_
      (refine ct_region' rfl ?_; simp only [List.map, lite])
      (refine rg rfl (g_move (by conv => lhs; whnf)) rfl rfl ?_)
      (refine rg rfl (g_move (by conv => lhs; whnf)) rfl rfl ?_)
      (refine rg rfl (g_len_slice rfl) rfl rfl ?_)
      (refine rg rfl (g_lssF rfl rfl ?_) rfl rfl ?_; (· (omega)))
      refine rt_nil ?_
      refine q_then ?_
      refine ct_false rfl ?_
      refine ct_exit ?_
      refine q_then_exit ?_
      refine q_then_exit ?_
      refine q_block_exit ?_
      refine q_then ?_
      refine ct_seq ?_
      (refine ct_region' rfl ?_; simp only [List.map, lite])
      (refine rg rfl (g_assign (by conv => lhs; whnf)) rfl rfl ?_)
      refine rt_nil ?_
      refine q_then ?_
      refine ct_ret ?_
      rotate_left
    refine q_ret1 rfl (by conv => lhs; whnf) ⟨-1, by omega, by omega, ⟨fun h => by omega, fun hm => ?_⟩, fun j hj => by omega⟩ rfl (by exact En.ent)
    obtain ⟨k, hk, e⟩ := List.getElem_of_mem hm
    exact absurd (by rw [List.getElem?_eq_getElem hk, e]) (hq k (by omega))
end Go.Proofs.Ytmhddmenmkjdlaa
