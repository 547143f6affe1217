/- sha: the reference's padding. -/
import Derived.Test.YtmhddmenmkjdlaaS4
namespace Go.Proofs.Ytmhddmenmkjdlaa
open Go.RowKit
attribute [local irreducible] Gives RT CT QT Spec Wants Reads Src Ent OT RQ AnyT AnyOp Again Code.wp Post

/-- so many zeros stand behind the mark -/
def zpad (n : Nat) : Nat := (119 - n % 64) % 64
theorem zpad_end (n : Nat) : (n + 1 + zpad n) % 64 = 56 := by unfold zpad; omega
theorem zpad_before {n j : Nat} (h : j < zpad n) : (n + 1 + j) % 64 ≠ 56 := by unfold zpad at h; omega
theorem zpad_lt (n : Nat) : zpad n < 64 := by unfold zpad; omega
/-- a number's bytes, the great ones first -/
def lenByte (m i : Nat) : UInt8 := UInt8.ofNat (m / 2 ^ (8 * (7 - i)))
def lenBytes (m k : Nat) : List UInt8 := (List.range k).map (lenByte m)
theorem lenBytes_next (m k : Nat) : lenBytes m (k + 1) = lenBytes m k ++ [lenByte m k] := by unfold lenBytes; rw [List.range_succ, List.map_append]; rfl
theorem lenBytes_len (m k : Nat) : (lenBytes m k).length = k := by unfold lenBytes; simp
def padTo (n k : Nat) : List UInt8 := ([128] ++ List.replicate (zpad n) 0) ++ lenBytes (8 * n) k
abbrev pad (n : Nat) : List UInt8 := padTo n 8
theorem byte_of (m : Nat) : Value.int .u8 (IntKind.u8.wrap (m : Int)) = bv (UInt8.ofNat m) := by
  show _ = Value.int .u8 (((UInt8.ofNat m).toNat : Nat) : Int)
  simp [IntKind.wrap, IntKind.bits, IntKind.signed, UInt8.toNat_ofNat']
set_option maxRecDepth 100000 in
set_option maxHeartbeats 8000000 in
theorem padded_spec (R : HP) (a : Option Addr) (c : Nat) (xs : List UInt8) [hr : Rd R a (xs.map bv)] (hl : xs.length ≤ 140737488354000) :
    Spec Try.prog 37 [.slice a xs.length c] R (fun i : Option Addr × Nat => .slice i.1 (xs ++ pad xs.length).length i.2) (fun i => Arr 5 1 i.1 i.2 (xs ++ pad xs.length).length ((xs ++ pad xs.length).map bv) * R) := by
  refine spec_of Try.func37 rfl Try.ntmps37 rfl fun W0 => ?_
  have hz := zpad_end xs.length
  have hzl := zpad_lt xs.length
  have hi0 : (xs ++ ([(128 : UInt8)] ++ List.replicate 0 0)).length = xs.length + 1 := by simp
  focus
    refine ct_seq ?_
    (refine ct_region' rfl ?_; simp only [List.map, lite])
    (refine rg rfl (g_assign (by conv => lhs; whnf)) rfl rfl ?_)
    refine rt_nil ?_
    refine q_then ?_
    refine ct_seq ?_
    (refine ct_region' rfl ?_; simp only [List.map, lite])
    (refine rg rfl (g_move (by conv => lhs; whnf)) rfl rfl ?_)
    (refine rt_op (wants_none rfl) (o_appR rfl rfl rfl (by first | rfl | simp | (simp; omega)) (by first | rfl | exact bvsAll _ | exact wvs_all _ | assumption) (by rfl) (by rfl) ?_ (by first | with_reducible exact Nat.zero_add _ | exact rfl) (by first | with_reducible exact List.nil_append _ | exact List.map_append.symm | exact rfl) fun ad7 cap7 hc7 hn7 => ?_); (· (first | omega | decide)))
    (refine rg rfl (g_assign (by conv => lhs; whnf)) rfl rfl ?_)
    refine rt_nil ?_
    refine q_then ?_
    refine ct_seq ?_
    (refine ct_region' rfl ?_; simp only [List.map, lite])
    (refine rg rfl (g_move (by conv => lhs; whnf)) rfl rfl ?_)
    (refine rt_op (wants_none rfl) (o_build1 rfl (by conv => lhs; whnf) (by rfl) (by rfl) (by rfl) (by conv => lhs; whnf) fun b9 => ?_))
    (refine rt_op (wants_none rfl) (o_app2 rfl rfl rfl (by rfl) (by first | rfl | exact bvsAll _ | exact wvs_all _ | assumption) (by rfl) ?_ (by first | with_reducible exact Nat.zero_add _ | exact rfl) (by first | with_reducible exact List.nil_append _ | exact List.map_append.symm | exact rfl) fun ad10 cap10 hc10 hn10 => ?_); (· (first | omega | decide)))
    (refine rg rfl (g_assign (by conv => lhs; whnf)) rfl rfl ?_)
    refine rt_nil ?_
    refine q_then ?_
    refine ct_seq ?_
    refine ct_block ?_
    rotate_left
  refine ct_loop (ι := { t : (Option Addr × Nat) × Nat // t.2 ≤ zpad xs.length }) (fun t => [(0, .slice a xs.length c), (3, .slice t.1.1.1 (xs ++ ([128] ++ List.replicate t.1.2 0)).length t.1.1.2)]) (fun t => Arr 5 1 t.1.1.1 t.1.1.2 (xs ++ ([128] ++ List.replicate t.1.2 0)).length ((xs ++ ([128] ++ List.replicate t.1.2 0)).map bv) * R) (fun t => zpad xs.length - t.1.2)
    ⟨((ad10, cap10), 0), Nat.zero_le _⟩ ⟨rfl, by dsimp only; rw [hi0]; rfl, trivial⟩ (Ent.mul (arr_cast (by simp) (by simp)) (Ent.refl _)) fun t ρ' => ?_
  obtain ⟨⟨⟨pa, pc⟩, j⟩, hj⟩ := t
  dsimp only at hj ⊢
  have hlen : (xs ++ ([(128 : UInt8)] ++ List.replicate j 0)).length = xs.length + 1 + j := by simp; omega
  generalize hE : xs ++ ([(128 : UInt8)] ++ List.replicate j 0) = E at hlen
  by_cases h : j < zpad xs.length
  · have hb := zpad_before h
    focus
      refine ct_seq ?_
      refine ct_seq ?_
      (refine ct_region' rfl ?_; simp only [List.map, lite])
      (refine rg rfl (g_move (by conv => lhs; whnf)) rfl rfl ?_)
      (refine rg rfl (g_len_slice rfl) rfl rfl ?_)
      (refine rg rfl (g_remN rfl rfl ?_ ?_) rfl rfl ?_; (· (omega)); (· (omega)))
      (refine rg rfl (g_neqT rfl rfl ?_) rfl rfl ?_; (· (omega)))
      refine rt_nil ?_
      refine q_then ?_
      refine ct_true rfl ?_
      refine ct_skip ?_
      refine q_then ?_
      refine ct_block ?_
      (refine ct_region' rfl ?_; simp only [List.map, lite])
      (refine rg rfl (g_move (by conv => lhs; whnf)) rfl rfl ?_)
      (refine rt_op (wants_none rfl) (o_build1 rfl (by conv => lhs; whnf) (by rfl) (by rfl) (by rfl) (by conv => lhs; whnf) fun b16 => ?_))
      (refine rt_op (wants_none rfl) (o_app2 rfl rfl rfl (by rfl) (by first | rfl | exact bvsAll _ | exact wvs_all _ | assumption) (by rfl) ?_ (by first | with_reducible exact Nat.zero_add _ | exact rfl) (by first | with_reducible exact List.nil_append _ | exact List.map_append.symm | exact rfl) fun ad17 cap17 hc17 hn17 => ?_); (· (first | omega | decide)))
      (refine rg rfl (g_assign (by conv => lhs; whnf)) rfl rfl ?_)
      refine rt_nil ?_
      refine q_block ?_
      rotate_left
    have hE2 : xs ++ ([(128 : UInt8)] ++ List.replicate (j + 1) 0) = E ++ [0] := by rw [List.replicate_succ', ← hE]; simp
    refine q_again ⟨((ad17, cap17), j + 1), by omega⟩ (by show zpad xs.length - (j + 1) < zpad xs.length - j; omega) ?_ ?_
    · dsimp only; rw [hE2]; exact ⟨rfl, by rw [List.length_append]; rfl, trivial⟩
    · dsimp only; rw [hE2]; exact Ent.mul (arr_cast (by simp) (by rw [List.map_append]; rfl)) (Ent.refl _)
  · obtain rfl : j = zpad xs.length := by omega
    focus
      refine ct_seq ?_
      refine ct_seq ?_
      (refine ct_region' rfl ?_; simp only [List.map, lite])
      (refine rg rfl (g_move (by conv => lhs; whnf)) rfl rfl ?_)
      (refine rg rfl (g_len_slice rfl) rfl rfl ?_)
      (refine rg rfl (g_remN rfl rfl ?_ ?_) rfl rfl ?_; (· (omega)); (· (omega)))
      (refine rg rfl (g_neqF rfl rfl ?_) rfl rfl ?_; (· (omega)))
      refine rt_nil ?_
      refine q_then ?_
      refine ct_false rfl ?_
      refine ct_exit ?_
      refine q_then_exit ?_
      refine q_then_exit ?_
      refine q_block_exit ?_
      refine q_then ?_
      refine ct_seq ?_
      (refine ct_region' rfl ?_; simp only [List.map, lite])
      (refine rg rfl (g_move (by conv => lhs; whnf)) rfl rfl ?_)
      (refine rg rfl (g_len_slice rfl) rfl rfl ?_)
      (refine rg rfl (g_convN rfl ?_) rfl rfl ?_; (· (constructor <;> omega)))
      (refine rg rfl (g_mulN rfl rfl ?_) rfl rfl ?_; (· (constructor <;> omega)))
      (refine rg rfl (g_assign (by conv => lhs; whnf)) rfl rfl ?_)
      refine rt_nil ?_
      refine q_then ?_
      refine ct_seq ?_
      refine ct_seq ?_
      (refine ct_region' rfl ?_; simp only [List.map, lite])
      (refine rg rfl (g_assign (by conv => lhs; whnf)) rfl rfl ?_)
      refine rt_nil ?_
      refine q_then ?_
      refine ct_block ?_
      rotate_left
    refine ct_loop (ι := { t : (Option Addr × Nat) × Nat // t.2 ≤ 8 }) (fun t => [(3, .slice t.1.1.1 (E ++ lenBytes (8 * xs.length) t.1.2).length t.1.1.2), (4, .int .u64 (8 * (xs.length : Int))), (5, .int .i64 (7 - (t.1.2 : Int)))]) (fun t => Arr 5 1 t.1.1.1 t.1.1.2 (E ++ lenBytes (8 * xs.length) t.1.2).length ((E ++ lenBytes (8 * xs.length) t.1.2).map bv) * R) (fun t => 8 - t.1.2)
      ⟨((pa, pc), 0), Nat.zero_le _⟩ ⟨by rw [show E ++ lenBytes (8 * xs.length) 0 = E by simp [lenBytes]]; rfl, rfl, rfl, trivial⟩ (Ent.mul (arr_cast (by simp [lenBytes]) (by simp [lenBytes])) (Ent.refl _)) fun t ρ' => ?_
    obtain ⟨⟨⟨qa, qc⟩, k⟩, hk⟩ := t
    dsimp only at hk ⊢
    have hlen2 : (E ++ lenBytes (8 * xs.length) k).length = E.length + k := by rw [List.length_append, lenBytes_len]
    have hnext := lenBytes_next (8 * xs.length) k
    by_cases h8 : k < 8
    · generalize hF : E ++ lenBytes (8 * xs.length) k = F at hlen2
      have hbyte : Value.int .u8 (IntKind.u8.wrap (8 * (xs.length : Int) / 2 ^ min (8 * (7 - (k : Int))).toNat 64)) = bv (lenByte (8 * xs.length) k) := by
        have e : min (8 * (7 - (k : Int))).toNat 64 = 8 * (7 - k) := by omega
        have e2 : 8 * (xs.length : Int) / 2 ^ (8 * (7 - k)) = ((8 * xs.length / 2 ^ (8 * (7 - k)) : Nat) : Int) := by norm_cast
        rw [e, e2, byte_of]; rfl
      focus
        refine ct_seq ?_
        refine ct_seq ?_
        (refine ct_region' rfl ?_; simp only [List.map, lite])
        (refine rg rfl (g_move (by conv => lhs; whnf)) rfl rfl ?_)
        (refine rg rfl (g_geqT rfl rfl ?_) rfl rfl ?_; (· (omega)))
        refine rt_nil ?_
        refine q_then ?_
        refine ct_true rfl ?_
        refine ct_skip ?_
        refine q_then ?_
        refine ct_seq ?_
        refine ct_block ?_
        (refine ct_region' rfl ?_; simp only [List.map, lite])
        (refine rg rfl (g_move (by conv => lhs; whnf)) rfl rfl ?_)
        (refine rg rfl (g_move (by conv => lhs; whnf)) rfl rfl ?_)
        (refine rg rfl (g_move (by conv => lhs; whnf)) rfl rfl ?_)
        (refine rg rfl (g_mulN rfl rfl ?_) rfl rfl ?_; (· (constructor <;> omega)))
        (refine rg rfl (g_shrN rfl rfl ?_ ?_ (by simp [IntKind.bits]; rfl)) rfl rfl ?_; (· (omega)); (· (omega)))
        (refine rg rfl (g_conv rfl) rfl rfl ?_)
        (refine rt_op (wants_none rfl) (o_build1 rfl (by conv => lhs; whnf) (by rfl) (by rfl) (by rfl) (by conv => lhs; whnf) fun b32 => ?_))
        (refine rt_op (wants_none rfl) (o_app2 rfl rfl rfl (by rfl) (by first | rfl | exact bvsAll _ | exact wvs_all _ | assumption) (by rfl) ?_ (by first | with_reducible exact Nat.zero_add _ | exact rfl) (by first | with_reducible exact List.nil_append _ | exact List.map_append.symm | exact rfl) fun ad33 cap33 hc33 hn33 => ?_); (· (first | omega | decide)))
        (refine rg rfl (g_assign (by conv => lhs; whnf)) rfl rfl ?_)
        refine rt_nil ?_
        refine q_block ?_
        refine q_then ?_
        (refine ct_region' rfl ?_; simp only [List.map, lite])
        (refine rg rfl (g_move (by conv => lhs; whnf)) rfl rfl ?_)
        (refine rg rfl (g_subN rfl rfl ?_) rfl rfl ?_; (· (constructor <;> omega)))
        (refine rg rfl (g_assign (by conv => lhs; whnf)) rfl rfl ?_)
        refine rt_nil ?_
        rotate_left
      rw [hbyte]
      have hF2 : E ++ lenBytes (8 * xs.length) (k + 1) = F ++ [lenByte (8 * xs.length) k] := by rw [hnext, ← hF, List.append_assoc]
      refine q_again ⟨((ad33, cap33), k + 1), by omega⟩ (by show 8 - (k + 1) < 8 - k; omega) ?_ ?_
      · dsimp only; rw [hF2]; exact ⟨by rw [List.length_append]; rfl, rfl, (congrArg (Value.int .i64) (by omega) : Value.int .i64 (7 - (k : Int) - 1) = .int .i64 (7 - ((k + 1 : Nat) : Int))), trivial⟩
      · dsimp only; rw [hF2]; exact Ent.mul (arr_cast (by simp) (by rw [List.map_append]; rfl)) (Ent.refl _)
    · obtain rfl : k = 8 := by omega
      have hfin : E ++ lenBytes (8 * xs.length) 8 = xs ++ pad xs.length := by rw [← hE]; simp [padTo]
      rw [hfin]
      focus
        refine ct_seq ?_
        refine ct_seq ?_
        (refine ct_region' rfl ?_; simp only [List.map, lite])
        (refine rg rfl (g_move (by conv => lhs; whnf)) rfl rfl ?_)
        (refine rg rfl (g_geqF rfl rfl ?_) rfl rfl ?_; (· (omega)))
        refine rt_nil ?_
        refine q_then ?_
        refine ct_false rfl ?_
        refine ct_exit ?_
        refine q_then_exit ?_
        refine q_then_exit ?_
        refine q_block_exit ?_
        refine q_then ?_
        refine ct_seq ?_
        (refine ct_region' rfl ?_; simp only [List.map, lite])
        (refine rg rfl (g_move (by conv => lhs; whnf)) rfl rfl ?_)
        (refine rg rfl (g_assign (by conv => lhs; whnf)) rfl rfl ?_)
        refine rt_nil ?_
        refine q_then ?_
        refine ct_ret ?_
        rotate_left
      exact q_ret1 rfl (by conv => lhs; whnf) (qa, qc) rfl (Ent.refl _)
end Go.Proofs.Ytmhddmenmkjdlaa
