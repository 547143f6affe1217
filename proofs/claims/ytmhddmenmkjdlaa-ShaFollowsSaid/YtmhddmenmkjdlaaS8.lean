/- sha: Sum. -/
import Derived.Test.YtmhddmenmkjdlaaS7
import Derived.Test.YtmhddmenmkjdlaaIx
namespace Go.Proofs.Ytmhddmenmkjdlaa
open Go.RowKit
attribute [local irreducible] Gives RT CT QT Spec Wants Reads Src Ent OT RQ AnyT AnyOp Again Code.wp Post

theorem shr_byte (x : UInt32) (n : Nat) (h : n < 32) : (x >>> UInt32.ofNat n).toUInt8 = UInt8.ofNat (x.toNat / 2 ^ n) := by
  apply UInt8.toNat_inj.1
  have e : n % 4294967296 = n := Nat.mod_eq_of_lt (by omega)
  simp [UInt32.toNat_shiftRight, Nat.shiftRight_eq_div_pow, e, Nat.mod_eq_of_lt h]
theorem hB_at (r : List UInt32) (i j : Nat) (hj : j < 4) : hB r (4 * i + j) = UInt8.ofNat ((wAt r i).toNat / 2 ^ (24 - 8 * j)) := by
  unfold hB; rw [show (4 * i + j) / 4 = i by omega, show (4 * i + j) % 4 = j by omega]
theorem dig_reads {A R : HP} {d : Nat} {B : List UInt8} (e : Ent A (DigA d B * R)) : Reads A ⟨d, 0, none⟩ ((blocks begins8 B (B.length / 64)).row.map wv) := by
  unfold Reads
  intro W0 x s j v h
  have s1 := s.ent e
  unfold DigA at s1
  obtain ⟨⟨⟨w, r⟩, h1, h2, h3⟩, s'⟩ := s1.ex
  dsimp only at h1 s'
  rw [← h1] at h
  have := dg_reads (A := Blk d (dgC w r B.length) 68 * R) (Ent.refl _)
  unfold Reads at this
  exact this W0 x s' j v h
set_option maxRecDepth 100000 in
set_option maxHeartbeats 8000000 in
theorem sum_spec (R : HP) (d : Nat) (bs : List UInt8) (hl : bs.length ≤ 140737488354000) :
    Spec Try.prog 21 [.pointer (some ⟨d, 0, none⟩)] (DigA d bs * R) (fun _ : Unit => .agg ((shaOf bs).map bv).toArray) (fun _ => DigA d bs * R) := by
  refine spec_of Try.func21 rfl Try.ntmps21 rfl fun W0 => ?_
  refine ct_ent (B := DigA d bs * R) ?_ (Ent.refl _)
  unfold DigA
  refine ct_ex fun t => ?_
  obtain ⟨⟨w, r⟩, hd⟩ := t
  dsimp only at hd ⊢
  have hr := hd.2.1
  have hcl := dgC_len (w := w) (n := bs.length) hr
  have hcn := dgC_num (w := w) (n := bs.length) hr
  have hz := zpad_end bs.length
  have hzl := zpad_lt bs.length
  have hone : (dgC w r bs.length).all Value.oneCell' = true := by
    rw [List.all_eq_true]
    intro v hv
    unfold dgC at hv
    simp only [List.mem_append, List.mem_map, List.mem_singleton] at hv
    rcases hv with ⟨x, _, rfl⟩ | ⟨x, _, rfl⟩ | rfl <;> rfl
  focus
    refine ct_seq ?_
    (refine ct_region' rfl ?_; simp only [List.map, lite])
    (refine rt_op (wants_none rfl) (o_alloc rfl (by conv => lhs; whnf) fun b2 => ?_))
    refine rt_nil ?_
    refine q_then ?_
    refine ct_seq ?_
    (refine ct_region' rfl ?_; simp only [List.map, lite])
    (refine rg rfl (g_move (by conv => lhs; whnf)) rfl rfl ?_)
    (refine rg rfl (g_nil rfl) rfl rfl ?_)
    (refine rg rfl (g_loadAgg_blk rfl (by first | rfl | assumption | (simp; done) | (simp; omega))) rfl rfl ?_)
    (refine rt_op (wants_none rfl) (o_alloc rfl (by conv => lhs; whnf) fun b3 => ?_))
    (refine rt_op (wants_none rfl) (o_storeAgg (vl := dgC w r bs.length) rfl rfl rfl hone hcl rfl ?_))
    refine rt_nil ?_
    refine q_then ?_
    refine ct_seq ?_
    (refine ct_region' rfl ?_; simp only [List.map, lite])
    (refine rg rfl (g_move (by conv => lhs; whnf)) rfl rfl ?_)
    (refine rg rfl (g_nil rfl) rfl rfl ?_)
    (refine rg rfl (g_field0 rfl) rfl rfl ?_)
    (refine rg rfl (g_load rfl (by assumption)) rfl rfl ?_)
    (refine rg rfl (g_convN rfl ?_) rfl rfl ?_; (· (constructor <;> omega)))
    (refine rg rfl (g_mulN rfl rfl ?_) rfl rfl ?_; (· (constructor <;> omega)))
    (refine rg rfl (g_assign (by conv => lhs; whnf)) rfl rfl ?_)
    refine rt_nil ?_
    refine q_then ?_
    refine ct_seq ?_
    (refine ct_region' rfl ?_; simp only [List.map, lite])
    (refine rt_op (wants_none rfl) (o_build1 rfl (by conv => lhs; whnf) (by rfl) (by rfl) (by rfl) (by conv => lhs; whnf) fun b19 => ?_))
    (refine rg rfl (g_assign (by conv => lhs; whnf)) rfl rfl ?_)
    refine rt_nil ?_
    refine q_then ?_
    refine ct_seq ?_
    refine ct_block ?_
    rotate_left
  have hi0 : ([(128 : UInt8)] ++ List.replicate 0 0).length = 1 := by simp
  refine ct_ent (B := Arr 5 1 (some ⟨b19, 0, none⟩) 1 1 ([(128 : UInt8)].map bv) * (Blk b3 (dgC w r bs.length) 68 * (Blk b2 ((List.replicate 32 (0 : UInt8)).map bv) 23 * (Blk d (dgC w r bs.length) 68 * R)))) ?_ (Ent.mul (blk_arr 1 1 rfl (by unfold maxLen; omega)) (Ent.refl _))
  refine ct_loop (ι := { t : (Option Addr × Nat) × Nat // t.2 ≤ zpad bs.length ∧ t.1.1 ≠ none }) (fun t => [(0, .pointer (some ⟨d, 0, none⟩)), (2, .pointer (some ⟨b2, 0, none⟩)), (3, .pointer (some ⟨b3, 0, none⟩)), (4, .int .u64 (8 * (bs.length : Int))), (5, .slice t.1.1.1 ([(128 : UInt8)] ++ List.replicate t.1.2 0).length t.1.1.2)]) (fun t => Arr 5 1 t.1.1.1 t.1.1.2 ([(128 : UInt8)] ++ List.replicate t.1.2 0).length (([(128 : UInt8)] ++ List.replicate t.1.2 0).map bv) * (Blk b3 (dgC w r bs.length) 68 * (Blk b2 ((List.replicate 32 (0 : UInt8)).map bv) 23 * (Blk d (dgC w r bs.length) 68 * R)))) (fun t => zpad bs.length - t.1.2)
    ⟨((some ⟨b19, 0, none⟩, 1), 0), Nat.zero_le _, by simp⟩ ⟨rfl, rfl, rfl, rfl, rfl, trivial⟩ (Ent.refl _) fun t ρ' => ?_
  obtain ⟨⟨⟨pa, pc⟩, j⟩, hj, hpn⟩ := t
  dsimp only at hj hpn ⊢
  have hlen : ([(128 : UInt8)] ++ List.replicate j 0).length = 1 + j := by simp; omega
  generalize hE : [(128 : UInt8)] ++ List.replicate j 0 = E at hlen
  by_cases h : j < zpad bs.length
  · have hb := zpad_before h
    focus
      refine ct_seq ?_
      refine ct_seq ?_
      (refine ct_region' rfl ?_; simp only [List.map, lite])
      (refine rg rfl (g_move (by conv => lhs; whnf)) rfl rfl ?_)
      (refine rg rfl (g_nil rfl) rfl rfl ?_)
      (refine rg rfl (g_field0 rfl) rfl rfl ?_)
      (refine rg rfl (g_load rfl (by assumption)) rfl rfl ?_)
      (refine rg rfl (g_move (by conv => lhs; whnf)) rfl rfl ?_)
      (refine rg rfl (g_len_slice rfl) rfl rfl ?_)
      (refine rg rfl (g_addN rfl rfl ?_) rfl rfl ?_; (· (constructor <;> omega)))
      (refine rg rfl (g_remN rfl rfl ?_ ?_) rfl rfl ?_; (· (omega)); (· (omega)))
      (refine rg rfl (g_neqT rfl rfl ?_) rfl rfl ?_; (· (omega)))
      refine rt_nil ?_
      refine q_then ?_
      refine ct_true rfl ?_
      refine ct_skip ?_
      refine q_then ?_
      refine ct_block ?_
      (refine ct_region' rfl ?_; simp only [List.map, lite])
      (refine rg rfl (g_move (by conv => lhs; whnf)) rfl rfl ?_)
      (refine rt_op (wants_none rfl) (o_build1 rfl (by conv => lhs; whnf) (by rfl) (by rfl) (by rfl) (by conv => lhs; whnf) fun b30 => ?_))
      (refine rt_op (wants_none rfl) (o_app2 rfl rfl rfl (by rfl) (by first | rfl | exact bvsAll _ | exact wvs_all _ | assumption) (by rfl) ?_ (by first | with_reducible exact Nat.zero_add _ | exact rfl) (by first | with_reducible exact List.nil_append _ | exact List.map_append.symm | exact rfl) fun ad31 cap31 hc31 hn31 => ?_); (· (first | omega | decide)))
      (refine rg rfl (g_assign (by conv => lhs; whnf)) rfl rfl ?_)
      refine rt_nil ?_
      refine q_block ?_
      rotate_left
    have hE2 : [(128 : UInt8)] ++ List.replicate (j + 1) 0 = E ++ [0] := by rw [List.replicate_succ', ← hE]; simp
    refine q_again ⟨((ad31, cap31), j + 1), by omega, hn31⟩ (by show zpad bs.length - (j + 1) < zpad bs.length - j; omega) ?_ ?_
    · dsimp only; rw [hE2]; exact ⟨rfl, rfl, rfl, rfl, by rw [List.length_append]; rfl, trivial⟩
    · dsimp only; rw [hE2]; exact Ent.mul (arr_cast (by simp) (by rw [List.map_append]; rfl)) (Ent.refl _)
  · obtain rfl : j = zpad bs.length := by omega
    focus
      refine ct_seq ?_
      refine ct_seq ?_
      (refine ct_region' rfl ?_; simp only [List.map, lite])
      (refine rg rfl (g_move (by conv => lhs; whnf)) rfl rfl ?_)
      (refine rg rfl (g_nil rfl) rfl rfl ?_)
      (refine rg rfl (g_field0 rfl) rfl rfl ?_)
      (refine rg rfl (g_load rfl (by assumption)) rfl rfl ?_)
      (refine rg rfl (g_move (by conv => lhs; whnf)) rfl rfl ?_)
      (refine rg rfl (g_len_slice rfl) rfl rfl ?_)
      (refine rg rfl (g_addN rfl rfl ?_) rfl rfl ?_; (· (constructor <;> omega)))
      (refine rg rfl (g_remN rfl rfl ?_ ?_) rfl rfl ?_; (· (omega)); (· (omega)))
      (refine rg rfl (g_neqF rfl rfl ?_) rfl rfl ?_; (· (omega)))
      refine rt_nil ?_
      refine q_then ?_
      refine ct_false rfl ?_
      refine ct_exit ?_
      refine q_then_exit ?_
      refine q_then_exit ?_
      refine q_block_exit ?_
      refine q_then ?_
      refine ct_seq ?_
      refine ct_seq ?_
      (refine ct_region' rfl ?_; simp only [List.map, lite])
      (refine rg rfl (g_assign (by conv => lhs; whnf)) rfl rfl ?_)
      refine rt_nil ?_
      refine q_then ?_
      refine ct_block ?_
      rotate_left
    refine ct_loop (ι := { t : (Option Addr × Nat) × Nat // t.2 ≤ 8 ∧ t.1.1 ≠ none }) (fun t => [(2, .pointer (some ⟨b2, 0, none⟩)), (3, .pointer (some ⟨b3, 0, none⟩)), (4, .int .u64 (8 * (bs.length : Int))), (5, .slice t.1.1.1 (E ++ lenBytes (8 * bs.length) t.1.2).length t.1.1.2), (6, .int .i64 (56 - 8 * (t.1.2 : Int)))]) (fun t => Arr 5 1 t.1.1.1 t.1.1.2 (E ++ lenBytes (8 * bs.length) t.1.2).length ((E ++ lenBytes (8 * bs.length) t.1.2).map bv) * (Blk b3 (dgC w r bs.length) 68 * (Blk b2 ((List.replicate 32 (0 : UInt8)).map bv) 23 * (Blk d (dgC w r bs.length) 68 * R)))) (fun t => 8 - t.1.2)
      ⟨((pa, pc), 0), Nat.zero_le _, hpn⟩ ⟨rfl, rfl, rfl, by rw [show E ++ lenBytes (8 * bs.length) 0 = E by simp [lenBytes]]; rfl, rfl, trivial⟩ (by rw [show E ++ lenBytes (8 * bs.length) 0 = E by simp [lenBytes]]; exact En.ent) fun t ρ' => ?_
    obtain ⟨⟨⟨qa, qc⟩, k⟩, hk, hqn⟩ := t
    dsimp only at hk hqn ⊢
    have hlen2 : (E ++ lenBytes (8 * bs.length) k).length = E.length + k := by rw [List.length_append, lenBytes_len]
    have hnext := lenBytes_next (8 * bs.length) k
    by_cases h8 : k < 8
    · generalize hF : E ++ lenBytes (8 * bs.length) k = F at hlen2
      have hbyte : Value.int .u8 (IntKind.u8.wrap (8 * (bs.length : Int) / 2 ^ min (56 - 8 * (k : Int)).toNat 64)) = bv (lenByte (8 * bs.length) k) := by
        have e : min (56 - 8 * (k : Int)).toNat 64 = 8 * (7 - k) := by omega
        have e2 : 8 * (bs.length : Int) / 2 ^ (8 * (7 - k)) = ((8 * bs.length / 2 ^ (8 * (7 - k)) : Nat) : Int) := by norm_cast
        rw [e, e2, byte_of]; rfl
      focus
        refine ct_seq ?_
        refine ct_seq ?_
        (refine ct_region' rfl ?_; simp only [List.map, lite])
        (refine rg rfl (g_move (by conv => lhs; whnf)) rfl rfl ?_)
        (refine rg rfl (g_geqT rfl rfl ?_) rfl rfl ?_; (· (omega)))
        refine rt_nil ?_
        refine q_then ?_
        refine ct_true rfl ?_
        refine ct_skip ?_
        refine q_then ?_
        refine ct_seq ?_
        refine ct_block ?_
        (refine ct_region' rfl ?_; simp only [List.map, lite])
        (refine rg rfl (g_move (by conv => lhs; whnf)) rfl rfl ?_)
        (refine rg rfl (g_move (by conv => lhs; whnf)) rfl rfl ?_)
        (refine rg rfl (g_move (by conv => lhs; whnf)) rfl rfl ?_)
        (refine rg rfl (g_shrN rfl rfl ?_ ?_ (by simp [IntKind.bits]; rfl)) rfl rfl ?_; (· (omega)); (· (omega)))
        (refine rg rfl (g_conv rfl) rfl rfl ?_)
        (refine rt_op (wants_none rfl) (o_build1 rfl (by conv => lhs; whnf) (by rfl) (by rfl) (by rfl) (by conv => lhs; whnf) fun b41 => ?_))
        (refine rt_op (wants_none rfl) (o_app2 rfl rfl rfl (by rfl) (by first | rfl | exact bvsAll _ | exact wvs_all _ | assumption) (by rfl) ?_ (by first | with_reducible exact Nat.zero_add _ | exact rfl) (by first | with_reducible exact List.nil_append _ | exact List.map_append.symm | exact rfl) fun ad42 cap42 hc42 hn42 => ?_); (· (first | omega | decide)))
        (refine rg rfl (g_assign (by conv => lhs; whnf)) rfl rfl ?_)
        refine rt_nil ?_
        refine q_block ?_
        refine q_then ?_
        (refine ct_region' rfl ?_; simp only [List.map, lite])
        (refine rg rfl (g_move (by conv => lhs; whnf)) rfl rfl ?_)
        (refine rg rfl (g_subN rfl rfl ?_) rfl rfl ?_; (· (constructor <;> omega)))
        (refine rg rfl (g_assign (by conv => lhs; whnf)) rfl rfl ?_)
        refine rt_nil ?_
        rotate_left
      rw [hbyte]
      have hF2 : E ++ lenBytes (8 * bs.length) (k + 1) = F ++ [lenByte (8 * bs.length) k] := by rw [hnext, ← hF, List.append_assoc]
      refine q_again ⟨((ad42, cap42), k + 1), by omega, hn42⟩ (by show 8 - (k + 1) < 8 - k; omega) ?_ ?_
      · dsimp only; rw [hF2]; exact ⟨rfl, rfl, rfl, by rw [List.length_append]; rfl, (congrArg (Value.int .i64) (by omega) : Value.int .i64 (56 - 8 * (k : Int) - 8) = .int .i64 (56 - 8 * ((k + 1 : Nat) : Int))), trivial⟩
      · dsimp only; rw [hF2]; exact Ent.mul (arr_cast (by simp) (by rw [List.map_append]; rfl)) (Ent.refl _)
    · obtain rfl : k = 8 := by omega
      have hfin : E ++ lenBytes (8 * bs.length) 8 = pad bs.length := by rw [← hE]; rfl
      rw [hfin]
      have hpl := pad_len bs.length
      refine ct_ent (B := Arr 5 1 qa qc (pad bs.length).length ((pad bs.length).map bv) * (DigA b3 bs * (Blk b2 ((List.replicate 32 (0 : UInt8)).map bv) 23 * (DigA d bs * R)))) ?_ (Ent.mul (Ent.refl _) (Ent.mul (dig_mk hd) (Ent.mul (Ent.refl _) (Ent.mul (dig_mk hd) (Ent.refl _)))))
      refine ct_arr 5 1 qa qc fun f1 f2 f3 f4 => ?_
      have hqn' : qa = none → qc = 0 := fun h => (f2 h).2
      have hsh : shaOf bs = hBs (blocks begins8 (bs ++ pad bs.length) ((bs ++ pad bs.length).length / 64)).row 32 := rfl
      rw [hsh]
      focus
        refine ct_seq ?_
        refine ct_seq ?_
        (refine ct_region' rfl ?_; simp only [List.map, lite])
        (refine rg rfl (g_move (by conv => lhs; whnf)) rfl rfl ?_)
        (refine rg rfl (g_geqF rfl rfl ?_) rfl rfl ?_; (· (omega)))
        refine rt_nil ?_
        refine q_then ?_
        refine ct_false rfl ?_
        refine ct_exit ?_
        refine q_then_exit ?_
        refine q_then_exit ?_
        refine q_block_exit ?_
        refine q_then ?_
        refine ct_seq ?_
        (refine ct_region' rfl ?_; simp only [List.map, lite])
        (refine rg rfl (g_move (by conv => lhs; whnf)) rfl rfl ?_)
        (refine rt_op (wants_none rfl) (o_callE rfl rfl (ent_right (Ent.refl _)) (Go.Proofs.Ytmhddmenmkjdlaa.write_spec _ _ _ _ _ _ ?_ ?_ ?_) fun i44 => ?_); (· (first | assumption | omega | rfl | decide | infer_instance | (simp; done) | (simp; omega) | (simp only [*]; done))); (· (first | assumption | omega | rfl | decide | infer_instance | (simp; done) | (simp; omega) | (simp only [*]; done))); (· (first | assumption | omega | rfl | decide | infer_instance | (simp; done) | (simp; omega) | (simp only [*]; done))))
        refine rt_nil ?_
        refine q_then ?_
        refine ct_seq ?_
        (refine ct_region' rfl ?_; simp only [List.map, lite])
        (refine rt_op (wants_none rfl) (o_alloc rfl (by conv => lhs; whnf) fun b7 => ?_))
        refine rt_nil ?_
        refine q_then ?_
        refine ct_seq ?_
        refine ct_seq ?_
        (refine ct_region' rfl ?_; simp only [List.map, lite])
        (refine rg rfl (g_field0 rfl) rfl rfl ?_)
        (refine rg rfl (g_load_agg (vs := (blocks begins8 (bs ++ pad bs.length) ((bs ++ pad bs.length).length / 64)).row.map wv) rfl rfl (dig_reads (R := Arr 5 1 qa qc (pad bs.length).length ((pad bs.length).map bv) * (Blk b2 ((List.replicate 32 (0 : UInt8)).map bv) 23 * (DigA d bs * R))) ((Ent.dropL _ _).trans (by exact En.ent)))) rfl rfl ?_)
        (refine rg rfl (g_move (by conv => lhs; whnf)) rfl rfl ?_)
        refine rt_nil ?_
        refine q_then ?_
        refine ct_block ?_
        rotate_left
      generalize blocks begins8 (bs ++ pad bs.length) ((bs ++ pad bs.length).length / 64) = s8
      refine ct_ent (B := Blk b7 ((hRow s8.row (4 * 0)).map bv) 23 * (Blk b2 ((List.replicate 32 (0 : UInt8)).map bv) 23 * (DigA d bs * R))) ?_ (Ent.mul (Ent.refl _) ((Ent.dropL _ _).trans ((Ent.dropL _ _).trans (Ent.refl _))))
      refine ct_loop (ι := { i : Nat // i ≤ 8 }) (fun i => [(2, .pointer (some ⟨b2, 0, none⟩)), (7, .pointer (some ⟨b7, 0, none⟩)), (46, .agg (s8.row.map wv).toArray), (47, .int .i64 (i.1 : Int))]) (fun i => Blk b7 ((hRow s8.row (4 * i.1)).map bv) 23 * (Blk b2 ((List.replicate 32 (0 : UInt8)).map bv) 23 * (DigA d bs * R))) (fun i => 8 - i.1)
        ⟨0, Nat.zero_le _⟩ ⟨rfl, rfl, rfl, rfl, trivial⟩ (Ent.refl _) fun i ρ' => ?_
      obtain ⟨i, hi⟩ := i
      dsimp only at hi ⊢
      have hrl := hRow_len s8.row (k := 4 * i) (by omega)
      have hml : ((hRow s8.row (4 * i)).map bv).length = 32 := by rw [List.length_map]; exact hrl
      by_cases h : i < 8
      · have hra := row_at s8 i h
        have e0 := hRow_set s8.row (4 * i) (by omega)
        have e1 := hRow_set s8.row (4 * i + 1) (by omega)
        have e2 := hRow_set s8.row (4 * i + 2) (by omega)
        have e3 := hRow_set s8.row (4 * i + 3) (by omega)
        focus
          refine ct_seq ?_
          (refine ct_region' rfl ?_; simp only [List.map, lite])
          (refine rg rfl (g_lssT rfl rfl ?_) rfl rfl ?_; (· (omega)))
          refine rt_nil ?_
          refine q_then ?_
          refine ct_seq ?_
          refine ct_true rfl ?_
          refine ct_skip ?_
          refine q_then ?_
          refine ct_seq ?_
          refine ct_block ?_
          refine ct_seq ?_
          (refine ct_region' rfl ?_; simp only [List.map, lite])
          (refine rg rfl (g_move (by conv => lhs; whnf)) rfl rfl ?_)
          (refine rg rfl (g_indexA rfl rfl (by omega) hra) rfl rfl ?_)
          (refine rg rfl (g_assign (by conv => lhs; whnf)) rfl rfl ?_)
          (refine rg rfl (g_assign (by conv => lhs; whnf)) rfl rfl ?_)
          refine rt_nil ?_
          refine q_then ?_
          (refine ct_region' rfl ?_; simp only [List.map, lite])
          (refine rg rfl (g_move (by conv => lhs; whnf)) rfl rfl ?_)
          (refine rg rfl (g_mulN rfl rfl ?_) rfl rfl ?_; (· (constructor <;> omega)))
          (refine rg rfl (g_move (by conv => lhs; whnf)) rfl rfl ?_)
          (refine rg rfl (g_mulN rfl rfl ?_) rfl rfl ?_; (· (constructor <;> omega)))
          (refine rg rfl (g_addN rfl rfl ?_) rfl rfl ?_; (· (constructor <;> omega)))
          (refine rg rfl (g_move (by conv => lhs; whnf)) rfl rfl ?_)
          (refine rg rfl (g_mulN rfl rfl ?_) rfl rfl ?_; (· (constructor <;> omega)))
          (refine rg rfl (g_addN rfl rfl ?_) rfl rfl ?_; (· (constructor <;> omega)))
          (refine rg rfl (g_move (by conv => lhs; whnf)) rfl rfl ?_)
          (refine rg rfl (g_mulN rfl rfl ?_) rfl rfl ?_; (· (constructor <;> omega)))
          (refine rg rfl (g_addN rfl rfl ?_) rfl rfl ?_; (· (constructor <;> omega)))
          (refine rg rfl (g_move (by conv => lhs; whnf)) rfl rfl ?_)
          (refine rg rfl (g_shr32 rfl rfl (by conv => lhs; whnf) ?_ ?_) rfl rfl ?_; (· (first | omega | decide)); (· (first | omega | decide)))
          (refine rg rfl (g_convB rfl) rfl rfl ?_)
          (refine rg rfl (g_move (by conv => lhs; whnf)) rfl rfl ?_)
          (refine rg rfl (g_shr32 rfl rfl (by conv => lhs; whnf) ?_ ?_) rfl rfl ?_; (· (first | omega | decide)); (· (first | omega | decide)))
          (refine rg rfl (g_convB rfl) rfl rfl ?_)
          (refine rg rfl (g_move (by conv => lhs; whnf)) rfl rfl ?_)
          (refine rg rfl (g_shr32 rfl rfl (by conv => lhs; whnf) ?_ ?_) rfl rfl ?_; (· (first | omega | decide)); (· (first | omega | decide)))
          (refine rg rfl (g_convB rfl) rfl rfl ?_)
          (refine rg rfl (g_move (by conv => lhs; whnf)) rfl rfl ?_)
          (refine rg rfl (g_convB rfl) rfl rfl ?_)
          (refine rg rfl (g_elemB1 rfl rfl ?_) rfl rfl ?_; (· (first | omega | decide)))
          (refine rt_op (wants_none rfl) (o_storeI rfl (by conv => lhs; whnf) rfl ?_ rfl ?_); (· (first | omega | decide | (exact pos_of_get (by assumption)) | (simp only [List.length_map, List.length_append, List.length_replicate, List.length_set, List.length_cons, List.length_nil]; omega) | (simp; omega))))
          (refine rg rfl (g_elemB1 rfl rfl ?_) rfl rfl ?_; (· (first | omega | decide)))
          (refine rt_op (wants_none rfl) (o_storeI rfl (by conv => lhs; whnf) rfl ?_ rfl ?_); (· (first | omega | decide | (exact pos_of_get (by assumption)) | (simp only [List.length_map, List.length_append, List.length_replicate, List.length_set, List.length_cons, List.length_nil]; omega) | (simp; omega))))
          (refine rg rfl (g_elemB1 rfl rfl ?_) rfl rfl ?_; (· (first | omega | decide)))
          (refine rt_op (wants_none rfl) (o_storeI rfl (by conv => lhs; whnf) rfl ?_ rfl ?_); (· (first | omega | decide | (exact pos_of_get (by assumption)) | (simp only [List.length_map, List.length_append, List.length_replicate, List.length_set, List.length_cons, List.length_nil]; omega) | (simp; omega))))
          (refine rg rfl (g_elemB1 rfl rfl ?_) rfl rfl ?_; (· (first | omega | decide)))
          (refine rt_op (wants_none rfl) (o_storeI rfl (by conv => lhs; whnf) rfl ?_ rfl ?_); (· (first | omega | decide | (exact pos_of_get (by assumption)) | (simp only [List.length_map, List.length_append, List.length_replicate, List.length_set, List.length_cons, List.length_nil]; omega) | (simp; omega))))
          refine rt_nil ?_
          refine q_block ?_
          refine q_then ?_
          (refine ct_region' rfl ?_; simp only [List.map, lite])
          (refine rg rfl (g_addN rfl rfl ?_) rfl rfl ?_; (· (constructor <;> omega)))
          (refine rg rfl (g_move (by conv => lhs; whnf)) rfl rfl ?_)
          refine rt_nil ?_
          rotate_left
        have b0 : (wAt s8.row i >>> UInt32.ofNat 24).toUInt8 = hB s8.row (4 * i) := by rw [shr_byte _ _ (by omega)]; exact (hB_at s8.row i 0 (by omega)).symm
        have b1 : (wAt s8.row i >>> UInt32.ofNat 16).toUInt8 = hB s8.row (4 * i + 1) := by rw [shr_byte _ _ (by omega)]; exact (hB_at s8.row i 1 (by omega)).symm
        have b2 : (wAt s8.row i >>> UInt32.ofNat 8).toUInt8 = hB s8.row (4 * i + 2) := by rw [shr_byte _ _ (by omega)]; exact (hB_at s8.row i 2 (by omega)).symm
        have b3 : (wAt s8.row i).toUInt8 = hB s8.row (4 * i + 3) := by
          rw [hB_at s8.row i 3 (by omega)]
          apply UInt8.toNat_inj.1
          simp
        rw [b0, b1, b2, b3, e0, e1, e2, e3]
        exact q_again ⟨i + 1, by omega⟩ (by show 8 - (i + 1) < 8 - i; omega) ⟨rfl, rfl, rfl, rfl, trivial⟩ (by show Ent _ (Blk b7 ((hRow s8.row (4 * (i + 1))).map bv) 23 * _); rw [show 4 * (i + 1) = 4 * i + 3 + 1 by omega]; exact Ent.refl _)
      · obtain rfl : i = 8 := by omega
        rw [show 4 * 8 = 32 from rfl, hRow_end] at hml ⊢
        have hml2 : ((hBs s8.row 32).map bv).length = 32 := hml
        focus
          refine ct_seq ?_
          (refine ct_region' rfl ?_; simp only [List.map, lite])
          (refine rg rfl (g_lssF rfl rfl ?_) rfl rfl ?_; (· (omega)))
          refine rt_nil ?_
          refine q_then ?_
          refine ct_seq ?_
          refine ct_false rfl ?_
          refine ct_exit ?_
          refine q_then_exit ?_
          refine q_then_exit ?_
          refine q_block_exit ?_
          refine q_then ?_
          refine ct_seq ?_
          (refine ct_region' rfl ?_; simp only [List.map, lite])
          (refine rg rfl (g_loadAgg_blk rfl (by first | rfl | assumption | (simp; done) | (simp; omega))) rfl rfl ?_)
          (refine rt_op (wants_none rfl) (o_storeAgg rfl (by conv => lhs; whnf) (by first | exact List.toList_toArray | (conv => lhs; whnf)) (by first | rfl | exact bvsAll _ | exact wvs_all _ | assumption) (by first | rfl | assumption | (simp; done) | (simp; omega)) (by first | rfl | assumption | (simp; done) | (simp; omega)) ?_))
          refine rt_nil ?_
          refine q_then ?_
          refine ct_ret ?_
          rotate_left
        exact q_retC rfl (cell_blk rfl hml2) () rfl ((Ent.dropL _ _).trans (Ent.dropL _ _))
end Go.Proofs.Ytmhddmenmkjdlaa
