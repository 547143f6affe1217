/- sha: a piece, the reference's. -/
import Derived.Test.YtmhddmenmkjdlaaS2
namespace Go.Proofs.Ytmhddmenmkjdlaa
open Go.RowKit
attribute [local irreducible] Gives RT CT QT Spec Wants Reads Src Ent OT RQ AnyT AnyOp Again Code.wp Post

/-! ### one round, on eight words a to h -/
def eg1 (e : UInt32) : UInt32 := (rotr e 6 ^^^ rotr e 11) ^^^ rotr e 25
def eg0 (a : UInt32) : UInt32 := (rotr a 2 ^^^ rotr a 13) ^^^ rotr a 22
def ch (e f g : UInt32) : UInt32 := (e &&& f) ^^^ (~~~e &&& g)
def maj (a b c : UInt32) : UInt32 := ((a &&& b) ^^^ (a &&& c)) ^^^ (b &&& c)
structure S8 where
  (a b c d e f g h : UInt32)
def S8.row (s : S8) : List UInt32 := [s.a, s.b, s.c, s.d, s.e, s.f, s.g, s.h]
def one (s : S8) (k w : UInt32) : UInt32 := (((s.h + eg1 s.e) + ch s.e s.f s.g) + k) + w
def two (s : S8) : UInt32 := eg0 s.a + maj s.a s.b s.c
def round (s : S8) (k w : UInt32) : S8 := ⟨one s k w + two s, s.a, s.b, s.c, s.d + one s k w, s.e, s.f, s.g⟩
def roundsUpto (s : S8) (xs : List UInt8) : Nat → S8
  | 0 => s
  | t + 1 => round (roundsUpto s xs t) (wAt rounds0 t) (wAt (wsUpto xs 64) t)
def plus8 (s v : S8) : S8 := ⟨s.a + v.a, s.b + v.b, s.c + v.c, s.d + v.d, s.e + v.e, s.f + v.f, s.g + v.g, s.h + v.h⟩
def piece (s : S8) (xs : List UInt8) : S8 := plus8 s (roundsUpto s xs 64)
theorem row8_get (s : S8) : ((s.row).map wv) = [wv s.a, wv s.b, wv s.c, wv s.d, wv s.e, wv s.f, wv s.g, wv s.h] := rfl

def plusRow (s v : S8) (i : Nat) : List Value := ((plus8 s v).row.take i ++ s.row.drop i).map wv
theorem plus_get (s v : S8) : ∀ i, i < 8 → (plusRow s v i)[i]? = some (wv (wAt s.row i)) ∧ (v.row.map wv)[i]? = some (wv (wAt v.row i)) ∧ (plusRow s v i).set i (wv (wAt s.row i + wAt v.row i)) = plusRow s v (i + 1) ∧ Nat.blt i (plusRow s v i).length = true
  | 0, _ | 1, _ | 2, _ | 3, _ | 4, _ | 5, _ | 6, _ | 7, _ => ⟨rfl, rfl, rfl, rfl⟩
  | n + 8, h => by omega

theorem pieceR_spec (R : HP) (s : S8) (xs : List UInt8) (g : Addr) (c : Nat) (hr : Reads R g (xs.map bv)) (hx : xs.length = 64) :
    Spec Try.prog 40 [.agg (s.row.map wv).toArray, .slice (some g) 64 c, .agg (rounds0.map wv).toArray] R (fun _ : Unit => .agg ((piece s xs).row.map wv).toArray) (fun _ => R) := by
  refine spec_of Try.func40 rfl Try.ntmps40 rfl fun W0 => ?_
  repeat (first | refine ct_seq ?_ | (refine ct_region' rfl ?_; simp only [List.map, lite]))
  refine rt_op (wants_none rfl) (o_box rfl rfl (vc := s.row.map wv) (by rfl) fun p3 => ?_)
  skip
  refine rt_op (wants_none rfl) (o_box rfl rfl (vc := rounds0.map wv) (by rfl) fun p5 => ?_)
  skip
  refine rt_op (wants_none rfl) (o_alloc (zc := (List.replicate 8 (0 : UInt32)).map wv) rfl (by rfl) fun p6 => ?_)
  repeat (first | refine ct_seq ?_ | (refine ct_region' rfl ?_; simp only [List.map, lite]) | refine rt_nil ?_ | refine q_then ?_ | refine rg rfl (g_move (by conv => lhs; whnf)) rfl rfl ?_)
  refine rt_op (wants_none rfl) (o_call rfl rfl (words_spec _ xs g c ((((hr.ent (Ent.dropL _ _)).ent (Ent.dropL _ _)).ent (Ent.dropL _ _))) hx) fun _ => ?_)
  generalize hW : wRow xs 64 = W
  have hWl : W.length = 64 := by rw [← hW]; exact wRow_len xs 64 (by omega)
  have hWa : W.all (fun v => v.oneCell') = true := by rw [← hW]; exact wvs_all _
  skip
  refine rt_op (wants_none rfl) (o_alloc rfl (by rfl) fun p7 => ?_)
  skip
  refine rt_op (wants_none rfl) (o_storeAgg (vl := W) rfl rfl (by rfl) hWa hWl (by rfl) ?_)
  repeat (first | refine ct_seq ?_ | (refine ct_region' rfl ?_; simp only [List.map, lite]) | refine rt_nil ?_ | refine q_then ?_)
  refine rg rfl (g_load_agg (vs := s.row.map wv) rfl (by rfl) (reads_blk (p := p3) (cs := s.row.map wv) (by intro j v h; simpa using h))) rfl rfl ?_
  skip
  refine rt_op (wants_none rfl) (o_alloc rfl (by rfl) fun p8 => ?_)
  skip
  refine rt_op (wants_none rfl) (o_storeAgg (vl := s.row.map wv) rfl rfl (by rfl) (wvs_all _) (by rfl) (by rfl) ?_)
  repeat (first | refine ct_seq ?_ | refine ct_block ?_ | (refine ct_region' rfl ?_; simp only [List.map, lite]) | refine rt_nil ?_ | refine q_then ?_ | refine rg rfl (g_assign (by conv => lhs; whnf)) rfl rfl ?_)
  refine ct_loop (ι := { t : Nat // t ≤ 64 }) (fun t => [(3, .pointer (some ⟨p3, 0, none⟩)), (5, .pointer (some ⟨p5, 0, none⟩)), (6, .pointer (some ⟨p6, 0, none⟩)), (7, .pointer (some ⟨p7, 0, none⟩)), (8, .pointer (some ⟨p8, 0, none⟩)), (9, .int .i64 (t.1 : Int))]) (fun t => Blk p8 ((roundsUpto s xs t.1).row.map wv) 61 * (Blk p7 W 63 * (Blk p6 ((List.replicate 8 (0 : UInt32)).map wv) 61 * (Blk p5 (rounds0.map wv) 63 * (Blk p3 (s.row.map wv) 61 * R))))) (fun t => 64 - t.1)
    ⟨0, by omega⟩ ⟨rfl, rfl, rfl, rfl, rfl, rfl, trivial⟩ (by simp only [roundsUpto]; exact En.ent) fun t ρ' => ?_
  obtain ⟨t, ht⟩ := t
  simp only
  by_cases hlt : t < 64
  · generalize hv : roundsUpto s xs t = v
    have hw : W[t]? = some (wv (wAt (wsUpto xs 64) t)) := by rw [← hW]; exact wRow_get xs 64 t hlt
    repeat (first | refine ct_seq ?_ | refine ct_block ?_ | (refine ct_region' rfl ?_; simp only [List.map, lite]) | refine rt_nil ?_ | refine ct_skip ?_ | refine q_then ?_ | refine ct_true rfl ?_ | refine rg rfl (g_move (by conv => lhs; whnf)) rfl rfl ?_ | (refine rg rfl (g_lssT rfl rfl ?_) rfl rfl ?_; (· (omega))))
    refine ct_quiet (by kernel_rfl) rfl ?_
    simp only [List.map, lite]
    repeat (first | refine rq_nil ?_ | refine qg rfl (g_assign (by conv => lhs; whnf)) rfl rfl ?_ | refine qg rfl (g_load rfl (by conv => lhs; whnf)) rfl rfl ?_ | (refine qg rfl (g_elemA1 rfl rfl (by conv => lhs; whnf) ?_ ?_) rfl rfl ?_; (· (first | omega | decide)); (· (first | omega | decide))))
    repeat (first | refine ct_seq ?_ | refine q_then ?_)
    refine ct_quiet (by kernel_rfl) rfl ?_
    simp only [List.map, lite]
    repeat (first | refine qg rfl (g_move (by conv => lhs; whnf)) rfl rfl ?_ | refine qg rfl (g_load rfl (by conv => lhs; whnf)) rfl rfl ?_ | (refine qg rfl (g_elemA1 rfl rfl (by conv => lhs; whnf) ?_ ?_) rfl rfl ?_; (· (first | omega | decide)); (· (first | omega | decide))))
    refine rq_call (wants_none rfl) rfl rfl (turnedR_spec _ v.e 6 (by decide) (by decide)) (fun _ => rfl) (fun _ => Ent.refl _) ?_
    refine qg rfl (g_move (by conv => lhs; whnf)) rfl rfl ?_
    refine rq_call (wants_none rfl) rfl rfl (turnedR_spec _ v.e 11 (by decide) (by decide)) (fun _ => rfl) (fun _ => Ent.refl _) ?_
    repeat (first | refine qg rfl (g_xor32 rfl rfl) rfl rfl ?_ | refine qg rfl (g_move (by conv => lhs; whnf)) rfl rfl ?_)
    refine rq_call (wants_none rfl) rfl rfl (turnedR_spec _ v.e 25 (by decide) (by decide)) (fun _ => rfl) (fun _ => Ent.refl _) ?_
    repeat (first | refine qg rfl (g_xor32 rfl rfl) rfl rfl ?_ | refine qg rfl (g_and32 rfl rfl) rfl rfl ?_ | refine qg rfl (g_add32 rfl rfl) rfl rfl ?_ | refine qg rfl (g_cpl32 rfl) rfl rfl ?_ | refine qg rfl (g_move (by conv => lhs; whnf)) rfl rfl ?_ | refine qg rfl (g_load rfl (by conv => lhs; whnf)) rfl rfl ?_ | (refine qg rfl (g_elemA1 rfl rfl (by conv => lhs; whnf) ?_ ?_) rfl rfl ?_; (· (first | omega | decide)); (· (first | omega | decide))))
    have hk : (rounds0.map wv)[t]? = some (wv (wAt rounds0 t)) := by
      unfold wAt
      have : t < rounds0.length := hlt
      rw [List.getElem?_map, List.getElem?_eq_getElem this]; rfl
    refine qg rfl (g_load rfl hk) rfl rfl ?_
    repeat (first | refine qg rfl (g_add32 rfl rfl) rfl rfl ?_ | refine qg rfl (g_move (by conv => lhs; whnf)) rfl rfl ?_ | (refine qg rfl (g_elemA1 rfl rfl (by conv => lhs; whnf) ?_ ?_) rfl rfl ?_; (· (first | omega | decide)); (· (first | omega | decide))))
    refine qg rfl (g_load rfl hw) rfl rfl ?_
    repeat (first | refine rq_nil ?_ | refine qg rfl (g_add32 rfl rfl) rfl rfl ?_ | refine qg rfl (g_assign (by conv => lhs; whnf)) rfl rfl ?_)
    repeat (first | refine ct_seq ?_ | refine q_then ?_)
    refine ct_quiet (by kernel_rfl) rfl ?_
    simp only [List.map, lite]
    refine qg rfl (g_move (by conv => lhs; whnf)) rfl rfl ?_
    refine rq_call (wants_none rfl) rfl rfl (turnedR_spec _ v.a 2 (by decide) (by decide)) (fun _ => rfl) (fun _ => Ent.refl _) ?_
    refine qg rfl (g_move (by conv => lhs; whnf)) rfl rfl ?_
    refine rq_call (wants_none rfl) rfl rfl (turnedR_spec _ v.a 13 (by decide) (by decide)) (fun _ => rfl) (fun _ => Ent.refl _) ?_
    repeat (first | refine qg rfl (g_xor32 rfl rfl) rfl rfl ?_ | refine qg rfl (g_move (by conv => lhs; whnf)) rfl rfl ?_)
    refine rq_call (wants_none rfl) rfl rfl (turnedR_spec _ v.a 22 (by decide) (by decide)) (fun _ => rfl) (fun _ => Ent.refl _) ?_
    repeat (first | refine rq_nil ?_ | refine qg rfl (g_xor32 rfl rfl) rfl rfl ?_ | refine qg rfl (g_and32 rfl rfl) rfl rfl ?_ | refine qg rfl (g_add32 rfl rfl) rfl rfl ?_ | refine qg rfl (g_move (by conv => lhs; whnf)) rfl rfl ?_ | refine qg rfl (g_assign (by conv => lhs; whnf)) rfl rfl ?_ | refine qg rfl (g_load rfl (by conv => lhs; whnf)) rfl rfl ?_ | (refine qg rfl (g_elemA1 rfl rfl (by conv => lhs; whnf) ?_ ?_) rfl rfl ?_; (· (first | omega | decide)); (· (first | omega | decide))))
    repeat (first | (refine ct_region' rfl ?_; simp only [List.map, lite]) | refine q_then ?_ | refine rg rfl (g_add32 rfl rfl) rfl rfl ?_ | refine rg rfl (g_move (by conv => lhs; whnf)) rfl rfl ?_ | refine rg rfl (g_load rfl (by conv => lhs; whnf)) rfl rfl ?_ | (refine rg rfl (g_elemA1 rfl rfl (by conv => lhs; whnf) ?_ ?_) rfl rfl ?_; (· (first | omega | decide)); (· (first | omega | decide))))
    refine rg rfl (g_buildA (cells := (round v (wAt rounds0 t) (wAt (wsUpto xs 64) t)).row.map wv) (by simp only [ev, upd, updl, argl, nat_beq_def, Nat.reduceBEq, cond_true, cond_false, List.map_cons, List.map_nil]; rfl) (by rfl)) rfl rfl ?_
    skip
    refine rt_op (wants_none rfl) (o_storeAgg (vl := (round v (wAt rounds0 t) (wAt (wsUpto xs 64) t)).row.map wv) rfl rfl (by rfl) (wvs_all _) (by rfl) (by rfl) ?_)
    repeat (first | (refine ct_region' rfl ?_; simp only [List.map, lite]) | refine rt_nil ?_ | refine q_then ?_ | refine q_block ?_ | refine rg rfl (g_move (by conv => lhs; whnf)) rfl rfl ?_ | refine rg rfl (g_assign (by conv => lhs; whnf)) rfl rfl ?_ | (refine rg rfl (g_addN rfl rfl ?_) rfl rfl ?_; (· (constructor <;> omega))))
    refine q_again ⟨t + 1, by omega⟩ (by show 64 - (t + 1) < 64 - t; omega) ⟨rfl, rfl, rfl, rfl, rfl, rfl, trivial⟩ (by simp only [roundsUpto, hv]; exact En.ent)
  · have h64 : t = 64 := by omega
    generalize hv : roundsUpto s xs t = v
    repeat (first | refine ct_seq ?_ | refine ct_block ?_ | (refine ct_region' rfl ?_; simp only [List.map, lite]) | refine rt_nil ?_ | refine ct_exit ?_ | refine q_then ?_ | refine q_then_exit ?_ | refine q_block_exit ?_ | refine ct_false rfl ?_ | refine rg rfl (g_move (by conv => lhs; whnf)) rfl rfl ?_ | refine rg rfl (g_assign (by conv => lhs; whnf)) rfl rfl ?_ | (refine rg rfl (g_lssF rfl rfl ?_) rfl rfl ?_; (· (omega))))
    refine ct_loop (ι := { i : Nat // i ≤ 8 }) (fun i => [(3, .pointer (some ⟨p3, 0, none⟩)), (6, .pointer (some ⟨p6, 0, none⟩)), (8, .pointer (some ⟨p8, 0, none⟩)), (14, .int .i64 (i.1 : Int))]) (fun i => Blk p3 (plusRow s v i.1) 61 * (Blk p8 (v.row.map wv) 61 * (Blk p6 ((List.replicate 8 (0 : UInt32)).map wv) 61 * R))) (fun i => 8 - i.1)
      ⟨0, by omega⟩ ⟨rfl, rfl, rfl, rfl, trivial⟩ (by show Ent _ (Blk p3 (s.row.map wv) 61 * _); exact En.ent) fun i ρ' => ?_
    obtain ⟨i, hi⟩ := i
    simp only
    by_cases hil : i < 8
    · obtain ⟨g1, g2, g3, g4⟩ := plus_get s v i hil
      repeat (first | refine ct_seq ?_ | refine ct_block ?_ | (refine ct_region' rfl ?_; simp only [List.map, lite]) | refine rt_nil ?_ | refine ct_skip ?_ | refine q_then ?_ | refine ct_true rfl ?_ | refine rg rfl (g_move (by conv => lhs; whnf)) rfl rfl ?_ | (refine rg rfl (g_lssT rfl rfl ?_) rfl rfl ?_; (· (omega))))
      refine ct_tail 8 (by kernel_rfl) rfl ?_
      simp only [List.map, lite, List.take, List.drop]
      repeat (first | refine qg rfl (g_move (by conv => lhs; whnf)) rfl rfl ?_ | (refine qg rfl (g_elemA1 rfl rfl (by conv => lhs; whnf) ?_ ?_) rfl rfl ?_; (· (first | omega | decide)); (· (first | omega | decide))))
      refine qg rfl (g_load rfl g1) rfl rfl ?_
      repeat (first | refine qg rfl (g_move (by conv => lhs; whnf)) rfl rfl ?_ | (refine qg rfl (g_elemA1 rfl rfl (by conv => lhs; whnf) ?_ ?_) rfl rfl ?_; (· (first | omega | decide)); (· (first | omega | decide))))
      refine qg rfl (g_load rfl g2) rfl rfl ?_
      repeat (first | refine qg rfl (g_add32 rfl rfl) rfl rfl ?_ | (refine qg rfl (g_elemA1 rfl rfl (by conv => lhs; whnf) ?_ ?_) rfl rfl ?_; (· (first | omega | decide)); (· (first | omega | decide))))
      refine rq_tail ?_
      refine rt_op (wants_none rfl) (o_store (v := wv (wAt s.row i + wAt v.row i)) rfl rfl rfl g4 g3 ?_)
      repeat (first | (refine ct_region' rfl ?_; simp only [List.map, lite]) | refine rt_nil ?_ | refine q_then ?_ | refine q_block ?_ | refine rg rfl (g_move (by conv => lhs; whnf)) rfl rfl ?_ | refine rg rfl (g_assign (by conv => lhs; whnf)) rfl rfl ?_ | (refine rg rfl (g_addN rfl rfl ?_) rfl rfl ?_; (· (constructor <;> omega))))
      refine q_again ⟨i + 1, by omega⟩ (by show 8 - (i + 1) < 8 - i; omega) ⟨rfl, rfl, rfl, rfl, trivial⟩ (by exact En.ent)
    · obtain rfl : i = 8 := by omega
      repeat (first | refine ct_seq ?_ | (refine ct_region' rfl ?_; simp only [List.map, lite]) | refine rt_nil ?_ | refine ct_exit ?_ | refine q_then ?_ | refine q_then_exit ?_ | refine q_block_exit ?_ | refine ct_false rfl ?_ | refine rg rfl (g_move (by conv => lhs; whnf)) rfl rfl ?_ | (refine rg rfl (g_lssF rfl rfl ?_) rfl rfl ?_; (· (omega))))
      have hp : piece s xs = plus8 s v := by rw [← hv, h64]; rfl
      rw [hp]
      refine rg rfl (g_load_agg (vs := (plus8 s v).row.map wv) rfl (by rfl) (reads_blk (p := p3) (cs := (plus8 s v).row.map wv) (by intro j v h; simpa using h))) rfl rfl ?_
      skip
      refine rt_op (wants_none rfl) (o_storeAgg (vl := (plus8 s v).row.map wv) rfl rfl (by rfl) (wvs_all _) (by rfl) (by rfl) ?_)
      repeat (first | refine rt_nil ?_ | refine ct_ret ?_ | refine q_then ?_)
      exact q_retC Try.results40 (cell_blk rfl (by rfl)) () rfl En.ent
end Go.Proofs.Ytmhddmenmkjdlaa
