/- hold: a vertex that is taken. -/
import Derived.Test.YtijplicijmpknaaDg3
namespace Go.Proofs.Ytijplicijmpknaa
open Go.RowKit
attribute [local irreducible] Gives RT CT QT Spec Wants Reads Src Ent OT RQ AnyT AnyOp Again Code.wp Post
attribute [local irreducible] vcells

theorem mdel_hent (l : List Hs) (h : Hs) : mdel (l.map hent) h = (l.erase h).map hent := by
  induction l with
  | nil => rfl
  | cons k l ih =>
    simp only [List.map_cons, hent, mdel, List.erase_cons]
    by_cases e : h = k
    · subst e; simp
    · have : (k == h) = false := beq_eq_false_iff_ne.2 (Ne.symm e)
      rw [if_neg e, this]; simp only [Bool.false_eq_true, if_false, List.map_cons]
      rw [ih]; rfl
def putH (l : List Hs) (h : Hs) : List Hs := if h ∈ l then l else l ++ [h]
theorem mput_hent (l : List Hs) (h : Hs) : mput (l.map hent) h (.int .i64 1) = (putH l h).map hent := by
  unfold putH
  induction l with
  | nil => rfl
  | cons k l ih =>
    simp only [List.map_cons, hent, mput]
    by_cases e : h = k
    · subst e; simp [hent]
    · rw [if_neg e, ih]
      by_cases hm : h ∈ l
      · simp [hm, hent]
      · simp [hm, e, hent]
def dropH (hs : List Hs) (ps : List Hs) : List Hs := ps.foldl (fun l h => l.erase h) hs
theorem dropH_take {hs ps : List Hs} {j : Nat} (h : j < ps.length) : dropH hs (ps.take (j + 1)) = (dropH hs (ps.take j)).erase ps[j] := by
  unfold dropH
  rw [List.take_add_one, List.getElem?_eq_getElem h, List.foldl_append]; rfl
def holdS (s : DS) (v : V) : DS := { s with held := s.held ++ [v], heads := putH (dropH s.heads v.par) v.id }
theorem hold_spec (R : HP) (d : Nat) (s : DS) (ks : List Vx) (x : Vx) (hx : x ∈ ks) (hh : hasS s.held x.v.id = false) (hl : x.v.par.length ≤ 64) (hn : s.held.length < 4096) :
    Spec Try.prog 38 [.pointer (some ⟨d, 0, none⟩), .agg (vcells x).toArray] (IsDag d s ks * R) (fun _ : Unit => .tuple #[]) (fun _ => IsDag d (holdS s x.v) ks * R) := by
  refine spec_of Try.func38 rfl Try.ntmps38 rfl fun W0 => ?_
  have hln := vcells_len x
  have hlid := hc_len x.v.id
  refine ct_ex fun i => ?_
  refine ct_ent ?_ (Ent.assoc _ _ _)
  refine ct_pr fun ok => ?_
  have hrx : Rd i.X x.ad (x.v.par.flatMap hc) := ok.rd x (.inr (.inr hx))
  have hmp := mput_vent (l := i.hv) (x := x) (by rw [ok.hh]; exact hh)
  focus
    refine ct_seq ?_
    (refine ct_region' rfl ?_; simp only [List.map, lite])
    (refine rt_op (wants_none rfl) (o_box rfl (by conv => lhs; whnf) (by conv => lhs; whnf) fun b3 => ?_))
    refine rt_nil ?_
    refine q_then ?_
    refine ct_seq ?_
    refine ct_tail 7 (by kernel_rfl) rfl ?_
    simp only [List.map, lite, List.take, List.drop]
    (refine qg rfl (g_move (by conv => lhs; whnf)) rfl rfl ?_)
    (refine qg rfl (g_nil rfl) rfl rfl ?_)
    (refine qg rfl (g_field0 rfl) rfl rfl ?_)
    (refine qg rfl (g_load rfl (by conv => lhs; whnf)) rfl rfl ?_)
    (refine qg rfl (g_field0 rfl) rfl rfl ?_)
    (refine qg rfl (g_loadVid rfl) rfl rfl ?_)
    (refine qg rfl (g_loadAgg_blk rfl (by first | rfl | assumption | (simp; done) | (simp; omega) | exact vcells_len _)) rfl rfl ?_)
    refine rq_tail ?_
    (refine rt_op (wants_none rfl) (o_mapset (enc := hkey) rfl rfl rfl hmp ?_))
    refine rt_nil ?_
    refine q_then ?_
    refine ct_seq ?_
    refine ct_seq ?_
    (refine ct_region' rfl ?_; simp only [List.map, lite])
    (refine rg rfl (g_field0 rfl) rfl rfl ?_)
    (refine rg rfl (g_loadVp rfl) rfl rfl ?_)
    (refine rg rfl (g_len_slice rfl) rfl rfl ?_)
    (refine rg rfl (g_move (by conv => lhs; whnf)) rfl rfl ?_)
    refine rt_nil ?_
    refine q_then ?_
    refine ct_block ?_
    rotate_left
  refine ct_loop (ι := { j : Nat // j ≤ x.v.par.length }) (fun j => [(0, .pointer (some ⟨d, 0, none⟩)), (3, .pointer (some ⟨b3, 0, none⟩)), (14, .slice x.ad x.v.par.length x.cap), (15, .int .i64 (x.v.par.length : Int)), (16, .int .i64 (j.1 : Int))]) (fun j => (MapK hkey i.p1 ((i.hv ++ [x]).map vent) * (Blk b3 (vcells x) 36 * (Blk d [.int .i64 s.room, .map (some i.p1), .map (some i.p2), .map (some i.p3), .slice i.ad s.waits.length i.cap] 78 * (MapK hkey i.p2 ((dropH s.heads (x.v.par.take j.1)).map hent) * (MapK hkey i.p3 (i.wv.map vent) * (Arr 32 32 i.ad i.cap s.waits.length (s.old.flatMap hc) * i.X))) * R)))) (fun j => x.v.par.length - j.1) ⟨0, by omega⟩ ⟨rfl, rfl, rfl, rfl, rfl, trivial⟩ (Ent.refl _) fun j ρ' => ?_
  obtain ⟨j, hj⟩ := j
  dsimp only at hj ⊢
  by_cases h : j < x.v.par.length
  · have hli := hc_len x.v.par[j]
    have hdt := dropH_take (hs := s.heads) h
    have hmd := mdel_hent (dropH s.heads (x.v.par.take j)) x.v.par[j]
    rw [← hdt] at hmd
    focus
      refine ct_seq ?_
      (refine ct_region' rfl ?_; simp only [List.map, lite])
      (refine rg rfl (g_lssT rfl rfl ?_) rfl rfl ?_; (· (omega)))
      refine rt_nil ?_
      refine q_then ?_
      refine ct_seq ?_
      refine ct_true rfl ?_
      refine ct_skip ?_
      refine q_then ?_
      refine ct_seq ?_
      refine ct_block ?_
      refine ct_seq ?_
      (refine ct_region' rfl ?_; simp only [List.map, lite])
      (refine rg rfl (g_elemH rfl rfl ?_ ?_) rfl rfl ?_; (· (first | omega | decide)); (· (first | omega | decide | (exact pos_of_get (by assumption)) | (simp only [List.length_map, List.length_append, List.length_replicate, List.length_set, List.length_cons, List.length_nil]; omega) | (simp; omega))))
      (refine rg rfl (g_loadH rfl ?_) rfl rfl ?_; (· (first | omega | decide | (exact pos_of_get (by assumption)) | (simp only [List.length_map, List.length_append, List.length_replicate, List.length_set, List.length_cons, List.length_nil]; omega) | (simp; omega))))
      (refine rt_op (wants_none rfl) (o_alloc rfl (by conv => lhs; whnf) fun b5 => ?_))
      (refine rt_op (wants_none rfl) (o_storeAgg rfl (by conv => lhs; whnf) (by first | exact List.toList_toArray | (conv => lhs; whnf)) (by first | rfl | exact bvsAll _ | exact wvs_all _ | assumption | exact vcells_one _) (by first | rfl | assumption | (simp; done) | (simp; omega) | exact vcells_len _) (by first | rfl | assumption | (simp; done) | (simp; omega) | exact vcells_len _) ?_))
      refine rt_nil ?_
      refine q_then ?_
      refine ct_tail 5 (by kernel_rfl) rfl ?_
      simp only [List.map, lite, List.take, List.drop]
      (refine qg rfl (g_move (by conv => lhs; whnf)) rfl rfl ?_)
      (refine qg rfl (g_nil rfl) rfl rfl ?_)
      (refine qg rfl (g_field0 rfl) rfl rfl ?_)
      (refine qg rfl (g_load rfl (by conv => lhs; whnf)) rfl rfl ?_)
      (refine qg rfl (g_loadAgg_blk rfl (by first | rfl | assumption | (simp; done) | (simp; omega) | exact vcells_len _)) rfl rfl ?_)
      refine rq_tail ?_
      (refine rt_op (wants_none rfl) (o_mapdel (enc := hkey) rfl rfl hmd ?_))
      refine rt_nil ?_
      refine q_block ?_
      refine q_then ?_
      (refine ct_region' rfl ?_; simp only [List.map, lite])
      (refine rg rfl (g_addN rfl rfl ?_) rfl rfl ?_; (· (constructor <;> omega)))
      (refine rg rfl (g_move (by conv => lhs; whnf)) rfl rfl ?_)
      refine rt_nil ?_
      rotate_left
    exact q_again ⟨j + 1, by omega⟩ (by show x.v.par.length - (j + 1) < x.v.par.length - j; omega) ⟨rfl, rfl, rfl, rfl, rfl, trivial⟩ En.ent
  · have hall : x.v.par.take j = x.v.par := List.take_of_length_le (by omega)
    rw [hall]
    have hmh := mput_hent (dropH s.heads x.v.par) x.v.id
    focus
      refine ct_seq ?_
      (refine ct_region' rfl ?_; simp only [List.map, lite])
      (refine rg rfl (g_lssF rfl rfl ?_) rfl rfl ?_; (· (omega)))
      refine rt_nil ?_
      refine q_then ?_
      refine ct_seq ?_
      refine ct_false rfl ?_
      refine ct_exit ?_
      refine q_then_exit ?_
      refine q_then_exit ?_
      refine q_block_exit ?_
      refine q_then ?_
      refine ct_tail 6 (by kernel_rfl) rfl ?_
      simp only [List.map, lite, List.take, List.drop]
      (refine qg rfl (g_move (by conv => lhs; whnf)) rfl rfl ?_)
      (refine qg rfl (g_nil rfl) rfl rfl ?_)
      (refine qg rfl (g_field0 rfl) rfl rfl ?_)
      (refine qg rfl (g_load rfl (by conv => lhs; whnf)) rfl rfl ?_)
      (refine qg rfl (g_field0 rfl) rfl rfl ?_)
      (refine qg rfl (g_loadVid rfl) rfl rfl ?_)
      refine rq_tail ?_
      (refine rt_op (wants_none rfl) (o_mapset (enc := hkey) rfl rfl rfl hmh ?_))
      refine rt_nil ?_
      rotate_left
    refine q_ret0 rfl () rfl (En.ent.trans (isDag_mk (n := s.waits.length) (room := s.room) (p1 := i.p1) (p2 := i.p2) (p3 := i.p3) (ad := i.ad) (cap := i.cap) (X := i.X) (hv := i.hv ++ [x]) (wv := i.wv) (waits := s.waits) (heads := putH (dropH s.heads x.v.par) x.v.id) (held := s.held ++ [x.v]) ?_ ok.hw (fun y hy => ?_) (fun v hv => ?_) ?_ ok.nw rfl)) (.inl rfl)
    · show (i.hv ++ [x]).map Vx.v = s.held ++ [x.v]
      rw [List.map_append, ok.hh]; rfl
    · rcases hy with hy | hy | hy
      · rcases List.mem_append.1 hy with hy | hy
        · exact ok.rd y (.inl hy)
        · rw [List.mem_singleton.1 hy]; exact hrx
      · exact ok.rd y (.inr (.inl hy))
      · exact ok.rd y (.inr (.inr hy))
    · rcases hv with hv | hv
      · rcases List.mem_append.1 hv with hv | hv
        · exact ok.np v (.inl hv)
        · rw [List.mem_singleton.1 hv]; exact hl
      · exact ok.np v (.inr hv)
    · show (s.held ++ [x.v]).length ≤ 4096
      rw [List.length_append]; simp; omega
end Go.Proofs.Ytijplicijmpknaa
