/- ShaPieces: the walk. -/
import Derived.Test.YtmhddmenmkjdlaaD3
namespace Go.Proofs.Ytmhddmenmkjdlaa
open Go.RowKit
attribute [local irreducible] Gives RT CT QT Spec Wants Reads Src Ent OT RQ AnyT AnyOp Again Code.wp Post

def PEnt.p (e : PEnt) : Value := .pointer (some ⟨e.k, 0, none⟩)
/-- the digests that there are: none has more than n bytes -/
structure PSt (n : Nat) where
  (l : List PEnt) (X : HP) (la : Option Addr) (lc : Nat)
  ok : ∀ e ∈ l, e.ok X ∧ e.b.length ≤ n
  pos : 0 < l.length
def PSt.hp {n : Nat} (s : PSt n) : HP := Arr 33 1 s.la s.lc s.l.length (s.l.map PEnt.p) * (stars (s.l.map PEnt.hp) * s.X)
theorem PEnt.ok_mul {X Y : HP} {e : PEnt} (h : e.ok X) : e.ok (Y * X) := by
  obtain ⟨h1, h2, h3⟩ := h
  exact ⟨inferInstance, h2, h3⟩
theorem PEnt.ok_left {X Y : HP} {e : PEnt} (h : e.ok Y) : e.ok (Y * X) := by
  obtain ⟨h1, h2, h3⟩ := h
  exact ⟨inferInstance, h2, h3⟩
set_option maxRecDepth 100000 in
set_option maxHeartbeats 8000000 in
theorem shaPieces_spec (R : HP) (a : Option Addr) (c : Nat) (l : List SOp) (hs : Steps R a l) :
    Spec Try.prog 5 [.slice a l.length c] R (fun _ : Unit => .bool true) (fun _ => R) := by
  refine spec_of Try.func5 rfl Try.ntmps5 rfl fun W0 => ?_
  have hbey := beyond_spec R a c l hs
  have hfix := fun (R' : HP) => fixed_spec R'
  have hll := hs.len
  have hrs := hs.rd
  focus
    refine ct_seq ?_
    (refine ct_region' rfl ?_; simp only [List.map, lite])
    (refine rg rfl (g_assign (by conv => lhs; whnf)) rfl rfl ?_)
    refine rt_nil ?_
    refine q_then ?_
    refine ct_seq ?_
    refine ct_seq ?_
    (refine ct_region' rfl ?_; simp only [List.map, lite])
    (refine rg rfl (g_move (by conv => lhs; whnf)) rfl rfl ?_)
    (refine rt_op (wants_none rfl) (o_callE rfl rfl ((Ent.addEmp _).trans (Ent.dropR _ _)) (hbey) fun i11 => ?_))
    refine rt_nil ?_
    refine q_then ?_
    refine ct_if rfl (fun h11 => ?_) (fun h11 => ?_)
    refine ct_seq ?_
    (refine ct_region' rfl ?_; simp only [List.map, lite])
    (refine rt_op (wants_none rfl) (o_callE rfl rfl (Ent.refl _) (hfix _) fun i12 => ?_))
    (refine rg rfl (g_assign (by conv => lhs; whnf)) rfl rfl ?_)
    refine rt_nil ?_
    refine q_then ?_
    refine ct_ret ?_
    refine q_then_ret ?_
    exact q_ret1 rfl rfl () rfl En.ent
    refine ct_skip ?_
    refine q_then ?_
    refine ct_seq ?_
    (refine ct_region' rfl ?_; simp only [List.map, lite])
    (refine rt_op (wants_none rfl) (o_callE rfl rfl (Ent.refl _) (Go.Proofs.Ytmhddmenmkjdlaa.new_spec _) fun i13 => ?_))
    (refine rg rfl (g_build (by simp only [ev, upd, updl, argl, nat_beq_def, Nat.reduceBEq, cond_true, cond_false, List.map_cons, List.map_nil]; rfl) (by simp [fillL, Value.cells]; rfl)) rfl rfl ?_)
    (refine rt_op (wants_none rfl) (o_box rfl (by conv => lhs; whnf) (by conv => lhs; whnf) fun b15 => ?_))
    (refine rt_op (wants_none rfl) (o_build1 rfl (by conv => lhs; whnf) (by rfl) (by rfl) (by rfl) (by conv => lhs; whnf) fun b16 => ?_))
    (refine rg rfl (g_assign (by conv => lhs; whnf)) rfl rfl ?_)
    refine rt_nil ?_
    refine q_then ?_
    refine ct_seq ?_
    refine ct_seq ?_
    (refine ct_region' rfl ?_; simp only [List.map, lite])
    (refine rg rfl (g_move (by conv => lhs; whnf)) rfl rfl ?_)
    (refine rg rfl (g_elemO1 rfl rfl ?_ ?_) rfl rfl ?_; (· (first | omega | decide)); (· (first | omega | decide | (exact pos_of_get (by assumption)) | (simp only [List.length_map, List.length_append, List.length_replicate, List.length_set, List.length_cons, List.length_nil]; omega) | (simp; omega))))
    (refine rg rfl (g_load rfl (by conv => lhs; whnf)) rfl rfl ?_)
    (refine rg rfl (g_nil rfl) rfl rfl ?_)
    (refine rg rfl (g_field0 rfl) rfl rfl ?_)
    (refine rg rfl (g_load rfl (by conv => lhs; whnf)) rfl rfl ?_)
    (refine rg rfl (g_ptr_eq rfl) rfl rfl ?_)
    refine rt_nil ?_
    refine q_then ?_
    refine ct_false rfl ?_
    refine ct_skip ?_
    refine q_then ?_
    refine ct_seq ?_
    refine ct_seq ?_
    (refine ct_region' rfl ?_; simp only [List.map, lite])
    (refine rg rfl (g_assign (by conv => lhs; whnf)) rfl rfl ?_)
    refine rt_nil ?_
    refine q_then ?_
    refine ct_block ?_
    rotate_left
  refine ct_loop (ι := (i : { i : Nat // i ≤ l.length }) × { s : PSt (scat (l.take i.1)).length // s.l.length ≤ i.1 + 1 }) (fun t => [(0, .slice a l.length c), (3, .slice t.2.1.la t.2.1.l.length t.2.1.lc), (4, .int .i64 (t.1.1 : Int))]) (fun t => t.2.1.hp * R) (fun t => l.length - t.1.1)
    ⟨⟨0, Nat.zero_le _⟩, ⟨⟨[⟨b15, i13, none, 0, []⟩], emp, some ⟨b16, 0, none⟩, 1, by
      intro e he
      simp only [List.mem_singleton] at he
      subst he
      exact ⟨⟨⟨fun _ _ _ _ => rfl, fun _ h => (by cases h)⟩, by simp, fun _ => rfl⟩, by simp⟩, by simp⟩, by simp⟩⟩ ⟨rfl, rfl, rfl, trivial⟩ (by
      unfold PSt.hp PEnt.hp PEnt.p
      simp only [List.map_cons, List.map_nil, stars, List.length_cons, List.length_nil, Nat.zero_add]
      refine (Ent.mul (blk_arr 1 1 (by simp) (by decide)) (Ent.refl _)).trans ?_
      exact En.ent) fun t ρ' => ?_
  obtain ⟨⟨i, hi⟩, ⟨⟨sl, X, la, lc, ok, pos⟩, hsl⟩⟩ := t
  unfold PSt.hp
  dsimp only at hi hsl ok pos ⊢
  have hle := scat_le l i
  by_cases h : i < l.length
  · have hx := hs.big _ (List.getElem_mem h)
    have hsub := hs.sub _ (List.getElem_mem h)
    have hcap := hs.cap _ (List.getElem_mem h)
    have hnil := hs.nil _ (List.getElem_mem h)
    have hon := hs.on _ (List.getElem_mem h)
    have hop := sops_pos h
    have hn := congrArg List.length (scat_next l i h)
    rw [List.length_append] at hn
    have hle2 := scat_le l (i + 1)
    have hpl := fun (R' : HP) => place_spec R' l[i].on sl.length hon pos (by omega)
    have hj : (l[i].on % (sl.length : Int)).toNat < sl.length := by
      have h1 := Int.emod_nonneg l[i].on (b := (sl.length : Int)) (by omega)
      have h2 := Int.emod_lt_of_pos l[i].on (b := (sl.length : Int)) (by omega)
      omega
    generalize (l[i].on % (sl.length : Int)).toNat = j at hpl hj
    have hcell : (sl.map PEnt.p)[j]? = some (.pointer (some ⟨sl[j].k, 0, none⟩)) := by rw [List.getElem?_map, List.getElem?_eq_getElem hj]; rfl
    have hlp : 0 < (sl.map PEnt.p).length := by simpa using pos
    have hopen : ∀ b5, Ent (Blk b5 l[i].cells 40 * (Arr 33 1 la lc sl.length (sl.map PEnt.p) * (stars (sl.map PEnt.hp) * X) * R)) (Blk sl[j].k [.pointer (some ⟨sl[j].d, 0, none⟩), .slice sl[j].a sl[j].b.length sl[j].c] 37 * (DigA sl[j].d sl[j].b * (Arr 33 1 la lc sl.length (sl.map PEnt.p) * (Blk b5 l[i].cells 40 * (stars ((sl.map PEnt.hp).eraseIdx j) * (X * R)))))) := fun b5 => by
      refine (Ent.mul (Ent.refl _) (Ent.mul (Ent.mul (Ent.refl _) (Ent.mul (stars_pick _ j sl[j].hp (by rw [List.getElem?_map, List.getElem?_eq_getElem hj]; rfl)) (Ent.refl _))) (Ent.refl _))).trans ?_
      unfold PEnt.hp
      exact En.ent
    have hput : Ent (sl[j].hp * stars ((sl.map PEnt.hp).eraseIdx j)) (stars (sl.map PEnt.hp)) := by
      have := stars_put (sl.map PEnt.hp) j sl[j].hp (by simpa using hj)
      rwa [← List.map_set, List.set_getElem_self] at this
    obtain ⟨⟨hr2, hc2, hn2⟩, hb2⟩ := ok _ (List.getElem_mem hj)
    focus
      refine ct_seq ?_
      refine ct_seq ?_
      (refine ct_region' rfl ?_; simp only [List.map, lite])
      (refine rg rfl (g_move (by conv => lhs; whnf)) rfl rfl ?_)
      (refine rg rfl (g_move (by conv => lhs; whnf)) rfl rfl ?_)
      (refine rg rfl (g_len_slice rfl) rfl rfl ?_)
      (refine rg rfl (g_lssT rfl rfl ?_) rfl rfl ?_; (· (omega)))
      refine rt_nil ?_
      refine q_then ?_
      refine ct_true rfl ?_
      refine ct_skip ?_
      refine q_then ?_
      refine ct_seq ?_
      refine ct_block ?_
      refine ct_seq ?_
      (refine ct_region' rfl ?_; simp only [List.map, lite])
      (refine rg rfl (g_move (by conv => lhs; whnf)) rfl rfl ?_)
      (refine rg rfl (g_move (by conv => lhs; whnf)) rfl rfl ?_)
      (refine rg rfl (g_elemO rfl rfl ?_ ?_) rfl rfl ?_; (· (first | omega | decide)); (· (first | omega | decide | (exact pos_of_get (by assumption)) | (simp only [List.length_map, List.length_append, List.length_replicate, List.length_set, List.length_cons, List.length_nil]; omega) | (simp; omega))))
      (refine rg rfl (g_loadAgg_rd (us := l[i].cells) rfl (sop_len _) (sops_ne h) (sop_sub h)) rfl rfl ?_)
      (refine rt_op (wants_none rfl) (o_alloc rfl (by conv => lhs; whnf) fun b5 => ?_))
      (refine rt_op (wants_none rfl) (o_storeAgg rfl (by conv => lhs; whnf) (by first | exact List.toList_toArray | (conv => lhs; whnf)) (by first | rfl | exact bvsAll _ | exact wvs_all _ | assumption) (by first | rfl | assumption | (simp; done) | (simp; omega)) (by first | rfl | assumption | (simp; done) | (simp; omega)) ?_))
      refine rt_nil ?_
      refine q_then ?_
      refine ct_seq ?_
      (refine ct_region' rfl ?_; simp only [List.map, lite])
      (refine rg rfl (g_move (by conv => lhs; whnf)) rfl rfl ?_)
      (refine rg rfl (g_field0 rfl) rfl rfl ?_)
      (refine rg rfl (g_load rfl (by conv => lhs; whnf)) rfl rfl ?_)
      (refine rg rfl (g_move (by conv => lhs; whnf)) rfl rfl ?_)
      (refine rg rfl (g_len_slice rfl) rfl rfl ?_)
      (refine rt_op (wants_none rfl) (o_callE rfl rfl (Ent.refl _) (hpl _) fun i39 => ?_))
      (refine rg rfl (g_elemO1 rfl rfl ?_ ?_) rfl rfl ?_; (· (first | omega | decide)); (· (first | omega | decide | (exact pos_of_get (by assumption)) | (simp only [List.length_map, List.length_append, List.length_replicate, List.length_set, List.length_cons, List.length_nil]; omega) | (simp; omega))))
      (refine rg rfl (g_load_rd rfl (by assumption)) rfl rfl ?_)
      (refine rg rfl (g_assign (by conv => lhs; whnf)) rfl rfl ?_)
      refine rt_nil ?_
      refine q_then ?_
      refine ct_seq ?_
      (refine ct_region' rfl ?_; simp only [List.map, lite])
      (refine rg rfl (g_field0 rfl) rfl rfl ?_)
      (refine rg rfl (g_load rfl (by conv => lhs; whnf)) rfl rfl ?_)
      refine rt_nil ?_
      refine q_then ?_
      refine ct_block ?_
      refine ct_seq ?_
      (refine ct_region' rfl ?_; simp only [List.map, lite])
      (refine rg rfl (g_eql rfl rfl) rfl rfl ?_)
      (refine rg rfl (g_assign (by conv => lhs; whnf)) rfl rfl ?_)
      refine rt_nil ?_
      refine q_then ?_
      refine ct_if rfl (fun h48 => ?_) (fun h48 => ?_)
      refine ct_seq ?_
      (refine ct_region' rfl ?_; simp only [List.map, lite])
      (refine rt_op (wants_none rfl) (o_callE rfl rfl (Ent.refl _) (Go.Proofs.Ytmhddmenmkjdlaa.new_spec _) fun i50 => ?_))
      (refine rg rfl (g_assign (by conv => lhs; whnf)) rfl rfl ?_)
      refine rt_nil ?_
      refine q_then ?_
      refine ct_seq ?_
      refine ct_seq ?_
      (refine ct_region' rfl ?_; simp only [List.map, lite])
      (refine rg rfl (g_move (by conv => lhs; whnf)) rfl rfl ?_)
      (refine rg rfl (g_ptr_eq rfl) rfl rfl ?_)
      refine rt_nil ?_
      refine q_then ?_
      refine ct_false rfl ?_
      refine ct_skip ?_
      refine q_then ?_
      (refine ct_region' rfl ?_; simp only [List.map, lite])
      (refine rg rfl (g_move (by conv => lhs; whnf)) rfl rfl ?_)
      (refine rg rfl (g_move (by conv => lhs; whnf)) rfl rfl ?_)
      (refine rg rfl (g_build (by simp only [ev, upd, updl, argl, nat_beq_def, Nat.reduceBEq, cond_true, cond_false, List.map_cons, List.map_nil]; rfl) (by simp [fillL, Value.cells]; rfl)) rfl rfl ?_)
      (refine rt_op (wants_none rfl) (o_box rfl (by conv => lhs; whnf) (by conv => lhs; whnf) fun b56 => ?_))
      (refine rt_op (wants_none rfl) (o_build1 rfl (by conv => lhs; whnf) (by rfl) (by rfl) (by rfl) (by conv => lhs; whnf) fun b57 => ?_))
      (refine rt_op (wants_none rfl) (o_app2 rfl rfl rfl (by rfl) (by first | rfl | exact bvsAll _ | exact wvs_all _ | assumption) (by rfl) ?_ (by first | with_reducible exact Nat.zero_add _ | exact rfl) (by first | with_reducible exact List.nil_append _ | exact List.map_append.symm | exact rfl) fun ad58 cap58 hc58 hn58 => ?_); (· (first | omega | decide)))
      (refine rg rfl (g_assign (by conv => lhs; whnf)) rfl rfl ?_)
      refine rt_nil ?_
      refine q_block ?_
      refine q_block ?_
      refine q_then ?_
      (refine ct_region' rfl ?_; simp only [List.map, lite])
      (refine rg rfl (g_move (by conv => lhs; whnf)) rfl rfl ?_)
      (refine rg rfl (g_addN rfl rfl ?_) rfl rfl ?_; (· (constructor <;> omega)))
      (refine rg rfl (g_assign (by conv => lhs; whnf)) rfl rfl ?_)
      refine rt_nil ?_
      rotate_left
      refine ct_seq ?_
      (refine ct_region' rfl ?_; simp only [List.map, lite])
      (refine rg rfl (g_eql rfl rfl) rfl rfl ?_)
      (refine rg rfl (g_assign (by conv => lhs; whnf)) rfl rfl ?_)
      refine rt_nil ?_
      refine q_then ?_
      refine ct_if rfl (fun h59 => ?_) (fun h59 => ?_)
      refine ct_seq ?_
      (refine ct_region' rfl ?_; simp only [List.map, lite])
      (refine rg rfl (g_move (by conv => lhs; whnf)) rfl rfl ?_)
      (refine rg rfl (g_nil rfl) rfl rfl ?_)
      (refine rg rfl (g_field0 rfl) rfl rfl ?_)
      rotate_left
      refine ct_seq ?_
      (refine ct_region' rfl ?_; simp only [List.map, lite])
      (refine rg rfl (g_move (by conv => lhs; whnf)) rfl rfl ?_)
      (refine rg rfl (g_loadAgg_blk rfl (by first | rfl | assumption | (simp; done) | (simp; omega))) rfl rfl ?_)
      rotate_left
    · refine q_again ⟨⟨i + 1, by omega⟩, ⟨⟨sl ++ [⟨b56, i50, none, 0, []⟩], X, ad58, cap58, ?_, by simp⟩, by simpa using hsl⟩⟩ (by show l.length - (i + 1) < l.length - i; omega) ⟨rfl, by simp only [List.length_append, List.length_cons, List.length_nil, Nat.zero_add]; rfl, rfl, trivial⟩ ?_
      · intro e he
        rcases List.mem_append.1 he with he | he
        · exact ⟨(ok e he).1, by have := (ok e he).2; dsimp only; omega⟩
        · simp only [List.mem_singleton] at he
          subst he
          exact ⟨⟨⟨fun _ _ _ _ => rfl, fun _ h => (by cases h)⟩, by simp, fun _ => rfl⟩, by simp⟩
      · dsimp only
        simp only [List.map_append, List.map_cons, List.map_nil, List.length_append, List.length_cons, List.length_nil, Nat.zero_add]
        refine Ent.trans ?_ (Ent.mul (Ent.mul (Ent.refl _) (Ent.mul (stars_snoc _ _) (Ent.refl _))) (Ent.refl _))
        unfold PEnt.hp PEnt.p
        exact En.ent
    · refine rt_ent (B := Blk sl[j].k [.pointer (some ⟨sl[j].d, 0, none⟩), .slice sl[j].a sl[j].b.length sl[j].c] 37 * (DigA sl[j].d sl[j].b * (Arr 33 1 la lc sl.length (sl.map PEnt.p) * (Blk b5 l[i].cells 40 * (stars ((sl.map PEnt.hp).eraseIdx j) * (X * R)))))) ?_ (hopen b5)
      focus
        (refine rg rfl (g_load rfl (by conv => lhs; whnf)) rfl rfl ?_)
        (refine rt_op (wants_none rfl) (o_callE rfl rfl (ent_right (Ent.refl _)) (Go.Proofs.Ytmhddmenmkjdlaa.copy_spec _ _ _) fun i65 => ?_))
        (refine rg rfl (g_assign (by conv => lhs; whnf)) rfl rfl ?_)
        refine rt_nil ?_
        refine q_then ?_
        refine ct_seq ?_
        refine ct_seq ?_
        (refine ct_region' rfl ?_; simp only [List.map, lite])
        (refine rg rfl (g_move (by conv => lhs; whnf)) rfl rfl ?_)
        (refine rg rfl (g_ptr_eq rfl) rfl rfl ?_)
        refine rt_nil ?_
        refine q_then ?_
        refine ct_false rfl ?_
        refine ct_skip ?_
        refine q_then ?_
        (refine ct_region' rfl ?_; simp only [List.map, lite])
        (refine rg rfl (g_move (by conv => lhs; whnf)) rfl rfl ?_)
        (refine rg rfl (g_move (by conv => lhs; whnf)) rfl rfl ?_)
        (refine rg rfl (g_move (by conv => lhs; whnf)) rfl rfl ?_)
        (refine rg rfl (g_nil rfl) rfl rfl ?_)
        (refine rg rfl (g_field0 rfl) rfl rfl ?_)
        (refine rg rfl (g_load rfl (by conv => lhs; whnf)) rfl rfl ?_)
        (refine rg rfl (g_build (by simp only [ev, upd, updl, argl, nat_beq_def, Nat.reduceBEq, cond_true, cond_false, List.map_cons, List.map_nil]; rfl) (by simp [fillL, Value.cells]; rfl)) rfl rfl ?_)
        (refine rt_op (wants_none rfl) (o_box rfl (by conv => lhs; whnf) (by conv => lhs; whnf) fun b75 => ?_))
        (refine rt_op (wants_none rfl) (o_build1 rfl (by conv => lhs; whnf) (by rfl) (by rfl) (by rfl) (by conv => lhs; whnf) fun b76 => ?_))
        (refine rt_op (wants_none rfl) (o_app2 rfl rfl rfl (by rfl) (by first | rfl | exact bvsAll _ | exact wvs_all _ | assumption) (by rfl) ?_ (by first | with_reducible exact Nat.zero_add _ | exact rfl) (by first | with_reducible exact List.nil_append _ | exact List.map_append.symm | exact rfl) fun ad77 cap77 hc77 hn77 => ?_); (· (first | omega | decide)))
        (refine rg rfl (g_assign (by conv => lhs; whnf)) rfl rfl ?_)
        refine rt_nil ?_
        refine q_block ?_
        refine q_block ?_
        refine q_then ?_
        (refine ct_region' rfl ?_; simp only [List.map, lite])
        (refine rg rfl (g_move (by conv => lhs; whnf)) rfl rfl ?_)
        (refine rg rfl (g_addN rfl rfl ?_) rfl rfl ?_; (· (constructor <;> omega)))
        (refine rg rfl (g_assign (by conv => lhs; whnf)) rfl rfl ?_)
        refine rt_nil ?_
        rotate_left
      refine q_again ⟨⟨i + 1, by omega⟩, ⟨⟨sl ++ [⟨b75, i65, sl[j].a, sl[j].c, sl[j].b⟩], X, ad77, cap77, ?_, by simp⟩, by simpa using hsl⟩⟩ (by show l.length - (i + 1) < l.length - i; omega) ⟨rfl, by simp only [List.length_append, List.length_cons, List.length_nil, Nat.zero_add]; rfl, rfl, trivial⟩ ?_
      · intro e he
        rcases List.mem_append.1 he with he | he
        · exact ⟨(ok e he).1, by have := (ok e he).2; dsimp only; omega⟩
        · simp only [List.mem_singleton] at he
          subst he
          exact ⟨⟨hr2, hc2, hn2⟩, by dsimp only; omega⟩
      · dsimp only
        simp only [List.map_append, List.map_cons, List.map_nil, List.length_append, List.length_cons, List.length_nil, Nat.zero_add]
        refine Ent.trans ?_ (Ent.mul (Ent.mul (Ent.refl _) (Ent.mul ((Ent.mul (Ent.refl _) hput).trans (stars_snoc _ _)) (Ent.refl _))) (Ent.refl _))
        unfold PEnt.hp PEnt.p
        exact En.ent
    · refine rt_ent (B := Blk sl[j].k [.pointer (some ⟨sl[j].d, 0, none⟩), .slice sl[j].a sl[j].b.length sl[j].c] 37 * (DigA sl[j].d sl[j].b * (Arr 33 1 la lc sl.length (sl.map PEnt.p) * (Blk b5 l[i].cells 40 * (stars ((sl.map PEnt.hp).eraseIdx j) * (X * R)))))) ?_ (hopen b5)
      have hst := fun (R' : HP) [Rd R' sl[j].a (sl[j].b.map bv)] [Rd R' l[i].a (l[i].b.map bv)] => step_spec R' sl[j].k sl[j].d sl[j].a sl[j].c sl[j].b l[i] (by omega) hc2 hn2 hcap hnil
      focus
        (refine rt_op (wants_none rfl) (o_callE rfl rfl ((Ent.refl _).trans (Ent.mul (Ent.refl _) (Ent.refl _))) (hst _) fun i46 => ?_))
        (refine rg rfl (g_notT rfl) rfl rfl ?_)
        refine rt_nil ?_
        refine q_then ?_
        refine ct_false rfl ?_
        refine ct_skip ?_
        refine q_block ?_
        refine q_block ?_
        refine q_then ?_
        (refine ct_region' rfl ?_; simp only [List.map, lite])
        (refine rg rfl (g_move (by conv => lhs; whnf)) rfl rfl ?_)
        (refine rg rfl (g_addN rfl rfl ?_) rfl rfl ?_; (· (constructor <;> omega)))
        (refine rg rfl (g_assign (by conv => lhs; whnf)) rfl rfl ?_)
        refine rt_nil ?_
        rotate_left
      obtain ⟨⟨e', O⟩, hk, hd, hlen, hor⟩ := i46
      dsimp only at hk hd hlen hor ⊢
      refine q_again ⟨⟨i + 1, by omega⟩, ⟨⟨sl.set j e', O * X, la, lc, ?_, by simpa using pos⟩, by simp only [List.length_set]; omega⟩⟩ (by show l.length - (i + 1) < l.length - i; omega) ⟨rfl, by simp only [List.length_set]; rfl, rfl, trivial⟩ ?_
      · intro e he
        rcases List.mem_or_eq_of_mem_set he with he | rfl
        · exact ⟨PEnt.ok_mul (ok e he).1, by have := (ok e he).2; dsimp only; omega⟩
        · refine ⟨?_, by dsimp only; omega⟩
          rcases hor with ⟨h1, h2, h3⟩ | hor
          · refine PEnt.ok_mul ⟨?_, ?_, ?_⟩
            · rw [h1, h3]; exact hr2
            · rw [h2, h3]; exact hc2
            · rw [h1, h2]; exact hn2
          · exact PEnt.ok_left hor
      · dsimp only
        have hp : (sl.set j e').map PEnt.p = sl.map PEnt.p := by
          rw [List.map_set]
          refine List.ext_getElem (by simp) fun m h1 h2 => ?_
          rw [List.getElem_set]
          split
          · next e => subst e; simp [PEnt.p, hk]
          · rfl
        rw [hp, List.map_set, List.length_set]
        refine Ent.trans ?_ (Ent.mul (Ent.mul (Ent.refl _) (Ent.mul (stars_put _ j e'.hp (by simpa using hj)) (Ent.refl _))) (Ent.refl _))
        exact En.ent
  · obtain rfl : i = l.length := by omega
    rw [List.take_length] at ok
    focus
      refine ct_seq ?_
      refine ct_seq ?_
      (refine ct_region' rfl ?_; simp only [List.map, lite])
      (refine rg rfl (g_move (by conv => lhs; whnf)) rfl rfl ?_)
      (refine rg rfl (g_move (by conv => lhs; whnf)) rfl rfl ?_)
      (refine rg rfl (g_len_slice rfl) rfl rfl ?_)
      (refine rg rfl (g_lssF rfl rfl ?_) rfl rfl ?_; (· (omega)))
      refine rt_nil ?_
      refine q_then ?_
      refine ct_false rfl ?_
      refine ct_exit ?_
      refine q_then_exit ?_
      refine q_then_exit ?_
      refine q_block_exit ?_
      refine q_then ?_
      refine ct_seq ?_
      refine ct_seq ?_
      (refine ct_region' rfl ?_; simp only [List.map, lite])
      (refine rg rfl (g_assign (by conv => lhs; whnf)) rfl rfl ?_)
      refine rt_nil ?_
      refine q_then ?_
      refine ct_block ?_
      rotate_left
    refine ct_loop (ι := { i : Nat // i ≤ sl.length }) (fun i => [(3, .slice la sl.length lc), (9, .int .i64 (i.1 : Int))]) (fun _ => Arr 33 1 la lc sl.length (sl.map PEnt.p) * (stars (sl.map PEnt.hp) * X) * R) (fun i => sl.length - i.1) ⟨0, Nat.zero_le _⟩ ⟨rfl, rfl, trivial⟩ (Ent.refl _) fun j ρ' => ?_
    obtain ⟨j, hj'⟩ := j
    dsimp only at hj' ⊢
    by_cases hj : j < sl.length
    · have hcell : (sl.map PEnt.p)[j]? = some (.pointer (some ⟨sl[j].k, 0, none⟩)) := by rw [List.getElem?_map, List.getElem?_eq_getElem hj]; rfl
      have hlp : 0 < (sl.map PEnt.p).length := by simpa using pos
      have hput : Ent (sl[j].hp * stars ((sl.map PEnt.hp).eraseIdx j)) (stars (sl.map PEnt.hp)) := by
        have := stars_put (sl.map PEnt.hp) j sl[j].hp (by simpa using hj)
        rwa [← List.map_set, List.set_getElem_self] at this
      obtain ⟨⟨hr2, hc2, hn2⟩, hb2⟩ := ok _ (List.getElem_mem hj)
      refine ct_ent (B := Blk sl[j].k [.pointer (some ⟨sl[j].d, 0, none⟩), .slice sl[j].a sl[j].b.length sl[j].c] 37 * (DigA sl[j].d sl[j].b * (Arr 33 1 la lc sl.length (sl.map PEnt.p) * (stars ((sl.map PEnt.hp).eraseIdx j) * (X * R))))) ?_ ?_
      · focus
          refine ct_seq ?_
          refine ct_seq ?_
          (refine ct_region' rfl ?_; simp only [List.map, lite])
          (refine rg rfl (g_move (by conv => lhs; whnf)) rfl rfl ?_)
          (refine rg rfl (g_move (by conv => lhs; whnf)) rfl rfl ?_)
          (refine rg rfl (g_len_slice rfl) rfl rfl ?_)
          (refine rg rfl (g_lssT rfl rfl ?_) rfl rfl ?_; (· (omega)))
          refine rt_nil ?_
          refine q_then ?_
          refine ct_true rfl ?_
          refine ct_skip ?_
          refine q_then ?_
          refine ct_seq ?_
          refine ct_block ?_
          refine ct_seq ?_
          refine ct_quiet (by kernel_rfl) rfl ?_
          simp only [List.map, lite]
          (refine qg rfl (g_move (by conv => lhs; whnf)) rfl rfl ?_)
          (refine qg rfl (g_move (by conv => lhs; whnf)) rfl rfl ?_)
          (refine qg rfl (g_elemO1 rfl rfl ?_ ?_) rfl rfl ?_; (· (first | omega | decide)); (· (first | omega | decide | (exact pos_of_get (by assumption)) | (simp only [List.length_map, List.length_append, List.length_replicate, List.length_set, List.length_cons, List.length_nil]; omega) | (simp; omega))))
          (refine qg rfl (g_load_rd rfl (by assumption)) rfl rfl ?_)
          (refine qg rfl (g_nil rfl) rfl rfl ?_)
          (refine qg rfl (g_field0 rfl) rfl rfl ?_)
          (refine qg rfl (g_load rfl (by conv => lhs; whnf)) rfl rfl ?_)
          (refine rq_callE (wants_none rfl) rfl rfl (ent_right (Ent.refl _)) (Go.Proofs.Ytmhddmenmkjdlaa.sum_spec _ _ _ ?_) (fun _ => rfl) (fun _ => En.ent) ?_; (· (first | assumption | omega | rfl | decide | infer_instance | (simp; done) | (simp; omega) | (simp only [*]; done))))
          (refine qg rfl (g_move (by conv => lhs; whnf)) rfl rfl ?_)
          (refine qg rfl (g_move (by conv => lhs; whnf)) rfl rfl ?_)
          (refine qg rfl (g_elemO1 rfl rfl ?_ ?_) rfl rfl ?_; (· (first | omega | decide)); (· (first | omega | decide | (exact pos_of_get (by assumption)) | (simp only [List.length_map, List.length_append, List.length_replicate, List.length_set, List.length_cons, List.length_nil]; omega) | (simp; omega))))
          (refine qg rfl (g_load_rd rfl (by assumption)) rfl rfl ?_)
          (refine qg rfl (g_nil rfl) rfl rfl ?_)
          (refine qg rfl (g_field0 rfl) rfl rfl ?_)
          (refine qg rfl (g_load rfl (by conv => lhs; whnf)) rfl rfl ?_)
          (refine rq_callE (wants_none rfl) rfl rfl (Ent.refl _) (Go.Proofs.Ytmhddmenmkjdlaa.ofR_spec _ _ _ _ ?_) (fun _ => rfl) (fun _ => En.ent) ?_; (· (first | assumption | omega | rfl | decide | infer_instance | (simp; done) | (simp; omega) | (simp only [*]; done))))
          (refine qg rfl (g_neHF rfl rfl (by kernel_rfl) (by first | rfl | assumption | (simp; done) | (simp; omega)) ?_) rfl rfl ?_; (· (first | rfl | assumption)))
          (refine qg rfl (g_move (by conv => lhs; whnf)) rfl rfl ?_)
          (refine qgw rfl rfl rfl rfl (g_move (by conv => lhs; whnf)) rfl rfl ?_)
          (refine qgw rfl rfl rfl rfl (g_move (by conv => lhs; whnf)) rfl rfl ?_)
          (refine qgw rfl rfl rfl rfl (g_elemO1 rfl rfl ?_ ?_) rfl rfl ?_; (· (first | omega | decide)); (· (first | omega | decide | (exact pos_of_get (by assumption)) | (simp only [List.length_map, List.length_append, List.length_replicate, List.length_set, List.length_cons, List.length_nil]; omega) | (simp; omega))))
          (refine qgw rfl rfl rfl rfl (g_load_rd rfl (by assumption)) rfl rfl ?_)
          (refine qgw rfl rfl rfl rfl (g_nil rfl) rfl rfl ?_)
          (refine qgw rfl rfl rfl rfl (g_field0 rfl) rfl rfl ?_)
          (refine qgw rfl rfl rfl rfl (g_load rfl (by conv => lhs; whnf)) rfl rfl ?_)
          (refine rq_callE (wants_some rfl rfl rfl rfl) rfl rfl (ent_right (Ent.refl _)) (Go.Proofs.Ytmhddmenmkjdlaa.len_spec _ _ _ ?_) (fun _ => rfl) (fun _ => En.ent) ?_; (· (first | assumption | omega | rfl | decide | infer_instance | (simp; done) | (simp; omega) | (simp only [*]; done))))
          (refine qgw rfl rfl rfl rfl (g_move (by conv => lhs; whnf)) rfl rfl ?_)
          (refine qgw rfl rfl rfl rfl (g_move (by conv => lhs; whnf)) rfl rfl ?_)
          (refine qgw rfl rfl rfl rfl (g_elemO1 rfl rfl ?_ ?_) rfl rfl ?_; (· (first | omega | decide)); (· (first | omega | decide | (exact pos_of_get (by assumption)) | (simp only [List.length_map, List.length_append, List.length_replicate, List.length_set, List.length_cons, List.length_nil]; omega) | (simp; omega))))
          (refine qgw rfl rfl rfl rfl (g_load_rd rfl (by assumption)) rfl rfl ?_)
          (refine qgw rfl rfl rfl rfl (g_nil rfl) rfl rfl ?_)
          (refine qgw rfl rfl rfl rfl (g_field0 rfl) rfl rfl ?_)
          (refine qgw rfl rfl rfl rfl (g_load rfl (by conv => lhs; whnf)) rfl rfl ?_)
          (refine qgw rfl rfl rfl rfl (g_len_slice rfl) rfl rfl ?_)
          (refine qgw rfl rfl rfl rfl (g_neqF rfl rfl ?_) rfl rfl ?_; (· (omega)))
          (refine qg rfl (g_pick_f rfl (by conv => lhs; whnf)) rfl rfl ?_)
          refine rq_nil ?_
          refine q_then ?_
          refine ct_false rfl ?_
          refine ct_skip ?_
          refine q_block ?_
          refine q_then ?_
          (refine ct_region' rfl ?_; simp only [List.map, lite])
          (refine rg rfl (g_move (by conv => lhs; whnf)) rfl rfl ?_)
          (refine rg rfl (g_addN rfl rfl ?_) rfl rfl ?_; (· (constructor <;> omega)))
          (refine rg rfl (g_assign (by conv => lhs; whnf)) rfl rfl ?_)
          refine rt_nil ?_
          rotate_left
        refine q_again ⟨j + 1, by omega⟩ (by show sl.length - (j + 1) < sl.length - j; omega) ⟨rfl, rfl, trivial⟩ ?_
        refine Ent.trans ?_ (Ent.mul (Ent.mul (Ent.refl _) (Ent.mul hput (Ent.refl _))) (Ent.refl _))
        unfold PEnt.hp
        exact En.ent
      · refine (Ent.mul (Ent.mul (Ent.refl _) (Ent.mul (stars_pick _ j sl[j].hp (by rw [List.getElem?_map, List.getElem?_eq_getElem hj]; rfl)) (Ent.refl _))) (Ent.refl _)).trans ?_
        unfold PEnt.hp
        exact En.ent
    · focus
        refine ct_seq ?_
        refine ct_seq ?_
        (refine ct_region' rfl ?_; simp only [List.map, lite])
        (refine rg rfl (g_move (by conv => lhs; whnf)) rfl rfl ?_)
        (refine rg rfl (g_move (by conv => lhs; whnf)) rfl rfl ?_)
        (refine rg rfl (g_len_slice rfl) rfl rfl ?_)
        (refine rg rfl (g_lssF rfl rfl ?_) rfl rfl ?_; (· (omega)))
        refine rt_nil ?_
        refine q_then ?_
        refine ct_false rfl ?_
        refine ct_exit ?_
        refine q_then_exit ?_
        refine q_then_exit ?_
        refine q_block_exit ?_
        refine q_then ?_
        refine ct_seq ?_
        (refine ct_region' rfl ?_; simp only [List.map, lite])
        (refine rt_op (wants_none rfl) (o_callE rfl rfl (Ent.refl _) (hfix _) fun i120 => ?_))
        (refine rg rfl (g_assign (by conv => lhs; whnf)) rfl rfl ?_)
        refine rt_nil ?_
        refine q_then ?_
        refine ct_ret ?_
        exact q_ret1 rfl rfl () rfl En.ent
end Go.Proofs.Ytmhddmenmkjdlaa
