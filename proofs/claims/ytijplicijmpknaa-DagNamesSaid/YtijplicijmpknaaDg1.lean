/- The graph in memory; Has, Waits, Len, own, New. -/
import Derived.Test.YtijplicijmpknaaDv
import Derived.Test.YtijplicijmpknaaC2
namespace Go.Proofs.Ytijplicijmpknaa
open Go.RowKit
attribute [local irreducible] Gives RT CT QT Spec Wants Reads Src Ent OT RQ AnyT AnyOp Again Code.wp Post
attribute [local irreducible] vcells

structure DS where
  room : Nat
  held : List V
  heads : List Hs
  waits : List V
/-- what is hidden of a graph's memory -/
structure DI where
  p1 : Nat
  p2 : Nat
  p3 : Nat
  ad : Option Addr
  cap : Nat
  X : HP
  hv : List Vx
  wv : List Vx
structure DI.Ok (i : DI) (s : DS) (ks : List Vx) : Prop where
  hh : i.hv.map Vx.v = s.held
  hw : i.wv.map Vx.v = s.waits
  rd : ∀ x, x ∈ i.hv ∨ x ∈ i.wv ∨ x ∈ ks → Rd i.X x.ad (x.v.par.flatMap hc)
  np : ∀ v, v ∈ s.held ∨ v ∈ s.waits → v.par.length ≤ 64
  nh : s.held.length ≤ 4096
  nw : s.waits.length ≤ 65
abbrev DS.old (s : DS) : List Hs := s.waits.map V.id
/-- a graph; ks: vertices whose rows it keeps beside its own -/
def IsDag (d : Nat) (s : DS) (ks : List Vx) : HP := ex fun i : DI => pr (i.Ok s ks) * (Blk d [.int .i64 s.room, .map (some i.p1), .map (some i.p2), .map (some i.p3), .slice i.ad s.waits.length i.cap] 78 * (MapK hkey i.p1 (i.hv.map vent) * (MapK hkey i.p2 (s.heads.map hent) * (MapK hkey i.p3 (i.wv.map vent) * (Arr 32 32 i.ad i.cap s.waits.length (s.old.flatMap hc) * i.X)))))
theorem isDag_in {d : Nat} {s : DS} {ks : List Vx} {R : HP} (i : DI) (h : i.Ok s ks) : Ent (Blk d [.int .i64 s.room, .map (some i.p1), .map (some i.p2), .map (some i.p3), .slice i.ad s.waits.length i.cap] 78 * (MapK hkey i.p1 (i.hv.map vent) * (MapK hkey i.p2 (s.heads.map hent) * (MapK hkey i.p3 (i.wv.map vent) * (Arr 32 32 i.ad i.cap s.waits.length (s.old.flatMap hc) * (i.X * R)))))) (IsDag d s ks * R) := by
  refine Ent.trans ?_ (Ent.mul (Ent.ex (f := fun i : DI => pr (i.Ok s ks) * (Blk d [.int .i64 s.room, .map (some i.p1), .map (some i.p2), .map (some i.p3), .slice i.ad s.waits.length i.cap] 78 * (MapK hkey i.p1 (i.hv.map vent) * (MapK hkey i.p2 (s.heads.map hent) * (MapK hkey i.p3 (i.wv.map vent) * (Arr 32 32 i.ad i.cap s.waits.length (s.old.flatMap hc) * i.X)))))) i) (Ent.refl R))
  refine Ent.trans ?_ (Ent.assoc' _ _ _)
  refine Ent.trans ?_ (Ent.mul (Ent.pr (A := emp) h) (Ent.refl _))
  exact Ent.trans (En.ent (B := Blk d [.int .i64 s.room, .map (some i.p1), .map (some i.p2), .map (some i.p3), .slice i.ad s.waits.length i.cap] 78 * (MapK hkey i.p1 (i.hv.map vent) * (MapK hkey i.p2 (s.heads.map hent) * (MapK hkey i.p3 (i.wv.map vent) * (Arr 32 32 i.ad i.cap s.waits.length (s.old.flatMap hc) * i.X)))) * R)) (Ent.trans (Ent.addEmp _) (Ent.comm _ _))

theorem isDag_mk {d room n p1 p2 p3 cap : Nat} {held waits : List V} {heads : List Hs} {ad : Option Addr} {X R : HP} {hv wv ks : List Vx} (hh : hv.map Vx.v = held) (hw : wv.map Vx.v = waits)
    (rd : ∀ x, x ∈ hv ∨ x ∈ wv ∨ x ∈ ks → Rd X x.ad (x.v.par.flatMap hc)) (np : ∀ v, v ∈ held ∨ v ∈ waits → v.par.length ≤ 64) (nh : held.length ≤ 4096) (nw : waits.length ≤ 65) (hn : waits.length = n) :
    Ent (Blk d [.int .i64 (room : Int), .map (some p1), .map (some p2), .map (some p3), .slice ad n cap] 78 * (MapK hkey p1 (hv.map vent) * (MapK hkey p2 (heads.map hent) * (MapK hkey p3 (wv.map vent) * (Arr 32 32 ad cap n ((waits.map V.id).flatMap hc) * (X * R)))))) (IsDag d ⟨room, held, heads, waits⟩ ks * R) := by
  subst hn
  exact isDag_in (s := ⟨room, held, heads, waits⟩) ⟨p1, p2, p3, ad, cap, X, hv, wv⟩ ⟨hh, hw, rd, np, nh, nw⟩

/-- the graph's memory, opened -/
def DagO (d : Nat) (s : DS) (i : DI) : HP := Blk d [.int .i64 s.room, .map (some i.p1), .map (some i.p2), .map (some i.p3), .slice i.ad s.waits.length i.cap] 78 * (MapK hkey i.p1 (i.hv.map vent) * (MapK hkey i.p2 (s.heads.map hent) * (MapK hkey i.p3 (i.wv.map vent) * (Arr 32 32 i.ad i.cap s.waits.length (s.old.flatMap hc) * i.X))))
theorem dagO_in {d : Nat} {s : DS} {ks : List Vx} {R : HP} (i : DI) (h : i.Ok s ks) : Ent (DagO d s i * R) (IsDag d s ks * R) := by
  unfold DagO
  exact En.ent.trans (isDag_in i h)
theorem dagO_rd {d : Nat} {s : DS} {ks : List Vx} {i : DI} (h : i.Ok s ks) {x : Vx} (hx : x ∈ i.hv ∨ x ∈ i.wv ∨ x ∈ ks) : Rd (DagO d s i) x.ad (x.v.par.flatMap hc) := by
  have := h.rd x hx
  unfold DagO
  infer_instance
/-- a call that leaves the graph's memory as it is -/
theorem spec_lift {ι : Type} {f : FuncId} {args : List Value} {ret : ι → Value} {d : Nat} {s : DS} {ks : List Vx} {R : HP} {B : ι → HP} (h : ∀ i : DI, i.Ok s ks → Spec Try.prog f args (DagO d s i * R) ret (fun x => DagO d s i * B x)) : Spec Try.prog f args (IsDag d s ks * R) ret (fun x => IsDag d s ks * B x) :=
  spec_exL (F := fun i : DI => pr (i.Ok s ks) * DagO d s i) fun i => spec_conseq (A := pr (i.Ok s ks) * (DagO d s i * R)) (ret' := ret) (B' := fun x => IsDag d s ks * B x)
    (spec_prL fun ok => spec_conseq (ret' := ret) (B' := fun x => IsDag d s ks * B x) (h i ok) (Ent.refl _) fun x => ⟨x, rfl, dagO_in i ok⟩) (Ent.assoc _ _ _) fun x => ⟨x, rfl, Ent.refl _⟩
theorem has_specO (R : HP) (d : Nat) (s : DS) (ks : List Vx) (i : DI) (ok : i.Ok s ks) (h : Hs) :
    Spec Try.prog 57 [.pointer (some ⟨d, 0, none⟩), .agg (hc h).toArray] (DagO d s i * R) (fun _ : Unit => .bool (hasS s.held h)) (fun _ => DagO d s i * R) := by
  refine spec_of Try.func57 rfl Try.ntmps57 rfl fun W0 => ?_
  unfold DagO
  have hln := hc_len h
  have hw1 : hasS (i.hv.map Vx.v) h = hasS s.held h := by rw [ok.hh]
  focus
    refine ct_seq ?_
    (refine ct_region' rfl ?_; simp only [List.map, lite])
    (refine rt_op (wants_none rfl) (o_box rfl (by conv => lhs; whnf) (by conv => lhs; whnf) fun b3 => ?_))
    (refine rg rfl (g_assign (by conv => lhs; whnf)) rfl rfl ?_)
    refine rt_nil ?_
    refine q_then ?_
    refine ct_seq ?_
    refine ct_anyA 11 ?_
    (refine any_take 0 rfl (by kernel_rfl) (by first | exact Ent.refl _ | exact En.ent) (wants_none rfl) (g_move (by conv => lhs; whnf)) rfl rfl ?_)
    (refine any_take 1 rfl (by kernel_rfl) (by first | exact Ent.refl _ | exact En.ent) (wants_none rfl) (g_nil rfl) rfl rfl ?_)
    (refine any_take 2 rfl (by kernel_rfl) (by first | exact Ent.refl _ | exact En.ent) (wants_none rfl) (g_field0 rfl) rfl rfl ?_)
    (refine any_take 3 rfl (by kernel_rfl) (by first | exact Ent.refl _ | exact En.ent) (wants_none rfl) (g_load rfl (by conv => lhs; whnf)) rfl rfl ?_)
    (refine any_take 4 rfl (by kernel_rfl) (by first | exact Ent.refl _ | exact En.ent) (wants_none rfl) (g_loadAgg_blk rfl (by first | rfl | assumption | (simp; done) | (simp; omega) | exact vcells_len _)) rfl rfl ?_)
    (refine any_take 5 rfl (by kernel_rfl) (by first | exact Ent.refl _ | exact En.ent) (wants_none rfl) (g_lookVOk rfl rfl (by kernel_rfl)) rfl rfl ?_)
    (refine any_take 6 rfl (by kernel_rfl) (by first | exact Ent.refl _ | exact En.ent) (wants_none rfl) (g_move (by conv => lhs; whnf)) rfl rfl ?_)
    (refine any_take 7 rfl (by kernel_rfl) (by first | exact Ent.refl _ | exact En.ent) (wants_none rfl) (g_extract rfl (by conv => lhs; whnf)) rfl rfl ?_)
    (refine any_take 8 rfl (by kernel_rfl) (by first | exact Ent.refl _ | exact En.ent) (wants_none rfl) (g_extract rfl (by conv => lhs; whnf)) rfl rfl ?_)
    (refine any_one 9 (by kernel_rfl) rfl (wants_none rfl) (o_alloc rfl (by conv => lhs; whnf) fun b5 => ⟨.inr (by first | exact Ent.refl _ | exact En.ent), ?_⟩))
    (refine any_one 10 (by kernel_rfl) rfl (wants_none rfl) (o_storeAgg rfl (by conv => lhs; whnf) (by first | exact List.toList_toArray | (conv => lhs; whnf)) (by first | rfl | exact bvsAll _ | exact wvs_all _ | assumption | exact vcells_one _) (by first | rfl | assumption | (simp; done) | (simp; omega) | exact vcells_len _) (by first | rfl | assumption | (simp; done) | (simp; omega) | exact vcells_len _) ⟨.inr (by first | exact Ent.refl _ | exact En.ent), ?_⟩))
    (refine any_one 11 (by kernel_rfl) rfl (wants_none rfl) (o_give (g_assign (by conv => lhs; whnf)) rfl rfl ⟨.inl rfl, ?_⟩))
    refine any_done (by kernel_rfl) ?_
    refine q_then ?_
    refine ct_seq ?_
    (refine ct_region' rfl ?_; simp only [List.map, lite])
    (refine rg rfl (g_move (by conv => lhs; whnf)) rfl rfl ?_)
    (refine rg rfl (g_assign (by conv => lhs; whnf)) rfl rfl ?_)
    refine rt_nil ?_
    refine q_then ?_
    refine ct_ret ?_
    rotate_left
  exact q_ret1 rfl rfl () (congrArg Value.bool hw1) En.ent
theorem has_spec (R : HP) (d : Nat) (s : DS) (ks : List Vx) (h : Hs) :
    Spec Try.prog 57 [.pointer (some ⟨d, 0, none⟩), .agg (hc h).toArray] (IsDag d s ks * R) (fun _ : Unit => .bool (hasS s.held h)) (fun _ => IsDag d s ks * R) := spec_lift fun i ok => has_specO R d s ks i ok h
theorem waits_spec (R : HP) (d : Nat) (s : DS) (ks : List Vx) (h : Hs) :
    Spec Try.prog 58 [.pointer (some ⟨d, 0, none⟩), .agg (hc h).toArray] (IsDag d s ks * R) (fun _ : Unit => .bool (hasS s.waits h)) (fun _ => IsDag d s ks * R) := by
  refine spec_of Try.func58 rfl Try.ntmps58 rfl fun W0 => ?_
  refine ct_ex fun i => ?_
  refine ct_ent ?_ (Ent.assoc _ _ _)
  refine ct_pr fun ok => ?_
  have hln := hc_len h
  have hw1 : hasS (i.wv.map Vx.v) h = hasS s.waits h := by rw [ok.hw]
  focus
    refine ct_seq ?_
    (refine ct_region' rfl ?_; simp only [List.map, lite])
    (refine rt_op (wants_none rfl) (o_box rfl (by conv => lhs; whnf) (by conv => lhs; whnf) fun b3 => ?_))
    (refine rg rfl (g_assign (by conv => lhs; whnf)) rfl rfl ?_)
    refine rt_nil ?_
    refine q_then ?_
    refine ct_seq ?_
    refine ct_anyA 11 ?_
    (refine any_take 0 rfl (by kernel_rfl) (by first | exact Ent.refl _ | exact En.ent) (wants_none rfl) (g_move (by conv => lhs; whnf)) rfl rfl ?_)
    (refine any_take 1 rfl (by kernel_rfl) (by first | exact Ent.refl _ | exact En.ent) (wants_none rfl) (g_nil rfl) rfl rfl ?_)
    (refine any_take 2 rfl (by kernel_rfl) (by first | exact Ent.refl _ | exact En.ent) (wants_none rfl) (g_field0 rfl) rfl rfl ?_)
    (refine any_take 3 rfl (by kernel_rfl) (by first | exact Ent.refl _ | exact En.ent) (wants_none rfl) (g_load rfl (by conv => lhs; whnf)) rfl rfl ?_)
    (refine any_take 4 rfl (by kernel_rfl) (by first | exact Ent.refl _ | exact En.ent) (wants_none rfl) (g_loadAgg_blk rfl (by first | rfl | assumption | (simp; done) | (simp; omega) | exact vcells_len _)) rfl rfl ?_)
    (refine any_take 5 rfl (by kernel_rfl) (by first | exact Ent.refl _ | exact En.ent) (wants_none rfl) (g_lookVOk rfl rfl (by kernel_rfl)) rfl rfl ?_)
    (refine any_take 6 rfl (by kernel_rfl) (by first | exact Ent.refl _ | exact En.ent) (wants_none rfl) (g_move (by conv => lhs; whnf)) rfl rfl ?_)
    (refine any_take 7 rfl (by kernel_rfl) (by first | exact Ent.refl _ | exact En.ent) (wants_none rfl) (g_extract rfl (by conv => lhs; whnf)) rfl rfl ?_)
    (refine any_take 8 rfl (by kernel_rfl) (by first | exact Ent.refl _ | exact En.ent) (wants_none rfl) (g_extract rfl (by conv => lhs; whnf)) rfl rfl ?_)
    (refine any_one 9 (by kernel_rfl) rfl (wants_none rfl) (o_alloc rfl (by conv => lhs; whnf) fun b5 => ⟨.inr (by first | exact Ent.refl _ | exact En.ent), ?_⟩))
    (refine any_one 10 (by kernel_rfl) rfl (wants_none rfl) (o_storeAgg rfl (by conv => lhs; whnf) (by first | exact List.toList_toArray | (conv => lhs; whnf)) (by first | rfl | exact bvsAll _ | exact wvs_all _ | assumption | exact vcells_one _) (by first | rfl | assumption | (simp; done) | (simp; omega) | exact vcells_len _) (by first | rfl | assumption | (simp; done) | (simp; omega) | exact vcells_len _) ⟨.inr (by first | exact Ent.refl _ | exact En.ent), ?_⟩))
    (refine any_one 11 (by kernel_rfl) rfl (wants_none rfl) (o_give (g_assign (by conv => lhs; whnf)) rfl rfl ⟨.inl rfl, ?_⟩))
    refine any_done (by kernel_rfl) ?_
    refine q_then ?_
    refine ct_seq ?_
    (refine ct_region' rfl ?_; simp only [List.map, lite])
    (refine rg rfl (g_move (by conv => lhs; whnf)) rfl rfl ?_)
    (refine rg rfl (g_assign (by conv => lhs; whnf)) rfl rfl ?_)
    refine rt_nil ?_
    refine q_then ?_
    refine ct_ret ?_
    rotate_left
  exact q_ret1 rfl rfl () (congrArg Value.bool hw1) (En.ent.trans (isDag_in i ok))
theorem len_spec (R : HP) (d : Nat) (s : DS) (ks : List Vx) :
    Spec Try.prog 36 [.pointer (some ⟨d, 0, none⟩)] (IsDag d s ks * R) (fun _ : Unit => .int .i64 s.held.length) (fun _ => IsDag d s ks * R) := by
  refine spec_of Try.func36 rfl Try.ntmps36 rfl fun W0 => ?_
  refine ct_ex fun i => ?_
  refine ct_ent ?_ (Ent.assoc _ _ _)
  refine ct_pr fun ok => ?_
  have hw1 : (((i.hv.map vent).length : Nat) : Int) = s.held.length := by rw [List.length_map, ← ok.hh, List.length_map]
  focus
    refine ct_seq ?_
    (refine ct_region' rfl ?_; simp only [List.map, lite])
    (refine rg rfl (g_assign (by conv => lhs; whnf)) rfl rfl ?_)
    refine rt_nil ?_
    refine q_then ?_
    refine ct_seq ?_
    (refine ct_region' rfl ?_; simp only [List.map, lite])
    (refine rg rfl (g_move (by conv => lhs; whnf)) rfl rfl ?_)
    (refine rg rfl (g_nil rfl) rfl rfl ?_)
    (refine rg rfl (g_field0 rfl) rfl rfl ?_)
    (refine rg rfl (g_load rfl (by conv => lhs; whnf)) rfl rfl ?_)
    (refine rg rfl (g_lenMap rfl) rfl rfl ?_)
    (refine rg rfl (g_assign (by conv => lhs; whnf)) rfl rfl ?_)
    refine rt_nil ?_
    refine q_then ?_
    refine ct_ret ?_
    rotate_left
  exact q_ret1 rfl rfl () (congrArg (Value.int _) hw1) (En.ent.trans (isDag_in i ok))
theorem own_spec (R : HP) (x : Vx) [hr : Rd R x.ad (x.v.par.flatMap hc)] (hl : x.v.par.length ≤ 64) :
    Spec Try.prog 39 [.agg (vcells x).toArray] R (fun i : Option Addr × Nat => .agg (vcells ⟨x.v, i.1, i.2⟩).toArray) (fun i => Arr 32 32 i.1 i.2 x.v.par.length (x.v.par.flatMap hc) * R) := by
  refine spec_of Try.func39 rfl Try.ntmps39 rfl fun W0 => ?_
  have hln := vcells_len x
  focus
    refine ct_seq ?_
    (refine ct_region' rfl ?_; simp only [List.map, lite])
    (refine rt_op (wants_none rfl) (o_box rfl (by conv => lhs; whnf) (by conv => lhs; whnf) fun b1 => ?_))
    (refine rt_op (wants_none rfl) (o_alloc rfl (by conv => lhs; whnf) fun b2 => ?_))
    refine rt_nil ?_
    refine q_then ?_
    refine ct_seq ?_
    (refine ct_region' rfl ?_; simp only [List.map, lite])
    (refine rg rfl (g_field0 rfl) rfl rfl ?_)
    (refine rg rfl (g_loadVp rfl) rfl rfl ?_)
    (refine rt_op (wants_none rfl) (o_callE rfl rfl (Ent.refl _) (Go.Proofs.Ytijplicijmpknaa.clone_spec _ _ _ _ ?_) fun i5 => ?_); (· (first | assumption | omega | rfl | decide | infer_instance | (simp; done) | (simp; omega) | (simp only [*]; done))))
    (refine rg rfl (g_field0 rfl) rfl rfl ?_)
    (refine rt_op (wants_none rfl) (o_storeVp rfl rfl ?_))
    refine rt_nil ?_
    refine q_then ?_
    refine ct_seq ?_
    (refine ct_region' rfl ?_; simp only [List.map, lite])
    (refine rg rfl (g_loadAgg_blk rfl (by first | rfl | assumption | (simp; done) | (simp; omega) | exact vcells_len _)) rfl rfl ?_)
    (refine rt_op (wants_none rfl) (o_storeAgg rfl (by conv => lhs; whnf) (by first | exact List.toList_toArray | (conv => lhs; whnf)) (by first | rfl | exact bvsAll _ | exact wvs_all _ | assumption | exact vcells_one _) (by first | rfl | assumption | (simp; done) | (simp; omega) | exact vcells_len _) (by first | rfl | assumption | (simp; done) | (simp; omega) | exact vcells_len _) ?_))
    refine rt_nil ?_
    refine q_then ?_
    refine ct_ret ?_
    rotate_left
  exact q_retC rfl (cell_blk rfl (vcells_len _)) i5 rfl En.ent
theorem new_spec (R : HP) (k : Int) :
    Spec Try.prog 11 [.int .i64 k] R (fun i : { o : Option Nat // (o = none ↔ (k < 0 ∨ 64 < k)) } => .tuple #[.pointer (i.1.map fun d => ⟨d, 0, none⟩), .int .i64 (if i.1 = none then 1 else 0)]) (fun i => match i.1 with | none => R | some d => IsDag d ⟨k.toNat, [], [], []⟩ [] * R) := by
  refine spec_of Try.func11 rfl Try.ntmps11 rfl fun W0 => ?_
  focus
    refine ct_seq ?_
    (refine ct_region' rfl ?_; simp only [List.map, lite])
    (refine rg rfl (g_assign (by conv => lhs; whnf)) rfl rfl ?_)
    (refine rg rfl (g_assign (by conv => lhs; whnf)) rfl rfl ?_)
    refine rt_nil ?_
    refine q_then ?_
    refine ct_seq ?_
    refine ct_seq ?_
    (refine ct_region' rfl ?_; simp only [List.map, lite])
    (refine rg rfl (g_move (by conv => lhs; whnf)) rfl rfl ?_)
    (refine rg rfl (g_lss rfl rfl) rfl rfl ?_)
    (refine rg rfl (g_move (by conv => lhs; whnf)) rfl rfl ?_)
    refine rt_split 6 rfl (fun h6 => ?_) (fun h6 => ?_)
    refine rgs rfl rfl rfl rfl rfl rfl ?_
    refine rgs rfl rfl rfl rfl rfl rfl ?_
    (refine rg rfl (g_pick_t rfl (by conv => lhs; whnf)) rfl rfl ?_)
    refine rt_nil ?_
    refine q_then ?_
    refine ct_true rfl ?_
    refine ct_seq ?_
    (refine ct_region' rfl ?_; simp only [List.map, lite])
    (refine rg rfl (g_assign (by conv => lhs; whnf)) rfl rfl ?_)
    (refine rg rfl (g_assign (by conv => lhs; whnf)) rfl rfl ?_)
    refine rt_nil ?_
    refine q_then ?_
    refine ct_ret ?_
    refine q_then_ret ?_
    rotate_left
    (refine rgw rfl rfl rfl rfl (g_move (by conv => lhs; whnf)) rfl rfl ?_)
    (refine rgw rfl rfl rfl rfl (g_gtr rfl rfl) rfl rfl ?_)
    (refine rg rfl (g_pick_f rfl (by conv => lhs; whnf)) rfl rfl ?_)
    refine rt_nil ?_
    refine q_then ?_
    refine ct_if rfl (fun h9 => ?_) (fun h9 => ?_)
    refine ct_seq ?_
    (refine ct_region' rfl ?_; simp only [List.map, lite])
    (refine rg rfl (g_assign (by conv => lhs; whnf)) rfl rfl ?_)
    (refine rg rfl (g_assign (by conv => lhs; whnf)) rfl rfl ?_)
    refine rt_nil ?_
    refine q_then ?_
    refine ct_ret ?_
    refine q_then_ret ?_
    rotate_left
    refine ct_skip ?_
    refine q_then ?_
    refine ct_seq ?_
    (refine ct_region' rfl ?_; simp only [List.map, lite])
    (refine rg rfl (g_move (by conv => lhs; whnf)) rfl rfl ?_)
    (refine rt_op (wants_none rfl) (o_mkmap rfl hkey fun b11 => ?_))
    (refine rt_op (wants_none rfl) (o_mkmap rfl hkey fun b12 => ?_))
    (refine rt_op (wants_none rfl) (o_mkmap rfl hkey fun b13 => ?_))
    (refine rg rfl (g_build (by simp only [ev, upd, updl, argl, nat_beq_def, Nat.reduceBEq, cond_true, cond_false, List.map_cons, List.map_nil]; rfl) (by simp [fillL, Value.cells]; rfl)) rfl rfl ?_)
    (refine rt_op (wants_none rfl) (o_box rfl (by conv => lhs; whnf) (by conv => lhs; whnf) fun b15 => ?_))
    (refine rg rfl (g_assign (by conv => lhs; whnf)) rfl rfl ?_)
    (refine rg rfl (g_assign (by conv => lhs; whnf)) rfl rfl ?_)
    refine rt_nil ?_
    refine q_then ?_
    refine ct_ret ?_
    rotate_left
  · exact q_ret2 rfl rfl rfl ⟨none, by simp; omega⟩ rfl (Ent.refl _)
  · exact q_ret2 rfl rfl rfl ⟨none, by simp; omega⟩ rfl (Ent.refl _)
  · have hk : ((k.toNat : Nat) : Int) = k := by omega
    refine q_ret2 rfl rfl rfl ⟨some b15, by simp; omega⟩ rfl (Ent.trans ?_ (isDag_in (s := ⟨k.toNat, [], [], []⟩) ⟨b11, b12, b13, none, 0, emp, [], []⟩ ⟨rfl, rfl, fun x hx => by simp at hx, fun v hv => by simp at hv, by simp, by simp⟩))
    show Ent _ (Blk b15 [.int .i64 ((k.toNat : Nat) : Int), .map (some b11), .map (some b12), .map (some b13), .slice none 0 0] 78 * (MapK hkey b11 [] * (MapK hkey b12 [] * (MapK hkey b13 [] * (Arr 32 32 none 0 0 [] * (emp * R))))))
    rw [hk]
    exact (Ent.addEmp _).trans ((arr_nil _ 32 32).trans En.ent)
end Go.Proofs.Ytijplicijmpknaa
