/- slices.IndexFunc and ContainsFunc at lists of hashes; ready, takes, Fit. -/
import Derived.Test.YtijplicijmpknaaDg1
import Derived.Test.YtijplicijmpknaaPn
namespace Go.Proofs.Ytijplicijmpknaa
open Go.RowKit
attribute [local irreducible] Gives RT CT QT Spec Wants Reads Src Ent OT RQ AnyT AnyOp Again Code.wp Post
attribute [local irreducible] vcells

def idxF (l : List Hs) (p : Hs → Bool) : Int := match l.findIdx? p with | some i => (i : Int) | none => -1
theorem idxF_at {l : List Hs} {p : Hs → Bool} {i : Nat} (h : i < l.length) (hp : p l[i] = true) (hq : ∀ x ∈ l.take i, p x = false) : (i : Int) = idxF l p := by
  have : l.findIdx? p = some i := List.findIdx?_eq_some_iff_getElem.2 ⟨h, hp, fun j hj => by
    have := hq l[j] (List.mem_take_iff_getElem.2 ⟨j, by omega, rfl⟩)
    simp [this]⟩
  rw [idxF, this]
theorem idxF_none {l : List Hs} {p : Hs → Bool} (hq : ∀ x ∈ l, p x = false) : -1 = idxF l p := by
  have : l.findIdx? p = none := List.findIdx?_eq_none_iff.2 hq
  rw [idxF, this]
theorem idxF_any (l : List Hs) (p : Hs → Bool) : decide (0 ≤ idxF l p) = l.any p := by
  cases e : l.findIdx? p with
  | none =>
    have h := List.findIdx?_eq_none_iff.1 e
    rw [idxF, e]
    rw [show l.any p = false from List.any_eq_false.2 fun x hx => by simp [h x hx]]; rfl
  | some i =>
    obtain ⟨h, hp, _⟩ := List.findIdx?_eq_some_iff_getElem.1 e
    rw [idxF, e]
    rw [show l.any p = true from List.any_eq_true.2 ⟨_, List.getElem_mem h, hp⟩]
    exact decide_eq_true (Int.natCast_nonneg i)
theorem indexF_spec (R : HP) (a : Option Addr) (c : Nat) (l : List Hs) (k : Nat) (cap : Array Value) (p : Hs → Bool) [FnB Try.prog k] [hr : Rd R a (l.flatMap hc)] (hl : l.length ≤ 140737488351232)
    (hf : ∀ h ∈ l, Spec Try.prog k ([.agg (hc h).toArray] ++ cap.toList) R (fun _ : Unit => .bool (p h)) (fun _ => R)) :
    Spec Try.prog 95 [.slice a l.length c, .func (.func k) #[] cap] R (fun _ : Unit => .int .i64 (idxF l p)) (fun _ => R) := by
  refine spec_of Try.func95 rfl Try.ntmps95 rfl fun W0 => ?_
  focus
    refine ct_seq ?_
    (refine ct_region' rfl ?_; simp only [List.map, lite])
    (refine rg rfl (g_assign (by conv => lhs; whnf)) rfl rfl ?_)
    refine rt_nil ?_
    refine q_then ?_
    refine ct_seq ?_
    refine ct_seq ?_
    (refine ct_region' rfl ?_; simp only [List.map, lite])
    (refine rg rfl (g_move (by conv => lhs; whnf)) rfl rfl ?_)
    (refine rg rfl (g_len_slice rfl) rfl rfl ?_)
    (refine rg rfl (g_move (by conv => lhs; whnf)) rfl rfl ?_)
    refine rt_nil ?_
    refine q_then ?_
    refine ct_block ?_
    rotate_left
  refine ct_loop (ι := { i : Nat // i ≤ l.length ∧ ∀ x ∈ l.take i, p x = false }) (fun i => [(0, .slice a l.length c), (1, .func (.func k) #[] cap), (7, .int .i64 (l.length : Int)), (8, .int .i64 (i.1 : Int))]) (fun _ => R) (fun i => l.length - i.1) ⟨0, by omega, by simp⟩ ⟨rfl, rfl, rfl, rfl, trivial⟩ (Ent.refl _) fun i ρ' => ?_
  obtain ⟨i, hi, hq⟩ := i
  dsimp only at hi ⊢
  by_cases h : i < l.length
  · have hfi := hf l[i] (List.getElem_mem h)
    focus
      refine ct_seq ?_
      (refine ct_region' rfl ?_; simp only [List.map, lite])
      (refine rg rfl (g_lssT rfl rfl ?_) rfl rfl ?_; (· (omega)))
      refine rt_nil ?_
      refine q_then ?_
      refine ct_seq ?_
      refine ct_true rfl ?_
      refine ct_skip ?_
      refine q_then ?_
      refine ct_seq ?_
      refine ct_block ?_
      refine ct_seq ?_
      (refine ct_region' rfl ?_; simp only [List.map, lite])
      (refine rg rfl (g_move (by conv => lhs; whnf)) rfl rfl ?_)
      (refine rg rfl (g_assign (by conv => lhs; whnf)) rfl rfl ?_)
      refine rt_nil ?_
      refine q_then ?_
      refine ct_seq ?_
      (refine ct_region' rfl ?_; simp only [List.map, lite])
      (refine rg rfl (g_move (by conv => lhs; whnf)) rfl rfl ?_)
      (refine rg rfl (g_move (by conv => lhs; whnf)) rfl rfl ?_)
      (refine rg rfl (g_move (by conv => lhs; whnf)) rfl rfl ?_)
      (refine rg rfl (g_elemH rfl rfl ?_ ?_) rfl rfl ?_; (· (first | omega | decide)); (· (first | omega | decide | (exact pos_of_get (by assumption)) | (simp only [List.length_map, List.length_append, List.length_replicate, List.length_set, List.length_cons, List.length_nil]; omega) | (simp; omega))))
      (refine rg rfl (g_loadH rfl ?_) rfl rfl ?_; (· (first | omega | decide | (exact pos_of_get (by assumption)) | (simp only [List.length_map, List.length_append, List.length_replicate, List.length_set, List.length_cons, List.length_nil]; omega) | (simp; omega))))
      (refine rt_op (wants_none rfl) (o_callV rfl rfl rfl rfl (Ent.refl _) hfi fun i16 => ?_))
      refine rt_nil ?_
      refine q_then ?_
      refine ct_cond rfl (fun h16 => ?_) (fun h16 => ?_)
      refine ct_seq ?_
      (refine ct_region' rfl ?_; simp only [List.map, lite])
      (refine rg rfl (g_move (by conv => lhs; whnf)) rfl rfl ?_)
      (refine rg rfl (g_assign (by conv => lhs; whnf)) rfl rfl ?_)
      refine rt_nil ?_
      refine q_then ?_
      refine ct_ret ?_
      refine q_block_ret ?_
      refine q_then_ret ?_
      refine q_then_ret ?_
      refine q_block_ret ?_
      refine q_then_ret ?_
      rotate_left
      refine ct_skip ?_
      refine q_block ?_
      refine q_then ?_
      (refine ct_region' rfl ?_; simp only [List.map, lite])
      (refine rg rfl (g_addN rfl rfl ?_) rfl rfl ?_; (· (constructor <;> omega)))
      (refine rg rfl (g_move (by conv => lhs; whnf)) rfl rfl ?_)
      refine rt_nil ?_
      rotate_left
    · exact q_ret1 rfl (by conv => lhs; whnf) () (congrArg (Value.int _) (idxF_at h h16 hq)) (Ent.refl _)
    · refine q_again ⟨i + 1, by omega, fun x hx => ?_⟩ (by show l.length - (i + 1) < l.length - i; omega) ⟨rfl, rfl, rfl, rfl, trivial⟩ (Ent.refl _)
      rw [List.take_add_one, List.mem_append, List.getElem?_eq_getElem h] at hx
      rcases hx with hx | hx
      · exact hq x hx
      · simp only [Option.toList_some, List.mem_singleton] at hx
        rw [hx]; exact h16
  · focus
      refine ct_seq ?_
      (refine ct_region' rfl ?_; simp only [List.map, lite])
      (refine rg rfl (g_lssF rfl rfl ?_) rfl rfl ?_; (· (omega)))
      refine rt_nil ?_
      refine q_then ?_
      refine ct_seq ?_
      refine ct_false rfl ?_
      refine ct_exit ?_
      refine q_then_exit ?_
      refine q_then_exit ?_
      refine q_block_exit ?_
      refine q_then ?_
      refine ct_seq ?_
      (refine ct_region' rfl ?_; simp only [List.map, lite])
      (refine rg rfl (g_assign (by conv => lhs; whnf)) rfl rfl ?_)
      refine rt_nil ?_
      refine q_then ?_
      refine ct_ret ?_
      rotate_left
    refine q_ret1 rfl (by conv => lhs; whnf) () (congrArg (Value.int _) (idxF_none fun x hx => hq x ?_)) (Ent.refl _)
    rwa [List.take_of_length_le (by omega)]
theorem containsF_spec (R : HP) (a : Option Addr) (c : Nat) (l : List Hs) (k : Nat) (cap : Array Value) (p : Hs → Bool) [FnB Try.prog k] [hr : Rd R a (l.flatMap hc)] (hl : l.length ≤ 140737488351232)
    (hf : ∀ h ∈ l, Spec Try.prog k ([.agg (hc h).toArray] ++ cap.toList) R (fun _ : Unit => .bool (p h)) (fun _ => R)) :
    Spec Try.prog 87 [.slice a l.length c, .func (.func k) #[] cap] R (fun _ : Unit => .bool (l.any p)) (fun _ => R) := by
  refine spec_of Try.func87 rfl Try.ntmps87 rfl fun W0 => ?_
  have hi := indexF_spec R a c l k cap p hl hf
  focus
    refine ct_seq ?_
    (refine ct_region' rfl ?_; simp only [List.map, lite])
    (refine rg rfl (g_assign (by conv => lhs; whnf)) rfl rfl ?_)
    refine rt_nil ?_
    refine q_then ?_
    refine ct_seq ?_
    (refine ct_region' rfl ?_; simp only [List.map, lite])
    (refine rg rfl (g_move (by conv => lhs; whnf)) rfl rfl ?_)
    (refine rg rfl (g_move (by conv => lhs; whnf)) rfl rfl ?_)
    (refine rt_op (wants_none rfl) (o_callE rfl rfl ((Ent.addEmp _).trans (Ent.dropR _ _)) (hi) fun i7 => ?_))
    (refine rg rfl (g_geq rfl rfl) rfl rfl ?_)
    (refine rg rfl (g_assign (by conv => lhs; whnf)) rfl rfl ?_)
    refine rt_nil ?_
    refine q_then ?_
    refine ct_ret ?_
    rotate_left
  exact q_ret1 rfl rfl () (congrArg Value.bool (idxF_any l p)) (Ent.refl _)
theorem ready1_specO (R : HP) (b d : Nat) (s : DS) (ks : List Vx) (i : DI) (ok : i.Ok s ks) (h : Hs) :
    Spec Try.prog 88 [.agg (hc h).toArray, .pointer (some ⟨b, 0, none⟩)] (Blk b [.pointer (some ⟨d, 0, none⟩)] 24 * (DagO d s i * R)) (fun _ : Unit => .bool (!hasS s.held h)) (fun _ => Blk b [.pointer (some ⟨d, 0, none⟩)] 24 * (DagO d s i * R)) := by
  refine spec_of Try.func88 rfl Try.ntmps88 rfl fun W0 => ?_
  have hln := hc_len h
  have hhas := fun R' => has_specO R' d s ks i ok h
  focus
    refine ct_seq ?_
    (refine ct_region' rfl ?_; simp only [List.map, lite])
    (refine rt_op (wants_none rfl) (o_box rfl (by conv => lhs; whnf) (by conv => lhs; whnf) fun b2 => ?_))
    (refine rg rfl (g_assign (by conv => lhs; whnf)) rfl rfl ?_)
    refine rt_nil ?_
    refine q_then ?_
    refine ct_seq ?_
    (refine ct_region' rfl ?_; simp only [List.map, lite])
    (refine rg rfl (g_load rfl (by conv => lhs; whnf)) rfl rfl ?_)
    (refine rg rfl (g_loadAgg_blk rfl (by first | rfl | assumption | (simp; done) | (simp; omega) | exact vcells_len _)) rfl rfl ?_)
    (refine rt_op (wants_none rfl) (o_callE rfl rfl (ent_right (ent_right (Ent.refl _))) (hhas _) fun i6 => ?_))
    (refine rg rfl (g_not rfl) rfl rfl ?_)
    (refine rg rfl (g_assign (by conv => lhs; whnf)) rfl rfl ?_)
    refine rt_nil ?_
    refine q_then ?_
    refine ct_ret ?_
    exact q_ret1 rfl rfl () rfl En.ent
def readyS (s : DS) (v : V) : Bool := v.par.all fun h => hasS s.held h
theorem ready_specO (R : HP) (d : Nat) (s : DS) (ks : List Vx) (i : DI) (ok : i.Ok s ks) (x : Vx) [hr : Rd (DagO d s i * R) x.ad (x.v.par.flatMap hc)] (hl : x.v.par.length ≤ 64) :
    Spec Try.prog 60 [.pointer (some ⟨d, 0, none⟩), .agg (vcells x).toArray] (DagO d s i * R) (fun _ : Unit => .bool (readyS s x.v)) (fun _ => DagO d s i * R) := by
  refine spec_of Try.func60 rfl Try.ntmps60 rfl fun W0 => ?_
  have hln := vcells_len x
  have hcf := fun (b2 b3 : Nat) => containsF_spec (Blk b3 (vcells x) 36 * (Blk b2 [.pointer (some ⟨d, 0, none⟩)] 24 * (DagO d s i * R))) x.ad x.cap x.v.par 88 [.pointer (some ⟨b2, 0, none⟩)].toArray (fun h => !hasS s.held h) (by omega) (fun h _ => spec_conseq (ready1_specO (Blk b3 (vcells x) 36 * R) b2 d s ks i ok h) En.ent (fun i => ⟨i, rfl, En.ent⟩))
  focus
    refine ct_seq ?_
    (refine ct_region' rfl ?_; simp only [List.map, lite])
    (refine rt_op (wants_none rfl) (o_box rfl (by conv => lhs; whnf) (by conv => lhs; whnf) fun b2 => ?_))
    (refine rt_op (wants_none rfl) (o_box rfl (by conv => lhs; whnf) (by conv => lhs; whnf) fun b3 => ?_))
    (refine rg rfl (g_assign (by conv => lhs; whnf)) rfl rfl ?_)
    refine rt_nil ?_
    refine q_then ?_
    refine ct_seq ?_
    (refine ct_region' rfl ?_; simp only [List.map, lite])
    (refine rg rfl (g_field0 rfl) rfl rfl ?_)
    (refine rg rfl (g_loadVp rfl) rfl rfl ?_)
    (refine rg rfl (g_func (by simp only [ev, upd, updl, argl, nat_beq_def, Nat.reduceBEq, cond_true, cond_false, List.map_cons, List.map_nil]; rfl)) rfl rfl ?_)
    (refine rt_op (wants_none rfl) (o_callE rfl rfl ((Ent.refl _).trans (Ent.mul (Ent.refl _) ((Ent.refl _).trans (Ent.mul (Ent.refl _) ((Ent.refl _).trans (Ent.mul (Ent.refl _) ((Ent.addEmp _).trans (Ent.dropR _ _)))))))) (hcf _ _) fun i8 => ?_))
    (refine rg rfl (g_not rfl) rfl rfl ?_)
    (refine rg rfl (g_assign (by conv => lhs; whnf)) rfl rfl ?_)
    refine rt_nil ?_
    refine q_then ?_
    refine ct_ret ?_
    rotate_left
  refine q_ret1 rfl rfl () (congrArg Value.bool ?_) En.ent
  rw [readyS, List.all_eq_not_any_not]
theorem ready_spec (R : HP) (d : Nat) (s : DS) (ks : List Vx) (x : Vx) [hr : Rd R x.ad (x.v.par.flatMap hc)] (hl : x.v.par.length ≤ 64) :
    Spec Try.prog 60 [.pointer (some ⟨d, 0, none⟩), .agg (vcells x).toArray] (IsDag d s ks * R) (fun _ : Unit => .bool (readyS s x.v)) (fun _ => IsDag d s ks * R) := spec_lift fun i ok => ready_specO R d s ks i ok x hl
end Go.Proofs.Ytijplicijmpknaa
