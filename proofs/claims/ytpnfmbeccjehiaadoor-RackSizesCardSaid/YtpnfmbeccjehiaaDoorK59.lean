/- The reference's Read: on the shape of a set, and on any text. -/
import Derived.Test.YtpnfmbeccjehiaaDoorQ7
import Derived.Test.YtpnfmbeccjehiaaDoorK58
namespace Go.Proofs.YtpnfmbeccjehiaaDoor
open Go.RowKit Go.Proofs.YtpnfmbeccjehiaaDoorW.PrintWords Go.Proofs.YtpnfmbeccjehiaaDoorW.PrintLast Go.Proofs.YtpnfmbeccjehiaaDoorW.PrintMore
theorem dg_dec {a : Nat} (h : a < 256) {l : List UInt8} (hl : RK.NoD l) : dg (RK.dec a ++ l) = RK.dec a := by
 obtain ⟨h1, h2, h3, -⟩ := RK.dec_facts h
 have e1 : l.takeWhile RK.isD = [] := by
  cases l with
  | nil => rfl
  | cons c r => rw [List.takeWhile_cons, hl c r rfl]; rfl
 unfold dg
 rw [List.takeWhile_append_of_pos h1, e1, List.append_nil, List.take_of_length_le (by omega)]
theorem vd_dec {a : Nat} (h : a < 256) {l : List UInt8} (hl : RK.NoD l) : vd (dg (RK.dec a ++ l)) = a := by rw [dg_dec h hl]; exact (RK.dec_facts h).2.2.2
theorem ok_dec {a : Nat} (h : a < 256) {l : List UInt8} (hl : RK.NoD l) : okN (RK.dec a ++ l) = true := by
 obtain ⟨-, h2, h3, -⟩ := RK.dec_facts h
 unfold okN
 rw [dg_dec h hl, decide_eq_true (by omega), decide_eq_true (by omega)]; rfl
theorem aft_dec {a : Nat} (h : a < 256) {l : List UInt8} (hl : RK.NoD l) : aft (RK.dec a ++ l) = l := by
 unfold aft
 rw [dg_dec h hl]; simp
theorem SR_hit (c : UInt8) (l : List UInt8) : SR c (c :: l) = (l, true) := by unfold SR; rw [RK.skip_cons]
theorem SR_miss {c d : UInt8} (h : d ≠ c) (l : List UInt8) : SR c (d :: l) = (d :: l, false) := by
 have h1 : RK.skipL c (d :: l) = none := by rw [RK.skipL, if_neg h]
 unfold SR
 rw [h1]
theorem SR_dec {a : Nat} (h : a < 256) (l : List UInt8) (c : UInt8) (hc : RK.isD c = false) : SR c (RK.dec a ++ l) = (RK.dec a ++ l, false) := by
 unfold SR
 rw [RK.skip_dec h l c hc]
/-- two numbers ahead -/
theorem read_two {a b : Nat} (ha : a < 256) (hb : b < 256) {l : List UInt8} (hl : RK.NoD l) (hlen : (RK.dec a ++ 58 :: (RK.dec b ++ l)).length ≤ 5000) (k : Int) (p : List Int × ByteArray × Bool)
  (h : Ev (fun K => PR.remouldref07_read.j0 K ⟨l.toArray⟩ k (a : Int) (b : Int) false) p) : Ev (fun K => PR.remouldref07_read.f K ⟨(RK.dec a ++ 58 :: (RK.dec b ++ l)).toArray⟩ k) p := by
 have n1 : RK.NoD (58 :: (RK.dec b ++ l)) := RK.noD_cons (by decide) _
 refine read_step _ hlen k p ?_
 rw [aft_dec ha n1, SR_hit, aft_dec hb hl, vd_dec ha n1, vd_dec hb hl, ok_dec ha n1, ok_dec hb hl]
 exact h
def flt (k : Nat) (sp : Nat → RK.S) (L : List Nat) : List UInt8 := L.flatMap (fun s => 124 :: (RK.dec s ++ 58 :: RK.shT k (sp s)))
theorem flt_noD (k : Nat) (sp : Nat → RK.S) (L : List Nat) (r : List UInt8) : RK.NoD (flt k sp L ++ 41 :: r) := by
 cases L with
 | nil => exact RK.noD_cons (by decide) _
 | cons s L => exact RK.noD_cons (by decide) _
theorem loop_shT {k : Nat} (hk : k ≤ 3) (sp : Nat → RK.S) (hsup : ∀ s, RK.Supp k (sp s)) (r : List UInt8)
  (T : ∀ s (x : List UInt8), ¬ RK.Emp (sp s) → RK.NoD x → (RK.shT k (sp s) ++ x).length ≤ 5000 → Ev (fun K => PR.remouldref07_read.f K ⟨(RK.shT k (sp s) ++ x).toArray⟩ (k : Int)) (zs (RK.lst k (sp s)), ⟨x.toArray⟩, true)) :
  ∀ (L out : List Nat), (∀ s ∈ L, s < 256 ∧ ¬ RK.Emp (sp s)) → (flt k sp L ++ 41 :: r).length ≤ 5000 → RK.Asc out → out ≠ [] → out.length + (L.map fun _ => 300).sum ≤ 800000 →
  ∃ out', RK.Asc out' ∧ (∀ y, y ∈ out' ↔ y ∈ out ∨ ∃ s ∈ L, ∃ z ∈ RK.lst k (sp s), y = s * RK.R k + z) ∧
   Ev (fun K => PR.remouldref07_read.l0 K ⟨(flt k sp L ++ 41 :: r).toArray⟩ ((k + 1 : Nat) : Int) true (zs out)) (zs out', ⟨r.toArray⟩, true) := by
 intro L
 induction L with
 | nil =>
  intro out _ _ ha hne _
  refine ⟨out, ha, fun y => by simp, ?_⟩
  have h := l0_end (41 :: r) ((k + 1 : Nat) : Int) (zs out) (by rw [SR_hit])
  rw [SR_hit] at h
  exact h
 | cons s L ih =>
  intro out hL hlen ha hne hb
  obtain ⟨hs1, hs2⟩ := hL s List.mem_cons_self
  have hR := RK.R_le hk
  have hll := RK.lst_len k (sp s)
  have e1 : flt k sp (s :: L) ++ 41 :: r = 124 :: (RK.dec s ++ 58 :: (RK.shT k (sp s) ++ (flt k sp L ++ 41 :: r))) := by simp [flt]
  rw [e1] at hlen ⊢
  simp only [List.length_cons, List.length_append] at hlen
  simp only [List.map_cons, List.sum_cons] at hb
  have n1 := flt_noD k sp L r
  have n2 : RK.NoD (58 :: (RK.shT k (sp s) ++ (flt k sp L ++ 41 :: r))) := RK.noD_cons (by decide) _
  have hq := T s (flt k sp L ++ 41 :: r) hs2 n1 (by simp only [List.length_cons, List.length_append]; omega)
  obtain ⟨out1, f1, f2, f3, f4, f5⟩ := l1_step k hk ⟨(flt k sp L ++ 41 :: r).toArray⟩ true s (by omega) (RK.lst k (sp s)) (fun y hy => by
   have := hsup s y ((RK.mem_lst (hsup s) y).1 hy); omega) (by omega) (RK.lst k (sp s)).length 0 out (Nat.zero_add _) ha hne (by omega)
  obtain ⟨out', g1, g2, g3⟩ := ih out1 (fun t ht => hL t (List.mem_cons_of_mem _ ht)) (by simp only [List.length_cons, List.length_append]; omega) f1 f2 (by omega)
  refine ⟨out', g1, fun y => ?_, ?_⟩
  ·
   rw [g2 y, f4 y, List.drop_zero]
   constructor
   ·
    rintro ((h | ⟨z, hz, rfl⟩) | ⟨t, ht, h⟩)
    ·
     exact .inl h
    ·
     exact .inr ⟨s, List.mem_cons_self, z, hz, rfl⟩
    ·
     exact .inr ⟨t, List.mem_cons_of_mem _ ht, h⟩
   ·
    rintro (h | ⟨t, ht, z, hz, rfl⟩)
    ·
     exact .inl (.inl h)
    ·
     rcases List.mem_cons.1 ht with rfl | ht
     ·
      exact .inl (.inr ⟨z, hz, rfl⟩)
     ·
      exact .inr ⟨t, ht, z, hz, rfl⟩
  ·
   refine l0_bar _ (by simp only [List.length_cons, List.length_append]; omega) _ _ _ (by rw [SR_miss (by decide)]; exact Bool.false_ne_true) ?_
   rw [SR_hit, vd_dec hs1 n2, aft_dec hs1 n2, SR_hit, ok_dec hs1 n2]
   exact j2_read _ _ k hk _ _ _ _ hq (f5 _ g3)
theorem sum_300 : ∀ (L : List Nat) (n : Nat), L.length ≤ n → (L.map fun _ => 300).sum ≤ n * 300
 | [], n, _ => Nat.zero_le _
 | _ :: L, 0, h => by simp at h
 | _ :: L, n + 1, h => by
  have := sum_300 L n (by simpa using h)
  rw [List.map_cons, List.sum_cons, Nat.succ_mul]
  omega
theorem read_shT : ∀ (k : Nat), k ≤ 3 → ∀ (m : RK.S), RK.Supp k m → ¬ RK.Emp m → ∀ x : List UInt8, RK.NoD x → (RK.shT k m ++ x).length ≤ 5000 →
  Ev (fun K => PR.remouldref07_read.f K ⟨(RK.shT k m ++ x).toArray⟩ (k : Int)) (zs (RK.lst k m), ⟨x.toArray⟩, true) := by
 intro k
 induction k with
 | zero =>
  intro hk m hs he x hx hlen
  rcases RK.ends_or hs with ⟨h, -⟩ | ⟨a, b, ha, hb, -⟩
  ·
   exact absurd h he
  ·
   have h0 : RK.R 0 = 2 := rfl
   have ha2 := hs a ha.1
   have hb2 := hs b hb.1
   rw [RK.shT_zero hs ha hb] at hlen ⊢
   have e1 : (RK.dec a ++ 58 :: RK.dec b) ++ x = RK.dec a ++ 58 :: (RK.dec b ++ x) := by simp
   rw [e1] at hlen ⊢
   obtain ⟨L', f1, f2, f3, f4, f5⟩ := ins_ev [a] (List.pairwise_singleton _ _) (by simp) b
   have e2 : L' = RK.lst 0 m := RK.asc_ext f1 (RK.lst_asc _ _) fun y => by
    rw [f4 y, RK.mem_lst hs, List.mem_singleton]
    constructor
    ·
     rintro (rfl | rfl)
     ·
      exact hb.1
     ·
      exact ha.1
    ·
     intro hy
     have h1 := ha.2 y hy
     have h2 := hb.2 y hy
     omega
   rw [e2] at f5
   exact read_two (by omega) (by omega) hx hlen _ _ (j0_zero _ _ _ _ f5)
 | succ k ih =>
  intro hk m hs he x hx hlen
  rcases RK.ends_or hs with ⟨h, -⟩ | ⟨a, b, ha, hb, -⟩
  ·
   exact absurd h he
  ·
   have hR := RK.R_le hk
   have hR2 := RK.R_le (k := k) (by omega)
   have ha2 := hs a ha.1
   have hb2 := hs b hb.1
   obtain ⟨L, hL⟩ : ∃ L, RK.lst k (RK.shelves k m a) = L := ⟨_, rfl⟩
   have hLl : L.length ≤ 256 := by rw [← hL]; have := RK.lst_len k (RK.shelves k m a); omega
   have hmL : ∀ s, s ∈ L ↔ RK.shelves k m a s = true := fun s => by rw [← hL]; exact RK.mem_lst (RK.shelves_supp k m a) s
   have hsh := RK.shT_succ hs ha hb
   have hone := RK.lst_one hs ha
   rw [hL] at hsh hone
   by_cases hnil : L = []
   ·
    rw [if_pos hnil, hnil] at hsh
    have e1 : RK.shT (k + 1) m ++ x = RK.dec a ++ 58 :: (RK.dec b ++ 40 :: (41 :: x)) := by rw [hsh]; simp
    rw [e1] at hlen ⊢
    have e2 : RK.lst (k + 1) m = [a] := by
     have h1 := hone.2 hnil
     obtain ⟨c, hc⟩ := List.length_eq_one_iff.1 h1
     have h2 := RK.lst_first hs ha
     rw [hc] at h2 ⊢
     rw [show c = a from Option.some.inj h2]
    rw [e2]
    refine read_two (by omega) (by omega) (RK.noD_cons (by decide) _) hlen _ _ (j0_succ _ k (by omega) _ _ _ ([], ⟨#[]⟩, false) ?_)
    rw [SR_hit]
    dsimp only
    rw [if_pos rfl, SR_hit]
    rfl
   ·
    rw [if_neg hnil] at hsh
    have e1 : RK.shT (k + 1) m ++ x = RK.dec a ++ 58 :: (RK.dec b ++ 40 :: (RK.shT k (RK.shelves k m a) ++ (flt k (RK.spot k m a) L ++ 41 :: x))) := by rw [hsh]; simp [flt]
    have hne : ¬ RK.Emp (RK.shelves k m a) := fun h => hnil (by rw [← hL]; exact (RK.lst_emp (RK.shelves_supp k m a)).2 h)
    rw [e1] at hlen ⊢
    have hlen2 := hlen
    simp only [List.length_cons, List.length_append] at hlen2
    have hq := ih (by omega) _ (RK.shelves_supp k m a) hne (flt k (RK.spot k m a) L ++ 41 :: x) (flt_noD _ _ _ _) (by simp only [List.length_cons, List.length_append]; omega)
    obtain ⟨out', g1, g2, g3⟩ := loop_shT (by omega) (RK.spot k m a) (fun s => RK.spot_supp k m a s) x (fun s y h1 h2 h3 => ih (by omega) _ (RK.spot_supp k m a s) h1 y h2 h3) L [a] (fun s hsL => by
     have h1 := (hmL s).1 hsL
     have h2 := RK.shelves_supp k m a s h1
     exact ⟨by omega, RK.shelf_some h1⟩) (by simp only [List.length_cons, List.length_append]; omega) (List.pairwise_singleton _ _) (by simp) (by have := sum_300 L 256 hLl; simp only [List.length_cons, List.length_nil]; omega)
    have e2 : out' = RK.lst (k + 1) m := RK.asc_ext g1 (RK.lst_asc _ _) fun y => by
     rw [g2 y, RK.mem_lst hs, List.mem_singleton]
     constructor
     ·
      rintro (rfl | ⟨s, -, z, hz, rfl⟩)
      ·
       exact ha.1
      ·
       exact ((RK.spot_iff _ _ _ _ _).1 ((RK.mem_lst (RK.spot_supp k m a s) z).1 hz)).2.1
     ·
      intro hy
      by_cases e : y = a
      ·
       exact .inl e
      ·
       have h1 := (RK.mem_iff hs e).1 hy
       exact .inr ⟨y / RK.R k, (hmL _).2 h1.1, y % RK.R k, (RK.mem_lst (RK.spot_supp k m a _) _).2 h1.2, (RK.join_split k y).symm⟩
    rw [e2] at g3
    obtain ⟨c, s0, hc1, hc2⟩ := RK.shT_dec (RK.shelves_supp k m a) hne
    refine read_two (by omega) (by omega) (RK.noD_cons (by decide) _) hlen _ _ (j0_succ _ k (by omega) _ _ _ (zs (RK.lst k (RK.shelves k m a)), ⟨(flt k (RK.spot k m a) L ++ 41 :: x).toArray⟩, true) ?_)
    rw [SR_hit]
    dsimp only
    have h41 : SR 41 (RK.shT k (RK.shelves k m a) ++ (flt k (RK.spot k m a) L ++ 41 :: x)) = (RK.shT k (RK.shelves k m a) ++ (flt k (RK.spot k m a) L ++ 41 :: x), false) := by
     rw [hc2, List.append_assoc]
     exact SR_dec (by omega) _ _ (by decide)
    rw [if_pos rfl, h41, if_neg (fun h => Bool.false_ne_true h)]
    exact ⟨hq, g3⟩
/-- what the reference's Read hands back -/
def readR (k : Nat) (l : List UInt8) : List Int × Bool := match RK.readOf k l with
 | some m => (zs (RK.lst k m), true)
 | none => ([], false)
theorem asc_last {L : List Nat} (h : RK.Asc L) {q : Nat} (hq : L[L.length - 1]? = some q) : ∀ x ∈ L, x ≤ q := fun x hx => by
 obtain ⟨i, hi⟩ := List.mem_iff_getElem?.1 hx
 obtain ⟨i1, i2⟩ := List.getElem?_eq_some_iff.1 hi
 obtain ⟨j1, j2⟩ := List.getElem?_eq_some_iff.1 hq
 by_cases e : i = L.length - 1
 ·
  subst e
  rw [hq] at hi
  rw [Option.some.inj hi]; exact Nat.le_refl _
 ·
  have := List.pairwise_iff_getElem.1 h i (L.length - 1) i1 j1 (by omega)
  rw [i2, j2] at this
  exact Nat.le_of_lt this
theorem bytes_eq {a b : List UInt8} : (⟨a.toArray⟩ : ByteArray).toList = b ↔ a = b := by rw [ByteArray.toList_eq]
theorem Read_ev (k : Nat) (hk : k ≤ 3) (l : List UInt8) (hl : l.length ≤ 5000) : Ev (fun K => PR.remouldref07_Read.f K ⟨l.toArray⟩ (k : Int)) (readR k l) := by
 by_cases h45 : l = [45]
 ·
  have hr : RK.readOf k l = some (fun _ => false) := by
   have hs0 : RK.Supp k (fun _ => false) := fun x h => by cases h
   have := RK.readOf_shT hk hs0
   rw [RK.shT_emp hs0 (fun _ => rfl)] at this
   rw [h45]; exact this
  refine ⟨0, fun K _ => ?_⟩
  dsimp only
  unfold PR.remouldref07_Read.f readR
  rw [if_pos (bytes_eq.2 h45), hr]
  dsimp only
  rw [(RK.lst_emp (m := fun _ => false) (fun x h => by cases h)).2 (fun _ => rfl)]
  rfl
 ·
  obtain ⟨p, ⟨c, hc⟩, L, r, o, rfl, g1, g2, g3, g4⟩ := read_any_ref k hk l hl
  have hB : ∀ m, RK.readOf k l = some m → zs L = zs (RK.lst k m) ∧ r = [] ∧ o = true := fun m hm => by
   obtain ⟨h1, h2⟩ := RK.readOf_some hm
   have hne : ¬ RK.Emp m := fun h => h45 (by rw [← h2, RK.shT_emp h1 h])
   have h3 := read_shT k hk m h1 hne [] (fun c r e => by cases e) (by rw [List.append_nil, h2]; exact hl)
   rw [List.append_nil, h2] at h3
   have h4 := Ev.uniq ⟨c, hc⟩ h3
   simp only [Prod.mk.injEq] at h4
   refine ⟨h4.1, ?_, h4.2.2⟩
   have h5 := congrArg ByteArray.toList h4.2.1
   rw [ByteArray.toList_eq, ByteArray.toList_eq] at h5
   simpa using h5
  dsimp only at hc
  have h45' : ¬ (⟨l.toArray⟩ : ByteArray).toList = ([45] : List UInt8) := fun h => h45 (bytes_eq.1 h)
  cases o with
  | false =>
   have hn : RK.readOf k l = none := by
    cases h : RK.readOf k l with
    | none => rfl
    | some m => have := (hB m h).2.2; cases this
   refine ⟨c, fun K hK => ?_⟩
   dsimp only
   unfold PR.remouldref07_Read.f readR
   rw [if_neg h45', hc K hK, hn]
   rfl
  | true =>
   by_cases hr : r = []
   ·
    have hne := g4 rfl
    have hl0 : 0 < L.length := by cases L with
     | nil => exact absurd rfl hne
     | cons => simp
    obtain ⟨q, hq⟩ : ∃ q, L[L.length - 1]? = some q := ⟨L[L.length - 1]'(by omega), by simp [show L.length - 1 < L.length by omega]⟩
    obtain ⟨n, hn⟩ : ∃ n, L.length = n + 1 := ⟨L.length - 1, by omega⟩
    have hzl := zs_len L
    rw [hn] at hq hzl
    rw [Nat.add_sub_cancel] at hq
    have hw := wrap_p (n := n) (by omega)
    have hrd : rd (zs L) (n : Int) = (q : Int) := rd_zs hq
    have hpl : ∀ K, 5 ≤ K → PR.remouldref07_Place.f K (k : Int) (q : Int) = some (decide (0 ≤ (q : Int) ∧ (q : Int) < RK.R k)) := leO_up (f := fun K => PR.remouldref07_Place.f K (k : Int) (q : Int)) (fun K => PR.remouldref07_Place.mono _ _ K) (place_f hk q)
    have hr' : (⟨r.toArray⟩ : ByteArray).toList = ([] : List UInt8) := bytes_eq.2 hr
    have c1 : (0 : Int) ≤ (n : Int) := Int.natCast_nonneg n
    have c2 : (n : Int) < ((n + 1 : Nat) : Int) := by omega
    by_cases hqR : q < RK.R k
    ·
     have hall : ∀ x ∈ L, x < RK.R k := fun x hx => Nat.lt_of_le_of_lt (asc_last g2 (by rw [hn, Nat.add_sub_cancel]; exact hq) x hx) hqR
     have hsM : RK.Supp k (RK.setOf L) := fun x hx => hall x ((RK.setOf_iff L x).1 hx)
     have eL : L = RK.lst k (RK.setOf L) := RK.asc_ext g2 (RK.lst_asc _ _) fun x => by rw [RK.mem_lst hsM, RK.setOf_iff]
     obtain ⟨K0, -, hsf⟩ := shape_f k hk
     have hsf2 := hsf _ hsM
     rw [← eL] at hsf2
     refine ⟨c + K0 + 5, fun K hK => ?_⟩
     dsimp only
     unfold PR.remouldref07_Read.f
     rw [if_neg h45', hc K (by omega), Option.bind_some]
     dsimp only
     rw [if_pos rfl, if_pos hr', hzl, hw, if_pos c1, if_pos c2, hrd, hpl K (by omega), Option.bind_some, if_pos (decide_eq_true (And.intro (Int.natCast_nonneg q) (Int.ofNat_lt.2 hqR))), hsf2 K (by omega), Option.bind_some]
     by_cases e : RK.shT k (RK.setOf L) = l
     ·
      have hro : RK.readOf k l = some (RK.setOf L) := by
       have := RK.readOf_shT hk hsM
       rw [e] at this; exact this
      unfold readR
      rw [if_pos (by rw [e]), hro]
      dsimp only
      rw [← eL]
     ·
      have hro : RK.readOf k l = none := by
       cases h : RK.readOf k l with
       | none => rfl
       | some m =>
        obtain ⟨h1, h2⟩ := RK.readOf_some h
        have h3 := zs_inj (hB m h).1
        refine absurd ?_ e
        rw [h3, RK.setOf_lst h1]; exact h2
      unfold readR
      rw [if_neg (fun h => e (by rw [ByteArray.toList_eq, ByteArray.toList_eq] at h; exact h)), hro]
    ·
     have hro : RK.readOf k l = none := by
      cases h : RK.readOf k l with
      | none => rfl
      | some m =>
       obtain ⟨h1, -⟩ := RK.readOf_some h
       have h3 := zs_inj (hB m h).1
       have h4 : q ∈ RK.lst k m := by rw [← h3]; exact List.mem_of_getElem? hq
       exact absurd (h1 q ((RK.mem_lst h1 q).1 h4)) hqR
     refine ⟨c + 5, fun K hK => ?_⟩
     dsimp only
     unfold PR.remouldref07_Read.f readR
     rw [if_neg h45', hc K (by omega), Option.bind_some, hro]
     dsimp only
     rw [if_pos rfl, if_pos hr', hzl, hw, if_pos c1, if_pos c2, hrd, hpl K (by omega), Option.bind_some, if_neg (fun h => hqR (Int.ofNat_lt.1 (of_decide_eq_true h).2))]
   ·
    have hro : RK.readOf k l = none := by
     cases h : RK.readOf k l with
     | none => rfl
     | some m => exact absurd (hB m h).2.1 hr
    have hr' : ¬ (⟨r.toArray⟩ : ByteArray).toList = ([] : List UInt8) := fun h => hr (bytes_eq.1 h)
    refine ⟨c, fun K hK => ?_⟩
    dsimp only
    unfold PR.remouldref07_Read.f readR
    rw [if_neg h45', hc K hK, Option.bind_some, hro]
    dsimp only
    rw [if_pos rfl, if_neg hr']
theorem refRead (k : Nat) (l : List UInt8) (w : World) (hk : k ≤ 3) (hl : l.length ≤ 5000) :
  Calls Tryd.prog 15 #[.string ⟨l.toArray⟩, .int .i64 (k : Int)] w fun e w' => ∃ v, e = .returned (.tuple #[v, .bool (readR k l).2]) ∧ LI w' v (readR k l).1 ∧ (∃ p q r, v = .slice p q r) ∧ Below w.heap.size w w' := by
 obtain ⟨K, h⟩ := Read_ev k hk l hl
 refine (PR.remouldref07_Read.calls K ⟨l.toArray⟩ (k : Int) _ _ w (h K (Nat.le_refl _))).mono ?_
 rintro e w' ⟨v, rfl, hR, hb⟩
 refine ⟨v, rfl, ?_, ?_, hb⟩
 ·
  cases hro : RK.readOf k l with
  | some m =>
   have e1 : readR k l = (zs (RK.lst k m), true) := by unfold readR; rw [hro]
   rw [e1]
   rw [hro] at hR
   exact LI.own (ints_of_R hR)
  | none =>
   have e1 : readR k l = (zs [], false) := by unfold readR; rw [hro]; rfl
   rw [e1]
   rw [hro] at hR
   exact LI.own (l := []) (ints_of_R (l := []) hR)
 ·
  obtain ⟨-, xs, ho, -⟩ := hR
  exact own_form ho
end Go.Proofs.YtpnfmbeccjehiaaDoor
