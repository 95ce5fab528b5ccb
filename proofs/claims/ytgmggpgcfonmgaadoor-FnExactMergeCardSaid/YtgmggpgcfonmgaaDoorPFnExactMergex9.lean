-- PRINTED for this claim by a program of this session's repo over the kit's printer, with contracts of our own among the functions.
import Derived.Test.YtgmggpgcfonmgaaDoorPFnExactMergex0
import Derived.Test.YtgmggpgcfonmgaaDoorPFnExactMergex8
namespace Go.Proofs.YtgmggpgcfonmgaaDoor.PFnExactMerge
open Go.RowKit Go.Proofs.YtgmggpgcfonmgaaDoorW.PrintWords Go.Proofs.YtgmggpgcfonmgaaDoorW.PrintLast Go.Proofs.YtgmggpgcfonmgaaDoorW.PrintMore
attribute [local go_sem] max2_int min2_int max_two min_two max_three min_three max_four min_four   -- for this text's walks alone
set_option linter.unusedVariables false
set_option linter.unusedSimpArgs false

/-! ### impl_ListOk: function 13, by a contract of our own -/
/-- The first entry with this path, if there is one. -/
def seenI (p : ByteArray) (l : List S36) : Option S36 := l.find? (fun x => x.f1.toList == p.toList)
/-- From an entry on: each is right, its path is new, and the link of a hard one is a file ahead of it. -/
def listOkI (k : Nat) : List S36 → List S36 → Option Bool
  | _, [] => some true
  | done, x :: l => (impl_EntryOk.f k x.f0 x.f1 x.f2 x.f3 x.f4 x.f5 x.f6 x.f7 x.f8 x.f9).bind fun ok =>
      if ok = true ∧ (seenI x.f1 done).isNone = true ∧ (x.f0 ≠ 3 ∨ (seenI x.f2 done).any (fun y => decide (y.f0 = 0)) = true) then listOkI k (done ++ [x]) l else some false
def impl_ListOk.f (k : Nat) (l0 : List S36) : Option Bool :=
  if 30 < l0.length then some false else if l0.all (fun x => decide (x.f1.size ≤ 1048576) && decide (x.f2.size ≤ 1048576)) = true then listOkI k [] l0 else none
theorem listOkI_mono (k : Nat) : ∀ (l done : List S36), LeO (listOkI k done l) (listOkI (k + 1) done l)
  | [], _ => LeO.refl _
  | x :: l, done => by
    unfold listOkI
    exact LeO.bind (impl_EntryOk.mono _ _ _ _ _ _ _ _ _ _ _) fun ok => LeO.ite (listOkI_mono k l (done ++ [x])) (LeO.refl _)
theorem impl_ListOk.mono : ∀ a0 k, LeO (impl_ListOk.f k a0) (impl_ListOk.f (k + 1) a0) := by
  intro a0 k
  unfold impl_ListOk.f
  exact LeO.ite (LeO.refl _) (LeO.ite (listOkI_mono k a0 []) (LeO.refl _))
section
open Go.Maps
theorem plainElem_bool_inv_ {H : Type} {P : Program} {e : TypeId} (he : P.underlying e = some .bool) {v : Value} {z : DataW H × List MemPlace} (h : plainElem P e v = some z) : ∃ x, v = .bool x ∧ z = (.lit (.bool x), []) := by
  unfold plainElem at h
  rw [he] at h
  cases v <;> simp at h
  exact ⟨_, rfl, h.symm⟩
theorem lookup_ok_bool_ {H : Type} {P : Program} {w : World} {ops : Array Oper} {rest : List Oper} {o : Oper} {a : Act} {Q : Exit → Act → World → Prop}
    (hg : o.guard = none) (m x : Operand) (t : TypeId) (hop : o.op = Op.lookup t m x true)
    (k e : TypeId) (K : Keyed P k) (ht : P.underlying t = some (.map k e)) (he : P.underlying e = some .bool) (hz : (zeroValue e).run P w = .ok (.bool false) w) (b n : Nat) (D : DataW H)
    (hm : a.eval m = .map (some b)) (hown : w.ownsMap P k (plainElem P e) b n D) (key : Value) (kl : Lit) (hx : a.eval x = key) (hkey : keyOf P k key = some kl)
    (q h : Bool) (hq : D.atKey kl (.lit (.bool false)) = .lit (.bool q)) (hh : Maps.has D kl = h)
    (hK : wpList P ops Q rest (a.put o.dst (.tuple #[.bool q, .bool h])) w) : wpList P ops Q (o :: rest) a w :=
  wpList_lookup_own_ok w hg m x t hop k e K ht (plainElem P e) hz (.lit (.bool false)) [] (plainElem_bool he false) b n D hm hown key kl hx hkey (fun v ps hv => by
    obtain ⟨c, rfl, hc⟩ := plainElem_bool_inv_ he hv
    have h1 := congrArg Prod.fst hc
    simp only [hq] at h1
    cases h1
    rw [hh]
    exact hK)
theorem lookup_bool_ {H : Type} {P : Program} {w : World} {ops : Array Oper} {rest : List Oper} {o : Oper} {a : Act} {Q : Exit → Act → World → Prop}
    (hg : o.guard = none) (m x : Operand) (t : TypeId) (hop : o.op = Op.lookup t m x false)
    (k e : TypeId) (K : Keyed P k) (ht : P.underlying t = some (.map k e)) (he : P.underlying e = some .bool) (hz : (zeroValue e).run P w = .ok (.bool false) w) (b n : Nat) (D : DataW H)
    (hm : a.eval m = .map (some b)) (hown : w.ownsMap P k (plainElem P e) b n D) (key : Value) (kl : Lit) (hx : a.eval x = key) (hkey : keyOf P k key = some kl)
    (q : Bool) (hq : D.atKey kl (.lit (.bool false)) = .lit (.bool q))
    (hK : wpList P ops Q rest (a.put o.dst (.bool q)) w) : wpList P ops Q (o :: rest) a w := by
  refine wpList_plain hg fun K' hK' => ?_
  obtain ⟨v, ps, hrun, hv⟩ := hown.lookup K ht hz (plainElem_bool he false) hkey
  obtain ⟨c, rfl, hc⟩ := plainElem_bool_inv_ he hv
  have h1 := congrArg Prod.fst hc
  simp only [hq] at h1
  cases h1
  unfold Oper.wp
  simp [execOp, hop, hm, hx, hrun, Result.andThen]
  exact hK' _ _ hK
/-- What the map of the paths holds behind these entries. -/
def MapIs (D : DataW Unit) (done : List S36) : Prop :=
  ∀ p : ByteArray, Maps.has D (.string p.data.toList) = (seenI p done).isSome ∧ D.atKey (.string p.data.toList) (.lit (.bool false)) = .lit (.bool ((seenI p done).any (fun y => decide (y.f0 = 0))))
theorem mapIs_start : MapIs (.map []) [] := fun _ => ⟨rfl, rfl⟩
theorem mapIs_step {D : DataW Unit} {done : List S36} (h : MapIs D done) (hD : IsMap D) (x : S36) (hx : (seenI x.f1 done).isNone = true) : MapIs (D.put (.string x.f1.data.toList) (.lit (.bool (decide (x.f0 = 0))))) (done ++ [x]) := by
  intro p
  obtain ⟨h1, h2⟩ := h p
  have e : seenI p (done ++ [x]) = (seenI p done).or (if x.f1.toList == p.toList then some x else none) := by
    unfold seenI
    rw [List.find?_append]
    congr 1
    cases hc : (x.f1.toList == p.toList) <;> simp [hc]
  rw [e]
  have tl_ : ∀ s : ByteArray, s.toList = s.data.toList := ByteArray.toList_eq
  cases hc : (x.f1.toList == p.toList) with
  | true =>
    have hc' : p.data.toList = x.f1.data.toList := by rw [← tl_, ← tl_]; exact (eq_of_beq hc).symm
    have hn : seenI p done = none := by
      have : seenI x.f1 done = none := by simpa using hx
      unfold seenI at this ⊢
      rw [tl_ p, hc', ← tl_]
      exact this
    rw [hc', hn, has_put_same hD (show WideAt.IsKeyLit (.string x.f1.data.toList) from trivial), atKey_put_same hD (show WideAt.IsKeyLit (.string x.f1.data.toList) from trivial)]
    exact ⟨rfl, rfl⟩
  | false =>
    have hne : (Lit.string p.data.toList) ≠ (Lit.string x.f1.data.toList) := by
      intro he
      injection he with he
      rw [tl_, tl_, he] at hc
      simp at hc
    rw [has_put_other hne, atKey_put_other hne, h1, h2]
    simp
end
/-! WALK -/
theorem lawK_ : Go.Maps.Keyed Tryd.prog 9 := Go.Maps.string_keyed Tryd.underlying9
theorem zeroB_ (w : World) : (zeroValue 4).run Tryd.prog w = .ok (.bool false) w := by kernel_rfl
theorem infoE_ : (Tryd.prog.info? 36).map (·.size) = some 10 := by kernel_rfl
set_option maxRecDepth 100000 in
set_option maxHeartbeats 8000000 in
theorem impl_ListOk.calls (k : Nat) (A0 : Option Addr) (c0 : Nat) (l0 : List S36) (r : Bool) (w : World) (hr0 : Kd.C k36 w A0 l0.length l0) (hc0 : l0.length ≤ c0) (h : impl_ListOk.f k l0 = some r) :
    Calls Tryd.prog 13 #[.slice A0 l0.length c0] w fun e w' => e = .returned (.bool r) ∧ Below w.heap.size w w' := by
  unfold impl_ListOk.f at h
  have hbig := Kd.C_max hr0
  by_cases h30 : 30 < l0.length
  · rw [if_pos h30] at h
    obtain rfl := Option.some.inj h
    have hd : (30 : Int) < (l0.length : Int) := by omega
    clear hr0
    go_enter Tryd.func13, Tryd.ntmps13
    go_wp2
    go_ret
    exact ⟨rfl, by repeat (first | exact Below.refl _ _ | apply below_alloc | apply pw_below_drewN | apply below_drew1)⟩
  {
  rw [if_neg h30] at h
  have hd : ¬ (30 : Int) < (l0.length : Int) := by omega
  by_cases hall : l0.all (fun x => decide (x.f1.size ≤ 1048576) && decide (x.f2.size ≤ 1048576)) = true
  case neg =>
    rw [if_neg hall] at h
    cases h
  rw [if_pos hall] at h
  have hsz : ∀ x ∈ l0, x.f1.size ≤ 1048576 ∧ x.f2.size ≤ 1048576 := fun x hx => by simpa using List.all_eq_true.1 hall x hx
  have HS := Aside0.mk hsz
  have HA := Aside0.mk h
  have HR := Aside0.mk hr0
  clear hr0 h hall hsz
  have hmm := @run_makeMap Tryd.prog
  have hu := Tryd.underlying36
  go_enter Tryd.func13, Tryd.ntmps13
  go_wp2
  go_loopg [5, 6, 7, 14] l0.length (fun gg _ _ _ v14 wr => ∃ (kk : Nat) (done rest : List S36) (D : DataW Unit), v14 = .int .i64 kk ∧ l0.length - kk ≤ gg ∧ done.length = kk ∧ kk ≤ l0.length ∧ Aside0 (done ++ rest = l0) ∧ Aside0 (listOkI k done rest = some r) ∧ Aside0 (wr.ownsMap Tryd.prog 9 (plainElem Tryd.prog 4) w.heap.size kk D) ∧ Aside0 (MapIs D done) ∧ Aside0 (Below w.heap.size w wr))
  case atStart => exact ⟨0, [], l0, .map [], rfl, by omega, rfl, Nat.zero_le _, ⟨rfl⟩, HA, ⟨World.ownsMap_made _ _ _ _⟩, ⟨mapIs_start⟩, ⟨(Below.refl _ _).alloc (Nat.le_refl _) _⟩⟩
  case round =>
    clear HA hmm
    obtain ⟨kk, done, rest, D, rfl, hgg, hdl, hkk, HL, HA, HO, HM, HB⟩ := hrel
    cases rest with
    | nil =>
      have hl := congrArg List.length HL.out
      simp only [List.append_nil] at hl
      obtain rfl : kk = l0.length := by omega
      have hlt : ¬ (l0.length : Int) < (l0.length : Int) := by omega
      have e := HA.out
      simp only [listOkI] at e
      obtain rfl := Option.some.inj e
      go_wp2
      go_ret
      exact ⟨rfl, HB.out⟩
    | cons y rest =>
      have hl := congrArg List.length HL.out
      simp only [List.length_append, List.length_cons] at hl
      have hltz : (kk : Int) < (l0.length : Int) := by omega
      obtain ⟨ad, rfl, h0, h1, h2, h3, h4, h5, h6, h7, h8, h9⟩ := at_T36 (Kd.C_below HR.out HB.out) (kk : Int) (by omega) (by omega)
      have hy : rd_T36 l0 (kk : Int) = y := by
        unfold rd_T36
        rw [Int.toNat_natCast, List.getD_eq_getElem?_getD, ← HL.out, List.getElem?_append_right (by omega), hdl, Nat.sub_self]
        rfl
      rw [Int.toNat_natCast, hy] at h0 h1 h2 h3 h4 h5 h6 h7 h8 h9
      obtain ⟨s1, s2⟩ := HS.out y (by rw [← HL.out]; simp)
      have hkey1 : keyOf Tryd.prog 9 (.string y.f1) = some (.string y.f1.data.toList) := Go.WideMaps.keyOf_string_mk Tryd.underlying9 (by unfold maxLen; omega)
      have hkey2 : keyOf Tryd.prog 9 (.string y.f2) = some (.string y.f2.data.toList) := Go.WideMaps.keyOf_string_mk Tryd.underlying9 (by unfold maxLen; omega)
      obtain ⟨hh1, hq1⟩ := HM.out y.f1
      obtain ⟨_, hq2⟩ := HM.out y.f2
      have H := HA.out
      unfold listOkI at H
      obtain ⟨ok, hok, H⟩ := Option.bind_eq_some_iff.1 H
      have HE := Aside0.mk fun W => impl_EntryOk.calls k y.f0 y.f1 y.f2 y.f3 y.f4 y.f5 y.f6 y.f7 y.f8 y.f9 ok W hok
      have hown := HO.out
      have hkk2 : kk < maxLen := by unfold maxLen; omega
      clear HO HA hy hok s1 s2 hl HS HR
      generalize hz1 : (seenI y.f1 done).any (fun y => decide (y.f0 = 0)) = z1 at hq1
      generalize hz2 : (seenI y.f2 done).any (fun y => decide (y.f0 = 0)) = z2 at hq2 H
      clear hz1 hz2
      cases hs2 : (seenI y.f1 done).isSome with
      | true =>
        have hs1 : (seenI y.f1 done).isNone = false := by revert hs2; cases seenI y.f1 done <;> simp
        rw [hs2] at hh1
        rw [hs1, if_neg (by simp)] at H
        obtain rfl := Option.some.inj H
        clear hs1 hs2
        cases ok with
        | false =>
          go_wp2_with (first | (at_lookup; refine lookup_ok_bool_ rfl _ _ 50 rfl 9 4 lawK_ Tryd.underlying50 Tryd.underlying4 (zeroB_ _) w.heap.size kk D rfl (hown.alloc _) _ _ rfl hkey1 _ _ hq1 hh1 ?_) | (go_at_call 36; refine (HE.out _).mono ?_; rintro e w7 ⟨rfl, hb7⟩; have hown7 := (hown.alloc (.cells #[.int .i64 y.f0, .string y.f1, .string y.f2, .int .i64 y.f3, .int .i64 y.f4, .int .i64 y.f5, .int .i64 y.f6, .string y.f7, .string y.f8, .string y.f9] 36)).kept (grown_of_below hb7 none) (by simp); have hb7' := (below_alloc HB.out _).trans (hb7.mono (by simpa using Nat.le_succ_of_le HB.out.size)); have e7_0 : w7.cell? ⟨wr.heap.size, 0, none⟩ = some (.int .i64 y.f0) := (hb7.cell (p := ⟨wr.heap.size, 0, none⟩) (by simp)).trans (by simp); have e7_1 : w7.cell? ⟨wr.heap.size, 1, none⟩ = some (.string y.f1) := (hb7.cell (p := ⟨wr.heap.size, 1, none⟩) (by simp)).trans (by simp); have e7_2 : w7.cell? ⟨wr.heap.size, 2, none⟩ = some (.string y.f2) := (hb7.cell (p := ⟨wr.heap.size, 2, none⟩) (by simp)).trans (by simp)) | go_in)
          go_ret
          exact ⟨rfl, hb7'⟩
        | true =>
          go_wp2_with (first | (at_lookup; refine lookup_ok_bool_ rfl _ _ 50 rfl 9 4 lawK_ Tryd.underlying50 Tryd.underlying4 (zeroB_ _) w.heap.size kk D rfl (hown.alloc _) _ _ rfl hkey1 _ _ hq1 hh1 ?_) | (go_at_call 36; refine (HE.out _).mono ?_; rintro e w7 ⟨rfl, hb7⟩; have hown7 := (hown.alloc (.cells #[.int .i64 y.f0, .string y.f1, .string y.f2, .int .i64 y.f3, .int .i64 y.f4, .int .i64 y.f5, .int .i64 y.f6, .string y.f7, .string y.f8, .string y.f9] 36)).kept (grown_of_below hb7 none) (by simp); have hb7' := (below_alloc HB.out _).trans (hb7.mono (by simpa using Nat.le_succ_of_le HB.out.size)); have e7_0 : w7.cell? ⟨wr.heap.size, 0, none⟩ = some (.int .i64 y.f0) := (hb7.cell (p := ⟨wr.heap.size, 0, none⟩) (by simp)).trans (by simp); have e7_1 : w7.cell? ⟨wr.heap.size, 1, none⟩ = some (.string y.f1) := (hb7.cell (p := ⟨wr.heap.size, 1, none⟩) (by simp)).trans (by simp); have e7_2 : w7.cell? ⟨wr.heap.size, 2, none⟩ = some (.string y.f2) := (hb7.cell (p := ⟨wr.heap.size, 2, none⟩) (by simp)).trans (by simp)) | go_in)
          go_ret
          exact ⟨rfl, hb7'⟩
      | false =>
        have hs1 : (seenI y.f1 done).isNone = true := by revert hs2; cases seenI y.f1 done <;> simp
        rw [hs2] at hh1
        cases ok with
        | false =>
          rw [if_neg (by simp)] at H
          obtain rfl := Option.some.inj H
          clear hs1 hs2
          go_wp2_with (first | (at_lookup; refine lookup_ok_bool_ rfl _ _ 50 rfl 9 4 lawK_ Tryd.underlying50 Tryd.underlying4 (zeroB_ _) w.heap.size kk D rfl (hown.alloc _) _ _ rfl hkey1 _ _ hq1 hh1 ?_) | (go_at_call 36; refine (HE.out _).mono ?_; rintro e w7 ⟨rfl, hb7⟩; have hown7 := (hown.alloc (.cells #[.int .i64 y.f0, .string y.f1, .string y.f2, .int .i64 y.f3, .int .i64 y.f4, .int .i64 y.f5, .int .i64 y.f6, .string y.f7, .string y.f8, .string y.f9] 36)).kept (grown_of_below hb7 none) (by simp); have hb7' := (below_alloc HB.out _).trans (hb7.mono (by simpa using Nat.le_succ_of_le HB.out.size)); have e7_0 : w7.cell? ⟨wr.heap.size, 0, none⟩ = some (.int .i64 y.f0) := (hb7.cell (p := ⟨wr.heap.size, 0, none⟩) (by simp)).trans (by simp); have e7_1 : w7.cell? ⟨wr.heap.size, 1, none⟩ = some (.string y.f1) := (hb7.cell (p := ⟨wr.heap.size, 1, none⟩) (by simp)).trans (by simp); have e7_2 : w7.cell? ⟨wr.heap.size, 2, none⟩ = some (.string y.f2) := (hb7.cell (p := ⟨wr.heap.size, 2, none⟩) (by simp)).trans (by simp)) | go_in)
          go_ret
          exact ⟨rfl, hb7'⟩
        | true =>
          by_cases hk3 : y.f0 = 3
          {
          have hk3' : (y.f0 == 3) = true := beq_iff_eq.2 hk3
          cases z2 with
          | true =>
            rw [if_pos ⟨rfl, hs1, .inr rfl⟩] at H
            have H' := H
            clear H hs2 hk3
            go_wp2_with (first | (at_lookup; refine lookup_ok_bool_ rfl _ _ 50 rfl 9 4 lawK_ Tryd.underlying50 Tryd.underlying4 (zeroB_ _) w.heap.size kk D rfl (hown.alloc _) _ _ rfl hkey1 _ _ hq1 hh1 ?_) | (go_at_call 36; refine (HE.out _).mono ?_; rintro e w7 ⟨rfl, hb7⟩; have hown7 := (hown.alloc (.cells #[.int .i64 y.f0, .string y.f1, .string y.f2, .int .i64 y.f3, .int .i64 y.f4, .int .i64 y.f5, .int .i64 y.f6, .string y.f7, .string y.f8, .string y.f9] 36)).kept (grown_of_below hb7 none) (by simp); have hb7' := (below_alloc HB.out _).trans (hb7.mono (by simpa using Nat.le_succ_of_le HB.out.size)); have e7_0 : w7.cell? ⟨wr.heap.size, 0, none⟩ = some (.int .i64 y.f0) := (hb7.cell (p := ⟨wr.heap.size, 0, none⟩) (by simp)).trans (by simp); have e7_1 : w7.cell? ⟨wr.heap.size, 1, none⟩ = some (.string y.f1) := (hb7.cell (p := ⟨wr.heap.size, 1, none⟩) (by simp)).trans (by simp); have e7_2 : w7.cell? ⟨wr.heap.size, 2, none⟩ = some (.string y.f2) := (hb7.cell (p := ⟨wr.heap.size, 2, none⟩) (by simp)).trans (by simp)) | (at_lookup; refine gate_guard (by rfl) ?_; refine lookup_bool_ rfl _ _ 50 rfl 9 4 lawK_ Tryd.underlying50 Tryd.underlying4 (zeroB_ _) w.heap.size kk D rfl hown7 _ _ rfl hkey2 _ hq2 ?_) | (at_mapUpdate; refine wpList_mapUpdate_own _ rfl _ _ _ 50 rfl 9 4 lawK_ Tryd.underlying50 _ w.heap.size kk D rfl hown7 hkk2 _ _ _ rfl rfl hkey1 _ [] (plainElem_bool Tryd.underlying4 _) ?_; intro w8 hown8 hg8) | go_in)
            go_roundg (l0.length - (kk + 1))
            case measure => omega
            case rel => exact ⟨kk + 1, done ++ [y], rest, _, by go_num, by omega, by simp only [List.length_append, List.length_singleton]; omega, by omega, ⟨by rw [← HL.out]; simp⟩, ⟨H'⟩, ⟨hown8⟩, ⟨by rw [show (y.f0 == 0) = decide (y.f0 = 0) by rw [Bool.eq_iff_iff]; simp]; exact mapIs_step HM.out hown7.isMap y hs1⟩, ⟨(hb7'.grown hg8 (by simp [hb7'.size]) (fun j hj => by cases hj; exact Nat.le_refl _))⟩⟩
          | false =>
            rw [if_neg (by rintro ⟨_, _, h | h⟩ <;> simp_all)] at H
            obtain rfl := Option.some.inj H
            clear hs2 hk3
            go_wp2_with (first | (at_lookup; refine lookup_ok_bool_ rfl _ _ 50 rfl 9 4 lawK_ Tryd.underlying50 Tryd.underlying4 (zeroB_ _) w.heap.size kk D rfl (hown.alloc _) _ _ rfl hkey1 _ _ hq1 hh1 ?_) | (go_at_call 36; refine (HE.out _).mono ?_; rintro e w7 ⟨rfl, hb7⟩; have hown7 := (hown.alloc (.cells #[.int .i64 y.f0, .string y.f1, .string y.f2, .int .i64 y.f3, .int .i64 y.f4, .int .i64 y.f5, .int .i64 y.f6, .string y.f7, .string y.f8, .string y.f9] 36)).kept (grown_of_below hb7 none) (by simp); have hb7' := (below_alloc HB.out _).trans (hb7.mono (by simpa using Nat.le_succ_of_le HB.out.size)); have e7_0 : w7.cell? ⟨wr.heap.size, 0, none⟩ = some (.int .i64 y.f0) := (hb7.cell (p := ⟨wr.heap.size, 0, none⟩) (by simp)).trans (by simp); have e7_1 : w7.cell? ⟨wr.heap.size, 1, none⟩ = some (.string y.f1) := (hb7.cell (p := ⟨wr.heap.size, 1, none⟩) (by simp)).trans (by simp); have e7_2 : w7.cell? ⟨wr.heap.size, 2, none⟩ = some (.string y.f2) := (hb7.cell (p := ⟨wr.heap.size, 2, none⟩) (by simp)).trans (by simp)) | (at_lookup; refine gate_guard (by rfl) ?_; refine lookup_bool_ rfl _ _ 50 rfl 9 4 lawK_ Tryd.underlying50 Tryd.underlying4 (zeroB_ _) w.heap.size kk D rfl hown7 _ _ rfl hkey2 _ hq2 ?_) | go_in)
            go_ret
            exact ⟨rfl, hb7'⟩
          }
          · have hk3' : (y.f0 == 3) = false := beq_eq_false_iff_ne.2 hk3
            rw [if_pos ⟨rfl, hs1, .inl hk3⟩] at H
            have H' := H
            clear H hs2 hk3
            go_wp2_with (first | (at_lookup; refine lookup_ok_bool_ rfl _ _ 50 rfl 9 4 lawK_ Tryd.underlying50 Tryd.underlying4 (zeroB_ _) w.heap.size kk D rfl (hown.alloc _) _ _ rfl hkey1 _ _ hq1 hh1 ?_) | (go_at_call 36; refine (HE.out _).mono ?_; rintro e w7 ⟨rfl, hb7⟩; have hown7 := (hown.alloc (.cells #[.int .i64 y.f0, .string y.f1, .string y.f2, .int .i64 y.f3, .int .i64 y.f4, .int .i64 y.f5, .int .i64 y.f6, .string y.f7, .string y.f8, .string y.f9] 36)).kept (grown_of_below hb7 none) (by simp); have hb7' := (below_alloc HB.out _).trans (hb7.mono (by simpa using Nat.le_succ_of_le HB.out.size)); have e7_0 : w7.cell? ⟨wr.heap.size, 0, none⟩ = some (.int .i64 y.f0) := (hb7.cell (p := ⟨wr.heap.size, 0, none⟩) (by simp)).trans (by simp); have e7_1 : w7.cell? ⟨wr.heap.size, 1, none⟩ = some (.string y.f1) := (hb7.cell (p := ⟨wr.heap.size, 1, none⟩) (by simp)).trans (by simp); have e7_2 : w7.cell? ⟨wr.heap.size, 2, none⟩ = some (.string y.f2) := (hb7.cell (p := ⟨wr.heap.size, 2, none⟩) (by simp)).trans (by simp)) | (at_mapUpdate; refine wpList_mapUpdate_own _ rfl _ _ _ 50 rfl 9 4 lawK_ Tryd.underlying50 _ w.heap.size kk D rfl hown7 hkk2 _ _ _ rfl rfl hkey1 _ [] (plainElem_bool Tryd.underlying4 _) ?_; intro w8 hown8 hg8) | go_in)
            go_roundg (l0.length - (kk + 1))
            case measure => omega
            case rel => exact ⟨kk + 1, done ++ [y], rest, _, by go_num, by omega, by simp only [List.length_append, List.length_singleton]; omega, by omega, ⟨by rw [← HL.out]; simp⟩, ⟨H'⟩, ⟨hown8⟩, ⟨by rw [show (y.f0 == 0) = decide (y.f0 = 0) by rw [Bool.eq_iff_iff]; simp]; exact mapIs_step HM.out hown7.isMap y hs1⟩, ⟨(hb7'.grown hg8 (by simp [hb7'.size]) (fun j hj => by cases hj; exact Nat.le_refl _))⟩⟩

  }
/-! ### impl_Entry: function 39, by a contract of our own -/
/-- slices.Clone of entries: the same entries, in memory of the call's own. -/
def impl_Entry.f (l0 : List S36) : Option (List S36) := if l0.length ≤ 1000000000000 then some l0 else none
set_option maxRecDepth 100000 in
set_option maxHeartbeats 4000000 in
theorem impl_Entry.calls (A0 : Option Addr) (c0 : Nat) (l0 : List S36) (r : List S36) (w : World) (hr0 : Kd.C k36 w A0 l0.length l0) (hc0 : l0.length ≤ c0) (h : impl_Entry.f l0 = some r) :
    Calls Tryd.prog 39 #[.slice A0 l0.length c0] w fun e w' => ∃ v0_ : Value, e = .returned (v0_) ∧ Kd.R k36 36 w' w.heap.size (fun _ => True) v0_ r ∧ Below w.heap.size w w' := by
  unfold impl_Entry.f at h
  by_cases hb : l0.length ≤ 1000000000000
  case neg =>
    rw [if_neg hb] at h
    cases h
  rw [if_pos hb] at h
  obtain rfl := Option.some.inj h
  clear h
  have hu := Tryd.underlying36
  have hq : ∀ (w : World) (a : Option Addr) (n c n' c' : Nat), (binOp .eql 25 (.slice a n c) (.slice none n' c')).run Tryd.prog w = .ok (.bool a.isNone) w := fun w a n c n' c' => Lib.run_eql_slice_nil w _ _ a n c n' c' Tryd.underlying25
  have HR1 := Aside0.mk hr0
  have HB := Aside0.mk (Below.refl w.heap.size w)
  cases A0 with
  | none =>
    have hl : l0 = [] := by
      cases l0 with
      | nil => rfl
      | cons x l =>
        obtain ⟨ad, he, _⟩ := at_T36 hr0 0 (by decide) (by simp only [List.length_cons]; omega)
        cases he
    subst hl
    clear hr0 HR1
    go_enter Tryd.func39, Tryd.ntmps39
    go_wp2
    go_ret
    exact ⟨_, rfl, Kd.R_nil _ _ _ _ _, Below.refl _ _⟩
  | some ad =>
    clear hr0
    go_enter Tryd.func39, Tryd.ntmps39
    go_wp2_with (first
      | ((with_reducible refine gate_dst (N := 5) rfl ?_); refine Kd.R_lit k36 _ 36 ?hg (N := 5) ?hd (xs := ([] : List S36)) (inner := []) (ok := fun _ => True) (okp := fun _ => True) ?hr ?hp (fun _ hk => hk) trivial (Below.refl _ _) (Nat.le_refl _) (by simp) ?_; (case hd => rfl); (case hg => rfl); (case hr => first | (go_simp; done) | (go_simp; rfl)); (case hp => exact (Reps.none _ _)); intro v5 w2 ho3 hb3 hg_ hnew_; clear hg_ hnew_)
      | ((with_reducible refine gate_builtin (b := .append) (xs := #[.tmp 5, .tmp 6]) rfl ?_); at_builtin; refine Kd.R_append_rows k36 (w0 := w) w.heap.size rfl (.tmp 5) (.tmp 6) 25 36 (.agg #[(.int .i64 0), (.string ⟨#[]⟩), (.string ⟨#[]⟩), (.int .i64 0), (.int .i64 0), (.int .i64 0), (.int .i64 0), (.string ⟨#[]⟩), (.string ⟨#[]⟩), (.string ⟨#[]⟩)]) 120 rfl Tryd.underlying25 info36 rfl (by decide) (by omega) v5 ([] : List S36) l0 _ _ _ (fun _ => True) (fun _ => False) rfl rfl ?aO ?aR (fun _ _ h => h) (fun _ h => h.elim) ?aF ?aB ?aS ?aL ?_; (case aR => exact Kd.C_below HR1.out hb3); (case aB => exact hb3); (case aF => exact (fun _ _ => trivial)); (case aO => exact ho3); (case aS => exact hb3.size); (case aL => simp only [List.length_nil]; omega); intro v7 w3 ho hb4 hg hat; clear hg hat))
    go_ret
    exact ⟨_, rfl, by simpa using ho, hb4⟩

/-! ### impl_Find: function 41, by a contract of our own -/
/-- The first place of an entry with this path, or -1. -/
def findI (p : ByteArray) : List S36 → Nat → Int
  | [], _ => -1
  | x :: l, k => if x.f1.toList = p.toList then (k : Int) else findI p l (k + 1)
def agg36 (x : S36) : Value := .agg #[.int .i64 x.f0, .string x.f1, .string x.f2, .int .i64 x.f3, .int .i64 x.f4, .int .i64 x.f5, .int .i64 x.f6, .string x.f7, .string x.f8, .string x.f9]
set_option maxRecDepth 100000 in
set_option maxHeartbeats 2000000 in
theorem find1_calls (B : Nat) (W : World) (x : S36) (p : ByteArray) (hc : W.cell? ⟨B, 0, none⟩ = some (.string p)) (hB : B < W.heap.size) :
    Calls Tryd.prog 76 #[agg36 x, .pointer (some ⟨B, 0, none⟩)] W fun e w' => e = .returned (.bool (x.f1.toList == p.toList)) ∧ Below W.heap.size W w' := by
  have hu := Tryd.underlying36
  have HC := Aside0.mk fun o : Obj => (below_alloc (Below.refl _ W) o).cell (p := ⟨B, 0, none⟩) hB
  have hcs := fun o : Obj => (HC.out o).trans hc
  clear hc HC
  unfold agg36
  go_enter Tryd.func76, Tryd.ntmps76
  go_wp2
  go_ret
  exact ⟨rfl, by repeat (first | exact Below.refl _ _ | apply below_alloc | apply below_drew1 | apply pw_below_drewN)⟩
set_option maxRecDepth 100000 in
set_option maxHeartbeats 4000000 in
theorem find_idx_calls (p : ByteArray) (B : Nat) (A : Option Addr) (c : Nat) (l : List S36) (w : World) (hc : w.cell? ⟨B, 0, none⟩ = some (.string p)) (hB : B < w.heap.size) (hr0 : Kd.C k36 w A l.length l) :
    Calls Tryd.prog 75 #[.slice A l.length c, .func (.func 76) #[] #[.pointer (some ⟨B, 0, none⟩)]] w fun e w' => e = .returned (.int .i64 (findI p l 0)) ∧ Below w.heap.size w w' := by
  have hbig : l.length ≤ 9223372036854775807 := Kd.C_max hr0
  have hu := Tryd.underlying36
  have HR := Aside0.mk fun (W : World) (hb : Below w.heap.size w W) => Kd.C_below hr0 hb
  have HP := Aside0.mk fun (W : World) (x : S36) (hb : Below w.heap.size w W) => find1_calls B W x p ((hb.cell (p := ⟨B, 0, none⟩) hB).trans hc) (Nat.lt_of_lt_of_le hB hb.size)
  clear hr0 hc
  go_enter Tryd.func75, Tryd.ntmps75
  go_wp2
  go_loopg [5, 8] l.length (fun gg _ s8 wr => ∃ kk : Nat, kk ≤ l.length ∧ l.length - kk ≤ gg ∧ s8 = .int .i64 kk ∧ Aside0 (Below w.heap.size w wr) ∧ Aside0 (findI p (l.drop kk) kk = findI p l 0))
  case atStart => exact ⟨0, Nat.zero_le _, by omega, rfl, ⟨Below.refl _ _⟩, ⟨rfl⟩⟩
  case round =>
    obtain ⟨kk, hkk, hg, rfl, HB, HA⟩ := hrel
    by_cases hlt : kk < l.length
    {
    have hltz : (kk : Int) < (l.length : Int) := by omega
    obtain ⟨ad, rfl, h0, h1, h2, h3, h4, h5, h6, h7, h8, h9⟩ := at_T36 (HR.out _ HB.out) (kk : Int) (by omega) (by omega)
    have hd : l.drop kk = rd_T36 l (kk : Int) :: l.drop (kk + 1) := by
      unfold rd_T36
      rw [Int.toNat_natCast, List.getD_eq_getElem?_getD, List.getElem?_eq_getElem hlt]
      exact List.drop_eq_getElem_cons hlt
    have H := HA.out
    rw [hd] at H
    simp only [findI] at H
    clear HA hd
    rw [Int.toNat_natCast] at h0 h1 h2 h3 h4 h5 h6 h7 h8 h9
    generalize rd_T36 l (kk : Int) = y at h0 h1 h2 h3 h4 h5 h6 h7 h8 h9 H
    have HQ := Aside0.mk fun (W : World) (hW : Below w.heap.size w W) => HP.out W y hW
    clear HP HR
    unfold agg36 at HQ
    cases hq : (y.f1.toList == p.toList) with
    | true =>
      rw [hq] at HQ
      rw [if_pos (by simpa using hq)] at H
      have H' := Aside0.mk H
      clear H hq
      go_wp2_with (go_at_call 76; refine (HQ.out _ (by repeat (first | exact HB.out | apply Below.drew))).mono ?_; rintro e w' ⟨rfl, hb1⟩)
      go_ret
      exact ⟨by rw [← H'.out]; rfl, HB.out.trans (hb1.mono HB.out.size)⟩
    | false =>
      rw [hq] at HQ
      rw [if_neg (by simpa using hq)] at H
      have H' := Aside0.mk H
      clear H hq
      go_wp2_with (go_at_call 76; refine (HQ.out _ (by repeat (first | exact HB.out | apply Below.drew))).mono ?_; rintro e w' ⟨rfl, hb1⟩)
      go_roundg (l.length - (kk + 1))
      case measure => omega
      case rel => exact ⟨kk + 1, by omega, by omega, by go_num, ⟨HB.out.trans (hb1.mono HB.out.size)⟩, H'⟩
    }
    · have hltz : ¬ (kk : Int) < (l.length : Int) := by omega
      obtain rfl : kk = l.length := by omega
      clear HR HP
      go_wp2
      go_ret
      have e := HA.out
      rw [List.drop_length] at e
      exact ⟨by rw [← e]; rfl, HB.out⟩
def impl_Find.f (l0 : List S36) (a1 : ByteArray) : Option Int := some (findI a1 l0 0)
set_option maxRecDepth 100000 in
set_option maxHeartbeats 2000000 in
theorem impl_Find.calls (A0 : Option Addr) (c0 : Nat) (l0 : List S36) (a1 : ByteArray) (r : Int) (w : World) (hr0 : Kd.C k36 w A0 l0.length l0) (hc0 : l0.length ≤ c0) (h : impl_Find.f l0 a1 = some r) :
    Calls Tryd.prog 41 #[.slice A0 l0.length c0, .string a1] w fun e w' => e = .returned (.int .i64 r) ∧ Below w.heap.size w w' := by
  obtain rfl := Option.some.inj h
  clear h
  have HC := Aside0.mk fun (W : World) (hW : Kd.C k36 W A0 l0.length l0) (h1 : W.cell? ⟨w.heap.size, 0, none⟩ = some (.string a1)) (h2 : w.heap.size < W.heap.size) => find_idx_calls a1 w.heap.size A0 c0 l0 W h1 h2 hW
  have HR := Aside0.mk fun o => Kd.C_alloc hr0 o
  clear hr0
  go_enter Tryd.func41, Tryd.ntmps41
  go_wp2_with (go_at_call 75; refine (HC.out _ (HR.out _) (by simp) (by simp)).mono ?_; rintro e w' ⟨rfl, hb⟩)
  go_ret
  exact ⟨rfl, (below_alloc (Below.refl _ _) _).trans (hb.mono (by simp))⟩

/-! ### impl_Merge: function 16, by a contract of our own -/
/-- The entries whose paths another list lacks. -/
def keepI (b l : List S36) : List S36 := l.filter (fun x => decide (findI x.f1 b 0 < 0))
/-- The first place at which a test holds, or -1. -/
def idxP (p : S36 → Bool) : List S36 → Nat → Int
  | [], _ => -1
  | x :: l, k => if p x = true then (k : Int) else idxP p l (k + 1)
def impl_Merge.f (k : Nat) (l0 l1 : List S36) : Option (List S36) :=
  if l0.length + l1.length ≤ 1000000000000 then (impl_ListOk.f k (keepI l1 l0 ++ l1)).bind fun ok => some (if ok = true then keepI l1 l0 ++ l1 else l0) else none
theorem impl_Merge.mono : ∀ a0 a1 k, LeO (impl_Merge.f k a0 a1) (impl_Merge.f (k + 1) a0 a1) := by
  intro a0 a1 k
  unfold impl_Merge.f
  exact LeO.ite (LeO.bind (impl_ListOk.mono _ _) fun _ => LeO.refl _) (LeO.refl _)
theorem idxP_spec (p : S36 → Bool) : ∀ (l : List S36) (k : Nat), (idxP p l k = -1 ∧ ∀ x ∈ l, p x = false) ∨ ∃ j, j < l.length ∧ idxP p l k = ((k + j : Nat) : Int) ∧ (∀ x ∈ l.take j, p x = false) ∧ ∃ y, l[j]? = some y ∧ p y = true
  | [], _ => .inl ⟨rfl, by simp⟩
  | x :: l, k => by
    cases h : p x with
    | true => exact .inr ⟨0, by simp, by rw [idxP, if_pos h]; rfl, by simp, x, rfl, h⟩
    | false =>
      have e : idxP p (x :: l) k = idxP p l (k + 1) := by rw [idxP, if_neg (by simp [h])]
      rcases idxP_spec p l (k + 1) with ⟨e1, ha⟩ | ⟨j, hj, e1, ha, y, hy, hp⟩
      · exact .inl ⟨by rw [e, e1], fun z hz => by
          rcases List.mem_cons.1 hz with he | hz
          · rw [he]; exact h
          · exact ha z hz⟩
      · exact .inr ⟨j + 1, by simpa using hj, by rw [e, e1]; congr 1; omega, fun z hz => by
          rw [List.take_succ_cons] at hz
          rcases List.mem_cons.1 hz with he | hz
          · rw [he]; exact h
          · exact ha z hz, y, by simpa using hy, hp⟩
set_option maxRecDepth 100000 in
set_option maxHeartbeats 4000000 in
theorem merge1_calls (B : Nat) (Ab : Option Addr) (cb : Nat) (b : List S36) (x : S36) (W : World) (hc : W.cell? ⟨B, 0, none⟩ = some (.slice Ab b.length cb)) (hB : B < W.heap.size) (hr : Kd.C k36 W Ab b.length b) (hcb : b.length ≤ cb) :
    Calls Tryd.prog 40 #[agg36 x, .pointer (some ⟨B, 0, none⟩)] W fun e w' => e = .returned (.bool (decide (0 ≤ findI x.f1 b 0))) ∧ Below W.heap.size W w' := by
  have hu := Tryd.underlying36
  have hcs := fun o : Obj => ((below_alloc (Below.refl _ W) o).cell (p := ⟨B, 0, none⟩) hB).trans hc
  have HF := Aside0.mk fun o : Obj => impl_Find.calls Ab cb b x.f1 _ (W.alloc o) (Kd.C_alloc hr o) hcb rfl
  clear hc hr
  unfold agg36
  go_enter Tryd.func40, Tryd.ntmps40
  go_wp2_with (go_at_call 41; refine (HF.out _).mono ?_; rintro e w1 ⟨rfl, hb⟩)
  go_ret
  exact ⟨by first | rfl | (simp; done), (below_alloc (Below.refl _ W) _).trans (hb.mono (by simp))⟩
set_option maxRecDepth 100000 in
set_option maxHeartbeats 4000000 in
theorem merge_idx_calls (p : S36 → Bool) (B : Nat) (A : Option Addr) (c : Nat) (l : List S36) (w : World) (hr0 : Kd.C k36 w A l.length l)
    (HP0 : ∀ (W : World) (x : S36), Below w.heap.size w W → Calls Tryd.prog 40 #[agg36 x, .pointer (some ⟨B, 0, none⟩)] W fun e w' => e = .returned (.bool (p x)) ∧ Below W.heap.size W w') :
    Calls Tryd.prog 75 #[.slice A l.length c, .func (.func 40) #[] #[.pointer (some ⟨B, 0, none⟩)]] w fun e w' => e = .returned (.int .i64 (idxP p l 0)) ∧ Below w.heap.size w w' := by
  have hbig : l.length ≤ 9223372036854775807 := Kd.C_max hr0
  have hu := Tryd.underlying36
  have HR := Aside0.mk fun (W : World) (hb : Below w.heap.size w W) => Kd.C_below hr0 hb
  have HP := Aside0.mk HP0
  clear hr0 HP0
  go_enter Tryd.func75, Tryd.ntmps75
  go_wp2
  go_loopg [5, 8] l.length (fun gg _ s8 wr => ∃ kk : Nat, kk ≤ l.length ∧ l.length - kk ≤ gg ∧ s8 = .int .i64 kk ∧ Aside0 (Below w.heap.size w wr) ∧ Aside0 (idxP p (l.drop kk) kk = idxP p l 0))
  case atStart => exact ⟨0, Nat.zero_le _, by omega, rfl, ⟨Below.refl _ _⟩, ⟨rfl⟩⟩
  case round =>
    obtain ⟨kk, hkk, hg, rfl, HB, HA⟩ := hrel
    by_cases hlt : kk < l.length
    {
    have hltz : (kk : Int) < (l.length : Int) := by omega
    obtain ⟨ad, rfl, h0, h1, h2, h3, h4, h5, h6, h7, h8, h9⟩ := at_T36 (HR.out _ HB.out) (kk : Int) (by omega) (by omega)
    have hd : l.drop kk = rd_T36 l (kk : Int) :: l.drop (kk + 1) := by
      unfold rd_T36
      rw [Int.toNat_natCast, List.getD_eq_getElem?_getD, List.getElem?_eq_getElem hlt]
      exact List.drop_eq_getElem_cons hlt
    have H := HA.out
    rw [hd] at H
    simp only [idxP] at H
    clear HA hd
    rw [Int.toNat_natCast] at h0 h1 h2 h3 h4 h5 h6 h7 h8 h9
    generalize rd_T36 l (kk : Int) = y at h0 h1 h2 h3 h4 h5 h6 h7 h8 h9 H
    have HQ := Aside0.mk fun (W : World) (hW : Below w.heap.size w W) => HP.out W y hW
    clear HP HR
    unfold agg36 at HQ
    cases hq : p y with
    | true =>
      rw [hq] at HQ
      rw [if_pos hq] at H
      have H' := Aside0.mk H
      clear H hq
      go_wp2_with (go_at_call 40; refine (HQ.out _ (by repeat (first | exact HB.out | apply Below.drew))).mono ?_; rintro e w' ⟨rfl, hb1⟩)
      go_ret
      exact ⟨by rw [← H'.out]; rfl, HB.out.trans (hb1.mono HB.out.size)⟩
    | false =>
      rw [hq] at HQ
      rw [if_neg (by simp [hq])] at H
      have H' := Aside0.mk H
      clear H hq
      go_wp2_with (go_at_call 40; refine (HQ.out _ (by repeat (first | exact HB.out | apply Below.drew))).mono ?_; rintro e w' ⟨rfl, hb1⟩)
      go_roundg (l.length - (kk + 1))
      case measure => omega
      case rel => exact ⟨kk + 1, by omega, by omega, by go_num, ⟨HB.out.trans (hb1.mono HB.out.size)⟩, H'⟩
    }
    · have hltz : ¬ (kk : Int) < (l.length : Int) := by omega
      obtain rfl : kk = l.length := by omega
      clear HR HP
      go_wp2
      go_ret
      have e := HA.out
      rw [List.drop_length] at e
      exact ⟨by rw [← e]; rfl, HB.out⟩
/-- What a row of entries holds of one entry, at a row of its own. -/
theorem row_cells_ {w : World} {g n : Nat} {xs : List S36} (h : Kd.C k36 w (some ⟨g, 0, none⟩) n xs) (j : Nat) (hj : j < n) : w.cell? ⟨g, j * 10, none⟩ = some (.int .i64 (rd_T36 xs (j : Int)).f0) ∧ w.cell? ⟨g, j * 10 + 1, none⟩ = some (.string (rd_T36 xs (j : Int)).f1) ∧ w.cell? ⟨g, j * 10 + 2, none⟩ = some (.string (rd_T36 xs (j : Int)).f2) ∧ w.cell? ⟨g, j * 10 + 3, none⟩ = some (.int .i64 (rd_T36 xs (j : Int)).f3) ∧ w.cell? ⟨g, j * 10 + 4, none⟩ = some (.int .i64 (rd_T36 xs (j : Int)).f4) ∧ w.cell? ⟨g, j * 10 + 5, none⟩ = some (.int .i64 (rd_T36 xs (j : Int)).f5) ∧ w.cell? ⟨g, j * 10 + 6, none⟩ = some (.int .i64 (rd_T36 xs (j : Int)).f6) ∧ w.cell? ⟨g, j * 10 + 7, none⟩ = some (.string (rd_T36 xs (j : Int)).f7) ∧ w.cell? ⟨g, j * 10 + 8, none⟩ = some (.string (rd_T36 xs (j : Int)).f8) ∧ w.cell? ⟨g, j * 10 + 9, none⟩ = some (.string (rd_T36 xs (j : Int)).f9) := by
  obtain ⟨ad, he, h0, h1, h2, h3, h4, h5, h6, h7, h8, h9⟩ := at_T36 h (j : Int) (by omega) (by omega)
  cases he
  rw [Int.toNat_natCast, add_plain] at h0 h1 h2 h3 h4 h5 h6 h7 h8 h9
  exact ⟨h0, h1, h2, h3, h4, h5, h6, h7, h8, h9⟩
/-- The state of a row that is struck: up to i what is kept of the first j, from j on as it was. -/
structure Struck (p : S36 → Bool) (a : List S36) (i j : Nat) (xs : List S36) : Prop where
  len : xs.length = a.length
  lt : i < j
  low : xs.take i = (a.take j).filter (fun x => !p x)
  high : xs.drop j = a.drop j
theorem struck_start {p : S36 → Bool} {a : List S36} {j : Nat} {y : S36} (h : ∀ x ∈ a.take j, p x = false) (hy : a[j]? = some y) (hp : p y = true) : Struck p a j (j + 1) a :=
  ⟨rfl, by omega, by
    obtain ⟨hl, e⟩ := List.getElem?_eq_some_iff.1 hy
    rw [List.take_succ_eq_append_getElem hl, List.filter_append, e]
    have h1 : (a.take j).filter (fun x => !p x) = a.take j := List.filter_eq_self.2 fun x hx => by rw [h x hx]; rfl
    rw [h1]
    simp [hp], rfl⟩
theorem struck_at {p : S36 → Bool} {a xs : List S36} {i j : Nat} (S : Struck p a i j xs) (hj : j < a.length) : rd_T36 xs (j : Int) = a[j] := by
  have h := congrArg (fun l => l[0]?) S.high
  simp only [List.getElem?_drop, Nat.add_zero] at h
  unfold rd_T36
  rw [Int.toNat_natCast, List.getD_eq_getElem?_getD, h, List.getElem?_eq_getElem hj]
  rfl
theorem struck_skip {p : S36 → Bool} {a xs : List S36} {i j : Nat} (S : Struck p a i j xs) (hj : j < a.length) (hp : p a[j] = true) : Struck p a i (j + 1) xs :=
  ⟨S.len, by have := S.lt; omega, by rw [List.take_succ_eq_append_getElem hj, List.filter_append, S.low]; simp [hp], by rw [← List.drop_drop, ← List.drop_drop, S.high]⟩
theorem struck_keep {p : S36 → Bool} {a xs : List S36} {i j : Nat} (S : Struck p a i j xs) (hj : j < a.length) (hp : p a[j] = false) : Struck p a (i + 1) (j + 1) (xs.set i a[j]) :=
  ⟨by rw [List.length_set, S.len], by have := S.lt; omega, by
    have := S.lt
    have := S.len
    rw [List.take_succ_eq_append_getElem (by rw [List.length_set]; omega), List.getElem_set_self, List.take_set_of_le (Nat.le_refl _), S.low, List.take_succ_eq_append_getElem hj, List.filter_append]
    simp [hp], by
    have := S.lt
    rw [List.drop_set_of_lt (by omega), ← List.drop_drop, ← List.drop_drop, S.high]⟩
theorem struck_done {p : S36 → Bool} {a xs : List S36} {i j : Nat} (S : Struck p a i j xs) (hj : j = a.length) : xs.take i = a.filter (fun x => !p x) := by
  rw [S.low, hj, List.take_length]
/-- clear(s) at a row of cells. -/
theorem run_clear_cells_ {P : Program} {W : World} (t e : TypeId) (z : Value) {g o' m c' : Nat} (ht : P.underlying t = some (.slice e)) (hv : ∀ w, (zeroValue e).run P w = .ok z w) (hm : 0 < m) (hc : ∀ j, j < m * z.cells.size → (W.cell? ⟨g, o' + j, none⟩).isSome = true) (hf : ∀ j, j < m * z.cells.size → W.frozen? ⟨g, o' + j, none⟩ = false)
    (h1 : ∀ q ∈ (Builtin.zeroCells z.cells m).toList, q.oneCell' = true) (ty : TypeId) : (Builtin.clear_ #[t] ty #[.slice (some ⟨g, o', none⟩) m c']).run P W = .ok (.tuple #[]) (W.setCells g o' (Builtin.zeroCells z.cells m).toList) := by
  have hl : (Builtin.zeroCells z.cells m).toList.length = m * z.cells.size := by simp [Builtin.zeroCells]
  have hst := run_storeCells_cells (P := P) g o' (Builtin.zeroCells z.cells m).toList 0 W (by rw [hl]; simpa using hc) (by rw [hl]; simpa using hf) h1
  simp only [Nat.add_zero] at hst
  obtain ⟨m, rfl⟩ : ∃ q, m = q + 1 := ⟨m - 1, by omega⟩
  simp [Builtin.clear_, run_underlying ht, hv, hst]
/-- A row of one's own, cut, and what lies behind the cut written over. -/
theorem row_cleared_ {α : Type} {d : Kd α} {e base g n cap i : Nat} {ok : Nat → Prop} {W : World} {xs : List α} (h : d.R e W base ok (.slice (some ⟨g, 0, none⟩) n cap) xs) (hi : i ≤ xs.length) (vs : List Value) (hv : i * d.sz + vs.length ≤ n * d.sz) :
    d.R e (W.setCells g (i * d.sz) vs) base ok (.slice (some ⟨g, 0, none⟩) i cap) (xs.take i) := by
  obtain ⟨h0, inner, ho, hr⟩ := Kd.R_take h hi
  have hn : n ≤ cap := (Kd.R_reads' h).2.1
  refine ⟨h0, inner, ⟨ho.1, Or.inr ?_⟩, hr.imp_ (fun _ _ hp => d.M_move (fun k hk => setCells_far vs _ k (fun e => hk.2 (by rw [e]; rfl))) hp)⟩
  rcases ho.2 with ⟨hv, _⟩ | ⟨g', cap', cur, he, hg, hh, h1, h2, h3, h4⟩
  · cases hv
  · injection he with ha _ hc
    injection ha with ha
    injection ha with hg'
    subst hg'
    subst hc
    have hle : n * d.sz ≤ cap * d.sz := Nat.mul_le_mul_right _ hn
    obtain ⟨cur', c1, c2, c3⟩ := setCells_row vs (i * d.sz) W cur hh (by omega)
    refine ⟨g, cap, cur', by rw [List.length_take, Nat.min_eq_left hi], hg, c1, h1, h2, by rw [c2, h3], ?_⟩
    have hz : (xs.take i).length = i := by rw [List.length_take]; omega
    rw [hz] at h4 ⊢
    rw [c3, List.append_assoc, List.take_append_of_le_length (by rw [List.length_take, Array.length_toList]; omega), List.take_take, Nat.min_self]
    exact h4
theorem store_whole_ (w : World) (base : Nat) (ok : Nat → Prop) (y : S36) (cs : List Value) (h : cs.length = 10) : k36.M w base ok y (cs.take 0 ++ ([.int .i64 y.f0, .string y.f1, .string y.f2, .int .i64 y.f3, .int .i64 y.f4, .int .i64 y.f5, .int .i64 y.f6, .string y.f7, .string y.f8, .string y.f9] : List Value) ++ cs.drop (0 + ([.int .i64 y.f0, .string y.f1, .string y.f2, .int .i64 y.f3, .int .i64 y.f4, .int .i64 y.f5, .int .i64 y.f6, .string y.f7, .string y.f8, .string y.f9] : List Value).length)) := by
  have e : cs.drop (0 + ([.int .i64 y.f0, .string y.f1, .string y.f2, .int .i64 y.f3, .int .i64 y.f4, .int .i64 y.f5, .int .i64 y.f6, .string y.f7, .string y.f8, .string y.f9] : List Value).length) = [] := List.drop_eq_nil_of_le (by rw [h]; simp)
  rw [e, List.take_zero, List.nil_append, List.append_nil]
  exact k36_mkM _ _ _ _
theorem infoE10_ : (Tryd.prog.info? 36).map (·.size) = some 10 := by kernel_rfl
theorem zeroE_ (w : World) : (zeroValue 36).run Tryd.prog w = .ok (.agg #[(.int .i64 0), (.string ⟨#[]⟩), (.string ⟨#[]⟩), (.int .i64 0), (.int .i64 0), (.int .i64 0), (.int .i64 0), (.string ⟨#[]⟩), (.string ⟨#[]⟩), (.string ⟨#[]⟩)]) w := by kernel_rfl
set_option maxRecDepth 100000 in
set_option maxHeartbeats 8000000 in
theorem merge_del_calls (p : S36 → Bool) (B : Nat) (w1 : World) (HP0 : ∀ (W : World) (x : S36), Below w1.heap.size w1 W → Calls Tryd.prog 40 #[agg36 x, .pointer (some ⟨B, 0, none⟩)] W fun e w' => e = .returned (.bool (p x)) ∧ Below W.heap.size W w')
    (v : Value) (a : List S36) (w : World) (HO0 : Kd.R k36 36 w w1.heap.size (fun _ => True) v a) (HB0 : Below w1.heap.size w1 w) (hbig : a.length ≤ 1000000000000) :
    Calls Tryd.prog 38 #[v, .func (.func 40) #[] #[.pointer (some ⟨B, 0, none⟩)]] w fun e w' => ∃ v', e = .returned v' ∧ Kd.R k36 36 w' w1.heap.size (fun _ => True) v' (a.filter (fun x => !p x)) ∧ Below w1.heap.size w1 w' := by
  obtain ⟨A, c, rfl⟩ := Kd.R_slice HO0
  have hac := (Kd.R_reads' HO0).2.1
  have hC := (Kd.R_reads' HO0).2.2
  have hu := Tryd.underlying36
  have HI := Aside0.mk (merge_idx_calls p B A c a w hC (fun W x hb => HP0 W x (HB0.trans (hb.mono HB0.size))))
  rcases idxP_spec p a 0 with ⟨e1, hall⟩ | ⟨j0, hj0, e1, hall, y0, hy0, hp0⟩
  · rw [e1] at HI
    have hfil : a.filter (fun x => !p x) = a := List.filter_eq_self.2 fun x hx => by rw [hall x hx]; rfl
    rw [hfil]
    have HB := Aside0.mk HB0
    have HO := Aside0.mk HO0
    clear hall HP0 HO0 HB0 e1 hfil hC
    go_enter Tryd.func38, Tryd.ntmps38
    go_wp2_with (go_at_call 75; refine HI.out.mono ?_; rintro e w2 ⟨rfl, hb2⟩)
    go_ret
    exact ⟨_, rfl, Kd.R_below HO.out hb2, HB.out.trans (hb2.mono HB.out.size)⟩
  {
  rw [e1, Nat.zero_add] at HI
  obtain ⟨g, rfl⟩ : ∃ g, A = some ⟨g, 0, none⟩ := by
    obtain ⟨_, inner, ho, _⟩ := HO0
    rcases ho.2 with ⟨hv, h0⟩ | ⟨g, cap, cur, he, _⟩
    · omega
    · injection he with ha
      exact ⟨g, ha⟩
  have hgB : w1.heap.size ≤ g := Kd.R_base HO0 g (by simp [Value.ownBlock])
  have HB := Aside0.mk HB0
  have HO := Aside0.mk HO0
  have HP := Aside0.mk HP0
  have HS := Aside0.mk (struck_start hall hy0 hp0)
  have hne : ((j0 : Int) == -1) = false := beq_eq_false_iff_ne.2 (by omega)
  clear hall HP0 HO0 HB0 e1 hC hy0 hp0
  go_enter Tryd.func38, Tryd.ntmps38
  go_wp2_with (go_at_call 75; refine HI.out.mono ?_; rintro e w2 ⟨rfl, hb2⟩)
  go_loopg [5, 6] a.length (fun gg v5 v6 wr => ∃ (i j : Nat) (xs : List S36), v5 = .int .i64 i ∧ v6 = .int .i64 j ∧ j ≤ a.length ∧ a.length - j ≤ gg ∧ Aside0 (Struck p a i j xs) ∧ Aside0 (Kd.R k36 36 wr w1.heap.size (fun _ => True) (.slice (some ⟨g, 0, none⟩) a.length c) xs) ∧ Aside0 (Below w1.heap.size w1 wr))
  case atStart => exact ⟨j0, j0 + 1, a, rfl, by go_num, by omega, by omega, HS, ⟨Kd.R_below HO.out hb2⟩, ⟨HB.out.trans (hb2.mono HB.out.size)⟩⟩
  case round =>
    clear HS HI HO HB
    obtain ⟨i, j, xs, rfl, rfl, hja, hgg, HS, HO, HB⟩ := hrel
    have hij := HS.out.lt
    have hlen := HS.out.len
    by_cases hlt : j < a.length
    {
    have hltz : (j : Int) < (a.length : Int) := by omega
    have hC := (Kd.R_reads' HO.out).2.2
    obtain ⟨h0, h1, h2, h3, h4, h5, h6, h7, h8, h9⟩ := row_cells_ hC j (by omega)
    have hat := struck_at HS.out hlt
    rw [hat] at h0 h1 h2 h3 h4 h5 h6 h7 h8 h9
    obtain ⟨y, hy⟩ : ∃ y, a[j] = y := ⟨_, rfl⟩
    rw [hy] at h0 h1 h2 h3 h4 h5 h6 h7 h8 h9
    have HQ := Aside0.mk fun (W : World) (hW : Below w1.heap.size w1 W) => HP.out W y hW
    unfold agg36 at HQ
    clear hC hat
    cases hq : p y with
    | true =>
      rw [hq] at HQ
      have HS' := Aside0.mk (struck_skip HS.out hlt (by rw [hy]; exact hq))
      clear HS hq hy hlen
      go_wp2_with (go_at_call 40; refine (HQ.out _ (below_alloc HB.out _)).mono ?_; rintro e w7 ⟨rfl, hb7⟩)
      go_roundg (a.length - (j + 1))
      case measure => omega
      case rel => exact ⟨i, j + 1, xs, rfl, by go_num, by omega, by omega, HS', ⟨Kd.R_below (Kd.R_alloc HO.out _) hb7⟩, ⟨(below_alloc HB.out _).trans (hb7.mono (by simpa using Nat.le_succ_of_le HB.out.size))⟩⟩
    | false =>
      rw [hq] at HQ
      have HS' := Aside0.mk (struck_keep HS.out hlt (by rw [hy]; exact hq))
      rw [hy] at HS'
      clear HS hq hy
      have hia : (i : Int) < (a.length : Int) := by omega
      have HLN := Aside0.mk hlen
      clear hlen
      go_wp2_with (first
        | (go_at_call 40; refine (HQ.out _ (below_alloc HB.out _)).mono ?_; rintro e w7 ⟨rfl, hb7⟩; have HB7 := Aside0.mk ((below_alloc HB.out (.cells #[.int .i64 y.f0, .string y.f1, .string y.f2, .int .i64 y.f3, .int .i64 y.f4, .int .i64 y.f5, .int .i64 y.f6, .string y.f7, .string y.f8, .string y.f9] 36)).trans (hb7.mono (by simpa using Nat.le_succ_of_le HB.out.size))); have HO7 := Aside0.mk (Kd.R_below (Kd.R_alloc HO.out _) hb7); have e7_0 : w7.cell? ⟨wr.heap.size, 0, none⟩ = some (.int .i64 y.f0) := (hb7.cell (p := ⟨wr.heap.size, 0, none⟩) (by simp)).trans (by simp); have e7_1 : w7.cell? ⟨wr.heap.size, 1, none⟩ = some (.string y.f1) := (hb7.cell (p := ⟨wr.heap.size, 1, none⟩) (by simp)).trans (by simp); have e7_2 : w7.cell? ⟨wr.heap.size, 2, none⟩ = some (.string y.f2) := (hb7.cell (p := ⟨wr.heap.size, 2, none⟩) (by simp)).trans (by simp); have e7_3 : w7.cell? ⟨wr.heap.size, 3, none⟩ = some (.int .i64 y.f3) := (hb7.cell (p := ⟨wr.heap.size, 3, none⟩) (by simp)).trans (by simp); have e7_4 : w7.cell? ⟨wr.heap.size, 4, none⟩ = some (.int .i64 y.f4) := (hb7.cell (p := ⟨wr.heap.size, 4, none⟩) (by simp)).trans (by simp); have e7_5 : w7.cell? ⟨wr.heap.size, 5, none⟩ = some (.int .i64 y.f5) := (hb7.cell (p := ⟨wr.heap.size, 5, none⟩) (by simp)).trans (by simp); have e7_6 : w7.cell? ⟨wr.heap.size, 6, none⟩ = some (.int .i64 y.f6) := (hb7.cell (p := ⟨wr.heap.size, 6, none⟩) (by simp)).trans (by simp); have e7_7 : w7.cell? ⟨wr.heap.size, 7, none⟩ = some (.string y.f7) := (hb7.cell (p := ⟨wr.heap.size, 7, none⟩) (by simp)).trans (by simp); have e7_8 : w7.cell? ⟨wr.heap.size, 8, none⟩ = some (.string y.f8) := (hb7.cell (p := ⟨wr.heap.size, 8, none⟩) (by simp)).trans (by simp); have e7_9 : w7.cell? ⟨wr.heap.size, 9, none⟩ = some (.string y.f9) := (hb7.cell (p := ⟨wr.heap.size, 9, none⟩) (by simp)).trans (by simp))
        | ((with_reducible refine gate_store (p := 33) rfl ?_); obtain ⟨ad_, cs_, ha_, hcl_, hK_, hcc_⟩ := Kd.C_get (Kd.R_reads' HO7.out).2.2 z36 (i : Int) (by omega) (by have := HLN.out; omega); cases ha_; refine Kd.R_store k36 (w0 := w1) w1.heap.size rfl rfl 36 (.tmp 33) (.tmp 32) rfl 36 (g := g) (o' := i * 10) (i : Int) 0 xs y (.agg #[.int .i64 y.f0, .string y.f1, .string y.f2, .int .i64 y.f3, .int .i64 y.f4, .int .i64 y.f5, .int .i64 y.f6, .string y.f7, .string y.f8, .string y.f9]) [.int .i64 y.f0, .string y.f1, .string y.f2, .int .i64 y.f3, .int .i64 y.f4, .int .i64 y.f5, .int .i64 y.f6, .string y.f7, .string y.f8, .string y.f9] cs_ (fun _ => True) (fun _ => False) ?sa (by rw [Int.toNat_natCast]; rfl) rfl rfl infoE10_ (k36.K_one (k36_mk w7 y)) HO7.out (by omega) (by omega) hcl_ ?sc (Nat.le_refl 10) ?sm (fun _ h => h.elim) HB7.out ?_; (case sa => rfl); (case sc => intro q u hq; have h_ := hcc_ q u hq; rw [add_plain] at h_; exact h_); (case sm => exact store_whole_ _ _ _ _ _ hcl_); intro w8 ho8 hb8 hg8; rw [Int.toNat_natCast] at ho8; clear hg8))
      go_roundg (a.length - (j + 1))
      case measure => omega
      case rel => exact ⟨i + 1, j + 1, xs.set i y, by go_num, by go_num, by omega, by omega, HS', ⟨ho8⟩, ⟨hb8⟩⟩
    }
    {
    obtain rfl : j = a.length := by omega
    have hltz : ¬ (a.length : Int) < (a.length : Int) := by omega
    have hia : i ≤ xs.length := by omega
    have hia2 : (i : Int) ≤ (a.length : Int) := by omega
    have hic : ¬ c = i := by omega
    have HD := struck_done HS.out rfl
    clear HS HP
    obtain ⟨Z, hZ, hcl⟩ : ∃ Z : List Value, Z.length = (a.length - i) * 10 ∧ ∀ ty, (Builtin.clear_ #[25] ty #[.slice (some ⟨g, i * 10, none⟩) (a.length - i) (c - i)]).run Tryd.prog wr = .ok (.tuple #[]) (wr.setCells g (i * 10) Z) := by
      obtain ⟨cur, hcur, hcs⟩ : ∃ cur : Array Value, wr.heap[g]? = some (.cells cur 36 (0, 0)) ∧ cur.size = c * 10 := by
        obtain ⟨_, inner, ho, _⟩ := HO.out
        rcases ho.2 with ⟨hv, _⟩ | ⟨g', cap', cur, he, _, hh, _, _, h3, _⟩
        · cases hv
        · injection he with ha _ hc
          injection ha with ha
          injection ha with hg'
          subst hg'
          subst hc
          exact ⟨cur, hh, h3⟩
      refine ⟨_, ?_, fun ty => run_clear_cells_ 25 36 _ Tryd.underlying25 zeroE_ (by omega) (fun q hq => ?_) (fun q _ => blk_frozen hcur _) (fun q hq => ?_) ty⟩
      · simp [Builtin.zeroCells, Value.cells]
      · rw [blk_cell hcur]
        have h10 : (Value.agg #[(.int .i64 0), (.string ⟨#[]⟩), (.string ⟨#[]⟩), (.int .i64 0), (.int .i64 0), (.int .i64 0), (.int .i64 0), (.string ⟨#[]⟩), (.string ⟨#[]⟩), (.string ⟨#[]⟩)]).cells.size = 10 := rfl
        rw [h10] at hq
        rw [Array.getElem?_eq_getElem (by rw [hcs]; omega)]
        rfl
      · simp only [Builtin.zeroCells, Array.toList_map, List.mem_map] at hq
        obtain ⟨q', _, rfl⟩ := hq
        have h10 : (Value.agg #[(.int .i64 0), (.string ⟨#[]⟩), (.string ⟨#[]⟩), (.int .i64 0), (.int .i64 0), (.int .i64 0), (.int .i64 0), (.string ⟨#[]⟩), (.string ⟨#[]⟩), (.string ⟨#[]⟩)]).cells.size = 10 := rfl
        rw [h10]
        have hlt : q' % 10 < 10 := Nat.mod_lt _ (by decide)
        generalize q' % 10 = r at hlt
        have : r = 0 ∨ r = 1 ∨ r = 2 ∨ r = 3 ∨ r = 4 ∨ r = 5 ∨ r = 6 ∨ r = 7 ∨ r = 8 ∨ r = 9 := by omega
        rcases this with rfl | rfl | rfl | rfl | rfl | rfl | rfl | rfl | rfl | rfl <;> rfl
    have HF := Aside0.mk (row_cleared_ HO.out hia Z (by show i * 10 + Z.length ≤ a.length * 10; rw [hZ]; omega))
    have HG := Aside0.mk (show Below w1.heap.size w1 (wr.setCells g (i * 10) Z) from HB.out.trans ⟨(setCells_same g Z _ wr).1, (setCells_same g Z _ wr).2.1, (setCells_same g Z _ wr).2.2.1, Nat.le_of_eq (setCells_same g Z _ wr).2.2.2.symm, fun q hq => setCells_far Z _ q (by omega)⟩)
    have HD' := Aside0.mk HD
    clear HD hZ hlen HO HB
    go_wp2
    go_ret
    exact ⟨_, rfl, by rw [← HD'.out]; exact HF.out, HG.out⟩
    }
  }
set_option maxRecDepth 100000 in
set_option maxHeartbeats 8000000 in
theorem impl_Merge.calls (k : Nat) (A0 : Option Addr) (c0 : Nat) (l0 : List S36) (A1 : Option Addr) (c1 : Nat) (l1 : List S36) (r : List S36) (w : World) (hr0 : Kd.C k36 w A0 l0.length l0) (hc0 : l0.length ≤ c0) (hr1 : Kd.C k36 w A1 l1.length l1) (hc1 : l1.length ≤ c1) (h : impl_Merge.f k l0 l1 = some r) :
    Calls Tryd.prog 16 #[.slice A0 l0.length c0, .slice A1 l1.length c1] w fun e w' => ∃ v0_ : Value, e = .returned (v0_) ∧ Kd.R k36 36 w' w.heap.size (fun _ => True) v0_ r ∧ Below w.heap.size w w' := by
  unfold impl_Merge.f at h
  by_cases hb : l0.length + l1.length ≤ 1000000000000
  case neg =>
    rw [if_neg hb] at h
    cases h
  rw [if_pos hb] at h
  obtain ⟨ok, hok, h⟩ := Option.bind_eq_some_iff.1 h
  have hu := Tryd.underlying36
  have hcl : ∀ W : World, Kd.C k36 W A0 l0.length l0 → Calls Tryd.prog 39 #[.slice A0 l0.length c0] W fun e w' => ∃ v0_ : Value, e = .returned (v0_) ∧ Kd.R k36 36 w' W.heap.size (fun _ => True) v0_ l0 ∧ Below W.heap.size W w' := fun W hW => impl_Entry.calls A0 c0 l0 l0 W hW hc0 (by unfold impl_Entry.f; rw [if_pos (by omega)])
  have hfil : l0.filter (fun x => !decide (0 ≤ findI x.f1 l1 0)) = keepI l1 l0 := by
    unfold keepI
    congr 1
    funext x
    rw [Bool.eq_iff_iff]
    simp
  have hlen : (keepI l1 l0).length ≤ l0.length := List.length_filter_le _ _
  obtain ⟨K, hK⟩ : ∃ K, keepI l1 l0 = K := ⟨_, rfl⟩
  rw [hK] at hfil hlen hok h
  obtain ⟨L, hL⟩ : ∃ L, K ++ l1 = L := ⟨_, rfl⟩
  rw [hL] at hok h
  have HLL := Aside0.mk hL
  have HFI := Aside0.mk hfil
  clear hK hL hfil
  have HP := Aside0.mk fun (W : World) (x : S36) (hW : Below (w.alloc (.cells #[.slice A1 l1.length c1] 25)).heap.size (w.alloc (.cells #[.slice A1 l1.length c1] 25)) W) =>
    merge1_calls w.heap.size A1 c1 l1 x W ((hW.cell (p := ⟨w.heap.size, 0, none⟩) (by simp)).trans (by simp)) (Nat.lt_of_lt_of_le (by simp) hW.size) (Kd.C_below (Kd.C_alloc hr1 _) hW) hc1
  have HC1 := Aside0.mk (hcl (w.alloc (.cells #[.slice A1 l1.length c1] 25)) (Kd.C_alloc hr0 _))
  have HC2 := Aside0.mk hcl
  have HR0 := Aside0.mk fun o => Kd.C_alloc hr0 o
  have HR1 := Aside0.mk fun o => Kd.C_alloc hr1 o
  have HK := Aside0.mk hok
  have hsz : w.heap.size ≤ (w.alloc (.cells #[.slice A1 l1.length c1] 25)).heap.size := by simp
  clear hcl hr0 hr1 hok
  cases ok with
  | true =>
    rw [if_pos rfl] at h
    obtain rfl := Option.some.inj h
    clear h
    go_enter Tryd.func16, Tryd.ntmps16
    go_wp2_with (first
      | (go_at_call 39; refine HC1.out.mono ?_; rintro e w2 ⟨v2, rfl, ho2, hb2⟩)
      | (go_at_call 38; refine (merge_del_calls _ w.heap.size _ HP.out v2 l0 w2 ho2 hb2 (by omega)).mono ?_; rintro e w3 ⟨v3, rfl, ho3, hb3⟩; rw [HFI.out] at ho3; have hc3 : w3.cell? ⟨w.heap.size, 0, none⟩ = some (.slice A1 l1.length c1) := (hb3.cell (p := ⟨w.heap.size, 0, none⟩) (by simp)).trans (by simp))
      | ((with_reducible refine gate_builtin (b := .append) (xs := #[.tmp 10, .tmp 11]) rfl ?_); at_builtin; refine Kd.R_append_rows k36 (w0 := w.alloc (.cells #[.slice A1 l1.length c1] 25)) (w.alloc (.cells #[.slice A1 l1.length c1] 25)).heap.size rfl (.tmp 10) (.tmp 11) 25 36 (.agg #[(.int .i64 0), (.string ⟨#[]⟩), (.string ⟨#[]⟩), (.int .i64 0), (.int .i64 0), (.int .i64 0), (.int .i64 0), (.string ⟨#[]⟩), (.string ⟨#[]⟩), (.string ⟨#[]⟩)]) 120 rfl Tryd.underlying25 info36 rfl (by decide) (by omega) v3 K l1 _ _ _ (fun _ => True) (fun _ => False) rfl rfl ?aO ?aR (fun _ _ h => h) (fun _ h => h.elim) ?aF ?aB ?aS ?aL ?_; (case aR => exact Kd.C_below (HR1.out _) hb3); (case aB => exact hb3); (case aF => exact (fun _ _ => trivial)); (case aO => exact ho3); (case aS => exact hb3.size); (case aL => omega); intro v4 w4 ho4 hb4 hg4 hat4; clear hg4 hat4; rw [HLL.out] at ho4; obtain ⟨A4, c4, e4⟩ := Kd.R_slice ho4; subst e4)
      | (go_at_call 13; refine (impl_ListOk.calls k A4 c4 L _ w4 (Kd.R_reads' ho4).2.2 (Kd.R_reads' ho4).2.1 HK.out).mono ?_; rintro e w5 ⟨rfl, hb5⟩))
    go_ret
    exact ⟨_, rfl, Kd.R_lower (Kd.R_below ho4 hb5) hsz, ((below_alloc (Below.refl _ w) _).trans (hb4.mono hsz)).trans (hb5.mono (Nat.le_trans hsz hb4.size))⟩
  | false =>
    rw [if_neg (by decide)] at h
    obtain rfl := Option.some.inj h
    clear h
    go_enter Tryd.func16, Tryd.ntmps16
    go_wp2_with (first
      | (go_at_call 39; refine HC1.out.mono ?_; rintro e w2 ⟨v2, rfl, ho2, hb2⟩)
      | (go_at_call 38; refine (merge_del_calls _ w.heap.size _ HP.out v2 l0 w2 ho2 hb2 (by omega)).mono ?_; rintro e w3 ⟨v3, rfl, ho3, hb3⟩; rw [HFI.out] at ho3; have hc3 : w3.cell? ⟨w.heap.size, 0, none⟩ = some (.slice A1 l1.length c1) := (hb3.cell (p := ⟨w.heap.size, 0, none⟩) (by simp)).trans (by simp))
      | ((with_reducible refine gate_builtin (b := .append) (xs := #[.tmp 10, .tmp 11]) rfl ?_); at_builtin; refine Kd.R_append_rows k36 (w0 := w.alloc (.cells #[.slice A1 l1.length c1] 25)) (w.alloc (.cells #[.slice A1 l1.length c1] 25)).heap.size rfl (.tmp 10) (.tmp 11) 25 36 (.agg #[(.int .i64 0), (.string ⟨#[]⟩), (.string ⟨#[]⟩), (.int .i64 0), (.int .i64 0), (.int .i64 0), (.int .i64 0), (.string ⟨#[]⟩), (.string ⟨#[]⟩), (.string ⟨#[]⟩)]) 120 rfl Tryd.underlying25 info36 rfl (by decide) (by omega) v3 K l1 _ _ _ (fun _ => True) (fun _ => False) rfl rfl ?aO ?aR (fun _ _ h => h) (fun _ h => h.elim) ?aF ?aB ?aS ?aL ?_; (case aR => exact Kd.C_below (HR1.out _) hb3); (case aB => exact hb3); (case aF => exact (fun _ _ => trivial)); (case aO => exact ho3); (case aS => exact hb3.size); (case aL => omega); intro v4 w4 ho4 hb4 hg4 hat4; clear hg4 hat4; rw [HLL.out] at ho4; obtain ⟨A4, c4, e4⟩ := Kd.R_slice ho4; subst e4)
      | (go_at_call 13; refine (impl_ListOk.calls k A4 c4 L _ w4 (Kd.R_reads' ho4).2.2 (Kd.R_reads' ho4).2.1 HK.out).mono ?_; rintro e w5 ⟨rfl, hb5⟩)
      | (go_at_call 39; refine (HC2.out _ (Kd.C_below (Kd.C_below (HR0.out _) hb4) hb5)).mono ?_; rintro e w6 ⟨v6, rfl, ho6, hb6⟩))
    go_ret
    exact ⟨_, rfl, Kd.R_lower ho6 (Nat.le_trans hsz (Nat.le_trans hb4.size hb5.size)), (((below_alloc (Below.refl _ w) _).trans (hb4.mono hsz)).trans (hb5.mono (Nat.le_trans hsz hb4.size))).trans (hb6.mono (Nat.le_trans hsz (Nat.le_trans hb4.size hb5.size)))⟩

/-! ### laws_markText: function 42 -/
def laws_markText.l0 : Nat → Int → ByteArray → Option (ByteArray)
  | 0, _, _ => none
  | k + 1, x0, x3 => if x0 > 0 then ((some (([(wrap64 (48 + (Int.tmod x0 10))) % 256] : List Int) : List Int)).bind fun y229 => (if (strOfNums y229).size + x3.size ≤ 9223372036854775807 then (laws_markText.l0 k (wrap64 (Int.tdiv x0 10)) ((strOfNums y229) ++ x3)) else (none))) else (if 1 + x3.size ≤ 9223372036854775807 then (some ((⟨#[109]⟩ : ByteArray) ++ x3)) else (none))
def laws_markText.f (k : Nat) (a0 : Int) : Option (ByteArray) := if a0 ≤ 0 then (some (⟨#[109, 48]⟩ : ByteArray)) else (laws_markText.l0 k a0 (⟨#[]⟩ : ByteArray))
theorem laws_markText.mono_l : ∀ k, (∀ y0 y1, LeO (laws_markText.l0 k y0 y1) (laws_markText.l0 (k + 1) y0 y1))
  | 0 => fun _ _ r h => by simp [laws_markText.l0] at h
  | k + 1 => by
    have ih0 := laws_markText.mono_l k
    · intro y0 y1
      unfold laws_markText.l0
      repeat' first
      | (with_reducible exact ih0 _ _)
      | (with_reducible exact LeO.refl _)
      | (with_reducible exact LeO.none _)
      | (with_reducible refine LeO.ite ?_ ?_)
      | (with_reducible refine LeO.bind ?_ (fun _ => ?_))
      | exact ih0 _ _
      | exact LeO.none _
      | refine LeO.ite ?_ ?_
      | refine LeO.bind ?_ (fun _ => ?_)
theorem laws_markText.mono : ∀ a0 k, LeO (laws_markText.f k a0) (laws_markText.f (k + 1) a0) := by
  intro a0 k
  have ih0 := laws_markText.mono_l k
  unfold laws_markText.f
  repeat' first
      | (with_reducible exact ih0 _ _)
      | (with_reducible exact LeO.refl _)
      | (with_reducible exact LeO.none _)
      | (with_reducible refine LeO.ite ?_ ?_)
      | (with_reducible refine LeO.bind ?_ (fun _ => ?_))
      | exact ih0 _ _
      | exact LeO.none _
      | refine LeO.ite ?_ ?_
      | refine LeO.bind ?_ (fun _ => ?_)
set_option maxHeartbeats 8000000 in
set_option maxRecDepth 100000 in
theorem laws_markText.calls (k : Nat) (a0 : Int) (r : ByteArray) (w : World) (h : laws_markText.f k a0 = some r) :
    Calls Tryd.prog 42 #[.int .i64 a0] w fun e w' => e = .returned (.string r) ∧ Below w.heap.size w w' := by
  have HB := Aside0.mk (Below.refl w.heap.size w)
  have H : (if a0 ≤ 0 then (some (⟨#[109, 48]⟩ : ByteArray)) else (laws_markText.l0 k a0 (⟨#[]⟩ : ByteArray))) = some r := h
  clear h
  by_cases c2 : a0 ≤ 0
  · rw [if_pos c2] at H
    have c2b0 : decide (a0 ≤ 0) = true := decide_eq_true c2
    clear c2
    obtain rfl := Option.some.inj H
    go_enter Tryd.func42, Tryd.ntmps42
    go_wp2
    go_ret
    exact ⟨by first | rfl | (simp [errW_none, errW_some] <;> rfl) | (simp [*, errW_none, errW_some] <;> rfl) | (simp only [decide_eq_true_eq] at *; simp [*, bt]; done), by repeat (first | (with_reducible first | exact HB.out | apply below_alloc | apply pw_below_drewN | apply below_drew1) | exact HB.out)⟩
  {
  rw [if_neg c2] at H
  have c2b0 : decide (a0 ≤ 0) = false := decide_eq_false c2
  clear c2
  have H' := Aside0.mk H
  clear H
  go_enter Tryd.func42, Tryd.ntmps42
  go_wp2
  go_loopg [0, 3] k (fun kq v0 v3 w' => ∃ (x0_1 : Int) (x3_1 : ByteArray), v0 = .int .i64 x0_1 ∧ v3 = .string x3_1 ∧ Aside0 (laws_markText.l0 kq x0_1 x3_1 = some r) ∧ Aside0 (kq ≤ k) ∧ Aside0 (Below w.heap.size w w'))
  case atStart => exact ⟨(a0), ((⟨#[]⟩ : ByteArray)), (by first | rfl | (simp; done) | (simp [*]; done)), (by first | rfl | (simp; done) | (simp [*]; done)), H', ⟨Nat.le_refl _⟩, ⟨by repeat (first | (with_reducible first | exact HB.out | apply below_alloc | apply pw_below_drewN | apply below_drew1) | exact HB.out)⟩⟩
  case round =>
    clear H'
    try clear c2
    try clear c2b0
    try clear p2
    obtain ⟨x0_1, x3_1, rfl, rfl, HA, HK1, HB⟩ := hrel
    cases gk with
    | zero => exact absurd HA.out (by simp [laws_markText.l0])
    | succ k1 =>
      have H := HA.out
      clear HA
      simp only [laws_markText.l0] at H
      by_cases c3 : x0_1 > 0
      {
      rw [if_pos c3] at H
      have c3b0 : decide (0 < x0_1) = true := decide_eq_true c3
      clear c3
      obtain ⟨y229, hy229⟩ : ∃ y_ : List Int, y_ = (([(wrap64 (48 + (Int.tmod x0_1 10))) % 256] : List Int)) := ⟨_, rfl⟩
      replace H : (if (strOfNums y229).size + x3_1.size ≤ 9223372036854775807 then (laws_markText.l0 k1 (wrap64 (Int.tdiv x0_1 10)) ((strOfNums y229) ++ x3_1)) else (none)) = some r := by first | (rw [hy229]; with_reducible exact H) | (have H2_ := (Option.bind_some _ _).symm.trans H; rw [hy229]; with_reducible exact H2_) | (have H2_ := (Option.bind_some _ _).symm.trans H; with_reducible exact H2_) | with_reducible exact H | (rw [hy229]; exact H) | exact H
      have Ny229 := Aside0.mk hy229
      clear hy229
      by_cases c4 : (strOfNums y229).size + x3_1.size ≤ 9223372036854775807
      case neg => rw [if_neg c4] at H; exact absurd H (by simp)
      rw [if_pos c4] at H
      have c4b0 := eq_true c4
      have c4b1 : decide ((strOfNums y229).size + x3_1.size ≤ 9223372036854775807) = true := decide_eq_true c4
      try have c4b2 : (9223372036854775807 < (strOfNums y229).size + x3_1.size) = False := eq_false (Nat.not_lt.2 c4)
      have H' := Aside0.mk H
      clear H
      go_wp2_with (first | ((with_reducible refine gate_dst (N := 12) rfl ?_); refine Kd.R_lit (Kd.int .u8) _ 5 ?hg (N := 12) ?hd (xs := ([(wrap64 (48 + (Int.tmod x0_1 10))) % 256] : List Int)) (inner := [.int .u8 ((wrap64 (48 + (Int.tmod x0_1 10))) % 256)]) (ok := fun _ => True) (okp := fun _ => True) ?hr ?hp (fun _ hk => hk) trivial (Below.refl _ _) (Nat.le_refl _) (by simp) ?_; (case hd => rfl); (case hg => rfl); (case hr => first | (go_simp; done) | (go_simp; rfl)); (case hp => exact (Reps.one (show Kd.M (Kd.int .u8) _ _ _ ((wrap64 (48 + (Int.tmod x0_1 10))) % 256) [.int .u8 ((wrap64 (48 + (Int.tmod x0_1 10))) % 256)] from rfl) (Reps.none _ _))); intro v230 w5 ho6 hb hg_ hnew_; clear hg_ hnew_; (first | rw [← Ny229.out] at ho6 | (simp only [Int.reduceToNat] at ho6; rw [← Ny229.out] at ho6)); have n0_ := Aside0.mk (Kd.R_lower ho6 (below_size (by repeat (first | (with_reducible first | exact HB.out | apply below_alloc | apply pw_below_drewN | apply below_drew1) | exact HB.out)))); have n1_ := Aside0.mk (below_step (by repeat (first | (with_reducible first | exact HB.out | apply below_alloc | apply pw_below_drewN | apply below_drew1) | exact HB.out)) hb); clear HB; have HO231 := n0_; have HB := n1_; clear n0_ n1_; clear hb ho6; have hcv7 := own_string (P := Tryd.prog) Tryd.underlying71 Tryd.underlying5 Tryd.underlying9 (Kd.own_of_R HO231.out)))
      go_roundg k1
      case measure => have := HK1.out; omega
      case rel => exact ⟨(wrap64 (Int.tdiv x0_1 10)), ((strOfNums y229) ++ x3_1), (by first | rfl | (simp; done) | (simp [*]; done)), (by first | rfl | (simp; done) | (simp [*]; done)), H', ⟨by have := HK1.out; omega⟩, ⟨by repeat (first | (with_reducible first | exact HB.out | apply below_alloc | apply pw_below_drewN | apply below_drew1) | exact HB.out)⟩⟩
      }
      {
      rw [if_neg c3] at H
      have c3b0 : decide (0 < x0_1) = false := decide_eq_false c3
      clear c3
      by_cases c8 : 1 + x3_1.size ≤ 9223372036854775807
      case neg => rw [if_neg c8] at H; exact absurd H (by simp)
      rw [if_pos c8] at H
      have c8b0 := eq_true c8
      have c8b1 : decide (1 + x3_1.size ≤ 9223372036854775807) = true := decide_eq_true c8
      try have c8b2 : (9223372036854775807 < 1 + x3_1.size) = False := eq_false (Nat.not_lt.2 c8)
      obtain rfl := Option.some.inj H
      go_wp2
      go_ret
      exact ⟨by first | rfl | (simp [errW_none, errW_some] <;> rfl) | (simp [*, errW_none, errW_some] <;> rfl) | (simp only [decide_eq_true_eq] at *; simp [*, bt]; done), by repeat (first | (with_reducible first | exact HB.out | apply below_alloc | apply pw_below_drewN | apply below_drew1) | exact HB.out)⟩
      }
  }
end Go.Proofs.YtgmggpgcfonmgaaDoor.PFnExactMerge
