-- PRINTED for this claim by a program of this session's repo over the kit's printer, with contracts of our own among the functions.
import Derived.Test.YtgmggpgcfonmgaaDoorPFnExactListOkx0
import Derived.Test.YtgmggpgcfonmgaaDoorPFnExactListOkx7
namespace Go.Proofs.YtgmggpgcfonmgaaDoor.PFnExactListOk
open Go.RowKit Go.Proofs.YtgmggpgcfonmgaaDoorW.PrintWords Go.Proofs.YtgmggpgcfonmgaaDoorW.PrintLast Go.Proofs.YtgmggpgcfonmgaaDoorW.PrintMore
attribute [local go_sem] max2_int min2_int max_two min_two max_three min_three max_four min_four   -- for this text's walks alone
set_option linter.unusedVariables false
set_option linter.unusedSimpArgs false

/-! ### impl_ListOk: function 13, by a contract of our own -/
/-- The first entry with this path, if there is one. -/
def seenI (p : ByteArray) (l : List S36) : Option S36 := l.find? (fun x => x.f1.toList == p.toList)
/-- From an entry on: each is right, its path is new, and the link of a hard one is a file ahead of it. -/
def listOkI (k : Nat) : List S36 → List S36 → Option Bool
  | _, [] => some true
  | done, x :: l => (impl_EntryOk.f k x.f0 x.f1 x.f2 x.f3 x.f4 x.f5 x.f6 x.f7 x.f8 x.f9).bind fun ok =>
      if ok = true ∧ (seenI x.f1 done).isNone = true ∧ (x.f0 ≠ 3 ∨ (seenI x.f2 done).any (fun y => decide (y.f0 = 0)) = true) then listOkI k (done ++ [x]) l else some false
def impl_ListOk.f (k : Nat) (l0 : List S36) : Option Bool :=
  if 30 < l0.length then some false else if l0.all (fun x => decide (x.f1.size ≤ 1048576) && decide (x.f2.size ≤ 1048576)) = true then listOkI k [] l0 else none
theorem listOkI_mono (k : Nat) : ∀ (l done : List S36), LeO (listOkI k done l) (listOkI (k + 1) done l)
  | [], _ => LeO.refl _
  | x :: l, done => by
    unfold listOkI
    exact LeO.bind (impl_EntryOk.mono _ _ _ _ _ _ _ _ _ _ _) fun ok => LeO.ite (listOkI_mono k l (done ++ [x])) (LeO.refl _)
theorem impl_ListOk.mono : ∀ a0 k, LeO (impl_ListOk.f k a0) (impl_ListOk.f (k + 1) a0) := by
  intro a0 k
  unfold impl_ListOk.f
  exact LeO.ite (LeO.refl _) (LeO.ite (listOkI_mono k a0 []) (LeO.refl _))
section
open Go.Maps
theorem plainElem_bool_inv_ {H : Type} {P : Program} {e : TypeId} (he : P.underlying e = some .bool) {v : Value} {z : DataW H × List MemPlace} (h : plainElem P e v = some z) : ∃ x, v = .bool x ∧ z = (.lit (.bool x), []) := by
  unfold plainElem at h
  rw [he] at h
  cases v <;> simp at h
  exact ⟨_, rfl, h.symm⟩
theorem lookup_ok_bool_ {H : Type} {P : Program} {w : World} {ops : Array Oper} {rest : List Oper} {o : Oper} {a : Act} {Q : Exit → Act → World → Prop}
    (hg : o.guard = none) (m x : Operand) (t : TypeId) (hop : o.op = Op.lookup t m x true)
    (k e : TypeId) (K : Keyed P k) (ht : P.underlying t = some (.map k e)) (he : P.underlying e = some .bool) (hz : (zeroValue e).run P w = .ok (.bool false) w) (b n : Nat) (D : DataW H)
    (hm : a.eval m = .map (some b)) (hown : w.ownsMap P k (plainElem P e) b n D) (key : Value) (kl : Lit) (hx : a.eval x = key) (hkey : keyOf P k key = some kl)
    (q h : Bool) (hq : D.atKey kl (.lit (.bool false)) = .lit (.bool q)) (hh : Maps.has D kl = h)
    (hK : wpList P ops Q rest (a.put o.dst (.tuple #[.bool q, .bool h])) w) : wpList P ops Q (o :: rest) a w :=
  wpList_lookup_own_ok w hg m x t hop k e K ht (plainElem P e) hz (.lit (.bool false)) [] (plainElem_bool he false) b n D hm hown key kl hx hkey (fun v ps hv => by
    obtain ⟨c, rfl, hc⟩ := plainElem_bool_inv_ he hv
    have h1 := congrArg Prod.fst hc
    simp only [hq] at h1
    cases h1
    rw [hh]
    exact hK)
theorem lookup_bool_ {H : Type} {P : Program} {w : World} {ops : Array Oper} {rest : List Oper} {o : Oper} {a : Act} {Q : Exit → Act → World → Prop}
    (hg : o.guard = none) (m x : Operand) (t : TypeId) (hop : o.op = Op.lookup t m x false)
    (k e : TypeId) (K : Keyed P k) (ht : P.underlying t = some (.map k e)) (he : P.underlying e = some .bool) (hz : (zeroValue e).run P w = .ok (.bool false) w) (b n : Nat) (D : DataW H)
    (hm : a.eval m = .map (some b)) (hown : w.ownsMap P k (plainElem P e) b n D) (key : Value) (kl : Lit) (hx : a.eval x = key) (hkey : keyOf P k key = some kl)
    (q : Bool) (hq : D.atKey kl (.lit (.bool false)) = .lit (.bool q))
    (hK : wpList P ops Q rest (a.put o.dst (.bool q)) w) : wpList P ops Q (o :: rest) a w := by
  refine wpList_plain hg fun K' hK' => ?_
  obtain ⟨v, ps, hrun, hv⟩ := hown.lookup K ht hz (plainElem_bool he false) hkey
  obtain ⟨c, rfl, hc⟩ := plainElem_bool_inv_ he hv
  have h1 := congrArg Prod.fst hc
  simp only [hq] at h1
  cases h1
  unfold Oper.wp
  simp [execOp, hop, hm, hx, hrun, Result.andThen]
  exact hK' _ _ hK
/-- What the map of the paths holds behind these entries. -/
def MapIs (D : DataW Unit) (done : List S36) : Prop :=
  ∀ p : ByteArray, Maps.has D (.string p.data.toList) = (seenI p done).isSome ∧ D.atKey (.string p.data.toList) (.lit (.bool false)) = .lit (.bool ((seenI p done).any (fun y => decide (y.f0 = 0))))
theorem mapIs_start : MapIs (.map []) [] := fun _ => ⟨rfl, rfl⟩
theorem mapIs_step {D : DataW Unit} {done : List S36} (h : MapIs D done) (hD : IsMap D) (x : S36) (hx : (seenI x.f1 done).isNone = true) : MapIs (D.put (.string x.f1.data.toList) (.lit (.bool (decide (x.f0 = 0))))) (done ++ [x]) := by
  intro p
  obtain ⟨h1, h2⟩ := h p
  have e : seenI p (done ++ [x]) = (seenI p done).or (if x.f1.toList == p.toList then some x else none) := by
    unfold seenI
    rw [List.find?_append]
    congr 1
    cases hc : (x.f1.toList == p.toList) <;> simp [hc]
  rw [e]
  have tl_ : ∀ s : ByteArray, s.toList = s.data.toList := ByteArray.toList_eq
  cases hc : (x.f1.toList == p.toList) with
  | true =>
    have hc' : p.data.toList = x.f1.data.toList := by rw [← tl_, ← tl_]; exact (eq_of_beq hc).symm
    have hn : seenI p done = none := by
      have : seenI x.f1 done = none := by simpa using hx
      unfold seenI at this ⊢
      rw [tl_ p, hc', ← tl_]
      exact this
    rw [hc', hn, has_put_same hD (show WideAt.IsKeyLit (.string x.f1.data.toList) from trivial), atKey_put_same hD (show WideAt.IsKeyLit (.string x.f1.data.toList) from trivial)]
    exact ⟨rfl, rfl⟩
  | false =>
    have hne : (Lit.string p.data.toList) ≠ (Lit.string x.f1.data.toList) := by
      intro he
      injection he with he
      rw [tl_, tl_, he] at hc
      simp at hc
    rw [has_put_other hne, atKey_put_other hne, h1, h2]
    simp
end
/-! WALK -/
theorem lawK_ : Go.Maps.Keyed Tryd.prog 9 := Go.Maps.string_keyed Tryd.underlying9
theorem zeroB_ (w : World) : (zeroValue 4).run Tryd.prog w = .ok (.bool false) w := by kernel_rfl
theorem infoE_ : (Tryd.prog.info? 36).map (·.size) = some 10 := by kernel_rfl
set_option maxRecDepth 100000 in
set_option maxHeartbeats 8000000 in
theorem impl_ListOk.calls (k : Nat) (A0 : Option Addr) (c0 : Nat) (l0 : List S36) (r : Bool) (w : World) (hr0 : Kd.C k36 w A0 l0.length l0) (hc0 : l0.length ≤ c0) (h : impl_ListOk.f k l0 = some r) :
    Calls Tryd.prog 13 #[.slice A0 l0.length c0] w fun e w' => e = .returned (.bool r) ∧ Below w.heap.size w w' := by
  unfold impl_ListOk.f at h
  have hbig := Kd.C_max hr0
  by_cases h30 : 30 < l0.length
  · rw [if_pos h30] at h
    obtain rfl := Option.some.inj h
    have hd : (30 : Int) < (l0.length : Int) := by omega
    clear hr0
    go_enter Tryd.func13, Tryd.ntmps13
    go_wp2
    go_ret
    exact ⟨rfl, by repeat (first | exact Below.refl _ _ | apply below_alloc | apply pw_below_drewN | apply below_drew1)⟩
  · rw [if_neg h30] at h
    have hd : ¬ (30 : Int) < (l0.length : Int) := by omega
    by_cases hall : l0.all (fun x => decide (x.f1.size ≤ 1048576) && decide (x.f2.size ≤ 1048576)) = true
    case neg =>
      rw [if_neg hall] at h
      cases h
    rw [if_pos hall] at h
    have hsz : ∀ x ∈ l0, x.f1.size ≤ 1048576 ∧ x.f2.size ≤ 1048576 := fun x hx => by simpa using List.all_eq_true.1 hall x hx
    have HS := Aside0.mk hsz
    have HA := Aside0.mk h
    have HR := Aside0.mk hr0
    clear hr0 h hall hsz
    have hmm := @run_makeMap Tryd.prog
    have hu := Tryd.underlying36
    go_enter Tryd.func13, Tryd.ntmps13
    go_wp2
    go_loopg [5, 6, 7, 14] l0.length (fun gg _ _ _ v14 wr => ∃ (kk : Nat) (done rest : List S36) (D : DataW Unit), v14 = .int .i64 kk ∧ l0.length - kk ≤ gg ∧ done.length = kk ∧ kk ≤ l0.length ∧ Aside0 (done ++ rest = l0) ∧ Aside0 (listOkI k done rest = some r) ∧ Aside0 (wr.ownsMap Tryd.prog 9 (plainElem Tryd.prog 4) w.heap.size kk D) ∧ Aside0 (MapIs D done) ∧ Aside0 (Below w.heap.size w wr))
    case atStart => exact ⟨0, [], l0, .map [], rfl, by omega, rfl, Nat.zero_le _, ⟨rfl⟩, HA, ⟨World.ownsMap_made _ _ _ _⟩, ⟨mapIs_start⟩, ⟨(Below.refl _ _).alloc (Nat.le_refl _) _⟩⟩
    case round =>
      clear HA hmm
      obtain ⟨kk, done, rest, D, rfl, hgg, hdl, hkk, HL, HA, HO, HM, HB⟩ := hrel
      cases rest with
      | nil =>
        have hl := congrArg List.length HL.out
        simp only [List.append_nil] at hl
        obtain rfl : kk = l0.length := by omega
        have hlt : ¬ (l0.length : Int) < (l0.length : Int) := by omega
        have e := HA.out
        simp only [listOkI] at e
        obtain rfl := Option.some.inj e
        go_wp2
        go_ret
        exact ⟨rfl, HB.out⟩
      | cons y rest =>
        have hl := congrArg List.length HL.out
        simp only [List.length_append, List.length_cons] at hl
        have hltz : (kk : Int) < (l0.length : Int) := by omega
        obtain ⟨ad, rfl, h0, h1, h2, h3, h4, h5, h6, h7, h8, h9⟩ := at_T36 (Kd.C_below HR.out HB.out) (kk : Int) (by omega) (by omega)
        have hy : rd_T36 l0 (kk : Int) = y := by
          unfold rd_T36
          rw [Int.toNat_natCast, List.getD_eq_getElem?_getD, ← HL.out, List.getElem?_append_right (by omega), hdl, Nat.sub_self]
          rfl
        rw [Int.toNat_natCast, hy] at h0 h1 h2 h3 h4 h5 h6 h7 h8 h9
        obtain ⟨s1, s2⟩ := HS.out y (by rw [← HL.out]; simp)
        have hkey1 : keyOf Tryd.prog 9 (.string y.f1) = some (.string y.f1.data.toList) := Go.WideMaps.keyOf_string_mk Tryd.underlying9 (by unfold maxLen; omega)
        have hkey2 : keyOf Tryd.prog 9 (.string y.f2) = some (.string y.f2.data.toList) := Go.WideMaps.keyOf_string_mk Tryd.underlying9 (by unfold maxLen; omega)
        obtain ⟨hh1, hq1⟩ := HM.out y.f1
        obtain ⟨_, hq2⟩ := HM.out y.f2
        have H := HA.out
        unfold listOkI at H
        obtain ⟨ok, hok, H⟩ := Option.bind_eq_some_iff.1 H
        have HE := Aside0.mk fun W => impl_EntryOk.calls k y.f0 y.f1 y.f2 y.f3 y.f4 y.f5 y.f6 y.f7 y.f8 y.f9 ok W hok
        have hown := HO.out
        have hkk2 : kk < maxLen := by unfold maxLen; omega
        clear HO HA hy hok s1 s2 hl HS HR
        generalize hz1 : (seenI y.f1 done).any (fun y => decide (y.f0 = 0)) = z1 at hq1
        generalize hz2 : (seenI y.f2 done).any (fun y => decide (y.f0 = 0)) = z2 at hq2 H
        clear hz1 hz2
        cases hs2 : (seenI y.f1 done).isSome with
        | true =>
          have hs1 : (seenI y.f1 done).isNone = false := by revert hs2; cases seenI y.f1 done <;> simp
          rw [hs2] at hh1
          rw [hs1, if_neg (by simp)] at H
          obtain rfl := Option.some.inj H
          clear hs1 hs2
          cases ok with
          | false =>
            go_wp2_with (first | (at_lookup; refine lookup_ok_bool_ rfl _ _ 50 rfl 9 4 lawK_ Tryd.underlying50 Tryd.underlying4 (zeroB_ _) w.heap.size kk D rfl (hown.alloc _) _ _ rfl hkey1 _ _ hq1 hh1 ?_) | (go_at_call 36; refine (HE.out _).mono ?_; rintro e w7 ⟨rfl, hb7⟩; have hown7 := (hown.alloc (.cells #[.int .i64 y.f0, .string y.f1, .string y.f2, .int .i64 y.f3, .int .i64 y.f4, .int .i64 y.f5, .int .i64 y.f6, .string y.f7, .string y.f8, .string y.f9] 36)).kept (grown_of_below hb7 none) (by simp); have hb7' := (below_alloc HB.out _).trans (hb7.mono (by simpa using Nat.le_succ_of_le HB.out.size)); have e7_0 : w7.cell? ⟨wr.heap.size, 0, none⟩ = some (.int .i64 y.f0) := (hb7.cell (p := ⟨wr.heap.size, 0, none⟩) (by simp)).trans (by simp); have e7_1 : w7.cell? ⟨wr.heap.size, 1, none⟩ = some (.string y.f1) := (hb7.cell (p := ⟨wr.heap.size, 1, none⟩) (by simp)).trans (by simp); have e7_2 : w7.cell? ⟨wr.heap.size, 2, none⟩ = some (.string y.f2) := (hb7.cell (p := ⟨wr.heap.size, 2, none⟩) (by simp)).trans (by simp)) | go_in)
            go_ret
            exact ⟨rfl, hb7'⟩
          | true =>
            go_wp2_with (first | (at_lookup; refine lookup_ok_bool_ rfl _ _ 50 rfl 9 4 lawK_ Tryd.underlying50 Tryd.underlying4 (zeroB_ _) w.heap.size kk D rfl (hown.alloc _) _ _ rfl hkey1 _ _ hq1 hh1 ?_) | (go_at_call 36; refine (HE.out _).mono ?_; rintro e w7 ⟨rfl, hb7⟩; have hown7 := (hown.alloc (.cells #[.int .i64 y.f0, .string y.f1, .string y.f2, .int .i64 y.f3, .int .i64 y.f4, .int .i64 y.f5, .int .i64 y.f6, .string y.f7, .string y.f8, .string y.f9] 36)).kept (grown_of_below hb7 none) (by simp); have hb7' := (below_alloc HB.out _).trans (hb7.mono (by simpa using Nat.le_succ_of_le HB.out.size)); have e7_0 : w7.cell? ⟨wr.heap.size, 0, none⟩ = some (.int .i64 y.f0) := (hb7.cell (p := ⟨wr.heap.size, 0, none⟩) (by simp)).trans (by simp); have e7_1 : w7.cell? ⟨wr.heap.size, 1, none⟩ = some (.string y.f1) := (hb7.cell (p := ⟨wr.heap.size, 1, none⟩) (by simp)).trans (by simp); have e7_2 : w7.cell? ⟨wr.heap.size, 2, none⟩ = some (.string y.f2) := (hb7.cell (p := ⟨wr.heap.size, 2, none⟩) (by simp)).trans (by simp)) | go_in)
            go_ret
            exact ⟨rfl, hb7'⟩
        | false =>
          have hs1 : (seenI y.f1 done).isNone = true := by revert hs2; cases seenI y.f1 done <;> simp
          rw [hs2] at hh1
          cases ok with
          | false =>
            rw [if_neg (by simp)] at H
            obtain rfl := Option.some.inj H
            clear hs1 hs2
            go_wp2_with (first | (at_lookup; refine lookup_ok_bool_ rfl _ _ 50 rfl 9 4 lawK_ Tryd.underlying50 Tryd.underlying4 (zeroB_ _) w.heap.size kk D rfl (hown.alloc _) _ _ rfl hkey1 _ _ hq1 hh1 ?_) | (go_at_call 36; refine (HE.out _).mono ?_; rintro e w7 ⟨rfl, hb7⟩; have hown7 := (hown.alloc (.cells #[.int .i64 y.f0, .string y.f1, .string y.f2, .int .i64 y.f3, .int .i64 y.f4, .int .i64 y.f5, .int .i64 y.f6, .string y.f7, .string y.f8, .string y.f9] 36)).kept (grown_of_below hb7 none) (by simp); have hb7' := (below_alloc HB.out _).trans (hb7.mono (by simpa using Nat.le_succ_of_le HB.out.size)); have e7_0 : w7.cell? ⟨wr.heap.size, 0, none⟩ = some (.int .i64 y.f0) := (hb7.cell (p := ⟨wr.heap.size, 0, none⟩) (by simp)).trans (by simp); have e7_1 : w7.cell? ⟨wr.heap.size, 1, none⟩ = some (.string y.f1) := (hb7.cell (p := ⟨wr.heap.size, 1, none⟩) (by simp)).trans (by simp); have e7_2 : w7.cell? ⟨wr.heap.size, 2, none⟩ = some (.string y.f2) := (hb7.cell (p := ⟨wr.heap.size, 2, none⟩) (by simp)).trans (by simp)) | go_in)
            go_ret
            exact ⟨rfl, hb7'⟩
          | true =>
            by_cases hk3 : y.f0 = 3
            · have hk3' : (y.f0 == 3) = true := beq_iff_eq.2 hk3
              cases z2 with
              | true =>
                rw [if_pos ⟨rfl, hs1, .inr rfl⟩] at H
                have H' := H
                clear H hs2 hk3
                go_wp2_with (first | (at_lookup; refine lookup_ok_bool_ rfl _ _ 50 rfl 9 4 lawK_ Tryd.underlying50 Tryd.underlying4 (zeroB_ _) w.heap.size kk D rfl (hown.alloc _) _ _ rfl hkey1 _ _ hq1 hh1 ?_) | (go_at_call 36; refine (HE.out _).mono ?_; rintro e w7 ⟨rfl, hb7⟩; have hown7 := (hown.alloc (.cells #[.int .i64 y.f0, .string y.f1, .string y.f2, .int .i64 y.f3, .int .i64 y.f4, .int .i64 y.f5, .int .i64 y.f6, .string y.f7, .string y.f8, .string y.f9] 36)).kept (grown_of_below hb7 none) (by simp); have hb7' := (below_alloc HB.out _).trans (hb7.mono (by simpa using Nat.le_succ_of_le HB.out.size)); have e7_0 : w7.cell? ⟨wr.heap.size, 0, none⟩ = some (.int .i64 y.f0) := (hb7.cell (p := ⟨wr.heap.size, 0, none⟩) (by simp)).trans (by simp); have e7_1 : w7.cell? ⟨wr.heap.size, 1, none⟩ = some (.string y.f1) := (hb7.cell (p := ⟨wr.heap.size, 1, none⟩) (by simp)).trans (by simp); have e7_2 : w7.cell? ⟨wr.heap.size, 2, none⟩ = some (.string y.f2) := (hb7.cell (p := ⟨wr.heap.size, 2, none⟩) (by simp)).trans (by simp)) | (at_lookup; refine gate_guard (by rfl) ?_; refine lookup_bool_ rfl _ _ 50 rfl 9 4 lawK_ Tryd.underlying50 Tryd.underlying4 (zeroB_ _) w.heap.size kk D rfl hown7 _ _ rfl hkey2 _ hq2 ?_) | (at_mapUpdate; refine wpList_mapUpdate_own _ rfl _ _ _ 50 rfl 9 4 lawK_ Tryd.underlying50 _ w.heap.size kk D rfl hown7 hkk2 _ _ _ rfl rfl hkey1 _ [] (plainElem_bool Tryd.underlying4 _) ?_; intro w8 hown8 hg8) | go_in)
                go_roundg (l0.length - (kk + 1))
                case measure => omega
                case rel => exact ⟨kk + 1, done ++ [y], rest, _, by go_num, by omega, by simp only [List.length_append, List.length_singleton]; omega, by omega, ⟨by rw [← HL.out]; simp⟩, ⟨H'⟩, ⟨hown8⟩, ⟨by rw [show (y.f0 == 0) = decide (y.f0 = 0) by rw [Bool.eq_iff_iff]; simp]; exact mapIs_step HM.out hown7.isMap y hs1⟩, ⟨(hb7'.grown hg8 (by simp [hb7'.size]) (fun j hj => by cases hj; exact Nat.le_refl _))⟩⟩
              | false =>
                rw [if_neg (by rintro ⟨_, _, h | h⟩ <;> simp_all)] at H
                obtain rfl := Option.some.inj H
                clear hs2 hk3
                go_wp2_with (first | (at_lookup; refine lookup_ok_bool_ rfl _ _ 50 rfl 9 4 lawK_ Tryd.underlying50 Tryd.underlying4 (zeroB_ _) w.heap.size kk D rfl (hown.alloc _) _ _ rfl hkey1 _ _ hq1 hh1 ?_) | (go_at_call 36; refine (HE.out _).mono ?_; rintro e w7 ⟨rfl, hb7⟩; have hown7 := (hown.alloc (.cells #[.int .i64 y.f0, .string y.f1, .string y.f2, .int .i64 y.f3, .int .i64 y.f4, .int .i64 y.f5, .int .i64 y.f6, .string y.f7, .string y.f8, .string y.f9] 36)).kept (grown_of_below hb7 none) (by simp); have hb7' := (below_alloc HB.out _).trans (hb7.mono (by simpa using Nat.le_succ_of_le HB.out.size)); have e7_0 : w7.cell? ⟨wr.heap.size, 0, none⟩ = some (.int .i64 y.f0) := (hb7.cell (p := ⟨wr.heap.size, 0, none⟩) (by simp)).trans (by simp); have e7_1 : w7.cell? ⟨wr.heap.size, 1, none⟩ = some (.string y.f1) := (hb7.cell (p := ⟨wr.heap.size, 1, none⟩) (by simp)).trans (by simp); have e7_2 : w7.cell? ⟨wr.heap.size, 2, none⟩ = some (.string y.f2) := (hb7.cell (p := ⟨wr.heap.size, 2, none⟩) (by simp)).trans (by simp)) | (at_lookup; refine gate_guard (by rfl) ?_; refine lookup_bool_ rfl _ _ 50 rfl 9 4 lawK_ Tryd.underlying50 Tryd.underlying4 (zeroB_ _) w.heap.size kk D rfl hown7 _ _ rfl hkey2 _ hq2 ?_) | go_in)
                go_ret
                exact ⟨rfl, hb7'⟩
            · have hk3' : (y.f0 == 3) = false := beq_eq_false_iff_ne.2 hk3
              rw [if_pos ⟨rfl, hs1, .inl hk3⟩] at H
              have H' := H
              clear H hs2 hk3
              go_wp2_with (first | (at_lookup; refine lookup_ok_bool_ rfl _ _ 50 rfl 9 4 lawK_ Tryd.underlying50 Tryd.underlying4 (zeroB_ _) w.heap.size kk D rfl (hown.alloc _) _ _ rfl hkey1 _ _ hq1 hh1 ?_) | (go_at_call 36; refine (HE.out _).mono ?_; rintro e w7 ⟨rfl, hb7⟩; have hown7 := (hown.alloc (.cells #[.int .i64 y.f0, .string y.f1, .string y.f2, .int .i64 y.f3, .int .i64 y.f4, .int .i64 y.f5, .int .i64 y.f6, .string y.f7, .string y.f8, .string y.f9] 36)).kept (grown_of_below hb7 none) (by simp); have hb7' := (below_alloc HB.out _).trans (hb7.mono (by simpa using Nat.le_succ_of_le HB.out.size)); have e7_0 : w7.cell? ⟨wr.heap.size, 0, none⟩ = some (.int .i64 y.f0) := (hb7.cell (p := ⟨wr.heap.size, 0, none⟩) (by simp)).trans (by simp); have e7_1 : w7.cell? ⟨wr.heap.size, 1, none⟩ = some (.string y.f1) := (hb7.cell (p := ⟨wr.heap.size, 1, none⟩) (by simp)).trans (by simp); have e7_2 : w7.cell? ⟨wr.heap.size, 2, none⟩ = some (.string y.f2) := (hb7.cell (p := ⟨wr.heap.size, 2, none⟩) (by simp)).trans (by simp)) | (at_mapUpdate; refine wpList_mapUpdate_own _ rfl _ _ _ 50 rfl 9 4 lawK_ Tryd.underlying50 _ w.heap.size kk D rfl hown7 hkk2 _ _ _ rfl rfl hkey1 _ [] (plainElem_bool Tryd.underlying4 _) ?_; intro w8 hown8 hg8) | go_in)
              go_roundg (l0.length - (kk + 1))
              case measure => omega
              case rel => exact ⟨kk + 1, done ++ [y], rest, _, by go_num, by omega, by simp only [List.length_append, List.length_singleton]; omega, by omega, ⟨by rw [← HL.out]; simp⟩, ⟨H'⟩, ⟨hown8⟩, ⟨by rw [show (y.f0 == 0) = decide (y.f0 = 0) by rw [Bool.eq_iff_iff]; simp]; exact mapIs_step HM.out hown7.isMap y hs1⟩, ⟨(hb7'.grown hg8 (by simp [hb7'.size]) (fun j hj => by cases hj; exact Nat.le_refl _))⟩⟩

/-! ### laws_eqEntry: function 37 -/
def laws_eqEntry.f (a0_0 : Int) (a0_1 : ByteArray) (a0_2 : ByteArray) (a0_3 : Int) (a0_4 : Int) (a0_5 : Int) (a0_6 : Int) (a0_7 : ByteArray) (a0_8 : ByteArray) (a0_9 : ByteArray) (a1_0 : Int) (a1_1 : ByteArray) (a1_2 : ByteArray) (a1_3 : Int) (a1_4 : Int) (a1_5 : Int) (a1_6 : Int) (a1_7 : ByteArray) (a1_8 : ByteArray) (a1_9 : ByteArray) : Option (Bool) := if a0_0 = a1_0 then (if a0_1.toList = a1_1.toList then (if a0_2.toList = a1_2.toList then (if a0_3 = a1_3 then (if a0_4 = a1_4 then (if a0_5 = a1_5 then (if a0_6 = a1_6 then (if a0_7.toList = a1_7.toList then (if a0_8.toList = a1_8.toList then (if a0_9.toList = a1_9.toList then (some true) else (some false)) else (some false)) else (some false)) else (some false)) else (some false)) else (some false)) else (some false)) else (some false)) else (some false)) else (some false)
set_option maxHeartbeats 8000000 in
set_option maxRecDepth 100000 in
theorem laws_eqEntry.calls (a0_0 : Int) (a0_1 : ByteArray) (a0_2 : ByteArray) (a0_3 : Int) (a0_4 : Int) (a0_5 : Int) (a0_6 : Int) (a0_7 : ByteArray) (a0_8 : ByteArray) (a0_9 : ByteArray) (a1_0 : Int) (a1_1 : ByteArray) (a1_2 : ByteArray) (a1_3 : Int) (a1_4 : Int) (a1_5 : Int) (a1_6 : Int) (a1_7 : ByteArray) (a1_8 : ByteArray) (a1_9 : ByteArray) (r : Bool) (w : World) (h : laws_eqEntry.f a0_0 a0_1 a0_2 a0_3 a0_4 a0_5 a0_6 a0_7 a0_8 a0_9 a1_0 a1_1 a1_2 a1_3 a1_4 a1_5 a1_6 a1_7 a1_8 a1_9 = some r) :
    Calls Tryd.prog 37 #[.agg #[.int .i64 a0_0, .string a0_1, .string a0_2, .int .i64 a0_3, .int .i64 a0_4, .int .i64 a0_5, .int .i64 a0_6, .string a0_7, .string a0_8, .string a0_9], .agg #[.int .i64 a1_0, .string a1_1, .string a1_2, .int .i64 a1_3, .int .i64 a1_4, .int .i64 a1_5, .int .i64 a1_6, .string a1_7, .string a1_8, .string a1_9]] w fun e w' => e = .returned (.bool r) ∧ Below w.heap.size w w' := by
  have hu36 := Tryd.underlying36
  have HB := Aside0.mk (Below.refl w.heap.size w)
  have H : (if a0_0 = a1_0 then (if a0_1.toList = a1_1.toList then (if a0_2.toList = a1_2.toList then (if a0_3 = a1_3 then (if a0_4 = a1_4 then (if a0_5 = a1_5 then (if a0_6 = a1_6 then (if a0_7.toList = a1_7.toList then (if a0_8.toList = a1_8.toList then (if a0_9.toList = a1_9.toList then (some true) else (some false)) else (some false)) else (some false)) else (some false)) else (some false)) else (some false)) else (some false)) else (some false)) else (some false)) else (some false)) = some r := h
  clear h
  by_cases c3 : a0_0 = a1_0
  · rw [if_pos c3] at H
    have c3b0 : (a0_0 == a1_0) = true := beq_iff_eq.mpr c3
    have c3b1 : (a0_0 != a1_0) = false := bne_eq_false_iff_eq.mpr c3
    clear c3
    by_cases c4 : a0_1.toList = a1_1.toList
    · rw [if_pos c4] at H
      have c4b0 : (a0_1.toList == a1_1.toList) = true := beq_iff_eq.mpr c4
      have c4b1 : (a0_1.toList != a1_1.toList) = false := bne_eq_false_iff_eq.mpr c4
      clear c4
      by_cases c5 : a0_2.toList = a1_2.toList
      · rw [if_pos c5] at H
        have c5b0 : (a0_2.toList == a1_2.toList) = true := beq_iff_eq.mpr c5
        have c5b1 : (a0_2.toList != a1_2.toList) = false := bne_eq_false_iff_eq.mpr c5
        clear c5
        by_cases c6 : a0_3 = a1_3
        · rw [if_pos c6] at H
          have c6b0 : (a0_3 == a1_3) = true := beq_iff_eq.mpr c6
          have c6b1 : (a0_3 != a1_3) = false := bne_eq_false_iff_eq.mpr c6
          clear c6
          by_cases c7 : a0_4 = a1_4
          · rw [if_pos c7] at H
            have c7b0 : (a0_4 == a1_4) = true := beq_iff_eq.mpr c7
            have c7b1 : (a0_4 != a1_4) = false := bne_eq_false_iff_eq.mpr c7
            clear c7
            by_cases c8 : a0_5 = a1_5
            · rw [if_pos c8] at H
              have c8b0 : (a0_5 == a1_5) = true := beq_iff_eq.mpr c8
              have c8b1 : (a0_5 != a1_5) = false := bne_eq_false_iff_eq.mpr c8
              clear c8
              by_cases c9 : a0_6 = a1_6
              · rw [if_pos c9] at H
                have c9b0 : (a0_6 == a1_6) = true := beq_iff_eq.mpr c9
                have c9b1 : (a0_6 != a1_6) = false := bne_eq_false_iff_eq.mpr c9
                clear c9
                by_cases c10 : a0_7.toList = a1_7.toList
                · rw [if_pos c10] at H
                  have c10b0 : (a0_7.toList == a1_7.toList) = true := beq_iff_eq.mpr c10
                  have c10b1 : (a0_7.toList != a1_7.toList) = false := bne_eq_false_iff_eq.mpr c10
                  clear c10
                  by_cases c11 : a0_8.toList = a1_8.toList
                  · rw [if_pos c11] at H
                    have c11b0 : (a0_8.toList == a1_8.toList) = true := beq_iff_eq.mpr c11
                    have c11b1 : (a0_8.toList != a1_8.toList) = false := bne_eq_false_iff_eq.mpr c11
                    clear c11
                    by_cases c12 : a0_9.toList = a1_9.toList
                    · rw [if_pos c12] at H
                      have c12b0 : (a0_9.toList == a1_9.toList) = true := beq_iff_eq.mpr c12
                      have c12b1 : (a0_9.toList != a1_9.toList) = false := bne_eq_false_iff_eq.mpr c12
                      clear c12
                      obtain rfl := Option.some.inj H
                      go_enter Tryd.func37, Tryd.ntmps37
                      go_wp2_with (first | ((with_reducible refine gate_dst (N := 2) rfl ?_); refine box_event ?hg (N := 2) ?hd (cs := #[.int .i64 a0_0, .string a0_1, .string a0_2, .int .i64 a0_3, .int .i64 a0_4, .int .i64 a0_5, .int .i64 a0_6, .string a0_7, .string a0_8, .string a0_9]) (t := 36) ?hr ?_; (case hd => rfl); (case hg => rfl); (case hr => first | (go_simp; done) | (go_simp; rfl)); intro gb205 hg w13 hbox hb; have n0_ := Aside0.mk (below_step (by repeat (first | (with_reducible first | exact HB.out | apply below_alloc | apply pw_below_drewN | apply below_drew1) | exact HB.out)) hb); have n1_ := Aside0.mk (hbox); have n2_ := Aside0.mk ((by rw [hg]; exact (below_size (by repeat (first | (with_reducible first | exact HB.out | apply below_alloc | apply pw_below_drewN | apply below_drew1) | exact HB.out))) : w.heap.size ≤ gb205)); have n3_ := Aside0.mk ((by rw [hg]; exact (below_size (by repeat (first | (with_reducible first | exact HB.out | apply below_alloc | apply pw_below_drewN | apply below_drew1) | exact HB.out))) : w.heap.size ≤ gb205)); clear HB; have HB := n0_; have BK205 := n1_; have GW205 := n2_; have GE205 := n3_; clear n0_ n1_ n2_ n3_; clear hb hbox hg) | ((with_reducible refine gate_dst (N := 3) rfl ?_); refine box_event ?hg (N := 3) ?hd (cs := #[.int .i64 a1_0, .string a1_1, .string a1_2, .int .i64 a1_3, .int .i64 a1_4, .int .i64 a1_5, .int .i64 a1_6, .string a1_7, .string a1_8, .string a1_9]) (t := 36) ?hr ?_; (case hd => rfl); (case hg => rfl); (case hr => first | (go_simp; done) | (go_simp; rfl)); intro gb206 hg w14 hbox hb; have n0_ := Aside0.mk (blk_below (g := gb205) (o := .cells #[.int .i64 a0_0, .string a0_1, .string a0_2, .int .i64 a0_3, .int .i64 a0_4, .int .i64 a0_5, .int .i64 a0_6, .string a0_7, .string a0_8, .string a0_9] 36 (0, 0)) (by (with_reducible repeat (first | refine blk_drewN ?_ _ | refine blk_drew ?_ | refine blk_alloc ?_ _)); exact BK205.out) hb); have n1_ := Aside0.mk (below_step (by repeat (first | (with_reducible first | exact HB.out | apply below_alloc | apply pw_below_drewN | apply below_drew1 | refine below_set ?_ GE205.out) | exact HB.out)) hb); have n2_ := Aside0.mk (hbox); have n3_ := Aside0.mk ((by rw [hg]; exact (below_size (by repeat (first | (with_reducible first | exact HB.out | apply below_alloc | apply pw_below_drewN | apply below_drew1 | refine below_set ?_ GE205.out) | exact HB.out))) : w.heap.size ≤ gb206)); have n4_ := Aside0.mk ((by rw [hg]; exact (below_size (by repeat (first | (with_reducible first | exact HB.out | apply below_alloc | apply pw_below_drewN | apply below_drew1 | refine below_set ?_ GE205.out) | exact HB.out))) : w.heap.size ≤ gb206)); have n5_ := Aside0.mk ((by rw [hg]; exact Nat.ne_of_lt (blk_lt (g := gb205) (o := .cells #[.int .i64 a0_0, .string a0_1, .string a0_2, .int .i64 a0_3, .int .i64 a0_4, .int .i64 a0_5, .int .i64 a0_6, .string a0_7, .string a0_8, .string a0_9] 36 (0, 0)) (by (with_reducible repeat (first | refine blk_drewN ?_ _ | refine blk_drew ?_ | refine blk_alloc ?_ _)); exact BK205.out)) : gb205 ≠ gb206)); have n6_ := Aside0.mk ((by rw [hg]; exact Nat.ne_of_gt (blk_lt (g := gb205) (o := .cells #[.int .i64 a0_0, .string a0_1, .string a0_2, .int .i64 a0_3, .int .i64 a0_4, .int .i64 a0_5, .int .i64 a0_6, .string a0_7, .string a0_8, .string a0_9] 36 (0, 0)) (by (with_reducible repeat (first | refine blk_drewN ?_ _ | refine blk_drew ?_ | refine blk_alloc ?_ _)); exact BK205.out)) : gb206 ≠ gb205)); clear BK205; clear HB; have BK205 := n0_; have HB := n1_; have BK206 := n2_; have GW206 := n3_; have GE206 := n4_; have NB205_206 := n5_; have NB206_205 := n6_; clear n0_ n1_ n2_ n3_ n4_ n5_ n6_; clear hb hbox hg; have hnb15 := NB205_206.out; have hnc15 := NB206_205.out; have hcz16_0 : w14.cell? ⟨gb205, 0, none⟩ = some (.int .i64 a0_0) := (blk_cell BK205.out 0).trans rfl; have hcz16_1 : w14.cell? ⟨gb205, 1, none⟩ = some (.string a0_1) := (blk_cell BK205.out 1).trans rfl; have hcz16_2 : w14.cell? ⟨gb205, 2, none⟩ = some (.string a0_2) := (blk_cell BK205.out 2).trans rfl; have hcz16_3 : w14.cell? ⟨gb205, 3, none⟩ = some (.int .i64 a0_3) := (blk_cell BK205.out 3).trans rfl; have hcz16_4 : w14.cell? ⟨gb205, 4, none⟩ = some (.int .i64 a0_4) := (blk_cell BK205.out 4).trans rfl; have hcz16_5 : w14.cell? ⟨gb205, 5, none⟩ = some (.int .i64 a0_5) := (blk_cell BK205.out 5).trans rfl; have hcz16_6 : w14.cell? ⟨gb205, 6, none⟩ = some (.int .i64 a0_6) := (blk_cell BK205.out 6).trans rfl; have hcz16_7 : w14.cell? ⟨gb205, 7, none⟩ = some (.string a0_7) := (blk_cell BK205.out 7).trans rfl; have hcz16_8 : w14.cell? ⟨gb205, 8, none⟩ = some (.string a0_8) := (blk_cell BK205.out 8).trans rfl; have hcz16_9 : w14.cell? ⟨gb205, 9, none⟩ = some (.string a0_9) := (blk_cell BK205.out 9).trans rfl; have hfz16_0 := blk_frozen BK205.out 0; have hfz16_1 := blk_frozen BK205.out 1; have hfz16_2 := blk_frozen BK205.out 2; have hfz16_3 := blk_frozen BK205.out 3; have hfz16_4 := blk_frozen BK205.out 4; have hfz16_5 := blk_frozen BK205.out 5; have hfz16_6 := blk_frozen BK205.out 6; have hfz16_7 := blk_frozen BK205.out 7; have hfz16_8 := blk_frozen BK205.out 8; have hfz16_9 := blk_frozen BK205.out 9; have hcz17_0 : w14.cell? ⟨gb206, 0, none⟩ = some (.int .i64 a1_0) := (blk_cell BK206.out 0).trans rfl; have hcz17_1 : w14.cell? ⟨gb206, 1, none⟩ = some (.string a1_1) := (blk_cell BK206.out 1).trans rfl; have hcz17_2 : w14.cell? ⟨gb206, 2, none⟩ = some (.string a1_2) := (blk_cell BK206.out 2).trans rfl; have hcz17_3 : w14.cell? ⟨gb206, 3, none⟩ = some (.int .i64 a1_3) := (blk_cell BK206.out 3).trans rfl; have hcz17_4 : w14.cell? ⟨gb206, 4, none⟩ = some (.int .i64 a1_4) := (blk_cell BK206.out 4).trans rfl; have hcz17_5 : w14.cell? ⟨gb206, 5, none⟩ = some (.int .i64 a1_5) := (blk_cell BK206.out 5).trans rfl; have hcz17_6 : w14.cell? ⟨gb206, 6, none⟩ = some (.int .i64 a1_6) := (blk_cell BK206.out 6).trans rfl; have hcz17_7 : w14.cell? ⟨gb206, 7, none⟩ = some (.string a1_7) := (blk_cell BK206.out 7).trans rfl; have hcz17_8 : w14.cell? ⟨gb206, 8, none⟩ = some (.string a1_8) := (blk_cell BK206.out 8).trans rfl; have hcz17_9 : w14.cell? ⟨gb206, 9, none⟩ = some (.string a1_9) := (blk_cell BK206.out 9).trans rfl; have hfz17_0 := blk_frozen BK206.out 0; have hfz17_1 := blk_frozen BK206.out 1; have hfz17_2 := blk_frozen BK206.out 2; have hfz17_3 := blk_frozen BK206.out 3; have hfz17_4 := blk_frozen BK206.out 4; have hfz17_5 := blk_frozen BK206.out 5; have hfz17_6 := blk_frozen BK206.out 6; have hfz17_7 := blk_frozen BK206.out 7; have hfz17_8 := blk_frozen BK206.out 8; have hfz17_9 := blk_frozen BK206.out 9))
                      go_ret
                      exact ⟨by first | rfl | (simp [errW_none, errW_some] <;> rfl) | (simp [*, errW_none, errW_some] <;> rfl) | (simp only [decide_eq_true_eq] at *; simp [*, bt]; done), by repeat (first | (with_reducible first | exact HB.out | apply below_alloc | apply pw_below_drewN | apply below_drew1 | refine below_set ?_ GE205.out | refine below_set ?_ GE206.out) | exact HB.out)⟩
                    · rw [if_neg c12] at H
                      have c12b0 : (a0_9.toList == a1_9.toList) = false := beq_eq_false_iff_ne.mpr c12
                      have c12b1 : (a0_9.toList != a1_9.toList) = true := bne_iff_ne.mpr c12
                      obtain rfl := Option.some.inj H
                      go_enter Tryd.func37, Tryd.ntmps37
                      go_wp2_with (first | ((with_reducible refine gate_dst (N := 2) rfl ?_); refine box_event ?hg (N := 2) ?hd (cs := #[.int .i64 a0_0, .string a0_1, .string a0_2, .int .i64 a0_3, .int .i64 a0_4, .int .i64 a0_5, .int .i64 a0_6, .string a0_7, .string a0_8, .string a0_9]) (t := 36) ?hr ?_; (case hd => rfl); (case hg => rfl); (case hr => first | (go_simp; done) | (go_simp; rfl)); intro gb205 hg w18 hbox hb; have n0_ := Aside0.mk (below_step (by repeat (first | (with_reducible first | exact HB.out | apply below_alloc | apply pw_below_drewN | apply below_drew1) | exact HB.out)) hb); have n1_ := Aside0.mk (hbox); have n2_ := Aside0.mk ((by rw [hg]; exact (below_size (by repeat (first | (with_reducible first | exact HB.out | apply below_alloc | apply pw_below_drewN | apply below_drew1) | exact HB.out))) : w.heap.size ≤ gb205)); have n3_ := Aside0.mk ((by rw [hg]; exact (below_size (by repeat (first | (with_reducible first | exact HB.out | apply below_alloc | apply pw_below_drewN | apply below_drew1) | exact HB.out))) : w.heap.size ≤ gb205)); clear HB; have HB := n0_; have BK205 := n1_; have GW205 := n2_; have GE205 := n3_; clear n0_ n1_ n2_ n3_; clear hb hbox hg) | ((with_reducible refine gate_dst (N := 3) rfl ?_); refine box_event ?hg (N := 3) ?hd (cs := #[.int .i64 a1_0, .string a1_1, .string a1_2, .int .i64 a1_3, .int .i64 a1_4, .int .i64 a1_5, .int .i64 a1_6, .string a1_7, .string a1_8, .string a1_9]) (t := 36) ?hr ?_; (case hd => rfl); (case hg => rfl); (case hr => first | (go_simp; done) | (go_simp; rfl)); intro gb206 hg w19 hbox hb; have n0_ := Aside0.mk (blk_below (g := gb205) (o := .cells #[.int .i64 a0_0, .string a0_1, .string a0_2, .int .i64 a0_3, .int .i64 a0_4, .int .i64 a0_5, .int .i64 a0_6, .string a0_7, .string a0_8, .string a0_9] 36 (0, 0)) (by (with_reducible repeat (first | refine blk_drewN ?_ _ | refine blk_drew ?_ | refine blk_alloc ?_ _)); exact BK205.out) hb); have n1_ := Aside0.mk (below_step (by repeat (first | (with_reducible first | exact HB.out | apply below_alloc | apply pw_below_drewN | apply below_drew1 | refine below_set ?_ GE205.out) | exact HB.out)) hb); have n2_ := Aside0.mk (hbox); have n3_ := Aside0.mk ((by rw [hg]; exact (below_size (by repeat (first | (with_reducible first | exact HB.out | apply below_alloc | apply pw_below_drewN | apply below_drew1 | refine below_set ?_ GE205.out) | exact HB.out))) : w.heap.size ≤ gb206)); have n4_ := Aside0.mk ((by rw [hg]; exact (below_size (by repeat (first | (with_reducible first | exact HB.out | apply below_alloc | apply pw_below_drewN | apply below_drew1 | refine below_set ?_ GE205.out) | exact HB.out))) : w.heap.size ≤ gb206)); have n5_ := Aside0.mk ((by rw [hg]; exact Nat.ne_of_lt (blk_lt (g := gb205) (o := .cells #[.int .i64 a0_0, .string a0_1, .string a0_2, .int .i64 a0_3, .int .i64 a0_4, .int .i64 a0_5, .int .i64 a0_6, .string a0_7, .string a0_8, .string a0_9] 36 (0, 0)) (by (with_reducible repeat (first | refine blk_drewN ?_ _ | refine blk_drew ?_ | refine blk_alloc ?_ _)); exact BK205.out)) : gb205 ≠ gb206)); have n6_ := Aside0.mk ((by rw [hg]; exact Nat.ne_of_gt (blk_lt (g := gb205) (o := .cells #[.int .i64 a0_0, .string a0_1, .string a0_2, .int .i64 a0_3, .int .i64 a0_4, .int .i64 a0_5, .int .i64 a0_6, .string a0_7, .string a0_8, .string a0_9] 36 (0, 0)) (by (with_reducible repeat (first | refine blk_drewN ?_ _ | refine blk_drew ?_ | refine blk_alloc ?_ _)); exact BK205.out)) : gb206 ≠ gb205)); clear BK205; clear HB; have BK205 := n0_; have HB := n1_; have BK206 := n2_; have GW206 := n3_; have GE206 := n4_; have NB205_206 := n5_; have NB206_205 := n6_; clear n0_ n1_ n2_ n3_ n4_ n5_ n6_; clear hb hbox hg; have hnb20 := NB205_206.out; have hnc20 := NB206_205.out; have hcz21_0 : w19.cell? ⟨gb205, 0, none⟩ = some (.int .i64 a0_0) := (blk_cell BK205.out 0).trans rfl; have hcz21_1 : w19.cell? ⟨gb205, 1, none⟩ = some (.string a0_1) := (blk_cell BK205.out 1).trans rfl; have hcz21_2 : w19.cell? ⟨gb205, 2, none⟩ = some (.string a0_2) := (blk_cell BK205.out 2).trans rfl; have hcz21_3 : w19.cell? ⟨gb205, 3, none⟩ = some (.int .i64 a0_3) := (blk_cell BK205.out 3).trans rfl; have hcz21_4 : w19.cell? ⟨gb205, 4, none⟩ = some (.int .i64 a0_4) := (blk_cell BK205.out 4).trans rfl; have hcz21_5 : w19.cell? ⟨gb205, 5, none⟩ = some (.int .i64 a0_5) := (blk_cell BK205.out 5).trans rfl; have hcz21_6 : w19.cell? ⟨gb205, 6, none⟩ = some (.int .i64 a0_6) := (blk_cell BK205.out 6).trans rfl; have hcz21_7 : w19.cell? ⟨gb205, 7, none⟩ = some (.string a0_7) := (blk_cell BK205.out 7).trans rfl; have hcz21_8 : w19.cell? ⟨gb205, 8, none⟩ = some (.string a0_8) := (blk_cell BK205.out 8).trans rfl; have hcz21_9 : w19.cell? ⟨gb205, 9, none⟩ = some (.string a0_9) := (blk_cell BK205.out 9).trans rfl; have hfz21_0 := blk_frozen BK205.out 0; have hfz21_1 := blk_frozen BK205.out 1; have hfz21_2 := blk_frozen BK205.out 2; have hfz21_3 := blk_frozen BK205.out 3; have hfz21_4 := blk_frozen BK205.out 4; have hfz21_5 := blk_frozen BK205.out 5; have hfz21_6 := blk_frozen BK205.out 6; have hfz21_7 := blk_frozen BK205.out 7; have hfz21_8 := blk_frozen BK205.out 8; have hfz21_9 := blk_frozen BK205.out 9; have hcz22_0 : w19.cell? ⟨gb206, 0, none⟩ = some (.int .i64 a1_0) := (blk_cell BK206.out 0).trans rfl; have hcz22_1 : w19.cell? ⟨gb206, 1, none⟩ = some (.string a1_1) := (blk_cell BK206.out 1).trans rfl; have hcz22_2 : w19.cell? ⟨gb206, 2, none⟩ = some (.string a1_2) := (blk_cell BK206.out 2).trans rfl; have hcz22_3 : w19.cell? ⟨gb206, 3, none⟩ = some (.int .i64 a1_3) := (blk_cell BK206.out 3).trans rfl; have hcz22_4 : w19.cell? ⟨gb206, 4, none⟩ = some (.int .i64 a1_4) := (blk_cell BK206.out 4).trans rfl; have hcz22_5 : w19.cell? ⟨gb206, 5, none⟩ = some (.int .i64 a1_5) := (blk_cell BK206.out 5).trans rfl; have hcz22_6 : w19.cell? ⟨gb206, 6, none⟩ = some (.int .i64 a1_6) := (blk_cell BK206.out 6).trans rfl; have hcz22_7 : w19.cell? ⟨gb206, 7, none⟩ = some (.string a1_7) := (blk_cell BK206.out 7).trans rfl; have hcz22_8 : w19.cell? ⟨gb206, 8, none⟩ = some (.string a1_8) := (blk_cell BK206.out 8).trans rfl; have hcz22_9 : w19.cell? ⟨gb206, 9, none⟩ = some (.string a1_9) := (blk_cell BK206.out 9).trans rfl; have hfz22_0 := blk_frozen BK206.out 0; have hfz22_1 := blk_frozen BK206.out 1; have hfz22_2 := blk_frozen BK206.out 2; have hfz22_3 := blk_frozen BK206.out 3; have hfz22_4 := blk_frozen BK206.out 4; have hfz22_5 := blk_frozen BK206.out 5; have hfz22_6 := blk_frozen BK206.out 6; have hfz22_7 := blk_frozen BK206.out 7; have hfz22_8 := blk_frozen BK206.out 8; have hfz22_9 := blk_frozen BK206.out 9))
                      go_ret
                      exact ⟨by first | rfl | (simp [errW_none, errW_some] <;> rfl) | (simp [*, errW_none, errW_some] <;> rfl) | (simp only [decide_eq_true_eq] at *; simp [*, bt]; done), by repeat (first | (with_reducible first | exact HB.out | apply below_alloc | apply pw_below_drewN | apply below_drew1 | refine below_set ?_ GE205.out | refine below_set ?_ GE206.out) | exact HB.out)⟩
                  · rw [if_neg c11] at H
                    have c11b0 : (a0_8.toList == a1_8.toList) = false := beq_eq_false_iff_ne.mpr c11
                    have c11b1 : (a0_8.toList != a1_8.toList) = true := bne_iff_ne.mpr c11
                    obtain rfl := Option.some.inj H
                    go_enter Tryd.func37, Tryd.ntmps37
                    go_wp2_with (first | ((with_reducible refine gate_dst (N := 2) rfl ?_); refine box_event ?hg (N := 2) ?hd (cs := #[.int .i64 a0_0, .string a0_1, .string a0_2, .int .i64 a0_3, .int .i64 a0_4, .int .i64 a0_5, .int .i64 a0_6, .string a0_7, .string a0_8, .string a0_9]) (t := 36) ?hr ?_; (case hd => rfl); (case hg => rfl); (case hr => first | (go_simp; done) | (go_simp; rfl)); intro gb205 hg w23 hbox hb; have n0_ := Aside0.mk (below_step (by repeat (first | (with_reducible first | exact HB.out | apply below_alloc | apply pw_below_drewN | apply below_drew1) | exact HB.out)) hb); have n1_ := Aside0.mk (hbox); have n2_ := Aside0.mk ((by rw [hg]; exact (below_size (by repeat (first | (with_reducible first | exact HB.out | apply below_alloc | apply pw_below_drewN | apply below_drew1) | exact HB.out))) : w.heap.size ≤ gb205)); have n3_ := Aside0.mk ((by rw [hg]; exact (below_size (by repeat (first | (with_reducible first | exact HB.out | apply below_alloc | apply pw_below_drewN | apply below_drew1) | exact HB.out))) : w.heap.size ≤ gb205)); clear HB; have HB := n0_; have BK205 := n1_; have GW205 := n2_; have GE205 := n3_; clear n0_ n1_ n2_ n3_; clear hb hbox hg) | ((with_reducible refine gate_dst (N := 3) rfl ?_); refine box_event ?hg (N := 3) ?hd (cs := #[.int .i64 a1_0, .string a1_1, .string a1_2, .int .i64 a1_3, .int .i64 a1_4, .int .i64 a1_5, .int .i64 a1_6, .string a1_7, .string a1_8, .string a1_9]) (t := 36) ?hr ?_; (case hd => rfl); (case hg => rfl); (case hr => first | (go_simp; done) | (go_simp; rfl)); intro gb206 hg w24 hbox hb; have n0_ := Aside0.mk (blk_below (g := gb205) (o := .cells #[.int .i64 a0_0, .string a0_1, .string a0_2, .int .i64 a0_3, .int .i64 a0_4, .int .i64 a0_5, .int .i64 a0_6, .string a0_7, .string a0_8, .string a0_9] 36 (0, 0)) (by (with_reducible repeat (first | refine blk_drewN ?_ _ | refine blk_drew ?_ | refine blk_alloc ?_ _)); exact BK205.out) hb); have n1_ := Aside0.mk (below_step (by repeat (first | (with_reducible first | exact HB.out | apply below_alloc | apply pw_below_drewN | apply below_drew1 | refine below_set ?_ GE205.out) | exact HB.out)) hb); have n2_ := Aside0.mk (hbox); have n3_ := Aside0.mk ((by rw [hg]; exact (below_size (by repeat (first | (with_reducible first | exact HB.out | apply below_alloc | apply pw_below_drewN | apply below_drew1 | refine below_set ?_ GE205.out) | exact HB.out))) : w.heap.size ≤ gb206)); have n4_ := Aside0.mk ((by rw [hg]; exact (below_size (by repeat (first | (with_reducible first | exact HB.out | apply below_alloc | apply pw_below_drewN | apply below_drew1 | refine below_set ?_ GE205.out) | exact HB.out))) : w.heap.size ≤ gb206)); have n5_ := Aside0.mk ((by rw [hg]; exact Nat.ne_of_lt (blk_lt (g := gb205) (o := .cells #[.int .i64 a0_0, .string a0_1, .string a0_2, .int .i64 a0_3, .int .i64 a0_4, .int .i64 a0_5, .int .i64 a0_6, .string a0_7, .string a0_8, .string a0_9] 36 (0, 0)) (by (with_reducible repeat (first | refine blk_drewN ?_ _ | refine blk_drew ?_ | refine blk_alloc ?_ _)); exact BK205.out)) : gb205 ≠ gb206)); have n6_ := Aside0.mk ((by rw [hg]; exact Nat.ne_of_gt (blk_lt (g := gb205) (o := .cells #[.int .i64 a0_0, .string a0_1, .string a0_2, .int .i64 a0_3, .int .i64 a0_4, .int .i64 a0_5, .int .i64 a0_6, .string a0_7, .string a0_8, .string a0_9] 36 (0, 0)) (by (with_reducible repeat (first | refine blk_drewN ?_ _ | refine blk_drew ?_ | refine blk_alloc ?_ _)); exact BK205.out)) : gb206 ≠ gb205)); clear BK205; clear HB; have BK205 := n0_; have HB := n1_; have BK206 := n2_; have GW206 := n3_; have GE206 := n4_; have NB205_206 := n5_; have NB206_205 := n6_; clear n0_ n1_ n2_ n3_ n4_ n5_ n6_; clear hb hbox hg; have hnb25 := NB205_206.out; have hnc25 := NB206_205.out; have hcz26_0 : w24.cell? ⟨gb205, 0, none⟩ = some (.int .i64 a0_0) := (blk_cell BK205.out 0).trans rfl; have hcz26_1 : w24.cell? ⟨gb205, 1, none⟩ = some (.string a0_1) := (blk_cell BK205.out 1).trans rfl; have hcz26_2 : w24.cell? ⟨gb205, 2, none⟩ = some (.string a0_2) := (blk_cell BK205.out 2).trans rfl; have hcz26_3 : w24.cell? ⟨gb205, 3, none⟩ = some (.int .i64 a0_3) := (blk_cell BK205.out 3).trans rfl; have hcz26_4 : w24.cell? ⟨gb205, 4, none⟩ = some (.int .i64 a0_4) := (blk_cell BK205.out 4).trans rfl; have hcz26_5 : w24.cell? ⟨gb205, 5, none⟩ = some (.int .i64 a0_5) := (blk_cell BK205.out 5).trans rfl; have hcz26_6 : w24.cell? ⟨gb205, 6, none⟩ = some (.int .i64 a0_6) := (blk_cell BK205.out 6).trans rfl; have hcz26_7 : w24.cell? ⟨gb205, 7, none⟩ = some (.string a0_7) := (blk_cell BK205.out 7).trans rfl; have hcz26_8 : w24.cell? ⟨gb205, 8, none⟩ = some (.string a0_8) := (blk_cell BK205.out 8).trans rfl; have hcz26_9 : w24.cell? ⟨gb205, 9, none⟩ = some (.string a0_9) := (blk_cell BK205.out 9).trans rfl; have hfz26_0 := blk_frozen BK205.out 0; have hfz26_1 := blk_frozen BK205.out 1; have hfz26_2 := blk_frozen BK205.out 2; have hfz26_3 := blk_frozen BK205.out 3; have hfz26_4 := blk_frozen BK205.out 4; have hfz26_5 := blk_frozen BK205.out 5; have hfz26_6 := blk_frozen BK205.out 6; have hfz26_7 := blk_frozen BK205.out 7; have hfz26_8 := blk_frozen BK205.out 8; have hfz26_9 := blk_frozen BK205.out 9; have hcz27_0 : w24.cell? ⟨gb206, 0, none⟩ = some (.int .i64 a1_0) := (blk_cell BK206.out 0).trans rfl; have hcz27_1 : w24.cell? ⟨gb206, 1, none⟩ = some (.string a1_1) := (blk_cell BK206.out 1).trans rfl; have hcz27_2 : w24.cell? ⟨gb206, 2, none⟩ = some (.string a1_2) := (blk_cell BK206.out 2).trans rfl; have hcz27_3 : w24.cell? ⟨gb206, 3, none⟩ = some (.int .i64 a1_3) := (blk_cell BK206.out 3).trans rfl; have hcz27_4 : w24.cell? ⟨gb206, 4, none⟩ = some (.int .i64 a1_4) := (blk_cell BK206.out 4).trans rfl; have hcz27_5 : w24.cell? ⟨gb206, 5, none⟩ = some (.int .i64 a1_5) := (blk_cell BK206.out 5).trans rfl; have hcz27_6 : w24.cell? ⟨gb206, 6, none⟩ = some (.int .i64 a1_6) := (blk_cell BK206.out 6).trans rfl; have hcz27_7 : w24.cell? ⟨gb206, 7, none⟩ = some (.string a1_7) := (blk_cell BK206.out 7).trans rfl; have hcz27_8 : w24.cell? ⟨gb206, 8, none⟩ = some (.string a1_8) := (blk_cell BK206.out 8).trans rfl; have hcz27_9 : w24.cell? ⟨gb206, 9, none⟩ = some (.string a1_9) := (blk_cell BK206.out 9).trans rfl; have hfz27_0 := blk_frozen BK206.out 0; have hfz27_1 := blk_frozen BK206.out 1; have hfz27_2 := blk_frozen BK206.out 2; have hfz27_3 := blk_frozen BK206.out 3; have hfz27_4 := blk_frozen BK206.out 4; have hfz27_5 := blk_frozen BK206.out 5; have hfz27_6 := blk_frozen BK206.out 6; have hfz27_7 := blk_frozen BK206.out 7; have hfz27_8 := blk_frozen BK206.out 8; have hfz27_9 := blk_frozen BK206.out 9))
                    go_ret
                    exact ⟨by first | rfl | (simp [errW_none, errW_some] <;> rfl) | (simp [*, errW_none, errW_some] <;> rfl) | (simp only [decide_eq_true_eq] at *; simp [*, bt]; done), by repeat (first | (with_reducible first | exact HB.out | apply below_alloc | apply pw_below_drewN | apply below_drew1 | refine below_set ?_ GE205.out | refine below_set ?_ GE206.out) | exact HB.out)⟩
                · rw [if_neg c10] at H
                  have c10b0 : (a0_7.toList == a1_7.toList) = false := beq_eq_false_iff_ne.mpr c10
                  have c10b1 : (a0_7.toList != a1_7.toList) = true := bne_iff_ne.mpr c10
                  obtain rfl := Option.some.inj H
                  go_enter Tryd.func37, Tryd.ntmps37
                  go_wp2_with (first | ((with_reducible refine gate_dst (N := 2) rfl ?_); refine box_event ?hg (N := 2) ?hd (cs := #[.int .i64 a0_0, .string a0_1, .string a0_2, .int .i64 a0_3, .int .i64 a0_4, .int .i64 a0_5, .int .i64 a0_6, .string a0_7, .string a0_8, .string a0_9]) (t := 36) ?hr ?_; (case hd => rfl); (case hg => rfl); (case hr => first | (go_simp; done) | (go_simp; rfl)); intro gb205 hg w28 hbox hb; have n0_ := Aside0.mk (below_step (by repeat (first | (with_reducible first | exact HB.out | apply below_alloc | apply pw_below_drewN | apply below_drew1) | exact HB.out)) hb); have n1_ := Aside0.mk (hbox); have n2_ := Aside0.mk ((by rw [hg]; exact (below_size (by repeat (first | (with_reducible first | exact HB.out | apply below_alloc | apply pw_below_drewN | apply below_drew1) | exact HB.out))) : w.heap.size ≤ gb205)); have n3_ := Aside0.mk ((by rw [hg]; exact (below_size (by repeat (first | (with_reducible first | exact HB.out | apply below_alloc | apply pw_below_drewN | apply below_drew1) | exact HB.out))) : w.heap.size ≤ gb205)); clear HB; have HB := n0_; have BK205 := n1_; have GW205 := n2_; have GE205 := n3_; clear n0_ n1_ n2_ n3_; clear hb hbox hg) | ((with_reducible refine gate_dst (N := 3) rfl ?_); refine box_event ?hg (N := 3) ?hd (cs := #[.int .i64 a1_0, .string a1_1, .string a1_2, .int .i64 a1_3, .int .i64 a1_4, .int .i64 a1_5, .int .i64 a1_6, .string a1_7, .string a1_8, .string a1_9]) (t := 36) ?hr ?_; (case hd => rfl); (case hg => rfl); (case hr => first | (go_simp; done) | (go_simp; rfl)); intro gb206 hg w29 hbox hb; have n0_ := Aside0.mk (blk_below (g := gb205) (o := .cells #[.int .i64 a0_0, .string a0_1, .string a0_2, .int .i64 a0_3, .int .i64 a0_4, .int .i64 a0_5, .int .i64 a0_6, .string a0_7, .string a0_8, .string a0_9] 36 (0, 0)) (by (with_reducible repeat (first | refine blk_drewN ?_ _ | refine blk_drew ?_ | refine blk_alloc ?_ _)); exact BK205.out) hb); have n1_ := Aside0.mk (below_step (by repeat (first | (with_reducible first | exact HB.out | apply below_alloc | apply pw_below_drewN | apply below_drew1 | refine below_set ?_ GE205.out) | exact HB.out)) hb); have n2_ := Aside0.mk (hbox); have n3_ := Aside0.mk ((by rw [hg]; exact (below_size (by repeat (first | (with_reducible first | exact HB.out | apply below_alloc | apply pw_below_drewN | apply below_drew1 | refine below_set ?_ GE205.out) | exact HB.out))) : w.heap.size ≤ gb206)); have n4_ := Aside0.mk ((by rw [hg]; exact (below_size (by repeat (first | (with_reducible first | exact HB.out | apply below_alloc | apply pw_below_drewN | apply below_drew1 | refine below_set ?_ GE205.out) | exact HB.out))) : w.heap.size ≤ gb206)); have n5_ := Aside0.mk ((by rw [hg]; exact Nat.ne_of_lt (blk_lt (g := gb205) (o := .cells #[.int .i64 a0_0, .string a0_1, .string a0_2, .int .i64 a0_3, .int .i64 a0_4, .int .i64 a0_5, .int .i64 a0_6, .string a0_7, .string a0_8, .string a0_9] 36 (0, 0)) (by (with_reducible repeat (first | refine blk_drewN ?_ _ | refine blk_drew ?_ | refine blk_alloc ?_ _)); exact BK205.out)) : gb205 ≠ gb206)); have n6_ := Aside0.mk ((by rw [hg]; exact Nat.ne_of_gt (blk_lt (g := gb205) (o := .cells #[.int .i64 a0_0, .string a0_1, .string a0_2, .int .i64 a0_3, .int .i64 a0_4, .int .i64 a0_5, .int .i64 a0_6, .string a0_7, .string a0_8, .string a0_9] 36 (0, 0)) (by (with_reducible repeat (first | refine blk_drewN ?_ _ | refine blk_drew ?_ | refine blk_alloc ?_ _)); exact BK205.out)) : gb206 ≠ gb205)); clear BK205; clear HB; have BK205 := n0_; have HB := n1_; have BK206 := n2_; have GW206 := n3_; have GE206 := n4_; have NB205_206 := n5_; have NB206_205 := n6_; clear n0_ n1_ n2_ n3_ n4_ n5_ n6_; clear hb hbox hg; have hnb30 := NB205_206.out; have hnc30 := NB206_205.out; have hcz31_0 : w29.cell? ⟨gb205, 0, none⟩ = some (.int .i64 a0_0) := (blk_cell BK205.out 0).trans rfl; have hcz31_1 : w29.cell? ⟨gb205, 1, none⟩ = some (.string a0_1) := (blk_cell BK205.out 1).trans rfl; have hcz31_2 : w29.cell? ⟨gb205, 2, none⟩ = some (.string a0_2) := (blk_cell BK205.out 2).trans rfl; have hcz31_3 : w29.cell? ⟨gb205, 3, none⟩ = some (.int .i64 a0_3) := (blk_cell BK205.out 3).trans rfl; have hcz31_4 : w29.cell? ⟨gb205, 4, none⟩ = some (.int .i64 a0_4) := (blk_cell BK205.out 4).trans rfl; have hcz31_5 : w29.cell? ⟨gb205, 5, none⟩ = some (.int .i64 a0_5) := (blk_cell BK205.out 5).trans rfl; have hcz31_6 : w29.cell? ⟨gb205, 6, none⟩ = some (.int .i64 a0_6) := (blk_cell BK205.out 6).trans rfl; have hcz31_7 : w29.cell? ⟨gb205, 7, none⟩ = some (.string a0_7) := (blk_cell BK205.out 7).trans rfl; have hcz31_8 : w29.cell? ⟨gb205, 8, none⟩ = some (.string a0_8) := (blk_cell BK205.out 8).trans rfl; have hcz31_9 : w29.cell? ⟨gb205, 9, none⟩ = some (.string a0_9) := (blk_cell BK205.out 9).trans rfl; have hfz31_0 := blk_frozen BK205.out 0; have hfz31_1 := blk_frozen BK205.out 1; have hfz31_2 := blk_frozen BK205.out 2; have hfz31_3 := blk_frozen BK205.out 3; have hfz31_4 := blk_frozen BK205.out 4; have hfz31_5 := blk_frozen BK205.out 5; have hfz31_6 := blk_frozen BK205.out 6; have hfz31_7 := blk_frozen BK205.out 7; have hfz31_8 := blk_frozen BK205.out 8; have hfz31_9 := blk_frozen BK205.out 9; have hcz32_0 : w29.cell? ⟨gb206, 0, none⟩ = some (.int .i64 a1_0) := (blk_cell BK206.out 0).trans rfl; have hcz32_1 : w29.cell? ⟨gb206, 1, none⟩ = some (.string a1_1) := (blk_cell BK206.out 1).trans rfl; have hcz32_2 : w29.cell? ⟨gb206, 2, none⟩ = some (.string a1_2) := (blk_cell BK206.out 2).trans rfl; have hcz32_3 : w29.cell? ⟨gb206, 3, none⟩ = some (.int .i64 a1_3) := (blk_cell BK206.out 3).trans rfl; have hcz32_4 : w29.cell? ⟨gb206, 4, none⟩ = some (.int .i64 a1_4) := (blk_cell BK206.out 4).trans rfl; have hcz32_5 : w29.cell? ⟨gb206, 5, none⟩ = some (.int .i64 a1_5) := (blk_cell BK206.out 5).trans rfl; have hcz32_6 : w29.cell? ⟨gb206, 6, none⟩ = some (.int .i64 a1_6) := (blk_cell BK206.out 6).trans rfl; have hcz32_7 : w29.cell? ⟨gb206, 7, none⟩ = some (.string a1_7) := (blk_cell BK206.out 7).trans rfl; have hcz32_8 : w29.cell? ⟨gb206, 8, none⟩ = some (.string a1_8) := (blk_cell BK206.out 8).trans rfl; have hcz32_9 : w29.cell? ⟨gb206, 9, none⟩ = some (.string a1_9) := (blk_cell BK206.out 9).trans rfl; have hfz32_0 := blk_frozen BK206.out 0; have hfz32_1 := blk_frozen BK206.out 1; have hfz32_2 := blk_frozen BK206.out 2; have hfz32_3 := blk_frozen BK206.out 3; have hfz32_4 := blk_frozen BK206.out 4; have hfz32_5 := blk_frozen BK206.out 5; have hfz32_6 := blk_frozen BK206.out 6; have hfz32_7 := blk_frozen BK206.out 7; have hfz32_8 := blk_frozen BK206.out 8; have hfz32_9 := blk_frozen BK206.out 9))
                  go_ret
                  exact ⟨by first | rfl | (simp [errW_none, errW_some] <;> rfl) | (simp [*, errW_none, errW_some] <;> rfl) | (simp only [decide_eq_true_eq] at *; simp [*, bt]; done), by repeat (first | (with_reducible first | exact HB.out | apply below_alloc | apply pw_below_drewN | apply below_drew1 | refine below_set ?_ GE205.out | refine below_set ?_ GE206.out) | exact HB.out)⟩
              · rw [if_neg c9] at H
                have c9b0 : (a0_6 == a1_6) = false := beq_eq_false_iff_ne.mpr c9
                have c9b1 : (a0_6 != a1_6) = true := bne_iff_ne.mpr c9
                obtain rfl := Option.some.inj H
                go_enter Tryd.func37, Tryd.ntmps37
                go_wp2_with (first | ((with_reducible refine gate_dst (N := 2) rfl ?_); refine box_event ?hg (N := 2) ?hd (cs := #[.int .i64 a0_0, .string a0_1, .string a0_2, .int .i64 a0_3, .int .i64 a0_4, .int .i64 a0_5, .int .i64 a0_6, .string a0_7, .string a0_8, .string a0_9]) (t := 36) ?hr ?_; (case hd => rfl); (case hg => rfl); (case hr => first | (go_simp; done) | (go_simp; rfl)); intro gb205 hg w33 hbox hb; have n0_ := Aside0.mk (below_step (by repeat (first | (with_reducible first | exact HB.out | apply below_alloc | apply pw_below_drewN | apply below_drew1) | exact HB.out)) hb); have n1_ := Aside0.mk (hbox); have n2_ := Aside0.mk ((by rw [hg]; exact (below_size (by repeat (first | (with_reducible first | exact HB.out | apply below_alloc | apply pw_below_drewN | apply below_drew1) | exact HB.out))) : w.heap.size ≤ gb205)); have n3_ := Aside0.mk ((by rw [hg]; exact (below_size (by repeat (first | (with_reducible first | exact HB.out | apply below_alloc | apply pw_below_drewN | apply below_drew1) | exact HB.out))) : w.heap.size ≤ gb205)); clear HB; have HB := n0_; have BK205 := n1_; have GW205 := n2_; have GE205 := n3_; clear n0_ n1_ n2_ n3_; clear hb hbox hg) | ((with_reducible refine gate_dst (N := 3) rfl ?_); refine box_event ?hg (N := 3) ?hd (cs := #[.int .i64 a1_0, .string a1_1, .string a1_2, .int .i64 a1_3, .int .i64 a1_4, .int .i64 a1_5, .int .i64 a1_6, .string a1_7, .string a1_8, .string a1_9]) (t := 36) ?hr ?_; (case hd => rfl); (case hg => rfl); (case hr => first | (go_simp; done) | (go_simp; rfl)); intro gb206 hg w34 hbox hb; have n0_ := Aside0.mk (blk_below (g := gb205) (o := .cells #[.int .i64 a0_0, .string a0_1, .string a0_2, .int .i64 a0_3, .int .i64 a0_4, .int .i64 a0_5, .int .i64 a0_6, .string a0_7, .string a0_8, .string a0_9] 36 (0, 0)) (by (with_reducible repeat (first | refine blk_drewN ?_ _ | refine blk_drew ?_ | refine blk_alloc ?_ _)); exact BK205.out) hb); have n1_ := Aside0.mk (below_step (by repeat (first | (with_reducible first | exact HB.out | apply below_alloc | apply pw_below_drewN | apply below_drew1 | refine below_set ?_ GE205.out) | exact HB.out)) hb); have n2_ := Aside0.mk (hbox); have n3_ := Aside0.mk ((by rw [hg]; exact (below_size (by repeat (first | (with_reducible first | exact HB.out | apply below_alloc | apply pw_below_drewN | apply below_drew1 | refine below_set ?_ GE205.out) | exact HB.out))) : w.heap.size ≤ gb206)); have n4_ := Aside0.mk ((by rw [hg]; exact (below_size (by repeat (first | (with_reducible first | exact HB.out | apply below_alloc | apply pw_below_drewN | apply below_drew1 | refine below_set ?_ GE205.out) | exact HB.out))) : w.heap.size ≤ gb206)); have n5_ := Aside0.mk ((by rw [hg]; exact Nat.ne_of_lt (blk_lt (g := gb205) (o := .cells #[.int .i64 a0_0, .string a0_1, .string a0_2, .int .i64 a0_3, .int .i64 a0_4, .int .i64 a0_5, .int .i64 a0_6, .string a0_7, .string a0_8, .string a0_9] 36 (0, 0)) (by (with_reducible repeat (first | refine blk_drewN ?_ _ | refine blk_drew ?_ | refine blk_alloc ?_ _)); exact BK205.out)) : gb205 ≠ gb206)); have n6_ := Aside0.mk ((by rw [hg]; exact Nat.ne_of_gt (blk_lt (g := gb205) (o := .cells #[.int .i64 a0_0, .string a0_1, .string a0_2, .int .i64 a0_3, .int .i64 a0_4, .int .i64 a0_5, .int .i64 a0_6, .string a0_7, .string a0_8, .string a0_9] 36 (0, 0)) (by (with_reducible repeat (first | refine blk_drewN ?_ _ | refine blk_drew ?_ | refine blk_alloc ?_ _)); exact BK205.out)) : gb206 ≠ gb205)); clear BK205; clear HB; have BK205 := n0_; have HB := n1_; have BK206 := n2_; have GW206 := n3_; have GE206 := n4_; have NB205_206 := n5_; have NB206_205 := n6_; clear n0_ n1_ n2_ n3_ n4_ n5_ n6_; clear hb hbox hg; have hnb35 := NB205_206.out; have hnc35 := NB206_205.out; have hcz36_0 : w34.cell? ⟨gb205, 0, none⟩ = some (.int .i64 a0_0) := (blk_cell BK205.out 0).trans rfl; have hcz36_1 : w34.cell? ⟨gb205, 1, none⟩ = some (.string a0_1) := (blk_cell BK205.out 1).trans rfl; have hcz36_2 : w34.cell? ⟨gb205, 2, none⟩ = some (.string a0_2) := (blk_cell BK205.out 2).trans rfl; have hcz36_3 : w34.cell? ⟨gb205, 3, none⟩ = some (.int .i64 a0_3) := (blk_cell BK205.out 3).trans rfl; have hcz36_4 : w34.cell? ⟨gb205, 4, none⟩ = some (.int .i64 a0_4) := (blk_cell BK205.out 4).trans rfl; have hcz36_5 : w34.cell? ⟨gb205, 5, none⟩ = some (.int .i64 a0_5) := (blk_cell BK205.out 5).trans rfl; have hcz36_6 : w34.cell? ⟨gb205, 6, none⟩ = some (.int .i64 a0_6) := (blk_cell BK205.out 6).trans rfl; have hcz36_7 : w34.cell? ⟨gb205, 7, none⟩ = some (.string a0_7) := (blk_cell BK205.out 7).trans rfl; have hcz36_8 : w34.cell? ⟨gb205, 8, none⟩ = some (.string a0_8) := (blk_cell BK205.out 8).trans rfl; have hcz36_9 : w34.cell? ⟨gb205, 9, none⟩ = some (.string a0_9) := (blk_cell BK205.out 9).trans rfl; have hfz36_0 := blk_frozen BK205.out 0; have hfz36_1 := blk_frozen BK205.out 1; have hfz36_2 := blk_frozen BK205.out 2; have hfz36_3 := blk_frozen BK205.out 3; have hfz36_4 := blk_frozen BK205.out 4; have hfz36_5 := blk_frozen BK205.out 5; have hfz36_6 := blk_frozen BK205.out 6; have hfz36_7 := blk_frozen BK205.out 7; have hfz36_8 := blk_frozen BK205.out 8; have hfz36_9 := blk_frozen BK205.out 9; have hcz37_0 : w34.cell? ⟨gb206, 0, none⟩ = some (.int .i64 a1_0) := (blk_cell BK206.out 0).trans rfl; have hcz37_1 : w34.cell? ⟨gb206, 1, none⟩ = some (.string a1_1) := (blk_cell BK206.out 1).trans rfl; have hcz37_2 : w34.cell? ⟨gb206, 2, none⟩ = some (.string a1_2) := (blk_cell BK206.out 2).trans rfl; have hcz37_3 : w34.cell? ⟨gb206, 3, none⟩ = some (.int .i64 a1_3) := (blk_cell BK206.out 3).trans rfl; have hcz37_4 : w34.cell? ⟨gb206, 4, none⟩ = some (.int .i64 a1_4) := (blk_cell BK206.out 4).trans rfl; have hcz37_5 : w34.cell? ⟨gb206, 5, none⟩ = some (.int .i64 a1_5) := (blk_cell BK206.out 5).trans rfl; have hcz37_6 : w34.cell? ⟨gb206, 6, none⟩ = some (.int .i64 a1_6) := (blk_cell BK206.out 6).trans rfl; have hcz37_7 : w34.cell? ⟨gb206, 7, none⟩ = some (.string a1_7) := (blk_cell BK206.out 7).trans rfl; have hcz37_8 : w34.cell? ⟨gb206, 8, none⟩ = some (.string a1_8) := (blk_cell BK206.out 8).trans rfl; have hcz37_9 : w34.cell? ⟨gb206, 9, none⟩ = some (.string a1_9) := (blk_cell BK206.out 9).trans rfl; have hfz37_0 := blk_frozen BK206.out 0; have hfz37_1 := blk_frozen BK206.out 1; have hfz37_2 := blk_frozen BK206.out 2; have hfz37_3 := blk_frozen BK206.out 3; have hfz37_4 := blk_frozen BK206.out 4; have hfz37_5 := blk_frozen BK206.out 5; have hfz37_6 := blk_frozen BK206.out 6; have hfz37_7 := blk_frozen BK206.out 7; have hfz37_8 := blk_frozen BK206.out 8; have hfz37_9 := blk_frozen BK206.out 9))
                go_ret
                exact ⟨by first | rfl | (simp [errW_none, errW_some] <;> rfl) | (simp [*, errW_none, errW_some] <;> rfl) | (simp only [decide_eq_true_eq] at *; simp [*, bt]; done), by repeat (first | (with_reducible first | exact HB.out | apply below_alloc | apply pw_below_drewN | apply below_drew1 | refine below_set ?_ GE205.out | refine below_set ?_ GE206.out) | exact HB.out)⟩
            · rw [if_neg c8] at H
              have c8b0 : (a0_5 == a1_5) = false := beq_eq_false_iff_ne.mpr c8
              have c8b1 : (a0_5 != a1_5) = true := bne_iff_ne.mpr c8
              obtain rfl := Option.some.inj H
              go_enter Tryd.func37, Tryd.ntmps37
              go_wp2_with (first | ((with_reducible refine gate_dst (N := 2) rfl ?_); refine box_event ?hg (N := 2) ?hd (cs := #[.int .i64 a0_0, .string a0_1, .string a0_2, .int .i64 a0_3, .int .i64 a0_4, .int .i64 a0_5, .int .i64 a0_6, .string a0_7, .string a0_8, .string a0_9]) (t := 36) ?hr ?_; (case hd => rfl); (case hg => rfl); (case hr => first | (go_simp; done) | (go_simp; rfl)); intro gb205 hg w38 hbox hb; have n0_ := Aside0.mk (below_step (by repeat (first | (with_reducible first | exact HB.out | apply below_alloc | apply pw_below_drewN | apply below_drew1) | exact HB.out)) hb); have n1_ := Aside0.mk (hbox); have n2_ := Aside0.mk ((by rw [hg]; exact (below_size (by repeat (first | (with_reducible first | exact HB.out | apply below_alloc | apply pw_below_drewN | apply below_drew1) | exact HB.out))) : w.heap.size ≤ gb205)); have n3_ := Aside0.mk ((by rw [hg]; exact (below_size (by repeat (first | (with_reducible first | exact HB.out | apply below_alloc | apply pw_below_drewN | apply below_drew1) | exact HB.out))) : w.heap.size ≤ gb205)); clear HB; have HB := n0_; have BK205 := n1_; have GW205 := n2_; have GE205 := n3_; clear n0_ n1_ n2_ n3_; clear hb hbox hg) | ((with_reducible refine gate_dst (N := 3) rfl ?_); refine box_event ?hg (N := 3) ?hd (cs := #[.int .i64 a1_0, .string a1_1, .string a1_2, .int .i64 a1_3, .int .i64 a1_4, .int .i64 a1_5, .int .i64 a1_6, .string a1_7, .string a1_8, .string a1_9]) (t := 36) ?hr ?_; (case hd => rfl); (case hg => rfl); (case hr => first | (go_simp; done) | (go_simp; rfl)); intro gb206 hg w39 hbox hb; have n0_ := Aside0.mk (blk_below (g := gb205) (o := .cells #[.int .i64 a0_0, .string a0_1, .string a0_2, .int .i64 a0_3, .int .i64 a0_4, .int .i64 a0_5, .int .i64 a0_6, .string a0_7, .string a0_8, .string a0_9] 36 (0, 0)) (by (with_reducible repeat (first | refine blk_drewN ?_ _ | refine blk_drew ?_ | refine blk_alloc ?_ _)); exact BK205.out) hb); have n1_ := Aside0.mk (below_step (by repeat (first | (with_reducible first | exact HB.out | apply below_alloc | apply pw_below_drewN | apply below_drew1 | refine below_set ?_ GE205.out) | exact HB.out)) hb); have n2_ := Aside0.mk (hbox); have n3_ := Aside0.mk ((by rw [hg]; exact (below_size (by repeat (first | (with_reducible first | exact HB.out | apply below_alloc | apply pw_below_drewN | apply below_drew1 | refine below_set ?_ GE205.out) | exact HB.out))) : w.heap.size ≤ gb206)); have n4_ := Aside0.mk ((by rw [hg]; exact (below_size (by repeat (first | (with_reducible first | exact HB.out | apply below_alloc | apply pw_below_drewN | apply below_drew1 | refine below_set ?_ GE205.out) | exact HB.out))) : w.heap.size ≤ gb206)); have n5_ := Aside0.mk ((by rw [hg]; exact Nat.ne_of_lt (blk_lt (g := gb205) (o := .cells #[.int .i64 a0_0, .string a0_1, .string a0_2, .int .i64 a0_3, .int .i64 a0_4, .int .i64 a0_5, .int .i64 a0_6, .string a0_7, .string a0_8, .string a0_9] 36 (0, 0)) (by (with_reducible repeat (first | refine blk_drewN ?_ _ | refine blk_drew ?_ | refine blk_alloc ?_ _)); exact BK205.out)) : gb205 ≠ gb206)); have n6_ := Aside0.mk ((by rw [hg]; exact Nat.ne_of_gt (blk_lt (g := gb205) (o := .cells #[.int .i64 a0_0, .string a0_1, .string a0_2, .int .i64 a0_3, .int .i64 a0_4, .int .i64 a0_5, .int .i64 a0_6, .string a0_7, .string a0_8, .string a0_9] 36 (0, 0)) (by (with_reducible repeat (first | refine blk_drewN ?_ _ | refine blk_drew ?_ | refine blk_alloc ?_ _)); exact BK205.out)) : gb206 ≠ gb205)); clear BK205; clear HB; have BK205 := n0_; have HB := n1_; have BK206 := n2_; have GW206 := n3_; have GE206 := n4_; have NB205_206 := n5_; have NB206_205 := n6_; clear n0_ n1_ n2_ n3_ n4_ n5_ n6_; clear hb hbox hg; have hnb40 := NB205_206.out; have hnc40 := NB206_205.out; have hcz41_0 : w39.cell? ⟨gb205, 0, none⟩ = some (.int .i64 a0_0) := (blk_cell BK205.out 0).trans rfl; have hcz41_1 : w39.cell? ⟨gb205, 1, none⟩ = some (.string a0_1) := (blk_cell BK205.out 1).trans rfl; have hcz41_2 : w39.cell? ⟨gb205, 2, none⟩ = some (.string a0_2) := (blk_cell BK205.out 2).trans rfl; have hcz41_3 : w39.cell? ⟨gb205, 3, none⟩ = some (.int .i64 a0_3) := (blk_cell BK205.out 3).trans rfl; have hcz41_4 : w39.cell? ⟨gb205, 4, none⟩ = some (.int .i64 a0_4) := (blk_cell BK205.out 4).trans rfl; have hcz41_5 : w39.cell? ⟨gb205, 5, none⟩ = some (.int .i64 a0_5) := (blk_cell BK205.out 5).trans rfl; have hcz41_6 : w39.cell? ⟨gb205, 6, none⟩ = some (.int .i64 a0_6) := (blk_cell BK205.out 6).trans rfl; have hcz41_7 : w39.cell? ⟨gb205, 7, none⟩ = some (.string a0_7) := (blk_cell BK205.out 7).trans rfl; have hcz41_8 : w39.cell? ⟨gb205, 8, none⟩ = some (.string a0_8) := (blk_cell BK205.out 8).trans rfl; have hcz41_9 : w39.cell? ⟨gb205, 9, none⟩ = some (.string a0_9) := (blk_cell BK205.out 9).trans rfl; have hfz41_0 := blk_frozen BK205.out 0; have hfz41_1 := blk_frozen BK205.out 1; have hfz41_2 := blk_frozen BK205.out 2; have hfz41_3 := blk_frozen BK205.out 3; have hfz41_4 := blk_frozen BK205.out 4; have hfz41_5 := blk_frozen BK205.out 5; have hfz41_6 := blk_frozen BK205.out 6; have hfz41_7 := blk_frozen BK205.out 7; have hfz41_8 := blk_frozen BK205.out 8; have hfz41_9 := blk_frozen BK205.out 9; have hcz42_0 : w39.cell? ⟨gb206, 0, none⟩ = some (.int .i64 a1_0) := (blk_cell BK206.out 0).trans rfl; have hcz42_1 : w39.cell? ⟨gb206, 1, none⟩ = some (.string a1_1) := (blk_cell BK206.out 1).trans rfl; have hcz42_2 : w39.cell? ⟨gb206, 2, none⟩ = some (.string a1_2) := (blk_cell BK206.out 2).trans rfl; have hcz42_3 : w39.cell? ⟨gb206, 3, none⟩ = some (.int .i64 a1_3) := (blk_cell BK206.out 3).trans rfl; have hcz42_4 : w39.cell? ⟨gb206, 4, none⟩ = some (.int .i64 a1_4) := (blk_cell BK206.out 4).trans rfl; have hcz42_5 : w39.cell? ⟨gb206, 5, none⟩ = some (.int .i64 a1_5) := (blk_cell BK206.out 5).trans rfl; have hcz42_6 : w39.cell? ⟨gb206, 6, none⟩ = some (.int .i64 a1_6) := (blk_cell BK206.out 6).trans rfl; have hcz42_7 : w39.cell? ⟨gb206, 7, none⟩ = some (.string a1_7) := (blk_cell BK206.out 7).trans rfl; have hcz42_8 : w39.cell? ⟨gb206, 8, none⟩ = some (.string a1_8) := (blk_cell BK206.out 8).trans rfl; have hcz42_9 : w39.cell? ⟨gb206, 9, none⟩ = some (.string a1_9) := (blk_cell BK206.out 9).trans rfl; have hfz42_0 := blk_frozen BK206.out 0; have hfz42_1 := blk_frozen BK206.out 1; have hfz42_2 := blk_frozen BK206.out 2; have hfz42_3 := blk_frozen BK206.out 3; have hfz42_4 := blk_frozen BK206.out 4; have hfz42_5 := blk_frozen BK206.out 5; have hfz42_6 := blk_frozen BK206.out 6; have hfz42_7 := blk_frozen BK206.out 7; have hfz42_8 := blk_frozen BK206.out 8; have hfz42_9 := blk_frozen BK206.out 9))
              go_ret
              exact ⟨by first | rfl | (simp [errW_none, errW_some] <;> rfl) | (simp [*, errW_none, errW_some] <;> rfl) | (simp only [decide_eq_true_eq] at *; simp [*, bt]; done), by repeat (first | (with_reducible first | exact HB.out | apply below_alloc | apply pw_below_drewN | apply below_drew1 | refine below_set ?_ GE205.out | refine below_set ?_ GE206.out) | exact HB.out)⟩
          · rw [if_neg c7] at H
            have c7b0 : (a0_4 == a1_4) = false := beq_eq_false_iff_ne.mpr c7
            have c7b1 : (a0_4 != a1_4) = true := bne_iff_ne.mpr c7
            obtain rfl := Option.some.inj H
            go_enter Tryd.func37, Tryd.ntmps37
            go_wp2_with (first | ((with_reducible refine gate_dst (N := 2) rfl ?_); refine box_event ?hg (N := 2) ?hd (cs := #[.int .i64 a0_0, .string a0_1, .string a0_2, .int .i64 a0_3, .int .i64 a0_4, .int .i64 a0_5, .int .i64 a0_6, .string a0_7, .string a0_8, .string a0_9]) (t := 36) ?hr ?_; (case hd => rfl); (case hg => rfl); (case hr => first | (go_simp; done) | (go_simp; rfl)); intro gb205 hg w43 hbox hb; have n0_ := Aside0.mk (below_step (by repeat (first | (with_reducible first | exact HB.out | apply below_alloc | apply pw_below_drewN | apply below_drew1) | exact HB.out)) hb); have n1_ := Aside0.mk (hbox); have n2_ := Aside0.mk ((by rw [hg]; exact (below_size (by repeat (first | (with_reducible first | exact HB.out | apply below_alloc | apply pw_below_drewN | apply below_drew1) | exact HB.out))) : w.heap.size ≤ gb205)); have n3_ := Aside0.mk ((by rw [hg]; exact (below_size (by repeat (first | (with_reducible first | exact HB.out | apply below_alloc | apply pw_below_drewN | apply below_drew1) | exact HB.out))) : w.heap.size ≤ gb205)); clear HB; have HB := n0_; have BK205 := n1_; have GW205 := n2_; have GE205 := n3_; clear n0_ n1_ n2_ n3_; clear hb hbox hg) | ((with_reducible refine gate_dst (N := 3) rfl ?_); refine box_event ?hg (N := 3) ?hd (cs := #[.int .i64 a1_0, .string a1_1, .string a1_2, .int .i64 a1_3, .int .i64 a1_4, .int .i64 a1_5, .int .i64 a1_6, .string a1_7, .string a1_8, .string a1_9]) (t := 36) ?hr ?_; (case hd => rfl); (case hg => rfl); (case hr => first | (go_simp; done) | (go_simp; rfl)); intro gb206 hg w44 hbox hb; have n0_ := Aside0.mk (blk_below (g := gb205) (o := .cells #[.int .i64 a0_0, .string a0_1, .string a0_2, .int .i64 a0_3, .int .i64 a0_4, .int .i64 a0_5, .int .i64 a0_6, .string a0_7, .string a0_8, .string a0_9] 36 (0, 0)) (by (with_reducible repeat (first | refine blk_drewN ?_ _ | refine blk_drew ?_ | refine blk_alloc ?_ _)); exact BK205.out) hb); have n1_ := Aside0.mk (below_step (by repeat (first | (with_reducible first | exact HB.out | apply below_alloc | apply pw_below_drewN | apply below_drew1 | refine below_set ?_ GE205.out) | exact HB.out)) hb); have n2_ := Aside0.mk (hbox); have n3_ := Aside0.mk ((by rw [hg]; exact (below_size (by repeat (first | (with_reducible first | exact HB.out | apply below_alloc | apply pw_below_drewN | apply below_drew1 | refine below_set ?_ GE205.out) | exact HB.out))) : w.heap.size ≤ gb206)); have n4_ := Aside0.mk ((by rw [hg]; exact (below_size (by repeat (first | (with_reducible first | exact HB.out | apply below_alloc | apply pw_below_drewN | apply below_drew1 | refine below_set ?_ GE205.out) | exact HB.out))) : w.heap.size ≤ gb206)); have n5_ := Aside0.mk ((by rw [hg]; exact Nat.ne_of_lt (blk_lt (g := gb205) (o := .cells #[.int .i64 a0_0, .string a0_1, .string a0_2, .int .i64 a0_3, .int .i64 a0_4, .int .i64 a0_5, .int .i64 a0_6, .string a0_7, .string a0_8, .string a0_9] 36 (0, 0)) (by (with_reducible repeat (first | refine blk_drewN ?_ _ | refine blk_drew ?_ | refine blk_alloc ?_ _)); exact BK205.out)) : gb205 ≠ gb206)); have n6_ := Aside0.mk ((by rw [hg]; exact Nat.ne_of_gt (blk_lt (g := gb205) (o := .cells #[.int .i64 a0_0, .string a0_1, .string a0_2, .int .i64 a0_3, .int .i64 a0_4, .int .i64 a0_5, .int .i64 a0_6, .string a0_7, .string a0_8, .string a0_9] 36 (0, 0)) (by (with_reducible repeat (first | refine blk_drewN ?_ _ | refine blk_drew ?_ | refine blk_alloc ?_ _)); exact BK205.out)) : gb206 ≠ gb205)); clear BK205; clear HB; have BK205 := n0_; have HB := n1_; have BK206 := n2_; have GW206 := n3_; have GE206 := n4_; have NB205_206 := n5_; have NB206_205 := n6_; clear n0_ n1_ n2_ n3_ n4_ n5_ n6_; clear hb hbox hg; have hnb45 := NB205_206.out; have hnc45 := NB206_205.out; have hcz46_0 : w44.cell? ⟨gb205, 0, none⟩ = some (.int .i64 a0_0) := (blk_cell BK205.out 0).trans rfl; have hcz46_1 : w44.cell? ⟨gb205, 1, none⟩ = some (.string a0_1) := (blk_cell BK205.out 1).trans rfl; have hcz46_2 : w44.cell? ⟨gb205, 2, none⟩ = some (.string a0_2) := (blk_cell BK205.out 2).trans rfl; have hcz46_3 : w44.cell? ⟨gb205, 3, none⟩ = some (.int .i64 a0_3) := (blk_cell BK205.out 3).trans rfl; have hcz46_4 : w44.cell? ⟨gb205, 4, none⟩ = some (.int .i64 a0_4) := (blk_cell BK205.out 4).trans rfl; have hcz46_5 : w44.cell? ⟨gb205, 5, none⟩ = some (.int .i64 a0_5) := (blk_cell BK205.out 5).trans rfl; have hcz46_6 : w44.cell? ⟨gb205, 6, none⟩ = some (.int .i64 a0_6) := (blk_cell BK205.out 6).trans rfl; have hcz46_7 : w44.cell? ⟨gb205, 7, none⟩ = some (.string a0_7) := (blk_cell BK205.out 7).trans rfl; have hcz46_8 : w44.cell? ⟨gb205, 8, none⟩ = some (.string a0_8) := (blk_cell BK205.out 8).trans rfl; have hcz46_9 : w44.cell? ⟨gb205, 9, none⟩ = some (.string a0_9) := (blk_cell BK205.out 9).trans rfl; have hfz46_0 := blk_frozen BK205.out 0; have hfz46_1 := blk_frozen BK205.out 1; have hfz46_2 := blk_frozen BK205.out 2; have hfz46_3 := blk_frozen BK205.out 3; have hfz46_4 := blk_frozen BK205.out 4; have hfz46_5 := blk_frozen BK205.out 5; have hfz46_6 := blk_frozen BK205.out 6; have hfz46_7 := blk_frozen BK205.out 7; have hfz46_8 := blk_frozen BK205.out 8; have hfz46_9 := blk_frozen BK205.out 9; have hcz47_0 : w44.cell? ⟨gb206, 0, none⟩ = some (.int .i64 a1_0) := (blk_cell BK206.out 0).trans rfl; have hcz47_1 : w44.cell? ⟨gb206, 1, none⟩ = some (.string a1_1) := (blk_cell BK206.out 1).trans rfl; have hcz47_2 : w44.cell? ⟨gb206, 2, none⟩ = some (.string a1_2) := (blk_cell BK206.out 2).trans rfl; have hcz47_3 : w44.cell? ⟨gb206, 3, none⟩ = some (.int .i64 a1_3) := (blk_cell BK206.out 3).trans rfl; have hcz47_4 : w44.cell? ⟨gb206, 4, none⟩ = some (.int .i64 a1_4) := (blk_cell BK206.out 4).trans rfl; have hcz47_5 : w44.cell? ⟨gb206, 5, none⟩ = some (.int .i64 a1_5) := (blk_cell BK206.out 5).trans rfl; have hcz47_6 : w44.cell? ⟨gb206, 6, none⟩ = some (.int .i64 a1_6) := (blk_cell BK206.out 6).trans rfl; have hcz47_7 : w44.cell? ⟨gb206, 7, none⟩ = some (.string a1_7) := (blk_cell BK206.out 7).trans rfl; have hcz47_8 : w44.cell? ⟨gb206, 8, none⟩ = some (.string a1_8) := (blk_cell BK206.out 8).trans rfl; have hcz47_9 : w44.cell? ⟨gb206, 9, none⟩ = some (.string a1_9) := (blk_cell BK206.out 9).trans rfl; have hfz47_0 := blk_frozen BK206.out 0; have hfz47_1 := blk_frozen BK206.out 1; have hfz47_2 := blk_frozen BK206.out 2; have hfz47_3 := blk_frozen BK206.out 3; have hfz47_4 := blk_frozen BK206.out 4; have hfz47_5 := blk_frozen BK206.out 5; have hfz47_6 := blk_frozen BK206.out 6; have hfz47_7 := blk_frozen BK206.out 7; have hfz47_8 := blk_frozen BK206.out 8; have hfz47_9 := blk_frozen BK206.out 9))
            go_ret
            exact ⟨by first | rfl | (simp [errW_none, errW_some] <;> rfl) | (simp [*, errW_none, errW_some] <;> rfl) | (simp only [decide_eq_true_eq] at *; simp [*, bt]; done), by repeat (first | (with_reducible first | exact HB.out | apply below_alloc | apply pw_below_drewN | apply below_drew1 | refine below_set ?_ GE205.out | refine below_set ?_ GE206.out) | exact HB.out)⟩
        · rw [if_neg c6] at H
          have c6b0 : (a0_3 == a1_3) = false := beq_eq_false_iff_ne.mpr c6
          have c6b1 : (a0_3 != a1_3) = true := bne_iff_ne.mpr c6
          obtain rfl := Option.some.inj H
          go_enter Tryd.func37, Tryd.ntmps37
          go_wp2_with (first | ((with_reducible refine gate_dst (N := 2) rfl ?_); refine box_event ?hg (N := 2) ?hd (cs := #[.int .i64 a0_0, .string a0_1, .string a0_2, .int .i64 a0_3, .int .i64 a0_4, .int .i64 a0_5, .int .i64 a0_6, .string a0_7, .string a0_8, .string a0_9]) (t := 36) ?hr ?_; (case hd => rfl); (case hg => rfl); (case hr => first | (go_simp; done) | (go_simp; rfl)); intro gb205 hg w48 hbox hb; have n0_ := Aside0.mk (below_step (by repeat (first | (with_reducible first | exact HB.out | apply below_alloc | apply pw_below_drewN | apply below_drew1) | exact HB.out)) hb); have n1_ := Aside0.mk (hbox); have n2_ := Aside0.mk ((by rw [hg]; exact (below_size (by repeat (first | (with_reducible first | exact HB.out | apply below_alloc | apply pw_below_drewN | apply below_drew1) | exact HB.out))) : w.heap.size ≤ gb205)); have n3_ := Aside0.mk ((by rw [hg]; exact (below_size (by repeat (first | (with_reducible first | exact HB.out | apply below_alloc | apply pw_below_drewN | apply below_drew1) | exact HB.out))) : w.heap.size ≤ gb205)); clear HB; have HB := n0_; have BK205 := n1_; have GW205 := n2_; have GE205 := n3_; clear n0_ n1_ n2_ n3_; clear hb hbox hg) | ((with_reducible refine gate_dst (N := 3) rfl ?_); refine box_event ?hg (N := 3) ?hd (cs := #[.int .i64 a1_0, .string a1_1, .string a1_2, .int .i64 a1_3, .int .i64 a1_4, .int .i64 a1_5, .int .i64 a1_6, .string a1_7, .string a1_8, .string a1_9]) (t := 36) ?hr ?_; (case hd => rfl); (case hg => rfl); (case hr => first | (go_simp; done) | (go_simp; rfl)); intro gb206 hg w49 hbox hb; have n0_ := Aside0.mk (blk_below (g := gb205) (o := .cells #[.int .i64 a0_0, .string a0_1, .string a0_2, .int .i64 a0_3, .int .i64 a0_4, .int .i64 a0_5, .int .i64 a0_6, .string a0_7, .string a0_8, .string a0_9] 36 (0, 0)) (by (with_reducible repeat (first | refine blk_drewN ?_ _ | refine blk_drew ?_ | refine blk_alloc ?_ _)); exact BK205.out) hb); have n1_ := Aside0.mk (below_step (by repeat (first | (with_reducible first | exact HB.out | apply below_alloc | apply pw_below_drewN | apply below_drew1 | refine below_set ?_ GE205.out) | exact HB.out)) hb); have n2_ := Aside0.mk (hbox); have n3_ := Aside0.mk ((by rw [hg]; exact (below_size (by repeat (first | (with_reducible first | exact HB.out | apply below_alloc | apply pw_below_drewN | apply below_drew1 | refine below_set ?_ GE205.out) | exact HB.out))) : w.heap.size ≤ gb206)); have n4_ := Aside0.mk ((by rw [hg]; exact (below_size (by repeat (first | (with_reducible first | exact HB.out | apply below_alloc | apply pw_below_drewN | apply below_drew1 | refine below_set ?_ GE205.out) | exact HB.out))) : w.heap.size ≤ gb206)); have n5_ := Aside0.mk ((by rw [hg]; exact Nat.ne_of_lt (blk_lt (g := gb205) (o := .cells #[.int .i64 a0_0, .string a0_1, .string a0_2, .int .i64 a0_3, .int .i64 a0_4, .int .i64 a0_5, .int .i64 a0_6, .string a0_7, .string a0_8, .string a0_9] 36 (0, 0)) (by (with_reducible repeat (first | refine blk_drewN ?_ _ | refine blk_drew ?_ | refine blk_alloc ?_ _)); exact BK205.out)) : gb205 ≠ gb206)); have n6_ := Aside0.mk ((by rw [hg]; exact Nat.ne_of_gt (blk_lt (g := gb205) (o := .cells #[.int .i64 a0_0, .string a0_1, .string a0_2, .int .i64 a0_3, .int .i64 a0_4, .int .i64 a0_5, .int .i64 a0_6, .string a0_7, .string a0_8, .string a0_9] 36 (0, 0)) (by (with_reducible repeat (first | refine blk_drewN ?_ _ | refine blk_drew ?_ | refine blk_alloc ?_ _)); exact BK205.out)) : gb206 ≠ gb205)); clear BK205; clear HB; have BK205 := n0_; have HB := n1_; have BK206 := n2_; have GW206 := n3_; have GE206 := n4_; have NB205_206 := n5_; have NB206_205 := n6_; clear n0_ n1_ n2_ n3_ n4_ n5_ n6_; clear hb hbox hg; have hnb50 := NB205_206.out; have hnc50 := NB206_205.out; have hcz51_0 : w49.cell? ⟨gb205, 0, none⟩ = some (.int .i64 a0_0) := (blk_cell BK205.out 0).trans rfl; have hcz51_1 : w49.cell? ⟨gb205, 1, none⟩ = some (.string a0_1) := (blk_cell BK205.out 1).trans rfl; have hcz51_2 : w49.cell? ⟨gb205, 2, none⟩ = some (.string a0_2) := (blk_cell BK205.out 2).trans rfl; have hcz51_3 : w49.cell? ⟨gb205, 3, none⟩ = some (.int .i64 a0_3) := (blk_cell BK205.out 3).trans rfl; have hcz51_4 : w49.cell? ⟨gb205, 4, none⟩ = some (.int .i64 a0_4) := (blk_cell BK205.out 4).trans rfl; have hcz51_5 : w49.cell? ⟨gb205, 5, none⟩ = some (.int .i64 a0_5) := (blk_cell BK205.out 5).trans rfl; have hcz51_6 : w49.cell? ⟨gb205, 6, none⟩ = some (.int .i64 a0_6) := (blk_cell BK205.out 6).trans rfl; have hcz51_7 : w49.cell? ⟨gb205, 7, none⟩ = some (.string a0_7) := (blk_cell BK205.out 7).trans rfl; have hcz51_8 : w49.cell? ⟨gb205, 8, none⟩ = some (.string a0_8) := (blk_cell BK205.out 8).trans rfl; have hcz51_9 : w49.cell? ⟨gb205, 9, none⟩ = some (.string a0_9) := (blk_cell BK205.out 9).trans rfl; have hfz51_0 := blk_frozen BK205.out 0; have hfz51_1 := blk_frozen BK205.out 1; have hfz51_2 := blk_frozen BK205.out 2; have hfz51_3 := blk_frozen BK205.out 3; have hfz51_4 := blk_frozen BK205.out 4; have hfz51_5 := blk_frozen BK205.out 5; have hfz51_6 := blk_frozen BK205.out 6; have hfz51_7 := blk_frozen BK205.out 7; have hfz51_8 := blk_frozen BK205.out 8; have hfz51_9 := blk_frozen BK205.out 9; have hcz52_0 : w49.cell? ⟨gb206, 0, none⟩ = some (.int .i64 a1_0) := (blk_cell BK206.out 0).trans rfl; have hcz52_1 : w49.cell? ⟨gb206, 1, none⟩ = some (.string a1_1) := (blk_cell BK206.out 1).trans rfl; have hcz52_2 : w49.cell? ⟨gb206, 2, none⟩ = some (.string a1_2) := (blk_cell BK206.out 2).trans rfl; have hcz52_3 : w49.cell? ⟨gb206, 3, none⟩ = some (.int .i64 a1_3) := (blk_cell BK206.out 3).trans rfl; have hcz52_4 : w49.cell? ⟨gb206, 4, none⟩ = some (.int .i64 a1_4) := (blk_cell BK206.out 4).trans rfl; have hcz52_5 : w49.cell? ⟨gb206, 5, none⟩ = some (.int .i64 a1_5) := (blk_cell BK206.out 5).trans rfl; have hcz52_6 : w49.cell? ⟨gb206, 6, none⟩ = some (.int .i64 a1_6) := (blk_cell BK206.out 6).trans rfl; have hcz52_7 : w49.cell? ⟨gb206, 7, none⟩ = some (.string a1_7) := (blk_cell BK206.out 7).trans rfl; have hcz52_8 : w49.cell? ⟨gb206, 8, none⟩ = some (.string a1_8) := (blk_cell BK206.out 8).trans rfl; have hcz52_9 : w49.cell? ⟨gb206, 9, none⟩ = some (.string a1_9) := (blk_cell BK206.out 9).trans rfl; have hfz52_0 := blk_frozen BK206.out 0; have hfz52_1 := blk_frozen BK206.out 1; have hfz52_2 := blk_frozen BK206.out 2; have hfz52_3 := blk_frozen BK206.out 3; have hfz52_4 := blk_frozen BK206.out 4; have hfz52_5 := blk_frozen BK206.out 5; have hfz52_6 := blk_frozen BK206.out 6; have hfz52_7 := blk_frozen BK206.out 7; have hfz52_8 := blk_frozen BK206.out 8; have hfz52_9 := blk_frozen BK206.out 9))
          go_ret
          exact ⟨by first | rfl | (simp [errW_none, errW_some] <;> rfl) | (simp [*, errW_none, errW_some] <;> rfl) | (simp only [decide_eq_true_eq] at *; simp [*, bt]; done), by repeat (first | (with_reducible first | exact HB.out | apply below_alloc | apply pw_below_drewN | apply below_drew1 | refine below_set ?_ GE205.out | refine below_set ?_ GE206.out) | exact HB.out)⟩
      · rw [if_neg c5] at H
        have c5b0 : (a0_2.toList == a1_2.toList) = false := beq_eq_false_iff_ne.mpr c5
        have c5b1 : (a0_2.toList != a1_2.toList) = true := bne_iff_ne.mpr c5
        obtain rfl := Option.some.inj H
        go_enter Tryd.func37, Tryd.ntmps37
        go_wp2_with (first | ((with_reducible refine gate_dst (N := 2) rfl ?_); refine box_event ?hg (N := 2) ?hd (cs := #[.int .i64 a0_0, .string a0_1, .string a0_2, .int .i64 a0_3, .int .i64 a0_4, .int .i64 a0_5, .int .i64 a0_6, .string a0_7, .string a0_8, .string a0_9]) (t := 36) ?hr ?_; (case hd => rfl); (case hg => rfl); (case hr => first | (go_simp; done) | (go_simp; rfl)); intro gb205 hg w53 hbox hb; have n0_ := Aside0.mk (below_step (by repeat (first | (with_reducible first | exact HB.out | apply below_alloc | apply pw_below_drewN | apply below_drew1) | exact HB.out)) hb); have n1_ := Aside0.mk (hbox); have n2_ := Aside0.mk ((by rw [hg]; exact (below_size (by repeat (first | (with_reducible first | exact HB.out | apply below_alloc | apply pw_below_drewN | apply below_drew1) | exact HB.out))) : w.heap.size ≤ gb205)); have n3_ := Aside0.mk ((by rw [hg]; exact (below_size (by repeat (first | (with_reducible first | exact HB.out | apply below_alloc | apply pw_below_drewN | apply below_drew1) | exact HB.out))) : w.heap.size ≤ gb205)); clear HB; have HB := n0_; have BK205 := n1_; have GW205 := n2_; have GE205 := n3_; clear n0_ n1_ n2_ n3_; clear hb hbox hg) | ((with_reducible refine gate_dst (N := 3) rfl ?_); refine box_event ?hg (N := 3) ?hd (cs := #[.int .i64 a1_0, .string a1_1, .string a1_2, .int .i64 a1_3, .int .i64 a1_4, .int .i64 a1_5, .int .i64 a1_6, .string a1_7, .string a1_8, .string a1_9]) (t := 36) ?hr ?_; (case hd => rfl); (case hg => rfl); (case hr => first | (go_simp; done) | (go_simp; rfl)); intro gb206 hg w54 hbox hb; have n0_ := Aside0.mk (blk_below (g := gb205) (o := .cells #[.int .i64 a0_0, .string a0_1, .string a0_2, .int .i64 a0_3, .int .i64 a0_4, .int .i64 a0_5, .int .i64 a0_6, .string a0_7, .string a0_8, .string a0_9] 36 (0, 0)) (by (with_reducible repeat (first | refine blk_drewN ?_ _ | refine blk_drew ?_ | refine blk_alloc ?_ _)); exact BK205.out) hb); have n1_ := Aside0.mk (below_step (by repeat (first | (with_reducible first | exact HB.out | apply below_alloc | apply pw_below_drewN | apply below_drew1 | refine below_set ?_ GE205.out) | exact HB.out)) hb); have n2_ := Aside0.mk (hbox); have n3_ := Aside0.mk ((by rw [hg]; exact (below_size (by repeat (first | (with_reducible first | exact HB.out | apply below_alloc | apply pw_below_drewN | apply below_drew1 | refine below_set ?_ GE205.out) | exact HB.out))) : w.heap.size ≤ gb206)); have n4_ := Aside0.mk ((by rw [hg]; exact (below_size (by repeat (first | (with_reducible first | exact HB.out | apply below_alloc | apply pw_below_drewN | apply below_drew1 | refine below_set ?_ GE205.out) | exact HB.out))) : w.heap.size ≤ gb206)); have n5_ := Aside0.mk ((by rw [hg]; exact Nat.ne_of_lt (blk_lt (g := gb205) (o := .cells #[.int .i64 a0_0, .string a0_1, .string a0_2, .int .i64 a0_3, .int .i64 a0_4, .int .i64 a0_5, .int .i64 a0_6, .string a0_7, .string a0_8, .string a0_9] 36 (0, 0)) (by (with_reducible repeat (first | refine blk_drewN ?_ _ | refine blk_drew ?_ | refine blk_alloc ?_ _)); exact BK205.out)) : gb205 ≠ gb206)); have n6_ := Aside0.mk ((by rw [hg]; exact Nat.ne_of_gt (blk_lt (g := gb205) (o := .cells #[.int .i64 a0_0, .string a0_1, .string a0_2, .int .i64 a0_3, .int .i64 a0_4, .int .i64 a0_5, .int .i64 a0_6, .string a0_7, .string a0_8, .string a0_9] 36 (0, 0)) (by (with_reducible repeat (first | refine blk_drewN ?_ _ | refine blk_drew ?_ | refine blk_alloc ?_ _)); exact BK205.out)) : gb206 ≠ gb205)); clear BK205; clear HB; have BK205 := n0_; have HB := n1_; have BK206 := n2_; have GW206 := n3_; have GE206 := n4_; have NB205_206 := n5_; have NB206_205 := n6_; clear n0_ n1_ n2_ n3_ n4_ n5_ n6_; clear hb hbox hg; have hnb55 := NB205_206.out; have hnc55 := NB206_205.out; have hcz56_0 : w54.cell? ⟨gb205, 0, none⟩ = some (.int .i64 a0_0) := (blk_cell BK205.out 0).trans rfl; have hcz56_1 : w54.cell? ⟨gb205, 1, none⟩ = some (.string a0_1) := (blk_cell BK205.out 1).trans rfl; have hcz56_2 : w54.cell? ⟨gb205, 2, none⟩ = some (.string a0_2) := (blk_cell BK205.out 2).trans rfl; have hcz56_3 : w54.cell? ⟨gb205, 3, none⟩ = some (.int .i64 a0_3) := (blk_cell BK205.out 3).trans rfl; have hcz56_4 : w54.cell? ⟨gb205, 4, none⟩ = some (.int .i64 a0_4) := (blk_cell BK205.out 4).trans rfl; have hcz56_5 : w54.cell? ⟨gb205, 5, none⟩ = some (.int .i64 a0_5) := (blk_cell BK205.out 5).trans rfl; have hcz56_6 : w54.cell? ⟨gb205, 6, none⟩ = some (.int .i64 a0_6) := (blk_cell BK205.out 6).trans rfl; have hcz56_7 : w54.cell? ⟨gb205, 7, none⟩ = some (.string a0_7) := (blk_cell BK205.out 7).trans rfl; have hcz56_8 : w54.cell? ⟨gb205, 8, none⟩ = some (.string a0_8) := (blk_cell BK205.out 8).trans rfl; have hcz56_9 : w54.cell? ⟨gb205, 9, none⟩ = some (.string a0_9) := (blk_cell BK205.out 9).trans rfl; have hfz56_0 := blk_frozen BK205.out 0; have hfz56_1 := blk_frozen BK205.out 1; have hfz56_2 := blk_frozen BK205.out 2; have hfz56_3 := blk_frozen BK205.out 3; have hfz56_4 := blk_frozen BK205.out 4; have hfz56_5 := blk_frozen BK205.out 5; have hfz56_6 := blk_frozen BK205.out 6; have hfz56_7 := blk_frozen BK205.out 7; have hfz56_8 := blk_frozen BK205.out 8; have hfz56_9 := blk_frozen BK205.out 9; have hcz57_0 : w54.cell? ⟨gb206, 0, none⟩ = some (.int .i64 a1_0) := (blk_cell BK206.out 0).trans rfl; have hcz57_1 : w54.cell? ⟨gb206, 1, none⟩ = some (.string a1_1) := (blk_cell BK206.out 1).trans rfl; have hcz57_2 : w54.cell? ⟨gb206, 2, none⟩ = some (.string a1_2) := (blk_cell BK206.out 2).trans rfl; have hcz57_3 : w54.cell? ⟨gb206, 3, none⟩ = some (.int .i64 a1_3) := (blk_cell BK206.out 3).trans rfl; have hcz57_4 : w54.cell? ⟨gb206, 4, none⟩ = some (.int .i64 a1_4) := (blk_cell BK206.out 4).trans rfl; have hcz57_5 : w54.cell? ⟨gb206, 5, none⟩ = some (.int .i64 a1_5) := (blk_cell BK206.out 5).trans rfl; have hcz57_6 : w54.cell? ⟨gb206, 6, none⟩ = some (.int .i64 a1_6) := (blk_cell BK206.out 6).trans rfl; have hcz57_7 : w54.cell? ⟨gb206, 7, none⟩ = some (.string a1_7) := (blk_cell BK206.out 7).trans rfl; have hcz57_8 : w54.cell? ⟨gb206, 8, none⟩ = some (.string a1_8) := (blk_cell BK206.out 8).trans rfl; have hcz57_9 : w54.cell? ⟨gb206, 9, none⟩ = some (.string a1_9) := (blk_cell BK206.out 9).trans rfl; have hfz57_0 := blk_frozen BK206.out 0; have hfz57_1 := blk_frozen BK206.out 1; have hfz57_2 := blk_frozen BK206.out 2; have hfz57_3 := blk_frozen BK206.out 3; have hfz57_4 := blk_frozen BK206.out 4; have hfz57_5 := blk_frozen BK206.out 5; have hfz57_6 := blk_frozen BK206.out 6; have hfz57_7 := blk_frozen BK206.out 7; have hfz57_8 := blk_frozen BK206.out 8; have hfz57_9 := blk_frozen BK206.out 9))
        go_ret
        exact ⟨by first | rfl | (simp [errW_none, errW_some] <;> rfl) | (simp [*, errW_none, errW_some] <;> rfl) | (simp only [decide_eq_true_eq] at *; simp [*, bt]; done), by repeat (first | (with_reducible first | exact HB.out | apply below_alloc | apply pw_below_drewN | apply below_drew1 | refine below_set ?_ GE205.out | refine below_set ?_ GE206.out) | exact HB.out)⟩
    · rw [if_neg c4] at H
      have c4b0 : (a0_1.toList == a1_1.toList) = false := beq_eq_false_iff_ne.mpr c4
      have c4b1 : (a0_1.toList != a1_1.toList) = true := bne_iff_ne.mpr c4
      obtain rfl := Option.some.inj H
      go_enter Tryd.func37, Tryd.ntmps37
      go_wp2_with (first | ((with_reducible refine gate_dst (N := 2) rfl ?_); refine box_event ?hg (N := 2) ?hd (cs := #[.int .i64 a0_0, .string a0_1, .string a0_2, .int .i64 a0_3, .int .i64 a0_4, .int .i64 a0_5, .int .i64 a0_6, .string a0_7, .string a0_8, .string a0_9]) (t := 36) ?hr ?_; (case hd => rfl); (case hg => rfl); (case hr => first | (go_simp; done) | (go_simp; rfl)); intro gb205 hg w58 hbox hb; have n0_ := Aside0.mk (below_step (by repeat (first | (with_reducible first | exact HB.out | apply below_alloc | apply pw_below_drewN | apply below_drew1) | exact HB.out)) hb); have n1_ := Aside0.mk (hbox); have n2_ := Aside0.mk ((by rw [hg]; exact (below_size (by repeat (first | (with_reducible first | exact HB.out | apply below_alloc | apply pw_below_drewN | apply below_drew1) | exact HB.out))) : w.heap.size ≤ gb205)); have n3_ := Aside0.mk ((by rw [hg]; exact (below_size (by repeat (first | (with_reducible first | exact HB.out | apply below_alloc | apply pw_below_drewN | apply below_drew1) | exact HB.out))) : w.heap.size ≤ gb205)); clear HB; have HB := n0_; have BK205 := n1_; have GW205 := n2_; have GE205 := n3_; clear n0_ n1_ n2_ n3_; clear hb hbox hg) | ((with_reducible refine gate_dst (N := 3) rfl ?_); refine box_event ?hg (N := 3) ?hd (cs := #[.int .i64 a1_0, .string a1_1, .string a1_2, .int .i64 a1_3, .int .i64 a1_4, .int .i64 a1_5, .int .i64 a1_6, .string a1_7, .string a1_8, .string a1_9]) (t := 36) ?hr ?_; (case hd => rfl); (case hg => rfl); (case hr => first | (go_simp; done) | (go_simp; rfl)); intro gb206 hg w59 hbox hb; have n0_ := Aside0.mk (blk_below (g := gb205) (o := .cells #[.int .i64 a0_0, .string a0_1, .string a0_2, .int .i64 a0_3, .int .i64 a0_4, .int .i64 a0_5, .int .i64 a0_6, .string a0_7, .string a0_8, .string a0_9] 36 (0, 0)) (by (with_reducible repeat (first | refine blk_drewN ?_ _ | refine blk_drew ?_ | refine blk_alloc ?_ _)); exact BK205.out) hb); have n1_ := Aside0.mk (below_step (by repeat (first | (with_reducible first | exact HB.out | apply below_alloc | apply pw_below_drewN | apply below_drew1 | refine below_set ?_ GE205.out) | exact HB.out)) hb); have n2_ := Aside0.mk (hbox); have n3_ := Aside0.mk ((by rw [hg]; exact (below_size (by repeat (first | (with_reducible first | exact HB.out | apply below_alloc | apply pw_below_drewN | apply below_drew1 | refine below_set ?_ GE205.out) | exact HB.out))) : w.heap.size ≤ gb206)); have n4_ := Aside0.mk ((by rw [hg]; exact (below_size (by repeat (first | (with_reducible first | exact HB.out | apply below_alloc | apply pw_below_drewN | apply below_drew1 | refine below_set ?_ GE205.out) | exact HB.out))) : w.heap.size ≤ gb206)); have n5_ := Aside0.mk ((by rw [hg]; exact Nat.ne_of_lt (blk_lt (g := gb205) (o := .cells #[.int .i64 a0_0, .string a0_1, .string a0_2, .int .i64 a0_3, .int .i64 a0_4, .int .i64 a0_5, .int .i64 a0_6, .string a0_7, .string a0_8, .string a0_9] 36 (0, 0)) (by (with_reducible repeat (first | refine blk_drewN ?_ _ | refine blk_drew ?_ | refine blk_alloc ?_ _)); exact BK205.out)) : gb205 ≠ gb206)); have n6_ := Aside0.mk ((by rw [hg]; exact Nat.ne_of_gt (blk_lt (g := gb205) (o := .cells #[.int .i64 a0_0, .string a0_1, .string a0_2, .int .i64 a0_3, .int .i64 a0_4, .int .i64 a0_5, .int .i64 a0_6, .string a0_7, .string a0_8, .string a0_9] 36 (0, 0)) (by (with_reducible repeat (first | refine blk_drewN ?_ _ | refine blk_drew ?_ | refine blk_alloc ?_ _)); exact BK205.out)) : gb206 ≠ gb205)); clear BK205; clear HB; have BK205 := n0_; have HB := n1_; have BK206 := n2_; have GW206 := n3_; have GE206 := n4_; have NB205_206 := n5_; have NB206_205 := n6_; clear n0_ n1_ n2_ n3_ n4_ n5_ n6_; clear hb hbox hg; have hnb60 := NB205_206.out; have hnc60 := NB206_205.out; have hcz61_0 : w59.cell? ⟨gb205, 0, none⟩ = some (.int .i64 a0_0) := (blk_cell BK205.out 0).trans rfl; have hcz61_1 : w59.cell? ⟨gb205, 1, none⟩ = some (.string a0_1) := (blk_cell BK205.out 1).trans rfl; have hcz61_2 : w59.cell? ⟨gb205, 2, none⟩ = some (.string a0_2) := (blk_cell BK205.out 2).trans rfl; have hcz61_3 : w59.cell? ⟨gb205, 3, none⟩ = some (.int .i64 a0_3) := (blk_cell BK205.out 3).trans rfl; have hcz61_4 : w59.cell? ⟨gb205, 4, none⟩ = some (.int .i64 a0_4) := (blk_cell BK205.out 4).trans rfl; have hcz61_5 : w59.cell? ⟨gb205, 5, none⟩ = some (.int .i64 a0_5) := (blk_cell BK205.out 5).trans rfl; have hcz61_6 : w59.cell? ⟨gb205, 6, none⟩ = some (.int .i64 a0_6) := (blk_cell BK205.out 6).trans rfl; have hcz61_7 : w59.cell? ⟨gb205, 7, none⟩ = some (.string a0_7) := (blk_cell BK205.out 7).trans rfl; have hcz61_8 : w59.cell? ⟨gb205, 8, none⟩ = some (.string a0_8) := (blk_cell BK205.out 8).trans rfl; have hcz61_9 : w59.cell? ⟨gb205, 9, none⟩ = some (.string a0_9) := (blk_cell BK205.out 9).trans rfl; have hfz61_0 := blk_frozen BK205.out 0; have hfz61_1 := blk_frozen BK205.out 1; have hfz61_2 := blk_frozen BK205.out 2; have hfz61_3 := blk_frozen BK205.out 3; have hfz61_4 := blk_frozen BK205.out 4; have hfz61_5 := blk_frozen BK205.out 5; have hfz61_6 := blk_frozen BK205.out 6; have hfz61_7 := blk_frozen BK205.out 7; have hfz61_8 := blk_frozen BK205.out 8; have hfz61_9 := blk_frozen BK205.out 9; have hcz62_0 : w59.cell? ⟨gb206, 0, none⟩ = some (.int .i64 a1_0) := (blk_cell BK206.out 0).trans rfl; have hcz62_1 : w59.cell? ⟨gb206, 1, none⟩ = some (.string a1_1) := (blk_cell BK206.out 1).trans rfl; have hcz62_2 : w59.cell? ⟨gb206, 2, none⟩ = some (.string a1_2) := (blk_cell BK206.out 2).trans rfl; have hcz62_3 : w59.cell? ⟨gb206, 3, none⟩ = some (.int .i64 a1_3) := (blk_cell BK206.out 3).trans rfl; have hcz62_4 : w59.cell? ⟨gb206, 4, none⟩ = some (.int .i64 a1_4) := (blk_cell BK206.out 4).trans rfl; have hcz62_5 : w59.cell? ⟨gb206, 5, none⟩ = some (.int .i64 a1_5) := (blk_cell BK206.out 5).trans rfl; have hcz62_6 : w59.cell? ⟨gb206, 6, none⟩ = some (.int .i64 a1_6) := (blk_cell BK206.out 6).trans rfl; have hcz62_7 : w59.cell? ⟨gb206, 7, none⟩ = some (.string a1_7) := (blk_cell BK206.out 7).trans rfl; have hcz62_8 : w59.cell? ⟨gb206, 8, none⟩ = some (.string a1_8) := (blk_cell BK206.out 8).trans rfl; have hcz62_9 : w59.cell? ⟨gb206, 9, none⟩ = some (.string a1_9) := (blk_cell BK206.out 9).trans rfl; have hfz62_0 := blk_frozen BK206.out 0; have hfz62_1 := blk_frozen BK206.out 1; have hfz62_2 := blk_frozen BK206.out 2; have hfz62_3 := blk_frozen BK206.out 3; have hfz62_4 := blk_frozen BK206.out 4; have hfz62_5 := blk_frozen BK206.out 5; have hfz62_6 := blk_frozen BK206.out 6; have hfz62_7 := blk_frozen BK206.out 7; have hfz62_8 := blk_frozen BK206.out 8; have hfz62_9 := blk_frozen BK206.out 9))
      go_ret
      exact ⟨by first | rfl | (simp [errW_none, errW_some] <;> rfl) | (simp [*, errW_none, errW_some] <;> rfl) | (simp only [decide_eq_true_eq] at *; simp [*, bt]; done), by repeat (first | (with_reducible first | exact HB.out | apply below_alloc | apply pw_below_drewN | apply below_drew1 | refine below_set ?_ GE205.out | refine below_set ?_ GE206.out) | exact HB.out)⟩
  · rw [if_neg c3] at H
    have c3b0 : (a0_0 == a1_0) = false := beq_eq_false_iff_ne.mpr c3
    have c3b1 : (a0_0 != a1_0) = true := bne_iff_ne.mpr c3
    obtain rfl := Option.some.inj H
    go_enter Tryd.func37, Tryd.ntmps37
    go_wp2_with (first | ((with_reducible refine gate_dst (N := 2) rfl ?_); refine box_event ?hg (N := 2) ?hd (cs := #[.int .i64 a0_0, .string a0_1, .string a0_2, .int .i64 a0_3, .int .i64 a0_4, .int .i64 a0_5, .int .i64 a0_6, .string a0_7, .string a0_8, .string a0_9]) (t := 36) ?hr ?_; (case hd => rfl); (case hg => rfl); (case hr => first | (go_simp; done) | (go_simp; rfl)); intro gb205 hg w63 hbox hb; have n0_ := Aside0.mk (below_step (by repeat (first | (with_reducible first | exact HB.out | apply below_alloc | apply pw_below_drewN | apply below_drew1) | exact HB.out)) hb); have n1_ := Aside0.mk (hbox); have n2_ := Aside0.mk ((by rw [hg]; exact (below_size (by repeat (first | (with_reducible first | exact HB.out | apply below_alloc | apply pw_below_drewN | apply below_drew1) | exact HB.out))) : w.heap.size ≤ gb205)); have n3_ := Aside0.mk ((by rw [hg]; exact (below_size (by repeat (first | (with_reducible first | exact HB.out | apply below_alloc | apply pw_below_drewN | apply below_drew1) | exact HB.out))) : w.heap.size ≤ gb205)); clear HB; have HB := n0_; have BK205 := n1_; have GW205 := n2_; have GE205 := n3_; clear n0_ n1_ n2_ n3_; clear hb hbox hg) | ((with_reducible refine gate_dst (N := 3) rfl ?_); refine box_event ?hg (N := 3) ?hd (cs := #[.int .i64 a1_0, .string a1_1, .string a1_2, .int .i64 a1_3, .int .i64 a1_4, .int .i64 a1_5, .int .i64 a1_6, .string a1_7, .string a1_8, .string a1_9]) (t := 36) ?hr ?_; (case hd => rfl); (case hg => rfl); (case hr => first | (go_simp; done) | (go_simp; rfl)); intro gb206 hg w64 hbox hb; have n0_ := Aside0.mk (blk_below (g := gb205) (o := .cells #[.int .i64 a0_0, .string a0_1, .string a0_2, .int .i64 a0_3, .int .i64 a0_4, .int .i64 a0_5, .int .i64 a0_6, .string a0_7, .string a0_8, .string a0_9] 36 (0, 0)) (by (with_reducible repeat (first | refine blk_drewN ?_ _ | refine blk_drew ?_ | refine blk_alloc ?_ _)); exact BK205.out) hb); have n1_ := Aside0.mk (below_step (by repeat (first | (with_reducible first | exact HB.out | apply below_alloc | apply pw_below_drewN | apply below_drew1 | refine below_set ?_ GE205.out) | exact HB.out)) hb); have n2_ := Aside0.mk (hbox); have n3_ := Aside0.mk ((by rw [hg]; exact (below_size (by repeat (first | (with_reducible first | exact HB.out | apply below_alloc | apply pw_below_drewN | apply below_drew1 | refine below_set ?_ GE205.out) | exact HB.out))) : w.heap.size ≤ gb206)); have n4_ := Aside0.mk ((by rw [hg]; exact (below_size (by repeat (first | (with_reducible first | exact HB.out | apply below_alloc | apply pw_below_drewN | apply below_drew1 | refine below_set ?_ GE205.out) | exact HB.out))) : w.heap.size ≤ gb206)); have n5_ := Aside0.mk ((by rw [hg]; exact Nat.ne_of_lt (blk_lt (g := gb205) (o := .cells #[.int .i64 a0_0, .string a0_1, .string a0_2, .int .i64 a0_3, .int .i64 a0_4, .int .i64 a0_5, .int .i64 a0_6, .string a0_7, .string a0_8, .string a0_9] 36 (0, 0)) (by (with_reducible repeat (first | refine blk_drewN ?_ _ | refine blk_drew ?_ | refine blk_alloc ?_ _)); exact BK205.out)) : gb205 ≠ gb206)); have n6_ := Aside0.mk ((by rw [hg]; exact Nat.ne_of_gt (blk_lt (g := gb205) (o := .cells #[.int .i64 a0_0, .string a0_1, .string a0_2, .int .i64 a0_3, .int .i64 a0_4, .int .i64 a0_5, .int .i64 a0_6, .string a0_7, .string a0_8, .string a0_9] 36 (0, 0)) (by (with_reducible repeat (first | refine blk_drewN ?_ _ | refine blk_drew ?_ | refine blk_alloc ?_ _)); exact BK205.out)) : gb206 ≠ gb205)); clear BK205; clear HB; have BK205 := n0_; have HB := n1_; have BK206 := n2_; have GW206 := n3_; have GE206 := n4_; have NB205_206 := n5_; have NB206_205 := n6_; clear n0_ n1_ n2_ n3_ n4_ n5_ n6_; clear hb hbox hg; have hnb65 := NB205_206.out; have hnc65 := NB206_205.out; have hcz66_0 : w64.cell? ⟨gb205, 0, none⟩ = some (.int .i64 a0_0) := (blk_cell BK205.out 0).trans rfl; have hcz66_1 : w64.cell? ⟨gb205, 1, none⟩ = some (.string a0_1) := (blk_cell BK205.out 1).trans rfl; have hcz66_2 : w64.cell? ⟨gb205, 2, none⟩ = some (.string a0_2) := (blk_cell BK205.out 2).trans rfl; have hcz66_3 : w64.cell? ⟨gb205, 3, none⟩ = some (.int .i64 a0_3) := (blk_cell BK205.out 3).trans rfl; have hcz66_4 : w64.cell? ⟨gb205, 4, none⟩ = some (.int .i64 a0_4) := (blk_cell BK205.out 4).trans rfl; have hcz66_5 : w64.cell? ⟨gb205, 5, none⟩ = some (.int .i64 a0_5) := (blk_cell BK205.out 5).trans rfl; have hcz66_6 : w64.cell? ⟨gb205, 6, none⟩ = some (.int .i64 a0_6) := (blk_cell BK205.out 6).trans rfl; have hcz66_7 : w64.cell? ⟨gb205, 7, none⟩ = some (.string a0_7) := (blk_cell BK205.out 7).trans rfl; have hcz66_8 : w64.cell? ⟨gb205, 8, none⟩ = some (.string a0_8) := (blk_cell BK205.out 8).trans rfl; have hcz66_9 : w64.cell? ⟨gb205, 9, none⟩ = some (.string a0_9) := (blk_cell BK205.out 9).trans rfl; have hfz66_0 := blk_frozen BK205.out 0; have hfz66_1 := blk_frozen BK205.out 1; have hfz66_2 := blk_frozen BK205.out 2; have hfz66_3 := blk_frozen BK205.out 3; have hfz66_4 := blk_frozen BK205.out 4; have hfz66_5 := blk_frozen BK205.out 5; have hfz66_6 := blk_frozen BK205.out 6; have hfz66_7 := blk_frozen BK205.out 7; have hfz66_8 := blk_frozen BK205.out 8; have hfz66_9 := blk_frozen BK205.out 9; have hcz67_0 : w64.cell? ⟨gb206, 0, none⟩ = some (.int .i64 a1_0) := (blk_cell BK206.out 0).trans rfl; have hcz67_1 : w64.cell? ⟨gb206, 1, none⟩ = some (.string a1_1) := (blk_cell BK206.out 1).trans rfl; have hcz67_2 : w64.cell? ⟨gb206, 2, none⟩ = some (.string a1_2) := (blk_cell BK206.out 2).trans rfl; have hcz67_3 : w64.cell? ⟨gb206, 3, none⟩ = some (.int .i64 a1_3) := (blk_cell BK206.out 3).trans rfl; have hcz67_4 : w64.cell? ⟨gb206, 4, none⟩ = some (.int .i64 a1_4) := (blk_cell BK206.out 4).trans rfl; have hcz67_5 : w64.cell? ⟨gb206, 5, none⟩ = some (.int .i64 a1_5) := (blk_cell BK206.out 5).trans rfl; have hcz67_6 : w64.cell? ⟨gb206, 6, none⟩ = some (.int .i64 a1_6) := (blk_cell BK206.out 6).trans rfl; have hcz67_7 : w64.cell? ⟨gb206, 7, none⟩ = some (.string a1_7) := (blk_cell BK206.out 7).trans rfl; have hcz67_8 : w64.cell? ⟨gb206, 8, none⟩ = some (.string a1_8) := (blk_cell BK206.out 8).trans rfl; have hcz67_9 : w64.cell? ⟨gb206, 9, none⟩ = some (.string a1_9) := (blk_cell BK206.out 9).trans rfl; have hfz67_0 := blk_frozen BK206.out 0; have hfz67_1 := blk_frozen BK206.out 1; have hfz67_2 := blk_frozen BK206.out 2; have hfz67_3 := blk_frozen BK206.out 3; have hfz67_4 := blk_frozen BK206.out 4; have hfz67_5 := blk_frozen BK206.out 5; have hfz67_6 := blk_frozen BK206.out 6; have hfz67_7 := blk_frozen BK206.out 7; have hfz67_8 := blk_frozen BK206.out 8; have hfz67_9 := blk_frozen BK206.out 9))
    go_ret
    exact ⟨by first | rfl | (simp [errW_none, errW_some] <;> rfl) | (simp [*, errW_none, errW_some] <;> rfl) | (simp only [decide_eq_true_eq] at *; simp [*, bt]; done), by repeat (first | (with_reducible first | exact HB.out | apply below_alloc | apply pw_below_drewN | apply below_drew1 | refine below_set ?_ GE205.out | refine below_set ?_ GE206.out) | exact HB.out)⟩

/-! ### laws_eqEntryS: function 14 -/
def laws_eqEntryS.l0 : Nat → List (S36) → List (S36) → Int → Option (Bool)
  | 0, _, _, _ => none
  | k + 1, x0, x1, x5 => if x5 < (x0.length : Int) then (if 0 ≤ x5 then (if x5 < (x1.length : Int) then ((laws_eqEntry.f ((rd_T36 x0 x5).f0) ((rd_T36 x0 x5).f1) ((rd_T36 x0 x5).f2) ((rd_T36 x0 x5).f3) ((rd_T36 x0 x5).f4) ((rd_T36 x0 x5).f5) ((rd_T36 x0 x5).f6) ((rd_T36 x0 x5).f7) ((rd_T36 x0 x5).f8) ((rd_T36 x0 x5).f9) ((rd_T36 x1 x5).f0) ((rd_T36 x1 x5).f1) ((rd_T36 x1 x5).f2) ((rd_T36 x1 x5).f3) ((rd_T36 x1 x5).f4) ((rd_T36 x1 x5).f5) ((rd_T36 x1 x5).f6) ((rd_T36 x1 x5).f7) ((rd_T36 x1 x5).f8) ((rd_T36 x1 x5).f9)).bind fun t209 => (if t209 = true then (laws_eqEntryS.l0 k x0 x1 (wrap64 (x5 + 1))) else (some false))) else (none)) else (none)) else (some true)
def laws_eqEntryS.f (k : Nat) (l0 : List (S36)) (l1 : List (S36)) : Option (Bool) := if (l0.length : Int) = (l1.length : Int) then (laws_eqEntryS.l0 k l0 l1 0) else (some false)
theorem laws_eqEntryS.mono_l : ∀ k, (∀ y0 y1 y2, LeO (laws_eqEntryS.l0 k y0 y1 y2) (laws_eqEntryS.l0 (k + 1) y0 y1 y2))
  | 0 => fun _ _ _ r h => by simp [laws_eqEntryS.l0] at h
  | k + 1 => by
    have ih0 := laws_eqEntryS.mono_l k
    · intro y0 y1 y2
      unfold laws_eqEntryS.l0
      repeat' first
      | (with_reducible exact ih0 _ _ _)
      | (with_reducible exact LeO.refl _)
      | (with_reducible exact LeO.none _)
      | (with_reducible refine LeO.ite ?_ ?_)
      | (with_reducible refine LeO.bind ?_ (fun _ => ?_))
      | exact ih0 _ _ _
      | exact LeO.none _
      | refine LeO.ite ?_ ?_
      | refine LeO.bind ?_ (fun _ => ?_)
theorem laws_eqEntryS.mono : ∀ a0 a1 k, LeO (laws_eqEntryS.f k a0 a1) (laws_eqEntryS.f (k + 1) a0 a1) := by
  intro a0 a1 k
  have ih0 := laws_eqEntryS.mono_l k
  unfold laws_eqEntryS.f
  repeat' first
      | (with_reducible exact ih0 _ _ _)
      | (with_reducible exact LeO.refl _)
      | (with_reducible exact LeO.none _)
      | (with_reducible refine LeO.ite ?_ ?_)
      | (with_reducible refine LeO.bind ?_ (fun _ => ?_))
      | exact ih0 _ _ _
      | exact LeO.none _
      | refine LeO.ite ?_ ?_
      | refine LeO.bind ?_ (fun _ => ?_)
def laws_eqEntryS.T6 : Bool × List (List Nat × List Nat) := (true, [([], []), ([], []), ([0, 1], [0, 1]), ([2], [2]), ([], []), ([], []), ([4, 5], [4, 5]), ([6], [6]), ([3, 7], [3, 7]), ([8], [8])])
def laws_eqEntryS.B6 : List Nat := [0, 0, 3, 7, 0, 0, 48, 112, 255, 511]
theorem laws_eqEntryS.tab6 : rtab .any (opsOf Tryd.f14 6) = laws_eqEntryS.T6 := by kernel_rfl
theorem laws_eqEntryS.bits6 : waitsOk laws_eqEntryS.T6.2 laws_eqEntryS.B6 = true := by kernel_rfl
set_option maxHeartbeats 8000000 in
set_option maxRecDepth 100000 in
theorem laws_eqEntryS.calls (k : Nat) (A0 : Option Addr) (c0 : Nat) (l0 : List (S36)) (A1 : Option Addr) (c1 : Nat) (l1 : List (S36)) (r : Bool) (w : World) (hr0 : Kd.C k36 w A0 l0.length l0) (hc0 : l0.length ≤ c0) (hr1 : Kd.C k36 w A1 l1.length l1) (hc1 : l1.length ≤ c1) (h : laws_eqEntryS.f k l0 l1 = some r) :
    Calls Tryd.prog 14 #[.slice A0 l0.length c0, .slice A1 l1.length c1] w fun e w' => e = .returned (.bool r) ∧ Below w.heap.size w w' := by
  have hu36 := Tryd.underlying36
  have HR0 := Aside0.mk hr0
  have HC0 := Aside0.mk hc0
  clear hr0 hc0
  have HR1 := Aside0.mk hr1
  have HC1 := Aside0.mk hc1
  clear hr1 hc1
  have HB := Aside0.mk (Below.refl w.heap.size w)
  have H : (if (l0.length : Int) = (l1.length : Int) then (laws_eqEntryS.l0 k l0 l1 0) else (some false)) = some r := h
  clear h
  by_cases c3 : (l0.length : Int) = (l1.length : Int)
  · rw [if_pos c3] at H
    have c3b0 : ((l0.length : Int) == (l1.length : Int)) = true := beq_iff_eq.mpr c3
    have c3b1 : ((l0.length : Int) != (l1.length : Int)) = false := bne_eq_false_iff_eq.mpr c3
    have c3b2 : (l0.length == l1.length) = true := by first | simpa using c3 | (simp at c3 ⊢; omega)
    clear c3
    have H' := Aside0.mk H
    clear H
    go_enter Tryd.func14, Tryd.ntmps14
    go_wp2
    go_loopg [5] k (fun kq v5 w' => ∃ (x5_1 : Int), v5 = .int .i64 x5_1 ∧ Aside0 (laws_eqEntryS.l0 kq l0 l1 x5_1 = some r) ∧ Aside0 (kq ≤ k) ∧ Aside0 (Below w.heap.size w w'))
    case atStart => exact ⟨(0), (by first | rfl | (simp; done) | (simp [*]; done)), H', ⟨Nat.le_refl _⟩, ⟨by repeat (first | (with_reducible first | exact HB.out | apply below_alloc | apply pw_below_drewN | apply below_drew1) | exact HB.out)⟩⟩
    case round =>
      clear H'
      try clear c1
      try clear p2
      try clear c3
      try clear c3b0
      try clear c3b1
      try clear c3b2
      obtain ⟨x5_1, rfl, HA, HK1, HB⟩ := hrel
      cases gk with
      | zero => exact absurd HA.out (by simp [laws_eqEntryS.l0])
      | succ k1 =>
        have H := HA.out
        clear HA
        simp only [laws_eqEntryS.l0] at H
        by_cases c4 : x5_1 < (l0.length : Int)
        · rw [if_pos c4] at H
          have c4b0 : decide (x5_1 < (l0.length : Int)) = true := decide_eq_true c4
          clear c4
          by_cases c5 : 0 ≤ x5_1
          · rw [if_pos c5] at H
            have c5b0 : decide (0 ≤ x5_1) = true := decide_eq_true c5
            clear c5
            by_cases c6 : x5_1 < (l1.length : Int)
            · rw [if_pos c6] at H
              have c6b0 : decide (x5_1 < (l1.length : Int)) = true := decide_eq_true c6
              clear c6
              replace H := Option.bind_eq_some_iff.mp H
              obtain ⟨t209, A70, H⟩ := H
              replace H : (if t209 = true then (laws_eqEntryS.l0 k1 l0 l1 (wrap64 (x5_1 + 1))) else (some false)) = some r := H
              have A7 := Aside0.mk A70
              clear A70
              by_cases c8 : t209 = true
              · subst c8
                have H1 : (laws_eqEntryS.l0 k1 l0 l1 (wrap64 (x5_1 + 1))) = some r := by rw [if_pos rfl] at H; exact H
                clear H
                have H := H1
                clear H1
                have H' := Aside0.mk H
                clear H
                try go_wp2
                have n0_ := Aside0.mk (below_drew1 HB.out)
                clear HB
                have HB := n0_
                clear n0_
                have p207 : 0 ≤ (x5_1 : Int) := of_decide_eq_true (by assumption)
                have q207 : x5_1 < (l0.length : Int) := of_decide_eq_true (by assumption)
                obtain ⟨ad207, e207, hx207_0, hx207_1, hx207_2, hx207_3, hx207_4, hx207_5, hx207_6, hx207_7, hx207_8, hx207_9⟩ := at_T36 HR0.out x5_1 p207 q207
                have hw207_9 := hx207_9
                have hw207_8 := hx207_8
                have hw207_7 := hx207_7
                have hw207_6 := hx207_6
                have hw207_5 := hx207_5
                have hw207_4 := hx207_4
                have hw207_3 := hx207_3
                have hw207_2 := hx207_2
                have hw207_1 := hx207_1
                have hw207_0 := hx207_0
                cases e207
                replace hx207_0 := (HB.out.cell (World.block_lt_of_cell? w _ hx207_0)).trans hx207_0
                replace hx207_1 := (HB.out.cell (World.block_lt_of_cell? w _ hx207_1)).trans hx207_1
                replace hx207_2 := (HB.out.cell (World.block_lt_of_cell? w _ hx207_2)).trans hx207_2
                replace hx207_3 := (HB.out.cell (World.block_lt_of_cell? w _ hx207_3)).trans hx207_3
                replace hx207_4 := (HB.out.cell (World.block_lt_of_cell? w _ hx207_4)).trans hx207_4
                replace hx207_5 := (HB.out.cell (World.block_lt_of_cell? w _ hx207_5)).trans hx207_5
                replace hx207_6 := (HB.out.cell (World.block_lt_of_cell? w _ hx207_6)).trans hx207_6
                replace hx207_7 := (HB.out.cell (World.block_lt_of_cell? w _ hx207_7)).trans hx207_7
                replace hx207_8 := (HB.out.cell (World.block_lt_of_cell? w _ hx207_8)).trans hx207_8
                replace hx207_9 := (HB.out.cell (World.block_lt_of_cell? w _ hx207_9)).trans hx207_9
                replace p207 := eq_true p207
                replace q207 := eq_true q207
                have p208 : 0 ≤ (x5_1 : Int) := of_decide_eq_true (by assumption)
                have q208 : x5_1 < (l1.length : Int) := of_decide_eq_true (by assumption)
                obtain ⟨ad208, e208, hx208_0, hx208_1, hx208_2, hx208_3, hx208_4, hx208_5, hx208_6, hx208_7, hx208_8, hx208_9⟩ := at_T36 HR1.out x5_1 p208 q208
                have hw208_9 := hx208_9
                have hw208_8 := hx208_8
                have hw208_7 := hx208_7
                have hw208_6 := hx208_6
                have hw208_5 := hx208_5
                have hw208_4 := hx208_4
                have hw208_3 := hx208_3
                have hw208_2 := hx208_2
                have hw208_1 := hx208_1
                have hw208_0 := hx208_0
                cases e208
                replace hx208_0 := (HB.out.cell (World.block_lt_of_cell? w _ hx208_0)).trans hx208_0
                replace hx208_1 := (HB.out.cell (World.block_lt_of_cell? w _ hx208_1)).trans hx208_1
                replace hx208_2 := (HB.out.cell (World.block_lt_of_cell? w _ hx208_2)).trans hx208_2
                replace hx208_3 := (HB.out.cell (World.block_lt_of_cell? w _ hx208_3)).trans hx208_3
                replace hx208_4 := (HB.out.cell (World.block_lt_of_cell? w _ hx208_4)).trans hx208_4
                replace hx208_5 := (HB.out.cell (World.block_lt_of_cell? w _ hx208_5)).trans hx208_5
                replace hx208_6 := (HB.out.cell (World.block_lt_of_cell? w _ hx208_6)).trans hx208_6
                replace hx208_7 := (HB.out.cell (World.block_lt_of_cell? w _ hx208_7)).trans hx208_7
                replace hx208_8 := (HB.out.cell (World.block_lt_of_cell? w _ hx208_8)).trans hx208_8
                replace hx208_9 := (HB.out.cell (World.block_lt_of_cell? w _ hx208_9)).trans hx208_9
                replace p208 := eq_true p208
                replace q208 := eq_true q208
                refine start_ (n := 10) (S := fun w' => w'.cell? (ad207.add ((x5_1).toNat * 10)) = some (.int .i64 ((rd_T36 l0 x5_1).f0)) ∧ w'.cell? ⟨(ad207.add ((x5_1).toNat * 10)).block, (ad207.add ((x5_1).toNat * 10)).off + 1, none⟩ = some (.string ((rd_T36 l0 x5_1).f1)) ∧ w'.cell? ⟨(ad207.add ((x5_1).toNat * 10)).block, (ad207.add ((x5_1).toNat * 10)).off + 2, none⟩ = some (.string ((rd_T36 l0 x5_1).f2)) ∧ w'.cell? ⟨(ad207.add ((x5_1).toNat * 10)).block, (ad207.add ((x5_1).toNat * 10)).off + 3, none⟩ = some (.int .i64 ((rd_T36 l0 x5_1).f3)) ∧ w'.cell? ⟨(ad207.add ((x5_1).toNat * 10)).block, (ad207.add ((x5_1).toNat * 10)).off + 4, none⟩ = some (.int .i64 ((rd_T36 l0 x5_1).f4)) ∧ w'.cell? ⟨(ad207.add ((x5_1).toNat * 10)).block, (ad207.add ((x5_1).toNat * 10)).off + 5, none⟩ = some (.int .i64 ((rd_T36 l0 x5_1).f5)) ∧ w'.cell? ⟨(ad207.add ((x5_1).toNat * 10)).block, (ad207.add ((x5_1).toNat * 10)).off + 6, none⟩ = some (.int .i64 ((rd_T36 l0 x5_1).f6)) ∧ w'.cell? ⟨(ad207.add ((x5_1).toNat * 10)).block, (ad207.add ((x5_1).toNat * 10)).off + 7, none⟩ = some (.string ((rd_T36 l0 x5_1).f7)) ∧ w'.cell? ⟨(ad207.add ((x5_1).toNat * 10)).block, (ad207.add ((x5_1).toNat * 10)).off + 8, none⟩ = some (.string ((rd_T36 l0 x5_1).f8)) ∧ w'.cell? ⟨(ad207.add ((x5_1).toNat * 10)).block, (ad207.add ((x5_1).toNat * 10)).off + 9, none⟩ = some (.string ((rd_T36 l0 x5_1).f9)) ∧ w'.cell? (ad208.add ((x5_1).toNat * 10)) = some (.int .i64 ((rd_T36 l1 x5_1).f0)) ∧ w'.cell? ⟨(ad208.add ((x5_1).toNat * 10)).block, (ad208.add ((x5_1).toNat * 10)).off + 1, none⟩ = some (.string ((rd_T36 l1 x5_1).f1)) ∧ w'.cell? ⟨(ad208.add ((x5_1).toNat * 10)).block, (ad208.add ((x5_1).toNat * 10)).off + 2, none⟩ = some (.string ((rd_T36 l1 x5_1).f2)) ∧ w'.cell? ⟨(ad208.add ((x5_1).toNat * 10)).block, (ad208.add ((x5_1).toNat * 10)).off + 3, none⟩ = some (.int .i64 ((rd_T36 l1 x5_1).f3)) ∧ w'.cell? ⟨(ad208.add ((x5_1).toNat * 10)).block, (ad208.add ((x5_1).toNat * 10)).off + 4, none⟩ = some (.int .i64 ((rd_T36 l1 x5_1).f4)) ∧ w'.cell? ⟨(ad208.add ((x5_1).toNat * 10)).block, (ad208.add ((x5_1).toNat * 10)).off + 5, none⟩ = some (.int .i64 ((rd_T36 l1 x5_1).f5)) ∧ w'.cell? ⟨(ad208.add ((x5_1).toNat * 10)).block, (ad208.add ((x5_1).toNat * 10)).off + 6, none⟩ = some (.int .i64 ((rd_T36 l1 x5_1).f6)) ∧ w'.cell? ⟨(ad208.add ((x5_1).toNat * 10)).block, (ad208.add ((x5_1).toNat * 10)).off + 7, none⟩ = some (.string ((rd_T36 l1 x5_1).f7)) ∧ w'.cell? ⟨(ad208.add ((x5_1).toNat * 10)).block, (ad208.add ((x5_1).toNat * 10)).off + 8, none⟩ = some (.string ((rd_T36 l1 x5_1).f8)) ∧ w'.cell? ⟨(ad208.add ((x5_1).toNat * 10)).block, (ad208.add ((x5_1).toNat * 10)).off + 9, none⟩ = some (.string ((rd_T36 l1 x5_1).f9))) (ds := []) #[false, false, false, false, false, false, false, false, false, false] (by kernel_rfl) rfl rfl ⟨((HB.out.cell (World.block_lt_of_cell? w _ hw207_0)).trans hw207_0), ((HB.out.cell (World.block_lt_of_cell? w _ hw207_1)).trans hw207_1), ((HB.out.cell (World.block_lt_of_cell? w _ hw207_2)).trans hw207_2), ((HB.out.cell (World.block_lt_of_cell? w _ hw207_3)).trans hw207_3), ((HB.out.cell (World.block_lt_of_cell? w _ hw207_4)).trans hw207_4), ((HB.out.cell (World.block_lt_of_cell? w _ hw207_5)).trans hw207_5), ((HB.out.cell (World.block_lt_of_cell? w _ hw207_6)).trans hw207_6), ((HB.out.cell (World.block_lt_of_cell? w _ hw207_7)).trans hw207_7), ((HB.out.cell (World.block_lt_of_cell? w _ hw207_8)).trans hw207_8), ((HB.out.cell (World.block_lt_of_cell? w _ hw207_9)).trans hw207_9), ((HB.out.cell (World.block_lt_of_cell? w _ hw208_0)).trans hw208_0), ((HB.out.cell (World.block_lt_of_cell? w _ hw208_1)).trans hw208_1), ((HB.out.cell (World.block_lt_of_cell? w _ hw208_2)).trans hw208_2), ((HB.out.cell (World.block_lt_of_cell? w _ hw208_3)).trans hw208_3), ((HB.out.cell (World.block_lt_of_cell? w _ hw208_4)).trans hw208_4), ((HB.out.cell (World.block_lt_of_cell? w _ hw208_5)).trans hw208_5), ((HB.out.cell (World.block_lt_of_cell? w _ hw208_6)).trans hw208_6), ((HB.out.cell (World.block_lt_of_cell? w _ hw208_7)).trans hw208_7), ((HB.out.cell (World.block_lt_of_cell? w _ hw208_8)).trans hw208_8), ((HB.out.cell (World.block_lt_of_cell? w _ hw208_9)).trans hw208_9)⟩ (fun hHeld => ?_); refine with_tabW laws_eqEntryS.tab6 laws_eqEntryS.bits6 (fun HT_ HW_ => ?_)
                generalize wr.drew = w9 at HB hx207_0 hx207_1 hx207_2 hx207_3 hx207_4 hx207_5 hx207_6 hx207_7 hx207_8 hx207_9 hx208_0 hx208_1 hx208_2 hx208_3 hx208_4 hx208_5 hx208_6 hx208_7 hx208_8 hx208_9 hHeld ⊢
                refine pure_ (i := 0) (N := some 17) (v := ?_) (a' := ?_) #[true, false, false, false, false, false, false, false, false, false] rfl rfl (any_of HT_.out (by kernel_rfl)) (fun _ _ _ h => h) (Or.inl ⟨by rfl, ?_⟩) ?_ ?_
                rotate_left
                · intro w'
                  go_simp
                  with_reducible rfl
                rotate_left
                · simp only [Act.put, List.setIfInBounds_toArray, List.set_cons_zero, List.set_cons_succ, i64_w, i32_w]
                  rfl
                refine pure_ (i := 1) (N := some 18) (v := ?_) (a' := ?_) #[true, true, false, false, false, false, false, false, false, false] rfl rfl (any_of HT_.out (by kernel_rfl)) (fun _ _ _ h => h) (Or.inl ⟨by rfl, ?_⟩) ?_ ?_
                rotate_left
                · intro w'
                  go_simp
                  with_reducible rfl
                rotate_left
                · simp only [Act.put, List.setIfInBounds_toArray, List.set_cons_zero, List.set_cons_succ, i64_w, i32_w]
                  rfl
                refine pure_ (i := 2) (N := some 19) (v := ?_) (a' := ?_) #[true, true, true, false, false, false, false, false, false, false] rfl rfl (any_of HT_.out (by kernel_rfl)) (fun _ _ _ h => h) (Or.inl ⟨by rfl, ?_⟩) ?_ ?_
                rotate_left
                · intro w'
                  go_simp
                  with_reducible rfl
                rotate_left
                · simp only [Act.put, List.setIfInBounds_toArray, List.set_cons_zero, List.set_cons_succ, i64_w, i32_w]
                  rfl
                refine pure_ (i := 4) (N := some 21) (v := ?_) (a' := ?_) #[true, true, true, false, true, false, false, false, false, false] rfl rfl (any_of HT_.out (by kernel_rfl)) (fun _ _ _ h => h) (Or.inl ⟨by rfl, ?_⟩) ?_ ?_
                rotate_left
                · intro w'
                  go_simp
                  with_reducible rfl
                rotate_left
                · simp only [Act.put, List.setIfInBounds_toArray, List.set_cons_zero, List.set_cons_succ, i64_w, i32_w]
                  rfl
                refine pure_ (i := 5) (N := some 22) (v := ?_) (a' := ?_) #[true, true, true, false, true, true, false, false, false, false] rfl rfl (any_of HT_.out (by kernel_rfl)) (fun _ _ _ h => h) (Or.inl ⟨by rfl, ?_⟩) ?_ ?_
                rotate_left
                · intro w'
                  go_simp
                  with_reducible rfl
                rotate_left
                · simp only [Act.put, List.setIfInBounds_toArray, List.set_cons_zero, List.set_cons_succ, i64_w, i32_w]
                  rfl
                refine pure_ (i := 6) (N := some 23) (v := ?_) (a' := ?_) #[true, true, true, false, true, true, true, false, false, false] rfl rfl (any_of HT_.out (by kernel_rfl)) (fun _ _ _ h => h) (Or.inl ⟨by rfl, ?_⟩) ?_ ?_
                rotate_left
                · intro w'
                  go_simp
                  with_reducible rfl
                rotate_left
                · simp only [Act.put, List.setIfInBounds_toArray, List.set_cons_zero, List.set_cons_succ, i64_w, i32_w]
                  rfl
                refine take_ (i := 3) (N := some 20) (v := ?_) (a' := ?_) #[true, true, true, true, true, true, true, false, false, false] rfl rfl (take_ofW HT_.out HW_.out (by kernel_rfl)) (fun _ _ _ h => h) (Or.inl ⟨by rfl, ?_⟩) hHeld ?_ ?_
                rotate_left
                · rintro w' ⟨s0, s1, s2, s3, s4, s5, s6, s7, s8, s9, s10, s11, s12, s13, s14, s15, s16, s17, s18, s19⟩
                  go_simp
                  with_reducible rfl
                rotate_left
                · simp only [Act.put, List.setIfInBounds_toArray, List.set_cons_zero, List.set_cons_succ, i64_w, i32_w]
                  rfl
                refine take_ (i := 7) (N := some 24) (v := ?_) (a' := ?_) #[true, true, true, true, true, true, true, true, false, false] rfl rfl (take_ofW HT_.out HW_.out (by kernel_rfl)) (fun _ _ _ h => h) (Or.inl ⟨by rfl, ?_⟩) hHeld ?_ ?_
                rotate_left
                · rintro w' ⟨s0, s1, s2, s3, s4, s5, s6, s7, s8, s9, s10, s11, s12, s13, s14, s15, s16, s17, s18, s19⟩
                  go_simp
                  with_reducible rfl
                rotate_left
                · simp only [Act.put, List.setIfInBounds_toArray, List.set_cons_zero, List.set_cons_succ, i64_w, i32_w]
                  rfl
                refine one_ (i := 8) (N := some 25) #[true, true, true, true, true, true, true, true, true, false] rfl rfl (one_of HT_.out (by kernel_rfl)) (by decide) (fun K hK => ?_)
                refine goes_ Tryd.func37 (by kernel_rfl) rfl #[.agg #[.int .i64 ((rd_T36 l0 x5_1).f0), .string ((rd_T36 l0 x5_1).f1), .string ((rd_T36 l0 x5_1).f2), .int .i64 ((rd_T36 l0 x5_1).f3), .int .i64 ((rd_T36 l0 x5_1).f4), .int .i64 ((rd_T36 l0 x5_1).f5), .int .i64 ((rd_T36 l0 x5_1).f6), .string ((rd_T36 l0 x5_1).f7), .string ((rd_T36 l0 x5_1).f8), .string ((rd_T36 l0 x5_1).f9)], .agg #[.int .i64 ((rd_T36 l1 x5_1).f0), .string ((rd_T36 l1 x5_1).f1), .string ((rd_T36 l1 x5_1).f2), .int .i64 ((rd_T36 l1 x5_1).f3), .int .i64 ((rd_T36 l1 x5_1).f4), .int .i64 ((rd_T36 l1 x5_1).f5), .int .i64 ((rd_T36 l1 x5_1).f6), .string ((rd_T36 l1 x5_1).f7), .string ((rd_T36 l1 x5_1).f8), .string ((rd_T36 l1 x5_1).f9)]] (by rfl) rfl rfl (by (try simp only [List.map_toArray, List.map_cons, List.map_nil]); first | done | rfl | (simp only [List.length_drop, List.length_take]; rfl)) ?_
                with_reducible refine (laws_eqEntry.calls ((rd_T36 l0 x5_1).f0) ((rd_T36 l0 x5_1).f1) ((rd_T36 l0 x5_1).f2) ((rd_T36 l0 x5_1).f3) ((rd_T36 l0 x5_1).f4) ((rd_T36 l0 x5_1).f5) ((rd_T36 l0 x5_1).f6) ((rd_T36 l0 x5_1).f7) ((rd_T36 l0 x5_1).f8) ((rd_T36 l0 x5_1).f9) ((rd_T36 l1 x5_1).f0) ((rd_T36 l1 x5_1).f1) ((rd_T36 l1 x5_1).f2) ((rd_T36 l1 x5_1).f3) ((rd_T36 l1 x5_1).f4) ((rd_T36 l1 x5_1).f5) ((rd_T36 l1 x5_1).f6) ((rd_T36 l1 x5_1).f7) ((rd_T36 l1 x5_1).f8) ((rd_T36 l1 x5_1).f9) true _ A7.out).mono ?_
                rintro e w10 ⟨rfl, hb⟩
                refine ⟨_, rfl, ?_⟩
                have n0_ := Aside0.mk (below_step (by repeat (first | (with_reducible first | exact HB.out | apply below_alloc | apply pw_below_drewN | apply below_drew1) | exact HB.out)) hb)
                clear HB
                have HB := n0_
                clear n0_
                (try clear hb)
                (try clear hb2)
                (try clear hk)
                (try clear hi)
                refine hK.out _ _ ⟨((HB.out.cell (World.block_lt_of_cell? w _ hw207_0)).trans hw207_0), ((HB.out.cell (World.block_lt_of_cell? w _ hw207_1)).trans hw207_1), ((HB.out.cell (World.block_lt_of_cell? w _ hw207_2)).trans hw207_2), ((HB.out.cell (World.block_lt_of_cell? w _ hw207_3)).trans hw207_3), ((HB.out.cell (World.block_lt_of_cell? w _ hw207_4)).trans hw207_4), ((HB.out.cell (World.block_lt_of_cell? w _ hw207_5)).trans hw207_5), ((HB.out.cell (World.block_lt_of_cell? w _ hw207_6)).trans hw207_6), ((HB.out.cell (World.block_lt_of_cell? w _ hw207_7)).trans hw207_7), ((HB.out.cell (World.block_lt_of_cell? w _ hw207_8)).trans hw207_8), ((HB.out.cell (World.block_lt_of_cell? w _ hw207_9)).trans hw207_9), ((HB.out.cell (World.block_lt_of_cell? w _ hw208_0)).trans hw208_0), ((HB.out.cell (World.block_lt_of_cell? w _ hw208_1)).trans hw208_1), ((HB.out.cell (World.block_lt_of_cell? w _ hw208_2)).trans hw208_2), ((HB.out.cell (World.block_lt_of_cell? w _ hw208_3)).trans hw208_3), ((HB.out.cell (World.block_lt_of_cell? w _ hw208_4)).trans hw208_4), ((HB.out.cell (World.block_lt_of_cell? w _ hw208_5)).trans hw208_5), ((HB.out.cell (World.block_lt_of_cell? w _ hw208_6)).trans hw208_6), ((HB.out.cell (World.block_lt_of_cell? w _ hw208_7)).trans hw208_7), ((HB.out.cell (World.block_lt_of_cell? w _ hw208_8)).trans hw208_8), ((HB.out.cell (World.block_lt_of_cell? w _ hw208_9)).trans hw208_9)⟩ (fun hHeld => ?_)
                clear hK K
                refine norm_ (a' := ?_) ?_ ?_
                rotate_left
                · show Act.put _ (some 25) _ = _
                  simp only [Act.put, List.setIfInBounds_toArray, List.set_cons_zero, List.set_cons_succ, i64_w, i32_w]
                  rfl
                refine pure_ (i := 9) (N := some 26) (v := ?_) (a' := ?_) #[true, true, true, true, true, true, true, true, true, true] rfl rfl (any_of HT_.out (by kernel_rfl)) (fun _ _ _ h => h) (Or.inl ⟨by rfl, ?_⟩) ?_ ?_
                rotate_left
                · intro w'
                  go_simp
                  with_reducible rfl
                rotate_left
                · simp only [Act.put, List.setIfInBounds_toArray, List.set_cons_zero, List.set_cons_succ, i64_w, i32_w]
                  rfl
                refine done_ (done_of HT_.out (by kernel_rfl)) ?_
                try go_wp2
                go_roundg k1
                case measure => have := HK1.out; omega
                case rel => exact ⟨(wrap64 (x5_1 + 1)), (by first | rfl | (simp; done) | (simp [*]; done)), H', ⟨by have := HK1.out; omega⟩, ⟨by repeat (first | (with_reducible first | exact HB.out | apply below_alloc | apply pw_below_drewN | apply below_drew1) | exact HB.out)⟩⟩
              · replace c8 := Bool.eq_false_iff.mpr c8
                subst c8
                have H1 : (some false) = some r := by rw [if_neg (show ¬ (false = true) by decide)] at H; exact H
                clear H
                have H := H1
                clear H1
                obtain rfl := Option.some.inj H
                try go_wp2
                have n0_ := Aside0.mk (below_drew1 HB.out)
                clear HB
                have HB := n0_
                clear n0_
                have p207 : 0 ≤ (x5_1 : Int) := of_decide_eq_true (by assumption)
                have q207 : x5_1 < (l0.length : Int) := of_decide_eq_true (by assumption)
                obtain ⟨ad207, e207, hx207_0, hx207_1, hx207_2, hx207_3, hx207_4, hx207_5, hx207_6, hx207_7, hx207_8, hx207_9⟩ := at_T36 HR0.out x5_1 p207 q207
                have hw207_9 := hx207_9
                have hw207_8 := hx207_8
                have hw207_7 := hx207_7
                have hw207_6 := hx207_6
                have hw207_5 := hx207_5
                have hw207_4 := hx207_4
                have hw207_3 := hx207_3
                have hw207_2 := hx207_2
                have hw207_1 := hx207_1
                have hw207_0 := hx207_0
                cases e207
                replace hx207_0 := (HB.out.cell (World.block_lt_of_cell? w _ hx207_0)).trans hx207_0
                replace hx207_1 := (HB.out.cell (World.block_lt_of_cell? w _ hx207_1)).trans hx207_1
                replace hx207_2 := (HB.out.cell (World.block_lt_of_cell? w _ hx207_2)).trans hx207_2
                replace hx207_3 := (HB.out.cell (World.block_lt_of_cell? w _ hx207_3)).trans hx207_3
                replace hx207_4 := (HB.out.cell (World.block_lt_of_cell? w _ hx207_4)).trans hx207_4
                replace hx207_5 := (HB.out.cell (World.block_lt_of_cell? w _ hx207_5)).trans hx207_5
                replace hx207_6 := (HB.out.cell (World.block_lt_of_cell? w _ hx207_6)).trans hx207_6
                replace hx207_7 := (HB.out.cell (World.block_lt_of_cell? w _ hx207_7)).trans hx207_7
                replace hx207_8 := (HB.out.cell (World.block_lt_of_cell? w _ hx207_8)).trans hx207_8
                replace hx207_9 := (HB.out.cell (World.block_lt_of_cell? w _ hx207_9)).trans hx207_9
                replace p207 := eq_true p207
                replace q207 := eq_true q207
                have p208 : 0 ≤ (x5_1 : Int) := of_decide_eq_true (by assumption)
                have q208 : x5_1 < (l1.length : Int) := of_decide_eq_true (by assumption)
                obtain ⟨ad208, e208, hx208_0, hx208_1, hx208_2, hx208_3, hx208_4, hx208_5, hx208_6, hx208_7, hx208_8, hx208_9⟩ := at_T36 HR1.out x5_1 p208 q208
                have hw208_9 := hx208_9
                have hw208_8 := hx208_8
                have hw208_7 := hx208_7
                have hw208_6 := hx208_6
                have hw208_5 := hx208_5
                have hw208_4 := hx208_4
                have hw208_3 := hx208_3
                have hw208_2 := hx208_2
                have hw208_1 := hx208_1
                have hw208_0 := hx208_0
                cases e208
                replace hx208_0 := (HB.out.cell (World.block_lt_of_cell? w _ hx208_0)).trans hx208_0
                replace hx208_1 := (HB.out.cell (World.block_lt_of_cell? w _ hx208_1)).trans hx208_1
                replace hx208_2 := (HB.out.cell (World.block_lt_of_cell? w _ hx208_2)).trans hx208_2
                replace hx208_3 := (HB.out.cell (World.block_lt_of_cell? w _ hx208_3)).trans hx208_3
                replace hx208_4 := (HB.out.cell (World.block_lt_of_cell? w _ hx208_4)).trans hx208_4
                replace hx208_5 := (HB.out.cell (World.block_lt_of_cell? w _ hx208_5)).trans hx208_5
                replace hx208_6 := (HB.out.cell (World.block_lt_of_cell? w _ hx208_6)).trans hx208_6
                replace hx208_7 := (HB.out.cell (World.block_lt_of_cell? w _ hx208_7)).trans hx208_7
                replace hx208_8 := (HB.out.cell (World.block_lt_of_cell? w _ hx208_8)).trans hx208_8
                replace hx208_9 := (HB.out.cell (World.block_lt_of_cell? w _ hx208_9)).trans hx208_9
                replace p208 := eq_true p208
                replace q208 := eq_true q208
                refine start_ (n := 10) (S := fun w' => w'.cell? (ad207.add ((x5_1).toNat * 10)) = some (.int .i64 ((rd_T36 l0 x5_1).f0)) ∧ w'.cell? ⟨(ad207.add ((x5_1).toNat * 10)).block, (ad207.add ((x5_1).toNat * 10)).off + 1, none⟩ = some (.string ((rd_T36 l0 x5_1).f1)) ∧ w'.cell? ⟨(ad207.add ((x5_1).toNat * 10)).block, (ad207.add ((x5_1).toNat * 10)).off + 2, none⟩ = some (.string ((rd_T36 l0 x5_1).f2)) ∧ w'.cell? ⟨(ad207.add ((x5_1).toNat * 10)).block, (ad207.add ((x5_1).toNat * 10)).off + 3, none⟩ = some (.int .i64 ((rd_T36 l0 x5_1).f3)) ∧ w'.cell? ⟨(ad207.add ((x5_1).toNat * 10)).block, (ad207.add ((x5_1).toNat * 10)).off + 4, none⟩ = some (.int .i64 ((rd_T36 l0 x5_1).f4)) ∧ w'.cell? ⟨(ad207.add ((x5_1).toNat * 10)).block, (ad207.add ((x5_1).toNat * 10)).off + 5, none⟩ = some (.int .i64 ((rd_T36 l0 x5_1).f5)) ∧ w'.cell? ⟨(ad207.add ((x5_1).toNat * 10)).block, (ad207.add ((x5_1).toNat * 10)).off + 6, none⟩ = some (.int .i64 ((rd_T36 l0 x5_1).f6)) ∧ w'.cell? ⟨(ad207.add ((x5_1).toNat * 10)).block, (ad207.add ((x5_1).toNat * 10)).off + 7, none⟩ = some (.string ((rd_T36 l0 x5_1).f7)) ∧ w'.cell? ⟨(ad207.add ((x5_1).toNat * 10)).block, (ad207.add ((x5_1).toNat * 10)).off + 8, none⟩ = some (.string ((rd_T36 l0 x5_1).f8)) ∧ w'.cell? ⟨(ad207.add ((x5_1).toNat * 10)).block, (ad207.add ((x5_1).toNat * 10)).off + 9, none⟩ = some (.string ((rd_T36 l0 x5_1).f9)) ∧ w'.cell? (ad208.add ((x5_1).toNat * 10)) = some (.int .i64 ((rd_T36 l1 x5_1).f0)) ∧ w'.cell? ⟨(ad208.add ((x5_1).toNat * 10)).block, (ad208.add ((x5_1).toNat * 10)).off + 1, none⟩ = some (.string ((rd_T36 l1 x5_1).f1)) ∧ w'.cell? ⟨(ad208.add ((x5_1).toNat * 10)).block, (ad208.add ((x5_1).toNat * 10)).off + 2, none⟩ = some (.string ((rd_T36 l1 x5_1).f2)) ∧ w'.cell? ⟨(ad208.add ((x5_1).toNat * 10)).block, (ad208.add ((x5_1).toNat * 10)).off + 3, none⟩ = some (.int .i64 ((rd_T36 l1 x5_1).f3)) ∧ w'.cell? ⟨(ad208.add ((x5_1).toNat * 10)).block, (ad208.add ((x5_1).toNat * 10)).off + 4, none⟩ = some (.int .i64 ((rd_T36 l1 x5_1).f4)) ∧ w'.cell? ⟨(ad208.add ((x5_1).toNat * 10)).block, (ad208.add ((x5_1).toNat * 10)).off + 5, none⟩ = some (.int .i64 ((rd_T36 l1 x5_1).f5)) ∧ w'.cell? ⟨(ad208.add ((x5_1).toNat * 10)).block, (ad208.add ((x5_1).toNat * 10)).off + 6, none⟩ = some (.int .i64 ((rd_T36 l1 x5_1).f6)) ∧ w'.cell? ⟨(ad208.add ((x5_1).toNat * 10)).block, (ad208.add ((x5_1).toNat * 10)).off + 7, none⟩ = some (.string ((rd_T36 l1 x5_1).f7)) ∧ w'.cell? ⟨(ad208.add ((x5_1).toNat * 10)).block, (ad208.add ((x5_1).toNat * 10)).off + 8, none⟩ = some (.string ((rd_T36 l1 x5_1).f8)) ∧ w'.cell? ⟨(ad208.add ((x5_1).toNat * 10)).block, (ad208.add ((x5_1).toNat * 10)).off + 9, none⟩ = some (.string ((rd_T36 l1 x5_1).f9))) (ds := []) #[false, false, false, false, false, false, false, false, false, false] (by kernel_rfl) rfl rfl ⟨((HB.out.cell (World.block_lt_of_cell? w _ hw207_0)).trans hw207_0), ((HB.out.cell (World.block_lt_of_cell? w _ hw207_1)).trans hw207_1), ((HB.out.cell (World.block_lt_of_cell? w _ hw207_2)).trans hw207_2), ((HB.out.cell (World.block_lt_of_cell? w _ hw207_3)).trans hw207_3), ((HB.out.cell (World.block_lt_of_cell? w _ hw207_4)).trans hw207_4), ((HB.out.cell (World.block_lt_of_cell? w _ hw207_5)).trans hw207_5), ((HB.out.cell (World.block_lt_of_cell? w _ hw207_6)).trans hw207_6), ((HB.out.cell (World.block_lt_of_cell? w _ hw207_7)).trans hw207_7), ((HB.out.cell (World.block_lt_of_cell? w _ hw207_8)).trans hw207_8), ((HB.out.cell (World.block_lt_of_cell? w _ hw207_9)).trans hw207_9), ((HB.out.cell (World.block_lt_of_cell? w _ hw208_0)).trans hw208_0), ((HB.out.cell (World.block_lt_of_cell? w _ hw208_1)).trans hw208_1), ((HB.out.cell (World.block_lt_of_cell? w _ hw208_2)).trans hw208_2), ((HB.out.cell (World.block_lt_of_cell? w _ hw208_3)).trans hw208_3), ((HB.out.cell (World.block_lt_of_cell? w _ hw208_4)).trans hw208_4), ((HB.out.cell (World.block_lt_of_cell? w _ hw208_5)).trans hw208_5), ((HB.out.cell (World.block_lt_of_cell? w _ hw208_6)).trans hw208_6), ((HB.out.cell (World.block_lt_of_cell? w _ hw208_7)).trans hw208_7), ((HB.out.cell (World.block_lt_of_cell? w _ hw208_8)).trans hw208_8), ((HB.out.cell (World.block_lt_of_cell? w _ hw208_9)).trans hw208_9)⟩ (fun hHeld => ?_); refine with_tabW laws_eqEntryS.tab6 laws_eqEntryS.bits6 (fun HT_ HW_ => ?_)
                generalize wr.drew = w11 at HB hx207_0 hx207_1 hx207_2 hx207_3 hx207_4 hx207_5 hx207_6 hx207_7 hx207_8 hx207_9 hx208_0 hx208_1 hx208_2 hx208_3 hx208_4 hx208_5 hx208_6 hx208_7 hx208_8 hx208_9 hHeld ⊢
                refine pure_ (i := 0) (N := some 17) (v := ?_) (a' := ?_) #[true, false, false, false, false, false, false, false, false, false] rfl rfl (any_of HT_.out (by kernel_rfl)) (fun _ _ _ h => h) (Or.inl ⟨by rfl, ?_⟩) ?_ ?_
                rotate_left
                · intro w'
                  go_simp
                  with_reducible rfl
                rotate_left
                · simp only [Act.put, List.setIfInBounds_toArray, List.set_cons_zero, List.set_cons_succ, i64_w, i32_w]
                  rfl
                refine pure_ (i := 1) (N := some 18) (v := ?_) (a' := ?_) #[true, true, false, false, false, false, false, false, false, false] rfl rfl (any_of HT_.out (by kernel_rfl)) (fun _ _ _ h => h) (Or.inl ⟨by rfl, ?_⟩) ?_ ?_
                rotate_left
                · intro w'
                  go_simp
                  with_reducible rfl
                rotate_left
                · simp only [Act.put, List.setIfInBounds_toArray, List.set_cons_zero, List.set_cons_succ, i64_w, i32_w]
                  rfl
                refine pure_ (i := 2) (N := some 19) (v := ?_) (a' := ?_) #[true, true, true, false, false, false, false, false, false, false] rfl rfl (any_of HT_.out (by kernel_rfl)) (fun _ _ _ h => h) (Or.inl ⟨by rfl, ?_⟩) ?_ ?_
                rotate_left
                · intro w'
                  go_simp
                  with_reducible rfl
                rotate_left
                · simp only [Act.put, List.setIfInBounds_toArray, List.set_cons_zero, List.set_cons_succ, i64_w, i32_w]
                  rfl
                refine pure_ (i := 4) (N := some 21) (v := ?_) (a' := ?_) #[true, true, true, false, true, false, false, false, false, false] rfl rfl (any_of HT_.out (by kernel_rfl)) (fun _ _ _ h => h) (Or.inl ⟨by rfl, ?_⟩) ?_ ?_
                rotate_left
                · intro w'
                  go_simp
                  with_reducible rfl
                rotate_left
                · simp only [Act.put, List.setIfInBounds_toArray, List.set_cons_zero, List.set_cons_succ, i64_w, i32_w]
                  rfl
                refine pure_ (i := 5) (N := some 22) (v := ?_) (a' := ?_) #[true, true, true, false, true, true, false, false, false, false] rfl rfl (any_of HT_.out (by kernel_rfl)) (fun _ _ _ h => h) (Or.inl ⟨by rfl, ?_⟩) ?_ ?_
                rotate_left
                · intro w'
                  go_simp
                  with_reducible rfl
                rotate_left
                · simp only [Act.put, List.setIfInBounds_toArray, List.set_cons_zero, List.set_cons_succ, i64_w, i32_w]
                  rfl
                refine pure_ (i := 6) (N := some 23) (v := ?_) (a' := ?_) #[true, true, true, false, true, true, true, false, false, false] rfl rfl (any_of HT_.out (by kernel_rfl)) (fun _ _ _ h => h) (Or.inl ⟨by rfl, ?_⟩) ?_ ?_
                rotate_left
                · intro w'
                  go_simp
                  with_reducible rfl
                rotate_left
                · simp only [Act.put, List.setIfInBounds_toArray, List.set_cons_zero, List.set_cons_succ, i64_w, i32_w]
                  rfl
                refine take_ (i := 3) (N := some 20) (v := ?_) (a' := ?_) #[true, true, true, true, true, true, true, false, false, false] rfl rfl (take_ofW HT_.out HW_.out (by kernel_rfl)) (fun _ _ _ h => h) (Or.inl ⟨by rfl, ?_⟩) hHeld ?_ ?_
                rotate_left
                · rintro w' ⟨s0, s1, s2, s3, s4, s5, s6, s7, s8, s9, s10, s11, s12, s13, s14, s15, s16, s17, s18, s19⟩
                  go_simp
                  with_reducible rfl
                rotate_left
                · simp only [Act.put, List.setIfInBounds_toArray, List.set_cons_zero, List.set_cons_succ, i64_w, i32_w]
                  rfl
                refine take_ (i := 7) (N := some 24) (v := ?_) (a' := ?_) #[true, true, true, true, true, true, true, true, false, false] rfl rfl (take_ofW HT_.out HW_.out (by kernel_rfl)) (fun _ _ _ h => h) (Or.inl ⟨by rfl, ?_⟩) hHeld ?_ ?_
                rotate_left
                · rintro w' ⟨s0, s1, s2, s3, s4, s5, s6, s7, s8, s9, s10, s11, s12, s13, s14, s15, s16, s17, s18, s19⟩
                  go_simp
                  with_reducible rfl
                rotate_left
                · simp only [Act.put, List.setIfInBounds_toArray, List.set_cons_zero, List.set_cons_succ, i64_w, i32_w]
                  rfl
                refine one_ (i := 8) (N := some 25) #[true, true, true, true, true, true, true, true, true, false] rfl rfl (one_of HT_.out (by kernel_rfl)) (by decide) (fun K hK => ?_)
                refine goes_ Tryd.func37 (by kernel_rfl) rfl #[.agg #[.int .i64 ((rd_T36 l0 x5_1).f0), .string ((rd_T36 l0 x5_1).f1), .string ((rd_T36 l0 x5_1).f2), .int .i64 ((rd_T36 l0 x5_1).f3), .int .i64 ((rd_T36 l0 x5_1).f4), .int .i64 ((rd_T36 l0 x5_1).f5), .int .i64 ((rd_T36 l0 x5_1).f6), .string ((rd_T36 l0 x5_1).f7), .string ((rd_T36 l0 x5_1).f8), .string ((rd_T36 l0 x5_1).f9)], .agg #[.int .i64 ((rd_T36 l1 x5_1).f0), .string ((rd_T36 l1 x5_1).f1), .string ((rd_T36 l1 x5_1).f2), .int .i64 ((rd_T36 l1 x5_1).f3), .int .i64 ((rd_T36 l1 x5_1).f4), .int .i64 ((rd_T36 l1 x5_1).f5), .int .i64 ((rd_T36 l1 x5_1).f6), .string ((rd_T36 l1 x5_1).f7), .string ((rd_T36 l1 x5_1).f8), .string ((rd_T36 l1 x5_1).f9)]] (by rfl) rfl rfl (by (try simp only [List.map_toArray, List.map_cons, List.map_nil]); first | done | rfl | (simp only [List.length_drop, List.length_take]; rfl)) ?_
                with_reducible refine (laws_eqEntry.calls ((rd_T36 l0 x5_1).f0) ((rd_T36 l0 x5_1).f1) ((rd_T36 l0 x5_1).f2) ((rd_T36 l0 x5_1).f3) ((rd_T36 l0 x5_1).f4) ((rd_T36 l0 x5_1).f5) ((rd_T36 l0 x5_1).f6) ((rd_T36 l0 x5_1).f7) ((rd_T36 l0 x5_1).f8) ((rd_T36 l0 x5_1).f9) ((rd_T36 l1 x5_1).f0) ((rd_T36 l1 x5_1).f1) ((rd_T36 l1 x5_1).f2) ((rd_T36 l1 x5_1).f3) ((rd_T36 l1 x5_1).f4) ((rd_T36 l1 x5_1).f5) ((rd_T36 l1 x5_1).f6) ((rd_T36 l1 x5_1).f7) ((rd_T36 l1 x5_1).f8) ((rd_T36 l1 x5_1).f9) false _ A7.out).mono ?_
                rintro e w12 ⟨rfl, hb⟩
                refine ⟨_, rfl, ?_⟩
                have n0_ := Aside0.mk (below_step (by repeat (first | (with_reducible first | exact HB.out | apply below_alloc | apply pw_below_drewN | apply below_drew1) | exact HB.out)) hb)
                clear HB
                have HB := n0_
                clear n0_
                (try clear hb)
                (try clear hb2)
                (try clear hk)
                (try clear hi)
                refine hK.out _ _ ⟨((HB.out.cell (World.block_lt_of_cell? w _ hw207_0)).trans hw207_0), ((HB.out.cell (World.block_lt_of_cell? w _ hw207_1)).trans hw207_1), ((HB.out.cell (World.block_lt_of_cell? w _ hw207_2)).trans hw207_2), ((HB.out.cell (World.block_lt_of_cell? w _ hw207_3)).trans hw207_3), ((HB.out.cell (World.block_lt_of_cell? w _ hw207_4)).trans hw207_4), ((HB.out.cell (World.block_lt_of_cell? w _ hw207_5)).trans hw207_5), ((HB.out.cell (World.block_lt_of_cell? w _ hw207_6)).trans hw207_6), ((HB.out.cell (World.block_lt_of_cell? w _ hw207_7)).trans hw207_7), ((HB.out.cell (World.block_lt_of_cell? w _ hw207_8)).trans hw207_8), ((HB.out.cell (World.block_lt_of_cell? w _ hw207_9)).trans hw207_9), ((HB.out.cell (World.block_lt_of_cell? w _ hw208_0)).trans hw208_0), ((HB.out.cell (World.block_lt_of_cell? w _ hw208_1)).trans hw208_1), ((HB.out.cell (World.block_lt_of_cell? w _ hw208_2)).trans hw208_2), ((HB.out.cell (World.block_lt_of_cell? w _ hw208_3)).trans hw208_3), ((HB.out.cell (World.block_lt_of_cell? w _ hw208_4)).trans hw208_4), ((HB.out.cell (World.block_lt_of_cell? w _ hw208_5)).trans hw208_5), ((HB.out.cell (World.block_lt_of_cell? w _ hw208_6)).trans hw208_6), ((HB.out.cell (World.block_lt_of_cell? w _ hw208_7)).trans hw208_7), ((HB.out.cell (World.block_lt_of_cell? w _ hw208_8)).trans hw208_8), ((HB.out.cell (World.block_lt_of_cell? w _ hw208_9)).trans hw208_9)⟩ (fun hHeld => ?_)
                clear hK K
                refine norm_ (a' := ?_) ?_ ?_
                rotate_left
                · show Act.put _ (some 25) _ = _
                  simp only [Act.put, List.setIfInBounds_toArray, List.set_cons_zero, List.set_cons_succ, i64_w, i32_w]
                  rfl
                refine pure_ (i := 9) (N := some 26) (v := ?_) (a' := ?_) #[true, true, true, true, true, true, true, true, true, true] rfl rfl (any_of HT_.out (by kernel_rfl)) (fun _ _ _ h => h) (Or.inl ⟨by rfl, ?_⟩) ?_ ?_
                rotate_left
                · intro w'
                  go_simp
                  with_reducible rfl
                rotate_left
                · simp only [Act.put, List.setIfInBounds_toArray, List.set_cons_zero, List.set_cons_succ, i64_w, i32_w]
                  rfl
                refine done_ (done_of HT_.out (by kernel_rfl)) ?_
                try go_wp2
                go_ret
                exact ⟨by first | rfl | (simp [errW_none, errW_some] <;> rfl) | (simp [*, errW_none, errW_some] <;> rfl) | (simp only [decide_eq_true_eq] at *; simp [*, bt]; done), by repeat (first | (with_reducible first | exact HB.out | apply below_alloc | apply pw_below_drewN | apply below_drew1) | exact HB.out)⟩
            · rw [if_neg c6] at H
              exact absurd H (by simp)
          · rw [if_neg c5] at H
            exact absurd H (by simp)
        · rw [if_neg c4] at H
          have c4b0 : decide (x5_1 < (l0.length : Int)) = false := decide_eq_false c4
          clear c4
          obtain rfl := Option.some.inj H
          go_wp2
          go_ret
          exact ⟨by first | rfl | (simp [errW_none, errW_some] <;> rfl) | (simp [*, errW_none, errW_some] <;> rfl) | (simp only [decide_eq_true_eq] at *; simp [*, bt]; done), by repeat (first | (with_reducible first | exact HB.out | apply below_alloc | apply pw_below_drewN | apply below_drew1) | exact HB.out)⟩
  · rw [if_neg c3] at H
    have c3b0 : ((l0.length : Int) == (l1.length : Int)) = false := beq_eq_false_iff_ne.mpr c3
    have c3b1 : ((l0.length : Int) != (l1.length : Int)) = true := bne_iff_ne.mpr c3
    have c3b2 : (l0.length == l1.length) = false := by first | simpa using c3 | (simp at c3 ⊢; omega)
    obtain rfl := Option.some.inj H
    go_enter Tryd.func14, Tryd.ntmps14
    go_wp2
    go_ret
    exact ⟨by first | rfl | (simp [errW_none, errW_some] <;> rfl) | (simp [*, errW_none, errW_some] <;> rfl) | (simp only [decide_eq_true_eq] at *; simp [*, bt]; done), by repeat (first | (with_reducible first | exact HB.out | apply below_alloc | apply pw_below_drewN | apply below_drew1) | exact HB.out)⟩

end Go.Proofs.YtgmggpgcfonmgaaDoor.PFnExactListOk
