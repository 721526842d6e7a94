/- Contracts of functions of the given program. Conditions: as each theorem says. -/
import Derived.Test.YtkldmgnhbomknaaGreatQZWA
import Derived.Test.YtkldmgnhbomknaaGreatVmV
set_option linter.unusedVariables false
set_option linter.unusedSimpArgs false
namespace Go.Proofs.YtkldmgnhbomknaaGreat
open Go.Vm
attribute [local go_sem] eq_self decide_true decide_false AH.put_ne
attribute [local go_sem_proc] Nat.reduceBEq Nat.reduceAdd Nat.reduceSub Nat.reduceMul Nat.reduceEqDiff Nat.reduceLeDiff Nat.reduceLT Int.reduceLE Int.reduceLT Int.reduceToNat Int.reduceAdd Int.reduceEq Int.reduceNeg
attribute [local go_sem] vE_length byteCells_length fldC fldsE_get fldsE_length List.drop_zero toNat_succ Nat.sub_zero Int.toNat_natCast Option.map_some Int.natCast_nonneg decide_eq_true_eq decide_eq_false_iff_not
abbrev PvAt (H0 H : AH) (kp : Nat) (v : Vl) (m : Rv) : Prop := ACalls Tryz.prog 70 [.ptr kp 0,.agg [vV v]] H (fun o H' => ∃ u,o = .ret u ∧ Pk H0 kp (errF 0 (m.L.map encM)) (fldM m ((m.L.map encM).map Prod.fst)) H')
theorem num_lit (t n : Int) (k : Nat) (h : n = k) (G : AH) : ACalls Tryz.prog 50 [.int .i64 t,.int .u64 n] G (fun o H' => o = .ret (.agg [.int .i64 t,.bool false,.int .u64 n,.sl 1 (byteCells []) .no]) ∧ H' = G) := by
  subst h; exact num_calls G
theorem pv0 {H0 H : AH} {kp g : Nat} {v : Vl} {m : Rv} (h0 : H0 kp = none) (hp : Pk H0 kp 0 [] H) (hg0 : H0 g = some .nodr) (hs : Sm v m) (ho : v.Ok) (hrg : Rg m) (hf : fitsQ m = true) (ih : ∀ x ∈ m.L,EncOk x) (hv : v.kind = 0) : PvAt H0 H kp v m := by
  obtain ⟨w,hk,hacc⟩ := hp
  have hw : IntKind.u64.wrap 0 = 0 := by decide
  have hn1 := num_lit 1 0 0 rfl
  have hg := hacc.le _ _ hg0
  have hsm := hs
  cases hs with
  | mk _ _ hK hB hS hl hkk hN hP hi =>
  have hmK : m.K = 0 := by rw [← hK,hv]
  have hkF : kF m = ⟨1,false,0,[]⟩ := by rw [kF,hmK]; rfl
  have hL : m.L = [] := List.eq_nil_of_length_eq_zero (by rw [← hl]; cases v <;> first | rfl | (simp [Vl.kind] at hv))
  refine acalls Tryz.func70 c70 r70 (by simp [Tryz.ntmps70]) ?_
  repeat' (first|(((with_reducible refine pk_app (l:=[]) (f:=⟨1,false,0,[]⟩) h0 hk hacc (by simp) (fun H2 hp2 w2=>?_));obtain ⟨v2,hk2,hacc2⟩:=hp2))|with_reducible refine go0 ?_|(with_reducible refine am_cnd ?_ ?_<;>intro hc<;>try (exfalso;omega))|((first|with_reducible (first|refine go1 ?_|refine vc_intro ?_|refine need_el ?_|refine vlen_a ?_|refine need_by ?_|refine call_of (kind_calls v) ?_|refine qcall_of (kind_calls v) ?_|refine call_of (hn1) ?_|refine qcall_of (hn1) ?_|refine need_lk ?_)|((with_reducible refine alloc_intro (fun ko hko=>?_))<;>(try have hne:=fresh_ne (by assumption) hko)<;>(try have hnk:=fresh_ne hk hko)<;>(try have hnk2:=fresh_ne hk2 hko)<;>(try simp only [AH.put_none] at hko))|((with_reducible refine vapp_go ?_ (fun v2 H2 hacc hlec=>?_));· simp only [byteCells_length,List.length_cons,List.length_nil,List.length_map,List.length_append,vE_length,fldsE_length,strE_length];omega)|done)<;>(try simp -implicitDefEqProofs (disch:=omega) only [go_sem,hv,hw])))
  all_goals exact ⟨_,rfl,by rw [hL,fldM,hkF,restF,hmK]; exact ⟨v2,hk2,hacc2⟩⟩
theorem pv1 {H0 H : AH} {kp g : Nat} {v : Vl} {m : Rv} (h0 : H0 kp = none) (hp : Pk H0 kp 0 [] H) (hg0 : H0 g = some .nodr) (hs : Sm v m) (ho : v.Ok) (hrg : Rg m) (hf : fitsQ m = true) (ih : ∀ x ∈ m.L,EncOk x) (hv : v.kind = 1) : PvAt H0 H kp v m := by
  obtain ⟨w,hk,hacc⟩ := hp
  have hw : IntKind.u64.wrap 1 = 1 := by decide
  have hn1 := num_lit 1 1 1 rfl
  have hg := hacc.le _ _ hg0
  have hsm := hs
  cases hs with
  | mk _ _ hK hB hS hl hkk hN hP hi =>
  have hmK : m.K = 1 := by rw [← hK,hv]
  have hkF : kF m = ⟨1,false,1,[]⟩ := by rw [kF,hmK]; rfl
  have hL : m.L = [] := List.eq_nil_of_length_eq_zero (by rw [← hl]; cases v <;> first | rfl | (simp [Vl.kind] at hv))
  refine acalls Tryz.func70 c70 r70 (by simp [Tryz.ntmps70]) ?_
  repeat' (first|(((with_reducible refine pk_app (l:=[]) (f:=⟨1,false,1,[]⟩) h0 hk hacc (by simp) (fun H2 hp2 w2=>?_));obtain ⟨v2,hk2,hacc2⟩:=hp2))|with_reducible refine go0 ?_|(with_reducible refine am_cnd ?_ ?_<;>intro hc<;>try (exfalso;omega))|((first|with_reducible (first|refine go1 ?_|refine vc_intro ?_|refine need_el ?_|refine vlen_a ?_|refine need_by ?_|refine call_of (kind_calls v) ?_|refine qcall_of (kind_calls v) ?_|refine call_of (hn1) ?_|refine qcall_of (hn1) ?_|refine need_lk ?_)|((with_reducible refine alloc_intro (fun ko hko=>?_))<;>(try have hne:=fresh_ne (by assumption) hko)<;>(try have hnk:=fresh_ne hk hko)<;>(try have hnk2:=fresh_ne hk2 hko)<;>(try simp only [AH.put_none] at hko))|((with_reducible refine vapp_go ?_ (fun v2 H2 hacc hlec=>?_));· simp only [byteCells_length,List.length_cons,List.length_nil,List.length_map,List.length_append,vE_length,fldsE_length,strE_length];omega)|done)<;>(try simp -implicitDefEqProofs (disch:=omega) only [go_sem,hv,hw])))
  all_goals exact ⟨_,rfl,by rw [hL,fldM,hkF,restF,hmK]; exact ⟨v2,hk2,hacc2⟩⟩
theorem pv2 {H0 H : AH} {kp g : Nat} {v : Vl} {m : Rv} (h0 : H0 kp = none) (hp : Pk H0 kp 0 [] H) (hg0 : H0 g = some .nodr) (hs : Sm v m) (ho : v.Ok) (hrg : Rg m) (hf : fitsQ m = true) (ih : ∀ x ∈ m.L,EncOk x) (hv : v.kind = 2) : PvAt H0 H kp v m := by
  obtain ⟨w,hk,hacc⟩ := hp
  have hw : IntKind.u64.wrap 2 = 2 := by decide
  have hn1 := num_lit 1 2 2 rfl
  have hg := hacc.le _ _ hg0
  have hsm := hs
  cases hs with
  | mk _ _ hK hB hS hl hkk hN hP hi =>
  have hmK : m.K = 2 := by rw [← hK,hv]
  have hkF : kF m = ⟨1,false,2,[]⟩ := by rw [kF,hmK]; rfl
  have hL : m.L = [] := List.eq_nil_of_length_eq_zero (by rw [← hl]; cases v <;> first | rfl | (simp [Vl.kind] at hv))
  have hB2 : v.isB.1 = m.B := by rw [hB,hmK]; rfl
  have hn2 := num_lit 2 0 0 rfl
  have hn3 := num_lit 2 1 1 rfl
  refine acalls Tryz.func70 c70 r70 (by simp [Tryz.ntmps70]) ?_
  cases hb : m.B
  · rw [hb] at hB2
    repeat' (first|(((with_reducible refine pk_app (l:=[]) (f:=⟨1,false,2,[]⟩) h0 hk hacc (by simp) (fun H2 hp2 w2=>?_));obtain ⟨v2,hk2,hacc2⟩:=hp2))|((with_reducible refine pk_app (f:=⟨2,false,0,[]⟩) h0 hk2 hacc2 (by simp) (fun H3 hp3 w3=>?_)))|with_reducible refine go0 ?_|(with_reducible refine am_cnd ?_ ?_<;>intro hc<;>try (exfalso;omega))|((first|with_reducible (first|refine go1 ?_|refine vc_intro ?_|refine need_el ?_|refine vlen_a ?_|refine need_by ?_|refine call_of (kind_calls v) ?_|refine qcall_of (kind_calls v) ?_|refine call_of (bool_calls v) ?_|refine qcall_of (bool_calls v) ?_|refine call_of (hn1) ?_|refine qcall_of (hn1) ?_|refine call_of (hn2) ?_|refine qcall_of (hn2) ?_|refine need_lk ?_)|((with_reducible refine alloc_intro (fun ko hko=>?_))<;>(try have hne:=fresh_ne (by assumption) hko)<;>(try have hnk:=fresh_ne hk hko)<;>(try have hnk2:=fresh_ne hk2 hko)<;>(try simp only [AH.put_none] at hko))|((with_reducible refine vapp_go ?_ (fun v2 H2 hacc hlec=>?_));· simp only [byteCells_length,List.length_cons,List.length_nil,List.length_map,List.length_append,vE_length,fldsE_length,strE_length];omega)|done)<;>(try simp -implicitDefEqProofs (disch:=omega) only [go_sem,hv,hw,hB2])))
    all_goals exact ⟨_,rfl,by rw [hL,fldM,hkF,restF,hmK,hb]; exact hp3⟩
  · rw [hb] at hB2
    repeat' (first|(((with_reducible refine pk_app (l:=[]) (f:=⟨1,false,2,[]⟩) h0 hk hacc (by simp) (fun H2 hp2 w2=>?_));obtain ⟨v2,hk2,hacc2⟩:=hp2))|((with_reducible refine pk_app (f:=⟨2,false,1,[]⟩) h0 hk2 hacc2 (by simp) (fun H3 hp3 w3=>?_)))|with_reducible refine go0 ?_|(with_reducible refine am_cnd ?_ ?_<;>intro hc<;>try (exfalso;omega))|((first|with_reducible (first|refine go1 ?_|refine vc_intro ?_|refine need_el ?_|refine vlen_a ?_|refine need_by ?_|refine call_of (kind_calls v) ?_|refine qcall_of (kind_calls v) ?_|refine call_of (bool_calls v) ?_|refine qcall_of (bool_calls v) ?_|refine call_of (hn1) ?_|refine qcall_of (hn1) ?_|refine call_of (hn3) ?_|refine qcall_of (hn3) ?_|refine need_lk ?_)|((with_reducible refine alloc_intro (fun ko hko=>?_))<;>(try have hne:=fresh_ne (by assumption) hko)<;>(try have hnk:=fresh_ne hk hko)<;>(try have hnk2:=fresh_ne hk2 hko)<;>(try simp only [AH.put_none] at hko))|((with_reducible refine vapp_go ?_ (fun v2 H2 hacc hlec=>?_));· simp only [byteCells_length,List.length_cons,List.length_nil,List.length_map,List.length_append,vE_length,fldsE_length,strE_length];omega)|done)<;>(try simp -implicitDefEqProofs (disch:=omega) only [go_sem,hv,hw,hB2])))
    all_goals exact ⟨_,rfl,by rw [hL,fldM,hkF,restF,hmK,hb]; exact hp3⟩
theorem pv3 {H0 H : AH} {kp g : Nat} {v : Vl} {m : Rv} (h0 : H0 kp = none) (hp : Pk H0 kp 0 [] H) (hg0 : H0 g = some .nodr) (hs : Sm v m) (ho : v.Ok) (hrg : Rg m) (hf : fitsQ m = true) (ih : ∀ x ∈ m.L,EncOk x) (hv : v.kind = 3) : PvAt H0 H kp v m := by
  obtain ⟨w,hk,hacc⟩ := hp
  have hw : IntKind.u64.wrap 3 = 3 := by decide
  have hn1 := num_lit 1 3 3 rfl
  have hg := hacc.le _ _ hg0
  have hsm := hs
  cases hs with
  | mk _ _ hK hB hS hl hkk hN hP hi =>
  have hmK : m.K = 3 := by rw [← hK,hv]
  have hkF : kF m = ⟨1,false,3,[]⟩ := by rw [kF,hmK]; rfl
  have hL : m.L = [] := List.eq_nil_of_length_eq_zero (by rw [← hl]; cases v <;> first | rfl | (simp [Vl.kind] at hv))
  have hI := hN hmK
  refine acalls Tryz.func70 c70 r70 (by simp [Tryz.ntmps70]) ?_
  repeat' (first|(((with_reducible refine pk_app (l:=[]) (f:=⟨1,false,3,[]⟩) h0 hk hacc (by simp) (fun H2 hp2 w2=>?_));obtain ⟨v2,hk2,hacc2⟩:=hp2))|(((with_reducible refine call_ex (pnum_calls h0 (Pk.of hk2 hacc2) (hrg.n hmK) (by simp)) (fun w H3 hp3=>?_))))|with_reducible refine go0 ?_|(with_reducible refine am_cnd ?_ ?_<;>intro hc<;>try (exfalso;omega))|((first|with_reducible (first|refine go1 ?_|refine vc_intro ?_|refine need_el ?_|refine vlen_a ?_|refine need_by ?_|refine call_of (kind_calls v) ?_|refine qcall_of (kind_calls v) ?_|refine call_of (int_calls v) ?_|refine qcall_of (int_calls v) ?_|refine call_of (hn1) ?_|refine qcall_of (hn1) ?_|refine need_lk ?_)|((with_reducible refine alloc_intro (fun ko hko=>?_))<;>(try have hne:=fresh_ne (by assumption) hko)<;>(try have hnk:=fresh_ne hk hko)<;>(try have hnk2:=fresh_ne hk2 hko)<;>(try simp only [AH.put_none] at hko))|((with_reducible refine vapp_go ?_ (fun v2 H2 hacc hlec=>?_));· simp only [byteCells_length,List.length_cons,List.length_nil,List.length_map,List.length_append,vE_length,fldsE_length,strE_length];omega)|done)<;>(try simp -implicitDefEqProofs (disch:=omega) only [go_sem,hv,hw,hI])))
  all_goals exact ⟨_,rfl,by rw [hL,fldM,hkF,restF,hmK]; exact hp3⟩
theorem pv4 {H0 H : AH} {kp g : Nat} {v : Vl} {m : Rv} (h0 : H0 kp = none) (hp : Pk H0 kp 0 [] H) (hg0 : H0 g = some .nodr) (hs : Sm v m) (ho : v.Ok) (hrg : Rg m) (hf : fitsQ m = true) (ih : ∀ x ∈ m.L,EncOk x) (hv : v.kind = 4) : PvAt H0 H kp v m := by
  obtain ⟨w,hk,hacc⟩ := hp
  have hw : IntKind.u64.wrap 4 = 4 := by decide
  have hn1 := num_lit 1 4 4 rfl
  have hg := hacc.le _ _ hg0
  have hsm := hs
  cases hs with
  | mk _ _ hK hB hS hl hkk hN hP hi =>
  have hmK : m.K = 4 := by rw [← hK,hv]
  have hkF : kF m = ⟨1,false,4,[]⟩ := by rw [kF,hmK]; rfl
  have hL : m.L = [] := List.eq_nil_of_length_eq_zero (by rw [← hl]; cases v <;> first | rfl | (simp [Vl.kind] at hv))
  obtain ⟨hI,hJ⟩ := hP hmK
  have hnr : (-9007199254740992 ≤ v.isP.1 ∧ v.isP.1 ≤ 9007199254740992) ∧ (-9007199254740992 ≤ v.isP.2.1 ∧ v.isP.2.1 ≤ 9007199254740992) := by
    cases ho with
    | pt n m a b c d => exact ⟨⟨a,b⟩,c,d⟩
    | _ => simp [Vl.kind] at hv
  rw [hI,hJ] at hnr
  refine acalls Tryz.func70 c70 r70 (by simp [Tryz.ntmps70]) ?_
  repeat' (first|(((with_reducible refine pk_app (l:=[]) (f:=⟨1,false,4,[]⟩) h0 hk hacc (by simp) (fun H2 hp2 w2=>?_));obtain ⟨v2,hk2,hacc2⟩:=hp2))|(((with_reducible refine call_ex (pnum_calls h0 (Pk.of hk2 hacc2) ⟨by omega,by omega⟩ (by simp)) (fun w H3 hp3=>?_))))|(((with_reducible refine call_ex (pnum_calls h0 hp3 ⟨by omega,by omega⟩ (by simp)) (fun w H4 hp4=>?_))))|with_reducible refine go0 ?_|(with_reducible refine am_cnd ?_ ?_<;>intro hc<;>try (exfalso;omega))|((first|with_reducible (first|refine go1 ?_|refine vc_intro ?_|refine need_el ?_|refine vlen_a ?_|refine need_by ?_|refine call_of (kind_calls v) ?_|refine qcall_of (kind_calls v) ?_|refine call_of (point_calls ho) ?_|refine qcall_of (point_calls ho) ?_|refine call_of (hn1) ?_|refine qcall_of (hn1) ?_|refine need_lk ?_)|((with_reducible refine alloc_intro (fun ko hko=>?_))<;>(try have hne:=fresh_ne (by assumption) hko)<;>(try have hnk:=fresh_ne hk hko)<;>(try have hnk2:=fresh_ne hk2 hko)<;>(try simp only [AH.put_none] at hko))|((with_reducible refine vapp_go ?_ (fun v2 H2 hacc hlec=>?_));· simp only [byteCells_length,List.length_cons,List.length_nil,List.length_map,List.length_append,vE_length,fldsE_length,strE_length];omega)|done)<;>(try simp -implicitDefEqProofs (disch:=omega) only [go_sem,hv,hw,hI,hJ])))
  all_goals exact ⟨_,rfl,by rw [hL,fldM,hkF,restF,hmK]; exact hp4⟩
theorem pv5 {H0 H : AH} {kp g : Nat} {v : Vl} {m : Rv} (h0 : H0 kp = none) (hp : Pk H0 kp 0 [] H) (hg0 : H0 g = some .nodr) (hs : Sm v m) (ho : v.Ok) (hrg : Rg m) (hf : fitsQ m = true) (ih : ∀ x ∈ m.L,EncOk x) (hv : v.kind = 5) : PvAt H0 H kp v m := by
  obtain ⟨w,hk,hacc⟩ := hp
  have hw : IntKind.u64.wrap 5 = 5 := by decide
  have hn1 := num_lit 1 5 5 rfl
  have hg := hacc.le _ _ hg0
  have hsm := hs
  cases hs with
  | mk _ _ hK hB hS hl hkk hN hP hi =>
  have hmK : m.K = 5 := by rw [← hK,hv]
  have hkF : kF m = ⟨1,false,5,[]⟩ := by rw [kF,hmK]; rfl
  have hL : m.L = [] := List.eq_nil_of_length_eq_zero (by rw [← hl]; cases v <;> first | rfl | (simp [Vl.kind] at hv))
  have hsl : m.S.length ≤ 256 := by
    simp only [fitsQ,shortB,Bool.and_eq_true,decide_eq_true_eq] at hf; exact hf.1.1
  have hbl := fun G => Msg.blob_calls (t := 4) (l := m.S) (k := .no) (by omega) G
  simp only [fldC] at hbl
  refine acalls Tryz.func70 c70 r70 (by simp [Tryz.ntmps70]) ?_
  repeat' (first|(((with_reducible refine pk_app (l:=[]) (f:=⟨1,false,5,[]⟩) h0 hk hacc (by simp) (fun H2 hp2 w2=>?_));obtain ⟨v2,hk2,hacc2⟩:=hp2))|((with_reducible refine pk_app (f:=⟨4,true,0,m.S⟩) h0 hk2 hacc2 (by simp) (fun H3 hp3 w3=>?_)))|with_reducible refine go0 ?_|(with_reducible refine am_cnd ?_ ?_<;>intro hc<;>try (exfalso;omega))|((first|with_reducible (first|refine go1 ?_|refine vc_intro ?_|refine need_el ?_|refine vlen_a ?_|refine need_by ?_|refine call_of (kind_calls v) ?_|refine qcall_of (kind_calls v) ?_|refine call_of (text_calls v) ?_|refine qcall_of (text_calls v) ?_|refine call_of (hn1) ?_|refine qcall_of (hn1) ?_|refine call_of (hbl) ?_|refine qcall_of (hbl) ?_|refine need_lk ?_)|((with_reducible refine alloc_intro (fun ko hko=>?_))<;>(try have hne:=fresh_ne (by assumption) hko)<;>(try have hnk:=fresh_ne hk hko)<;>(try have hnk2:=fresh_ne hk2 hko)<;>(try simp only [AH.put_none] at hko))|((with_reducible refine vapp_go ?_ (fun v2 H2 hacc hlec=>?_));· simp only [byteCells_length,List.length_cons,List.length_nil,List.length_map,List.length_append,vE_length,fldsE_length,strE_length];omega)|done)<;>(try simp -implicitDefEqProofs (disch:=omega) only [go_sem,hv,hw,hS])))
  all_goals exact ⟨_,rfl,by rw [hL,fldM,hkF,restF,hmK]; exact hp3⟩
theorem pv6 {H0 H : AH} {kp g : Nat} {v : Vl} {m : Rv} (h0 : H0 kp = none) (hp : Pk H0 kp 0 [] H) (hg0 : H0 g = some .nodr) (hs : Sm v m) (ho : v.Ok) (hrg : Rg m) (hf : fitsQ m = true) (ih : ∀ x ∈ m.L,EncOk x) (hv : v.kind = 6) : PvAt H0 H kp v m := by
  obtain ⟨w,hk,hacc⟩ := hp
  have hw : IntKind.u64.wrap 6 = 6 := by decide
  have hn1 := num_lit 1 6 6 rfl
  have hg := hacc.le _ _ hg0
  have hsm := hs
  cases hs with
  | mk _ _ hK hB hS hl hkk hN hP hi =>
  have hmK : m.K = 6 := by rw [← hK,hv]
  have hkF : kF m = ⟨1,false,6,[]⟩ := by rw [kF,hmK]; rfl
  have hL64 : m.L.length ≤ 64 := by
    simp only [fitsQ,Bool.and_eq_true,decide_eq_true_eq] at hf; exact hf.2
  refine acalls Tryz.func70 c70 r70 (by simp [Tryz.ntmps70]) ?_
  repeat' (first|(((with_reducible refine pk_app (l:=[]) (f:=⟨1,false,6,[]⟩) h0 hk hacc (by simp) (fun H2 hp2 w2=>?_));obtain ⟨v2,hk2,hacc2⟩:=hp2))|(((with_reducible refine call_ex (pitems_calls (tag:=5) h0 (Pk.of hk2 hacc2) hg0 hl hL64 (by simp) hi (Ok.items ho) ih) (fun w H3 hp3=>?_))))|with_reducible refine go0 ?_|(with_reducible refine am_cnd ?_ ?_<;>intro hc<;>try (exfalso;omega))|((first|with_reducible (first|refine go1 ?_|refine vc_intro ?_|refine need_el ?_|refine vlen_a ?_|refine need_by ?_|refine call_of (kind_calls v) ?_|refine qcall_of (kind_calls v) ?_|refine call_of (hn1) ?_|refine qcall_of (hn1) ?_|refine call_turn (items_calls ho (look_le hg0 hacc2.le)) ?_|refine need_lk ?_)|((with_reducible refine alloc_intro (fun ko hko=>?_))<;>(try have hne:=fresh_ne (by assumption) hko)<;>(try have hnk:=fresh_ne hk hko)<;>(try have hnk2:=fresh_ne hk2 hko)<;>(try simp only [AH.put_none] at hko))|((with_reducible refine vapp_go ?_ (fun v2 H2 hacc hlec=>?_));· simp only [byteCells_length,List.length_cons,List.length_nil,List.length_map,List.length_append,vE_length,fldsE_length,strE_length];omega)|done)<;>(try simp -implicitDefEqProofs (disch:=omega) only [go_sem,hv,hw])))
  all_goals exact ⟨_,rfl,by rw [fldM,hkF,restF,hmK,List.map_map]; exact hp3⟩
theorem pv7 {H0 H : AH} {kp g : Nat} {v : Vl} {m : Rv} (h0 : H0 kp = none) (hp : Pk H0 kp 0 [] H) (hg0 : H0 g = some .nodr) (hs : Sm v m) (ho : v.Ok) (hrg : Rg m) (hf : fitsQ m = true) (ih : ∀ x ∈ m.L,EncOk x) (hv : v.kind = 7) : PvAt H0 H kp v m := by
  obtain ⟨w,hk,hacc⟩ := hp
  have hw : IntKind.u64.wrap 7 = 7 := by decide
  have hn1 := num_lit 1 7 7 rfl
  have hg := hacc.le _ _ hg0
  have hsm := hs
  cases hs with
  | mk _ _ hK hB hS hl hkk hN hP hi =>
  have hmK : m.K = 7 := by rw [← hK,hv]
  have hkF : kF m = ⟨1,false,7,[]⟩ := by rw [kF,hmK]; rfl
  have hL64 : m.L.length ≤ 64 := by
    simp only [fitsQ,Bool.and_eq_true,decide_eq_true_eq] at hf; exact hf.2
  have hsk : ∀ k ∈ m.Keys,k.length ≤ 256 := by
    simp only [fitsQ,Bool.and_eq_true,List.all_eq_true,shortB,decide_eq_true_eq] at hf; exact hf.1.2
  have hkl : m.Keys.length ≤ 64 := by rw [← hkk,← items_keys hv,hl]; exact hL64
  have hkc := fun (G : AH) (hG : G g = some .nodr) => keys_calls ho hG
  rw [hkk] at hkc
  refine acalls Tryz.func70 c70 r70 (by simp [Tryz.ntmps70]) ?_
  repeat' (first|(((with_reducible refine pk_app (l:=[]) (f:=⟨1,false,7,[]⟩) h0 hk hacc (by simp) (fun H2 hp2 w2=>?_));obtain ⟨v2,hk2,hacc2⟩:=hp2))|with_reducible refine go0 ?_|(with_reducible refine am_cnd ?_ ?_<;>intro hc<;>try (exfalso;omega))|((first|with_reducible (first|refine go1 ?_|refine vc_intro ?_|refine need_el ?_|refine vlen_a ?_|refine need_by ?_|refine call_of (kind_calls v) ?_|refine qcall_of (kind_calls v) ?_|refine call_of (hn1) ?_|refine qcall_of (hn1) ?_|refine call_turn (hkc _ (look_le hg0 hacc2.le)) ?_|refine need_lk ?_)|((with_reducible refine alloc_intro (fun ko hko=>?_))<;>(try have hne:=fresh_ne (by assumption) hko)<;>(try have hnk:=fresh_ne hk hko)<;>(try have hnk2:=fresh_ne hk2 hko)<;>(try simp only [AH.put_none] at hko))|((with_reducible refine vapp_go ?_ (fun v2 H2 hacc hlec=>?_));· simp only [byteCells_length,List.length_cons,List.length_nil,List.length_map,List.length_append,vE_length,fldsE_length,strE_length];omega)|done)<;>(try simp -implicitDefEqProofs (disch:=omega) only [go_sem,hv,hw,strE_len])))
  refine am_loop (fun n st H' => ∃ i : Nat,i + n = m.Keys.length ∧ st = [(0,.ptr kp 0),(3,.rptr [vV v] 0),(102,.sl 1 (strE m.Keys) .no),(103,.int .i64 m.Keys.length),(104,.int .i64 i)] ∧ Pk H0 kp 0 (⟨1,false,7,[]⟩ :: (m.Keys.take i).map (fun b => ⟨6,true,0,b⟩)) H') ?_ m.Keys.length ⟨0,by omega,rfl,⟨v2,hk2,hacc2⟩⟩
  rintro n st G ⟨i,hin,rfl,hpk⟩
  have hgG := hpk.le _ _ hg0
  by_cases hlt : i < m.Keys.length
  · have e0 : (m.Keys.take (i + 1)).map (fun b => (⟨6,true,0,b⟩ : Fld)) = (m.Keys.take i).map (fun b => ⟨6,true,0,b⟩) ++ [⟨6,true,0,m.Keys[i]⟩] := by rw [List.take_succ_eq_append_getElem hlt,List.map_append]; rfl
    have hx := hsk _ (List.getElem_mem hlt)
    have hget := strE_get hlt
    have hll : ((⟨1,false,7,[]⟩ : Fld) :: (m.Keys.take i).map (fun b => ⟨6,true,0,b⟩)).length < 1000000000000 := by simp only [List.length_cons,List.length_map,List.length_take]; omega
    generalize m.Keys[i] = x at *
    have hbl := fun G => Msg.blob_calls (t := 6) (l := x) (k := .no) (by omega) G
    simp only [fldC] at hbl
    obtain ⟨v3,hk3,hacc3⟩ := hpk
    repeat' (first|((with_reducible refine pk_app (f:=⟨6,true,0,x⟩) h0 hk3 hacc3 hll (fun H3 hp3 w3=>?_)))|with_reducible refine go0 ?_|(with_reducible refine am_cnd ?_ ?_<;>intro hc<;>try (exfalso;omega))|((first|with_reducible (first|refine go1 ?_|refine vc_intro ?_|refine need_el ?_|refine vlen_a ?_|refine need_by ?_|refine call_of (hbl) ?_|refine qcall_of (hbl) ?_|refine need_lk ?_)|((with_reducible refine alloc_intro (fun ko hko=>?_))<;>(try have hne:=fresh_ne (by assumption) hko)<;>(try have hnk:=fresh_ne hk hko)<;>(try have hnk2:=fresh_ne hk2 hko)<;>(try simp only [AH.put_none] at hko))|((with_reducible refine vapp_go ?_ (fun v2 H2 hacc hlec=>?_));· simp only [byteCells_length,List.length_cons,List.length_nil,List.length_map,List.length_append,vE_length,fldsE_length,strE_length];omega)|done)<;>(try simp -implicitDefEqProofs (disch:=omega) only [go_sem,wrap_id,hget,strE_len])))
    all_goals exact ⟨n - 1,by omega,i + 1,by omega,rfl,by rw [e0]; exact hp3⟩
  · rw [List.take_of_length_le (by omega)] at hpk
    repeat' (first|(((with_reducible refine call_ex (pitems_calls (tag:=7) h0 hpk hg0 hl hL64 (by simp only [List.length_cons,List.length_map];omega) hi (Ok.items ho) ih) (fun w H3 hp3=>?_))))|with_reducible refine go0 ?_|(with_reducible refine am_cnd ?_ ?_<;>intro hc<;>try (exfalso;omega))|((first|with_reducible (first|refine go1 ?_|refine vc_intro ?_|refine need_el ?_|refine vlen_a ?_|refine need_by ?_|refine call_turn (items_calls ho hgG) ?_|refine need_lk ?_)|((with_reducible refine alloc_intro (fun ko hko=>?_))<;>(try have hne:=fresh_ne (by assumption) hko)<;>(try have hnk:=fresh_ne hk hko)<;>(try have hnk2:=fresh_ne hk2 hko)<;>(try simp only [AH.put_none] at hko))|((with_reducible refine vapp_go ?_ (fun v2 H2 hacc hlec=>?_));· simp only [byteCells_length,List.length_cons,List.length_nil,List.length_map,List.length_append,vE_length,fldsE_length,strE_length];omega)|done)<;>(try simp -implicitDefEqProofs (disch:=omega) only [go_sem,wrap_id,strE_len])))
    have e9 : (m.L.map encM).map (bF 7) = ((m.L.map encM).map Prod.fst).map (fun b => ⟨7,true,0,b⟩) := by simp only [List.map_map]; rfl
    have e8 : ∀ bs,restF 7 m.B m.N m.M m.S m.Keys bs = m.Keys.map (fun b => ⟨6,true,0,b⟩) ++ bs.map (fun b => ⟨7,true,0,b⟩) := fun _ => rfl
    all_goals exact ⟨_,rfl,by rw [fldM,hkF,hmK,e8,← e9]; exact hp3⟩
theorem pvalue_calls {H0 H : AH} {kp g : Nat} {v : Vl} {m : Rv} (h0 : H0 kp = none) (hp : Pk H0 kp 0 [] H) (hg0 : H0 g = some .nodr) (hs : Sm v m) (ho : v.Ok) (hrg : Rg m) (hf : fitsQ m = true) (ih : ∀ x ∈ m.L,EncOk x) : PvAt H0 H kp v m := by
  cases h : v with
  | nul => rw [h] at hs ho; exact pv0 h0 hp hg0 hs ho hrg hf ih rfl
  | unk => rw [h] at hs ho; exact pv1 h0 hp hg0 hs ho hrg hf ih rfl
  | bool b => rw [h] at hs ho; exact pv2 h0 hp hg0 hs ho hrg hf ih rfl
  | int n => rw [h] at hs ho; exact pv3 h0 hp hg0 hs ho hrg hf ih rfl
  | pt a b => rw [h] at hs ho; exact pv4 h0 hp hg0 hs ho hrg hf ih rfl
  | text s => rw [h] at hs ho; exact pv5 h0 hp hg0 hs ho hrg hf ih rfl
  | list l => rw [h] at hs ho; exact pv6 h0 hp hg0 hs ho hrg hf ih rfl
  | map es => rw [h] at hs ho; exact pv7 h0 hp hg0 hs ho hrg hf ih rfl
end Go.Proofs.YtkldmgnhbomknaaGreat
namespace Go.Proofs.YtkldmgnhbomknaaGreat
open Go.Vm
attribute [local go_sem] eq_self decide_true decide_false AH.put_ne
attribute [local go_sem_proc] Nat.reduceBEq Nat.reduceAdd Nat.reduceSub Nat.reduceMul Nat.reduceEqDiff Nat.reduceLeDiff Nat.reduceLT Int.reduceLE Int.reduceLT Int.reduceToNat Int.reduceAdd Int.reduceEq Int.reduceNeg
attribute [local go_sem] vE_length byteCells_length fldC fldsE_get fldsE_length List.drop_zero toNat_succ Nat.sub_zero Int.toNat_natCast Option.map_some Int.natCast_nonneg decide_eq_true_eq decide_eq_false_iff_not
/- flange/pack.Encode -/
abbrev k52_0 : MC :=
 .cond (.t 9) ((.seq (.reg [
 vl 2 (.mv (.c .nilSl)),
 vl 3 (.mv (.c (.int .i64 3)))] [2,3]) (.ret))) (.skip)
abbrev k52_1 : MC :=
 .cond (.t 20) ((.seq (.drw [
 mv 21 4,
 vl 22 (.nilc (.t 21)),
 vl 23 (.faddr 0 (.t 22)),
 vl 24 (.faddr 0 (.t 23)),
 vl 25 (.load false 1 (.t 24)),
 vl 2 (.mv (.c .nilSl)),
 mv 3 25] [] [2,3]) (.ret))) (.skip)
abbrev k52_2 : MC :=
 .cond (.t 35) ((.seq (.reg [
 vl 2 (.mv (.c .nilSl)),
 vl 3 (.mv (.c (.int .i64 3)))] [2,3]) (.ret))) (.skip)
abbrev k52_3 : MC :=
 (.seq (.reg [
 mv 36 5,
 mv 2 36,
 vl 3 (.mv (.c (.int .i64 0)))] [2,3]) (.ret))
abbrev k52_4 : MC :=
 (.seq ((.seq (.reg [
 mv 34 6,
 vl 35 (.bin .neq .num (.t 34) (.c (.int .i64 0)))] [5,35]) k52_2)) k52_3)
abbrev k52_5 : MC :=
 (.seq (.reg [
 mv 27 4,
 vl 28 (.nilc (.t 27)),
 vl 29 (.faddr 1 (.t 28)),
 vl 30 (.load false 1 (.t 29)),
 ⟨some 31,none,.call 53 [(.t 30)]⟩,
 mv 26 31,
 vl 32 (.ext (.t 26) 0),
 vl 33 (.ext (.t 26) 1),
 mv 5 32,
 mv 6 33] [5,6]) k52_4)
abbrev k52_6 : MC :=
 (.seq ((.seq (.reg [
 mv 15 4,
 vl 16 (.nilc (.t 15)),
 vl 17 (.faddr 0 (.t 16)),
 vl 18 (.faddr 0 (.t 17)),
 vl 19 (.load false 1 (.t 18)),
 vl 20 (.bin .neq .num (.t 19) (.c (.int .i64 0)))] [4,20]) k52_1)) k52_5)
abbrev k52_7 : MC :=
 (.seq (.reg [
 mv 12 4,
 vl 13 (.load true 1 (.t 1)),
 ⟨some 14,none,.call 70 [(.t 12),(.t 13)]⟩] [4]) k52_6)
abbrev k52_8 : MC :=
 (.seq (.reg [
 ⟨some 10,none,.build [(.int .i64 0),.nilSl] []⟩,
 ⟨some 11,none,.box (.t 10)⟩,
 mv 4 11] [1,4]) k52_7)
abbrev k52_9 : MC :=
 (.seq ((.seq (.reg [
 vl 7 (.load true 1 (.t 1)),
 ⟨some 8,none,.call 69 [(.t 7)]⟩,
 vl 9 (.not (.t 8))] [1,9]) k52_0)) k52_8)
abbrev k52 : MC :=
 (.seq (.reg [
 ⟨some 1,none,.boxi (.t 0)⟩,
 vl 2 (.mv (.c .nilSl)),
 vl 3 (.mv (.c (.int .i64 0)))] [1]) k52_9)
theorem c52 : Tryz.f52.body.bind (mcOf Tryz.prog (List.contains [1] ·) (List.getD [([],[1]),([],[1,9]),([],[2,3]),([],[1,4]),([],[4]),([],[4,20]),([0,0,0,0,0,0,0],[2,3]),([],[5,6]),([],[5,35]),([],[2,3]),([],[2,3])] · ([],[])) 37) = some k52 := by kernel_rfl
theorem r52 : rvsOf Tryz.prog Tryz.f52.results.toList = some [.tmp 2,.tmp 3] := by kernel_rfl
theorem errF_bad (L : List Rv) : errF 0 (L.map encM) = if badL (L.map encM) = true then 3 else 0 := by
  have key : ∀ (l : List (List UInt8 × Int)) (e : Int),(e = 0 ∨ e = 3) → (∀ p ∈ l,p.2 = 0 ∨ p.2 = 3) → errF e l = if e = 3 ∨ badL l = true then 3 else 0 := by
    intro l
    induction l with
    | nil => intro e he _; rcases he with rfl | rfl <;> simp [errF,badL]
    | cons p l ih =>
      intro e he hp
      have hp1 := hp p List.mem_cons_self
      have ih' := fun e he => ih e he fun q hq => hp q (List.mem_cons_of_mem _ hq)
      unfold errF at ih' ⊢
      rw [List.foldl_cons,ih' _ (by split; exact hp1; exact he)]
      obtain ⟨b,c⟩ := p
      simp only at hp1
      have hbl : ∀ c,badL ((b,c) :: l) = (decide (c ≠ 0) || badL l) := fun _ => rfl
      rcases he with rfl | rfl <;> rcases hp1 with rfl | rfl <;> rw [hbl] <;> dsimp only <;> cases badL l <;> first | rfl | (split <;> split <;> simp_all)
  rw [key _ 0 (.inl rfl) (fun p hp => by
    obtain ⟨m,_,rfl⟩ := List.mem_map.1 hp
    rcases encM_code m with h | h
    · exact .inl h
    · exact .inr (by rw [h]))]
  simp
theorem fldM_ok {v : Vl} {m : Rv} (hs : Sm v m) (ho : v.Ok) (hrg : Rg m) (hf : fitsQ m = true) : (∀ f ∈ fldM m ((m.L.map encM).map Prod.fst),f.n < 18446744073709551616 ∧ f.b.length ≤ 4096) ∧ (fldM m ((m.L.map encM).map Prod.fst)).length ≤ 200 := by
  simp only [fitsQ,Bool.and_eq_true,List.all_eq_true,shortB,decide_eq_true_eq] at hf
  obtain ⟨⟨f1,f2⟩,f3⟩ := hf
  have hbs : ∀ b ∈ (m.L.map encM).map Prod.fst,b.length ≤ 4096 := fun b hb => by
    obtain ⟨p,hp,rfl⟩ := List.mem_map.1 hb
    obtain ⟨x,_,rfl⟩ := List.mem_map.1 hp
    exact encM_len x
  have hbl : ((m.L.map encM).map Prod.fst).length ≤ 64 := by simpa using f3
  have hkl : m.K = 7 → m.Keys.length ≤ 64 := fun h => by
    cases hs with
    | mk _ _ hK hB hS hl hkk hN hP hi => rw [← hkk,← items_keys (hK.trans h),hl]; exact f3
  generalize (m.L.map encM).map Prod.fst = bs at *
  have hK7 : m.K.toNat ≤ 7 := by
    cases hs with
    | mk _ _ hK hB hS hl hkk hN hP hi => rw [← hK]; cases v <;> simp [Vl.kind]
  have hP4 : m.K = 4 → (-9223372036854775808 ≤ m.N ∧ m.N < 9223372036854775808) ∧ (-9223372036854775808 ≤ m.M ∧ m.M < 9223372036854775808) := fun h => by
    cases hs with
    | mk _ _ hK hB hS hl hkk hN hP hi =>
      obtain ⟨a,b⟩ := hP h
      rw [← a,← b]
      cases ho with
      | pt n k x y z u => exact ⟨⟨by simp only [Vl.isP]; omega,by simp only [Vl.isP]; omega⟩,by simp only [Vl.isP]; omega,by simp only [Vl.isP]; omega⟩
      | _ => exact absurd (hK.trans h) (by simp [Vl.kind])
  have hrest : (∀ f ∈ restF m.K m.B m.N m.M m.S m.Keys bs,f.n < 18446744073709551616 ∧ f.b.length ≤ 4096) ∧ (restF m.K m.B m.N m.M m.S m.Keys bs).length ≤ 128 := by
    unfold restF
    split
    · cases m.B <;> simp
    · split
      · rename_i h3; have := zig_lt (hrg.n h3); simpa using this
      · split
        · rename_i h4; have a := zig_lt (hP4 h4).1; have b := zig_lt (hP4 h4).2; simp [a,b]
        · split
          · simp; omega
          · split
            · refine ⟨fun f hf => ?_,by rw [List.length_map]; omega⟩
              obtain ⟨b,hb,rfl⟩ := List.mem_map.1 hf
              exact ⟨by simp,hbs b hb⟩
            · split
              · rename_i h7
                refine ⟨fun f hf => ?_,by have := hkl h7; rw [List.length_append,List.length_map,List.length_map]; omega⟩
                rcases List.mem_append.1 hf with hf | hf
                · obtain ⟨b,hb,rfl⟩ := List.mem_map.1 hf
                  have := f2 b hb
                  exact ⟨by simp,by simp only; omega⟩
                · obtain ⟨b,hb,rfl⟩ := List.mem_map.1 hf
                  exact ⟨by simp,hbs b hb⟩
              · simp
  refine ⟨fun f hf => ?_,by rw [fldM,List.length_cons]; omega⟩
  rcases List.mem_cons.1 hf with rfl | hf
  · exact ⟨by simp only [kF]; omega,by simp [kF]⟩
  · exact hrest.1 f hf
theorem enc_ok : ∀ m : Rv,Rg m → EncOk m := by
  refine Rv.ind fun m ih hrg v hs ho g H hg => ?_
  have hih : ∀ x ∈ m.L,EncOk x := fun x hx => ih x hx (hrg.l x hx)
  refine ACalls.drop ?_
  have hrc := right_calls hs ho hg
  refine acalls Tryz.func52 c52 r52 (by simp [Tryz.ntmps52]) ?_
  cases hr : rightM m
  · rw [encM_eq,if_pos (.inl hr)]
    repeat' (first|with_reducible refine go0 ?_|(with_reducible refine am_cnd ?_ ?_<;>intro hc<;>try (exfalso;omega))|((first|with_reducible (first|refine go1 ?_|refine vc_intro ?_|refine need_el ?_|refine vlen_a ?_|refine need_by ?_|refine call_turn (hrc) ?_|refine need_lk ?_)|((with_reducible refine alloc_intro (fun ko hko=>?_))<;>(try have hne:=fresh_ne (by assumption) hko)<;>(try have hnk2:=fresh_ne hk2 hko)<;>(try simp only [AH.put_none] at hko))|done)<;>(try simp -implicitDefEqProofs (disch:=omega) only [go_sem,hr])))
    all_goals exact drop_end (by (first | exact fun _ _ h => h | (intro s x h; first | exact no_sub _ h | exact nil_no _ h | exact AccP.sub (by assumption) _ _ h | (refine agg_sub rfl ?_ x h; repeat (first | exact .nil | refine .cons (fun _ h => h) ?_ | refine .cons (fun _ h => nil_no _ h) ?_ | refine .cons (fun _ h => no_sub _ h) ?_ | refine .cons (fun _ h => AccP.sub (by assumption) _ _ h) ?_)) | (refine tuple_sub ?_ x h; repeat (first | exact .nil | refine .cons (fun _ h => h) ?_ | refine .cons (fun _ h => nil_no _ h) ?_ | refine .cons (fun _ h => no_sub _ h) ?_ | refine .cons (fun _ h => AccP.sub (by assumption) _ _ h) ?_ | refine .cons (fun _ h => agg_sub rfl (by repeat (first | exact .nil | refine .cons (fun _ h => h) ?_ | refine .cons (fun _ h => nil_no _ h) ?_ | refine .cons (fun _ h => no_sub _ h) ?_ | refine .cons (fun _ h => AccP.sub (by assumption) _ _ h) ?_)) _ h) ?_))))) (AH.le_refl _)
  · have hf : fitsQ m = true := by
      simp only [rightM,Bool.and_eq_true] at hr
      have := hr.2
      rw [allM_eq,Bool.and_eq_true] at this; exact this.1
    obtain ⟨hfo,hfl⟩ := fldM_ok hs ho hrg hf
    have heb := errF_bad m.L
    have hem := encM_eq m
    rw [hr] at hem
    simp only [Bool.true_eq_false,false_or] at hem
    have pvc := fun (kp : Nat) (G : AH) (h0 : H kp = none) (hp : Pk H kp 0 [] G) => pvalue_calls h0 hp hg hs ho hrg hf hih
    unfold PvAt at pvc
    cases hb : badL (m.L.map encM)
    · rw [hb] at heb hem
      simp only [Bool.false_eq_true,if_false,false_or] at heb hem
      rw [heb] at pvc
      have hac : ∀ (v2 : V) (H2 : AH),AccP H 4 (fldsE (fldM m ((m.L.map encM).map Prod.fst))) v2 H2 → ∀ G,ACalls Tryz.prog 53 [v2] G (fun o H' => o = .ret (.tuple [.sl 1 (byteCells (Vm.encS (fldM m ((m.L.map encM).map Prod.fst))).1) .no,.int .i64 (Vm.encS (fldM m ((m.L.map encM).map Prod.fst))).2]) ∧ H' = G) :=
        fun v2 H2 ha G => ACalls.sub (fun s => .cons (AccP.sub ha s) .nil) (Msg.encode_calls (l := fldM m ((m.L.map encM).map Prod.fst)) (t := .no) (by omega) (fun f hf => ⟨(hfo f hf).1,by have := (hfo f hf).2; omega⟩) G)
      by_cases hz : (Vm.encS (fldM m ((m.L.map encM).map Prod.fst))).2 = 0
      · rw [if_neg (by rw [hz]; simp)] at hem
        rw [hem]
        repeat' (first|(((with_reducible refine call_ex (pvc _ _ hko (Pk.of (AH.put_same _ _ _) ((AccP.nil _ _).new hko _))) (fun w H2 hp2=>?_));obtain ⟨v2,hk2,hacc2⟩:=hp2))|with_reducible refine go0 ?_|(with_reducible refine am_cnd ?_ ?_<;>intro hc<;>try (exfalso;omega))|((first|with_reducible (first|refine go1 ?_|refine vc_intro ?_|refine need_el ?_|refine vlen_a ?_|refine need_by ?_|refine call_turn (hrc) ?_|refine call_of (hac _ _ hacc2) ?_|refine qcall_of (hac _ _ hacc2) ?_|refine need_lk ?_)|((with_reducible refine alloc_intro (fun ko hko=>?_))<;>(try have hne:=fresh_ne (by assumption) hko)<;>(try have hnk2:=fresh_ne hk2 hko)<;>(try simp only [AH.put_none] at hko))|done)<;>(try simp -implicitDefEqProofs (disch:=omega) only [go_sem,hr,hz])))
        all_goals exact drop_end (by (first | exact fun _ _ h => h | (intro s x h; first | exact no_sub _ h | exact nil_no _ h | exact AccP.sub (by assumption) _ _ h | (refine agg_sub rfl ?_ x h; repeat (first | exact .nil | refine .cons (fun _ h => h) ?_ | refine .cons (fun _ h => nil_no _ h) ?_ | refine .cons (fun _ h => no_sub _ h) ?_ | refine .cons (fun _ h => AccP.sub (by assumption) _ _ h) ?_)) | (refine tuple_sub ?_ x h; repeat (first | exact .nil | refine .cons (fun _ h => h) ?_ | refine .cons (fun _ h => nil_no _ h) ?_ | refine .cons (fun _ h => no_sub _ h) ?_ | refine .cons (fun _ h => AccP.sub (by assumption) _ _ h) ?_ | refine .cons (fun _ h => agg_sub rfl (by repeat (first | exact .nil | refine .cons (fun _ h => h) ?_ | refine .cons (fun _ h => nil_no _ h) ?_ | refine .cons (fun _ h => no_sub _ h) ?_ | refine .cons (fun _ h => AccP.sub (by assumption) _ _ h) ?_)) _ h) ?_))))) hacc2.le
      · rw [if_pos hz] at hem
        rw [hem]
        repeat' (first|(((with_reducible refine call_ex (pvc _ _ hko (Pk.of (AH.put_same _ _ _) ((AccP.nil _ _).new hko _))) (fun w H2 hp2=>?_));obtain ⟨v2,hk2,hacc2⟩:=hp2))|with_reducible refine go0 ?_|(with_reducible refine am_cnd ?_ ?_<;>intro hc<;>try (exfalso;omega))|((first|with_reducible (first|refine go1 ?_|refine vc_intro ?_|refine need_el ?_|refine vlen_a ?_|refine need_by ?_|refine call_turn (hrc) ?_|refine call_of (hac _ _ hacc2) ?_|refine qcall_of (hac _ _ hacc2) ?_|refine need_lk ?_)|((with_reducible refine alloc_intro (fun ko hko=>?_))<;>(try have hne:=fresh_ne (by assumption) hko)<;>(try have hnk2:=fresh_ne hk2 hko)<;>(try simp only [AH.put_none] at hko))|done)<;>(try simp -implicitDefEqProofs (disch:=omega) only [go_sem,hr,hz])))
        all_goals exact drop_end (by (first | exact fun _ _ h => h | (intro s x h; first | exact no_sub _ h | exact nil_no _ h | exact AccP.sub (by assumption) _ _ h | (refine agg_sub rfl ?_ x h; repeat (first | exact .nil | refine .cons (fun _ h => h) ?_ | refine .cons (fun _ h => nil_no _ h) ?_ | refine .cons (fun _ h => no_sub _ h) ?_ | refine .cons (fun _ h => AccP.sub (by assumption) _ _ h) ?_)) | (refine tuple_sub ?_ x h; repeat (first | exact .nil | refine .cons (fun _ h => h) ?_ | refine .cons (fun _ h => nil_no _ h) ?_ | refine .cons (fun _ h => no_sub _ h) ?_ | refine .cons (fun _ h => AccP.sub (by assumption) _ _ h) ?_ | refine .cons (fun _ h => agg_sub rfl (by repeat (first | exact .nil | refine .cons (fun _ h => h) ?_ | refine .cons (fun _ h => nil_no _ h) ?_ | refine .cons (fun _ h => no_sub _ h) ?_ | refine .cons (fun _ h => AccP.sub (by assumption) _ _ h) ?_)) _ h) ?_))))) hacc2.le
    · rw [hb] at heb hem
      simp only [if_true,true_or] at heb hem
      rw [heb] at pvc
      rw [hem]
      repeat' (first|(((with_reducible refine call_ex (pvc _ _ hko (Pk.of (AH.put_same _ _ _) ((AccP.nil _ _).new hko _))) (fun w H2 hp2=>?_));obtain ⟨v2,hk2,hacc2⟩:=hp2))|with_reducible refine go0 ?_|(with_reducible refine am_cnd ?_ ?_<;>intro hc<;>try (exfalso;omega))|((first|with_reducible (first|refine go1 ?_|refine vc_intro ?_|refine need_el ?_|refine vlen_a ?_|refine need_by ?_|refine call_turn (hrc) ?_|refine need_lk ?_)|((with_reducible refine alloc_intro (fun ko hko=>?_))<;>(try have hne:=fresh_ne (by assumption) hko)<;>(try have hnk2:=fresh_ne hk2 hko)<;>(try simp only [AH.put_none] at hko))|done)<;>(try simp -implicitDefEqProofs (disch:=omega) only [go_sem,hr])))
      all_goals exact drop_end (by (first | exact fun _ _ h => h | (intro s x h; first | exact no_sub _ h | exact nil_no _ h | exact AccP.sub (by assumption) _ _ h | (refine agg_sub rfl ?_ x h; repeat (first | exact .nil | refine .cons (fun _ h => h) ?_ | refine .cons (fun _ h => nil_no _ h) ?_ | refine .cons (fun _ h => no_sub _ h) ?_ | refine .cons (fun _ h => AccP.sub (by assumption) _ _ h) ?_)) | (refine tuple_sub ?_ x h; repeat (first | exact .nil | refine .cons (fun _ h => h) ?_ | refine .cons (fun _ h => nil_no _ h) ?_ | refine .cons (fun _ h => no_sub _ h) ?_ | refine .cons (fun _ h => AccP.sub (by assumption) _ _ h) ?_ | refine .cons (fun _ h => agg_sub rfl (by repeat (first | exact .nil | refine .cons (fun _ h => h) ?_ | refine .cons (fun _ h => nil_no _ h) ?_ | refine .cons (fun _ h => no_sub _ h) ?_ | refine .cons (fun _ h => AccP.sub (by assumption) _ _ h) ?_)) _ h) ?_))))) hacc2.le
end Go.Proofs.YtkldmgnhbomknaaGreat
